/- Lemmas towards this claim's statement: what the functions named here come to, each under the conditions that it states itself. -/
import Derived.Test.YtofaiocffifhfaaGreatCu1
section
namespace Go.Proofs.YtofaiocffifhfaaGreatB
open Go.RowKit
def lstU (x l : Int) : Bool := decide (7 ≤ l) || decide (x < 2 ^ l.toNat)
def svOf (x : Int) : Int := if 64 ≤ x then x - 128 else x
def lstS (x l : Int) : Bool := decide (7 ≤ l) || (decide (-(2 ^ (l - 1).toNat) ≤ svOf x) && decide (svOf x < 2 ^ (l - 1).toNat))
def sgnV (m h : Nat) : Nat := if h < 64 ∧ 2 ^ (h - 1) ≤ m then m + 18446744073709551616 - 2 ^ h else m % 18446744073709551616
theorem lebG_err (lst : Int → Int → Bool) : ∀ (R : List Int) (l : Nat) (e : Int), lebG lst R l = .error e → ¬ e = 0
 | [], l, e, h => by simp [lebG] at h; omega
 | x :: r, l, e, h => by
  rw [lebG] at h
  split at h
  ·split at h
   ·cases h
   ·cases h; omega
  ·split at h
   ·cases h; omega
   ·cases hr : lebG lst r (l - 7) with
    | error e' => rw [hr] at h; cases h; exact lebG_err lst r (l - 7) e hr
    | ok y => obtain ⟨m', h', c'⟩ := y; rw [hr] at h; cases h
theorem lebG_bound {lst : Int → Int → Bool} : ∀ (R : List Int) (l : Nat) (m h c : Nat), 1 ≤ l → (∀ x ∈ R, 0 ≤ x ∧ x ≤ 255) → lebG lst R l = .ok (m, h, c) → m < 2 ^ h ∧ 7 ≤ h ∧ h < l + 7
 | [], l, m, h, c, _, _, e => by simp [lebG] at e
 | x :: r, l, m, h, c, hl, hR, e => by
  have hx := hR x (by simp)
  rw [lebG] at e
  split at e
  ·split at e
   ·simp at e
    obtain ⟨rfl, rfl, rfl⟩ := e
    exact ⟨by rw [show (2 : Nat) ^ 7 = 128 from rfl]; omega, by omega, by omega⟩
   ·cases e
  ·split at e
   ·cases e
   ·cases hr : lebG lst r (l - 7) with
    | error e' => rw [hr] at e; cases e
    | ok y =>
     obtain ⟨m', h', c'⟩ := y
     rw [hr] at e
     simp at e
     have ih := lebG_bound r (l - 7) m' h' c' (by omega) (fun y hy => hR y (by simp [hy])) hr
     obtain ⟨rfl, rfl, rfl⟩ := e
     refine ⟨?_, by omega, by omega⟩
     rw [Nat.pow_add, show (2 : Nat) ^ 7 = 128 from rfl]
     omega
end Go.Proofs.YtofaiocffifhfaaGreatB
namespace Go.Proofs.YtofaiocffifhfaaGreat
open Go.RowKit Go.Shelf YtofaiocffifhfaaGreatB Go.Proofs.YtofaiocffifhfaaGreatW.PrintWords
set_option maxRecDepth 100000 in
theorem lU1_any (x l : Int) (W : World) (hx0 : 0 ≤ x) (hx : x < 128) (hl1 : 1 ≤ l) (hl2 : l ≤ 64) : Calls Tryz.prog 98 #[.int .u8 x, .int .i64 l] W fun E w' => E = .returned (.bool (lstU x l)) ∧ W = w' := by
 by_cases h7 : 7 ≤ l
 ·have HV := Lib.hid (show lstU x l = true from by simp [lstU, h7])
  go_enter Tryz.func98, Tryz.ntmps98
  go_wp2_with fail
  go_ret
  exact ⟨by rw [HV.out]; rfl, rfl⟩
 ·have hl6 : l = 1 ∨ l = 2 ∨ l = 3 ∨ l = 4 ∨ l = 5 ∨ l = 6 := by omega
  rcases hl6 with rfl | rfl | rfl | rfl | rfl | rfl
  all_goals
   clear hl1 hl2 h7
   go_enter Tryz.func98, Tryz.ntmps98
   go_wp2_with fail
   go_ret
   exact ⟨by simp [lstU], rfl⟩
set_option maxRecDepth 100000 in
theorem lS1_any (x l : Int) (W : World) (hx0 : 0 ≤ x) (hx : x < 128) (hl1 : 1 ≤ l) (hl2 : l ≤ 64) : Calls Tryz.prog 169 #[.int .u8 x, .int .i64 l] W fun E w' => E = .returned (.bool (lstS x l)) ∧ W = w' := by
 obtain ⟨v, hv, hvx⟩ : ∃ v, svOf x = v ∧ (64 ≤ x ∧ v = x - 128 ∨ ¬ 64 ≤ x ∧ x = v) := ⟨_, rfl, by unfold svOf; split <;> simp_all⟩
 have HV2 := Lib.hid hv
 clear hv
 rcases hvx with ⟨h64, rfl⟩ | ⟨h64, rfl⟩
 all_goals
  by_cases h7 : 7 ≤ l
  ·have HV := Lib.hid (show lstS x l = true from by simp [lstS, h7])
   go_enter Tryz.func169, Tryz.ntmps169
   go_wp2_with fail
   go_ret
   exact ⟨by rw [HV.out]; rfl, rfl⟩
  ·have hl6 : l = 1 ∨ l = 2 ∨ l = 3 ∨ l = 4 ∨ l = 5 ∨ l = 6 := by omega
   rcases hl6 with rfl | rfl | rfl | rfl | rfl | rfl
   all_goals
    clear hl1 hl2 h7
    go_enter Tryz.func169, Tryz.ntmps169
    go_wp2_with fail
    all_goals
     go_ret
     refine ⟨?_, rfl⟩
     show Ending.returned _ = Ending.returned _
     rw [lstS, HV2.out]
     first | (simp; done) | (simp; omega) | (simp; rw [Bool.eq_iff_iff]; simp; omega) | (simp; rw [Bool.eq_iff_iff]; simp; intros; omega)
def NumPost (W : World) (r : Except Int (Nat × Nat)) (E : Ending) (w' : World) : Prop :=
 Below W.heap.size W w' ∧ (match r with
 | .error e => E = .returned (.tuple #[.int .u64 0, .int .i64 0, .int .i64 e])
 | .ok (n, nx) => E = .returned (.tuple #[.int .u64 (n : Int), .int .i64 (nx : Int), .int .i64 0]))
def uintM (B : List Int) (a bits : Nat) : Except Int (Nat × Nat) := match lebG lstU (B.drop a) bits with | .error e => .error e | .ok (m, _, c) => .ok (m % 18446744073709551616, a + c)
def sintM (B : List Int) (a bits : Nat) : Except Int (Nat × Nat) := match lebG lstS (B.drop a) bits with | .error e => .error e | .ok (m, h, c) => .ok (sgnV m h, a + c)
set_option maxRecDepth 100000 in
set_option maxHeartbeats 1000000 in
theorem Uint_any (W : World) (q : Nat) (A : Option Addr) (c : Nat) (B : List Int) (a bits : Nat) (hB : Byts B) (hQ : ByQ W q A B) (hc : B.length ≤ c) (ha : a ≤ B.length) (hb : 1 ≤ bits ∧ bits ≤ 64) :
  Calls Tryz.prog 62 #[.slice A B.length c, .int .i64 a, .int .i64 bits] W (NumPost W (uintM B a bits)) := by
 have HS := Lib.hid (scan_leb lstU _ ent_lU1 lU1_any W q A c B a bits hB hQ hc ha hb)
 rw [uintM]
 generalize lebG lstU (B.drop a) bits = r at *
 clear hQ hB
 go_enter Tryz.func62, Tryz.ntmps62
 go_wp2_with fail
 refine HS.out.mono ?_
 clear HS
 rintro E W1 ⟨hB1, hm⟩
 have HB1 := Lib.hid hB1
 rcases r with e | ⟨m, h, k⟩
 ·obtain rfl := hm
  clear hB1
  go_wp2_with fail
  go_wp2
  refine bodyPost_ret (results_tmp3 rfl _ _ _) rfl ?_
  exact ⟨(HB1.out.alloc HB1.out.size _).trans ⟨rfl, rfl, rfl, Nat.le_refl _, fun _ _ => rfl⟩, rfl⟩
 ·obtain ⟨l', rfl⟩ := hm
  obtain ⟨M, hM⟩ : ∃ M : Int, ((m % 18446744073709551616 : Nat) : Int) = M := ⟨_, rfl⟩
  obtain ⟨N, hN⟩ : ∃ N : Int, ((a + k : Nat) : Int) = N := ⟨_, rfl⟩
  rw [hM, hN]
  have HM := Lib.hid hM
  have HN := Lib.hid hN
  clear hB1 hM hN
  go_wp2_with fail
  go_wp2
  refine bodyPost_ret (results_tmp3 rfl _ _ _) rfl ?_
  refine ⟨(HB1.out.alloc HB1.out.size _).trans ⟨rfl, rfl, rfl, Nat.le_refl _, fun _ _ => rfl⟩, ?_⟩
  show _ = _
  rw [HM.out, HN.out]
  rfl
theorem sgn_bit (m h : Nat) (hm : m < 2 ^ h) (h1 : 1 ≤ h) (h2 : h < 64) : (bits .and .u64 ((m : Int) / 2 ^ (h - 1)) 1 == 1) = decide (2 ^ (h - 1) ≤ m) := by
 have hp : 2 ^ h = 2 * 2 ^ (h - 1) := by obtain ⟨t, rfl⟩ : ∃ t, h = t + 1 := ⟨h - 1, by omega⟩; rw [Nat.pow_succ, Nat.add_sub_cancel, Nat.mul_comm]
 have hpp : 0 < 2 ^ (h - 1) := Nat.two_pow_pos _
 have e : ((m : Int) / 2 ^ (h - 1)) = ((m / 2 ^ (h - 1) : Nat) : Int) := by rw [Int.natCast_ediv, Int.natCast_pow]; rfl
 generalize 2 ^ (h - 1) = t at *
 have hq : m / t < 2 := by rw [Nat.div_lt_iff_lt_mul hpp]; omega
 have h3 := u64_and_nat (m / t) 1 (by omega) (by omega)
 rw [show ((1 : Nat) : Int) = 1 from rfl] at h3
 rw [e, h3, nat_mask1, Nat.mod_eq_of_lt hq]
 rw [Bool.eq_iff_iff]
 simp only [beq_iff_eq, decide_eq_true_eq]
 constructor
 ·intro h4
  have h5 : m / t = 1 := by omega
  have := Nat.div_add_mod m t
  rw [h5] at this
  omega
 ·intro h4
  have : 0 < m / t := Nat.div_pos h4 hpp
  omega
theorem sgn_or (m h : Nat) (hm : m < 2 ^ h) (h2 : h < 64) : bits .or .u64 (m : Int) (IntKind.u64.wrap (18446744073709551615 * 2 ^ h)) = ((m + 18446744073709551616 - 2 ^ h : Nat) : Int) := by
 have hp : (18446744073709551616 : Nat) = 2 ^ (64 - h) * 2 ^ h := by rw [← Nat.pow_add, show 64 - h + h = 64 from by omega]
 have h63 : 2 ^ h ≤ 2 ^ 63 := Nat.pow_le_pow_right (by omega) (by omega)
 have e : IntKind.u64.wrap (18446744073709551615 * 2 ^ h) = ((18446744073709551616 - 2 ^ h : Nat) : Int) := by
  rw [IntKind.wrap_u64]
  have : (18446744073709551615 : Int) * 2 ^ h = (((18446744073709551615 * 2 ^ h : Nat)) : Int) := by rw [Int.natCast_mul, Int.natCast_pow]; rfl
  rw [this]
  have h4 : (18446744073709551615 * 2 ^ h) % 18446744073709551616 = 18446744073709551616 - 2 ^ h := by
   have hp1 : 1 ≤ 2 ^ h := Nat.two_pow_pos _
   generalize 2 ^ h = t at *
   omega
  rw [← h4]
  omega
 have hd : (18446744073709551616 - 2 ^ h) % 2 ^ h = 0 := by
  rw [hp, show 2 ^ (64 - h) * 2 ^ h - 2 ^ h = (2 ^ (64 - h) - 1) * 2 ^ h from by rw [Nat.sub_mul, Nat.one_mul], Nat.mul_mod_left]
 have hp1 : 1 ≤ 2 ^ h := Nat.two_pow_pos _
 rw [e, u64_or_nat _ _ (by omega) (by omega), Nat.or_comm, nat_join h _ m hd hm]
 congr 1
 omega
set_option maxRecDepth 100000 in
set_option maxHeartbeats 1000000 in
theorem Sint_any (W : World) (q : Nat) (A : Option Addr) (c : Nat) (B : List Int) (a bits : Nat) (hB : Byts B) (hQ : ByQ W q A B) (hc : B.length ≤ c) (ha : a ≤ B.length) (hb : 1 ≤ bits ∧ bits ≤ 64) :
  Calls Tryz.prog 161 #[.slice A B.length c, .int .i64 a, .int .i64 bits] W (NumPost W (sintM B a bits)) := by
 have HS := Lib.hid (scan_leb lstS _ ent_lS1 lS1_any W q A c B a bits hB hQ hc ha hb)
 have HM := Lib.hid (fun m h k e => lebG_bound (lst := lstS) (B.drop a) bits m h k hb.1 (fun x hx => hB.2 x (List.mem_of_mem_drop hx)) e)
 rw [sintM]
 have HM2 := Lib.hid (show lebG lstS (B.drop a) bits = lebG lstS (B.drop a) bits from rfl)
 have HE := Lib.hid (fun e h => lebG_err lstS (B.drop a) bits e h)
 generalize lebG lstS (B.drop a) bits = r at *
 clear hQ hB HM2
 have hb2 := hb.2
 go_enter Tryz.func161, Tryz.ntmps161
 go_wp2_with fail
 refine HS.out.mono ?_
 clear HS
 rintro E W1 ⟨hB1, hm⟩
 have HB1 := Lib.hid hB1
 rcases r with e | ⟨m, h, k⟩
 ·obtain rfl := hm
  clear hB1
  have he : (e != 0) = true := by have := HE.out e rfl; simp; exact this
  go_wp2_with fail
  refine bodyPost_ret (results_tmp3 rfl _ _ _) rfl ?_
  exact ⟨HB1.out.alloc HB1.out.size _, rfl⟩
 ·obtain ⟨l', rfl⟩ := hm
  obtain ⟨N, hN⟩ : ∃ N : Int, ((a + k : Nat) : Int) = N := ⟨_, rfl⟩
  rw [hN]
  obtain ⟨hm1, hm2, hm3⟩ := HM.out m h k rfl
  have HN := Lib.hid hN
  have HM1 := Lib.hid hm1
  clear hB1 hN hm1 HM
  by_cases h64 : h < 64
  ·have hms : m % 18446744073709551616 = m := leb_small m h HM1.out (by omega)
   rw [hms]
   have HMS := Lib.hid hms
   clear hms
   have hbit := sgn_bit m h HM1.out (by omega) h64
   by_cases hs : 2 ^ (h - 1) ≤ m
   ·rw [decide_eq_true hs] at hbit
    have HV := Lib.hid (show sgnV m h = m + 18446744073709551616 - 2 ^ h from if_pos ⟨h64, hs⟩)
    have HO := Lib.hid (sgn_or m h HM1.out h64)
    clear hs
    go_wp2_with fail
    have hN := Blk.new W1 #[.int .u64 m, .int .i64 h, .int .i64 l'] 192
    have hBf := HB1.out.alloc HB1.out.size (.cells #[.int .u64 m, .int .i64 h, .int .i64 l'] 192)
    have hs1 := HB1.out.size
    generalize W1.alloc (.cells #[.int .u64 m, .int .i64 h, .int .i64 l'] 192) = W2 at *
    have c0 : W2.cell? ⟨W1.heap.size, 0, none⟩ = some (.int .u64 (m : Int)) := by rw [hN.cell]; rfl
    have c1 : W2.cell? ⟨W1.heap.size, 1, none⟩ = some (.int .i64 (h : Int)) := by rw [hN.cell]; rfl
    have f0 := hN.frozen 0
    have HBf := Lib.hid hBf
    clear hN hBf
    go_still_tail 7, (by kernel_rfl)
    change wpList _ _ _ _ _ W2.drew
    go_wp2
    refine bodyPost_ret (results_tmp3 rfl _ _ _) rfl ?_
    refine ⟨(HBf.out.setCell (p := ⟨W1.heap.size, 0, none⟩) hs1 _).trans ⟨rfl, rfl, rfl, Nat.le_refl _, fun _ _ => rfl⟩, ?_⟩
    show _ = _
    rw [HV.out, HN.out, ← HO.out]
    rfl
   ·rw [decide_eq_false hs] at hbit
    have HV := Lib.hid (show sgnV m h = m from by rw [sgnV, if_neg (fun h => hs h.2), HMS.out])
    clear hs
    go_wp2_with fail
    refine bodyPost_ret (results_tmp3 rfl _ _ _) rfl ?_
    refine ⟨HB1.out.alloc HB1.out.size _, ?_⟩
    show _ = _
    rw [HV.out, HN.out]
    rfl
  ·obtain ⟨M, hM⟩ : ∃ M : Int, ((m % 18446744073709551616 : Nat) : Int) = M := ⟨_, rfl⟩
   rw [hM]
   have HMM := Lib.hid hM
   have HV := Lib.hid (show sgnV m h = m % 18446744073709551616 from if_neg (fun h => h64 h.1))
   clear hM
   go_wp2_with fail
   refine bodyPost_ret (results_tmp3 rfl _ _ _) rfl ?_
   refine ⟨HB1.out.alloc HB1.out.size _, ?_⟩
   show _ = _
   rw [HV.out, HMM.out, HN.out]
   rfl
end Go.Proofs.YtofaiocffifhfaaGreat
end
section
namespace Go.Proofs.YtofaiocffifhfaaGreat
open Go.RowKit Go.Shelf YtofaiocffifhfaaGreatB Go.Proofs.YtofaiocffifhfaaGreatW.PrintWords
theorem uintM_ok {B : List Int} {a bits n nx : Nat} (h : uintM B a bits = .ok (n, nx)) : a + 1 ≤ nx ∧ nx ≤ B.length := by
 unfold uintM at h
 cases hr : lebG lstU (B.drop a) bits with
 | error e => rw [hr] at h; cases h
 | ok y =>
  obtain ⟨m, hh, c⟩ := y
  rw [hr] at h
  cases h
  have := lebG_c _ _ _ _ _ hr
  rw [List.length_drop] at this
  omega
theorem sintM_ok {B : List Int} {a bits n nx : Nat} (h : sintM B a bits = .ok (n, nx)) : a + 1 ≤ nx ∧ nx ≤ B.length := by
 unfold sintM at h
 cases hr : lebG lstS (B.drop a) bits with
 | error e => rw [hr] at h; cases h
 | ok y =>
  obtain ⟨m, hh, c⟩ := y
  rw [hr] at h
  cases h
  have := lebG_c _ _ _ _ _ hr
  rw [List.length_drop] at this
  omega
theorem uintM_err {B : List Int} {a bits : Nat} {e : Int} (h : uintM B a bits = .error e) : (e == 0) = false := by
 unfold uintM at h
 cases hr : lebG lstU (B.drop a) bits with
 | error e' => rw [hr] at h; cases h; exact beq_eq_false_iff_ne.2 (lebG_err _ _ _ _ hr)
 | ok y => obtain ⟨m, hh, c⟩ := y; rw [hr] at h; cases h
theorem sintM_err {B : List Int} {a bits : Nat} {e : Int} (h : sintM B a bits = .error e) : (e == 0) = false := by
 unfold sintM at h
 cases hr : lebG lstS (B.drop a) bits with
 | error e' => rw [hr] at h; cases h; exact beq_eq_false_iff_ne.2 (lebG_err _ _ _ _ hr)
 | ok y => obtain ⟨m, hh, c⟩ := y; rw [hr] at h; cases h
def numV (r : Except Int (Nat × Nat)) : Int := match r with | .error _ => 0 | .ok (n, _) => n
def numA (a : Nat) (r : Except Int (Nat × Nat)) : Nat := match r with | .error _ => a | .ok (_, nx) => nx
def numE (r : Except Int (Nat × Nat)) : Int := match r with | .error e => e | .ok _ => 0
set_option maxRecDepth 100000 in
set_option maxHeartbeats 1000000 in
theorem number_any (W : World) (p q : Nat) (B : List Int) (a bits : Nat) (g : FuncId) (hent : Enters Tryz.prog g) (r : Except Int (Nat × Nat)) (hC : Cur W p q B a 0)
  (hg : ∀ W' A c, ByQ W' q A B → B.length ≤ c → Calls Tryz.prog g #[.slice A B.length c, .int .i64 a, .int .i64 bits] W' (NumPost W' r))
  (hok : ∀ n nx, r = .ok (n, nx) → nx ≤ B.length) (herr : ∀ e, r = .error e → (e == 0) = false) :
  Calls Tryz.prog 61 #[.pointer (some ⟨p, 0, none⟩), .func (.func g) #[] #[], .int .i64 bits] W fun E w' => E = .returned (.int .u64 (numV r)) ∧ Goes W w' p q B (numA a r) (numE r) := by
 have hin : ∀ args w, Sem.run Tryz.prog (callFunc g args) w = .ok (.enter g args) w := hent
 have HC := Lib.hid hC
 obtain ⟨A, c, c0, c1, c2, f0, f1, f2, hle, hq, hlt, ha⟩ := hC.cells
 have HG := Lib.hid (fun W' h => hg W' A c h hle)
 have HQ := Lib.hid hq
 rcases r with e | ⟨n, nx⟩
 ·have he := herr e rfl
  have he2 : (e != 0) = true := by simp only [bne, he]; rfl
  have HE := Lib.hid he
  clear hC hg hq hent hok herr he
  go_enter Tryz.func61, Tryz.ntmps61
  go_wp2_with fail
  go_region_held3 (fun w' => w'.cell? ⟨p, 0, none⟩ = some (.slice A B.length c) ∧ w'.cell? ⟨p, 1, none⟩ = some (.int .i64 a) ∧ Below W.heap.size W w')
   (first | exact ⟨c0, c1, (Below.refl _ _).drew⟩ | exact ⟨pw_cell_below (w := W.drew) hB3 c0, pw_cell_below (w := W.drew) hB3 c1, ((Below.refl _ _).drew).trans hB3⟩)
   (first | (refine (HG.out _ ?_).mono ?_; exact HQ.out.grown (row := none) ⟨rfl, rfl, rfl, Nat.le_refl _, fun _ _ _ => rfl⟩ (by simp); rintro E w3 ⟨hB3, rfl⟩))
  have HG3 := Lib.hid (show Goes W w3 p q B a 0 from ⟨HC.out.below (((Below.refl _ _).drew).trans hB3), grown_below (((Below.refl _ _).drew).trans hB3) _⟩)
  obtain ⟨A3, k3, d0, d1, d2, l0, l1, l2, gle, gq, glt, ga⟩ := HG3.out.1.cells
  clear hB3 gq c0 c1 c2 f0 f1 f2
  go_wp2_with fail
  go_still_tail 9, (by kernel_rfl)
  change wpList _ _ _ _ _ w3.drew
  have HD := Lib.hid (Goes.trans HG3.out (Goes.drewN HG3.out.1 1))
  have HDC := Lib.hid (show Cur w3.drew p q B a 0 from HD.out.1)
  have HG2 := Lib.hid (show W.grownBy w3.drew (some p) from HD.out.2)
  clear HD
  generalize w3.drew = W2 at *
  go_wp2_with fail
  refine (fail_yes _ _ _ _ _ _ _ HDC.out HE.out ha).mono ?_
  rintro E w' ⟨rfl, hG⟩
  have HGo := Lib.hid hG
  clear hG
  go_wp2_with fail
  go_ret
  exact ⟨rfl, HGo.out.1, HG2.out.trans HGo.out.2⟩
 ·have hnx := hok n nx rfl
  clear hC hg hq hent hok herr
  go_enter Tryz.func61, Tryz.ntmps61
  go_wp2_with fail
  go_region_held3 (fun w' => w'.cell? ⟨p, 0, none⟩ = some (.slice A B.length c) ∧ w'.cell? ⟨p, 1, none⟩ = some (.int .i64 a) ∧ Below W.heap.size W w')
   (first | exact ⟨c0, c1, (Below.refl _ _).drew⟩ | exact ⟨pw_cell_below (w := W.drew) hB3 c0, pw_cell_below (w := W.drew) hB3 c1, ((Below.refl _ _).drew).trans hB3⟩)
   (first | (refine (HG.out _ ?_).mono ?_; exact HQ.out.grown (row := none) ⟨rfl, rfl, rfl, Nat.le_refl _, fun _ _ _ => rfl⟩ (by simp); rintro E w3 ⟨hB3, rfl⟩))
  have HG3 := Lib.hid (show Goes W w3 p q B a 0 from ⟨HC.out.below (((Below.refl _ _).drew).trans hB3), grown_below (((Below.refl _ _).drew).trans hB3) _⟩)
  obtain ⟨A3, k3, d0, d1, d2, l0, l1, l2, gle, gq, glt, ga⟩ := HG3.out.1.cells
  clear hB3 gq c0 c1 c2 f0 f1 f2
  go_wp2_with fail
  go_ret
  exact ⟨rfl, HG3.out.1.setAt nx hnx, HG3.out.2.trans (gset _ _ _ _)⟩
end Go.Proofs.YtofaiocffifhfaaGreat
end
section
namespace Go.Proofs.YtofaiocffifhfaaGreatB
open Go.RowKit
theorem lstU_bound : ∀ (R : List Int) (l : Nat) (m h c : Nat), 1 ≤ l → (∀ x ∈ R, 0 ≤ x ∧ x ≤ 255) → lebG lstU R l = .ok (m, h, c) → m < 2 ^ l
 | [], l, m, h, c, _, _, e => by simp [lebG] at e
 | x :: r, l, m, h, c, hl, hR, e => by
  have hx := hR x (by simp)
  rw [lebG] at e
  split at e
  ·split at e
   next h1 h2 =>
    simp at e
    obtain ⟨rfl, rfl, rfl⟩ := e
    simp only [lstU, Bool.or_eq_true, decide_eq_true_eq] at h2
    rcases h2 with h2 | h2
    ·have : 2 ^ 7 ≤ 2 ^ l := Nat.pow_le_pow_right (by omega) (by omega)
     omega
    ·rw [Int.toNat_natCast] at h2
     have h3 : ((2 : Int) ^ l) = ((2 ^ l : Nat) : Int) := by rw [Int.natCast_pow]; rfl
     rw [h3] at h2
     omega
   ·cases e
  ·split at e
   ·cases e
   ·cases hr : lebG lstU r (l - 7) with
    | error e' => rw [hr] at e; cases e
    | ok y =>
     obtain ⟨m', h', c'⟩ := y
     rw [hr] at e
     simp at e
     have ih := lstU_bound r (l - 7) m' h' c' (by omega) (fun y hy => hR y (by simp [hy])) hr
     obtain ⟨rfl, rfl, rfl⟩ := e
     have h4 : 2 ^ l = 2 ^ (l - 7) * 128 := by rw [show (128 : Nat) = 2 ^ 7 from rfl, ← Nat.pow_add, show l - 7 + 7 = l from by omega]
     omega
end Go.Proofs.YtofaiocffifhfaaGreatB
namespace Go.Proofs.YtofaiocffifhfaaGreat
open Go.RowKit Go.Shelf YtofaiocffifhfaaGreatB Go.Proofs.YtofaiocffifhfaaGreatW.PrintWords
def u32M (B : List Int) (a : Nat) : Except Int (Nat × Nat) := uintM B a 32
def s32M (B : List Int) (a : Nat) : Except Int (Nat × Nat) := match sintM B a 32 with | .error e => .error e | .ok (n, nx) => .ok (n % 4294967296, nx)
def s64M (B : List Int) (a : Nat) : Except Int (Nat × Nat) := sintM B a 64
theorem u32M_lt {B : List Int} {a n nx : Nat} (hB : Byts B) (h : u32M B a = .ok (n, nx)) : n < 4294967296 ∧ a + 1 ≤ nx ∧ nx ≤ B.length := by
 have h2 := uintM_ok h
 unfold u32M uintM at h
 cases hr : lebG lstU (B.drop a) 32 with
 | error e => rw [hr] at h; cases h
 | ok y =>
  obtain ⟨m, hh, c⟩ := y
  rw [hr] at h
  cases h
  have := lstU_bound _ _ _ _ _ (by omega) (fun x hx => hB.2 x (List.mem_of_mem_drop hx)) hr
  exact ⟨by omega, h2⟩
def rdOf (r : Except Int (Nat × Nat)) (a : Nat) (e : Int) : Int × Nat × Int := if e = 0 then (numV r, numA a r, numE r) else (0, a, e)
theorem rs_num (a : Nat) (r : Except Int (Nat × Nat)) (herr : ∀ e, r = .error e → (e == 0) = false) : rsV (numV r) (numE r) = numV r ∧ rsA a (numA a r) (numE r) = numA a r := by
 rcases r with e | ⟨n, nx⟩
 ·have := herr e rfl
  have h : ¬ e = 0 := by simpa using this
  simp [rsV, rsA, numV, numA, numE, h]
 ·simp [rsV, rsA, numV, numA, numE]
theorem conv_U32 (B : List Int) (a : Nat) (hB : Byts B) : IntKind.u32.wrap (numV (uintM B a 32)) = numV (u32M B a) ∧ numA a (uintM B a 32) = numA a (u32M B a) ∧ numE (uintM B a 32) = numE (u32M B a) := by
 refine ⟨?_, rfl, rfl⟩
 show IntKind.u32.wrap (numV (u32M B a)) = numV (u32M B a)
 cases h : u32M B a with
 | error e => rfl
 | ok y =>
  obtain ⟨n, nx⟩ := y
  have := u32M_lt hB h
  rw [IntKind.wrap_u32']
  simp only [numV]
  omega
theorem conv_S32 (B : List Int) (a : Nat) (_ : Byts B) : IntKind.u32.wrap (numV (sintM B a 32)) = numV (s32M B a) ∧ numA a (sintM B a 32) = numA a (s32M B a) ∧ numE (sintM B a 32) = numE (s32M B a) := by
 unfold s32M
 cases sintM B a 32 with
 | error e => exact ⟨rfl, rfl, rfl⟩
 | ok y =>
  obtain ⟨n, nx⟩ := y
  refine ⟨?_, rfl, rfl⟩
  rw [IntKind.wrap_u32']
  simp only [numV]
  omega
theorem conv_S64 (B : List Int) (a : Nat) (_ : Byts B) : numV (sintM B a 64) = numV (s64M B a) ∧ numA a (sintM B a 64) = numA a (s64M B a) ∧ numE (sintM B a 64) = numE (s64M B a) := ⟨rfl, rfl, rfl⟩
theorem err_U32 (B : List Int) (a : Nat) : ∀ e, u32M B a = .error e → (e == 0) = false := fun e h => uintM_err h
theorem err_S32 (B : List Int) (a : Nat) : ∀ e, s32M B a = .error e → (e == 0) = false := fun e h => by
 unfold s32M at h
 cases hr : sintM B a 32 with
 | error e' => rw [hr] at h; cases h; exact sintM_err hr
 | ok y => obtain ⟨n, nx⟩ := y; rw [hr] at h; cases h
theorem err_S64 (B : List Int) (a : Nat) : ∀ e, s64M B a = .error e → (e == 0) = false := fun e h => sintM_err h
set_option maxRecDepth 100000 in
theorem U321_any (W : World) (p q r : Nat) (B : List Int) (a : Nat) (hC : Cur W p q B a 0) (hB : Byts B) (hr : W.cell? ⟨r, 0, none⟩ = some (.pointer (some ⟨p, 0, none⟩))) :
  Calls Tryz.prog 60 #[.pointer (some ⟨r, 0, none⟩)] W fun E w' => E = .returned (.int .u32 (numV (u32M B a))) ∧ Goes W w' p q B (numA a (u32M B a)) (numE (u32M B a)) := by
 have H := Lib.hid (number_any W p q B a 32 _ ent_lU (uintM B a 32) hC (fun W' A c hQ hc => Uint_any W' q A c B a 32 hB hQ hc hC.2.1 (by omega)) (fun n nx h => (uintM_ok h).2) (fun e h => uintM_err h))
 have HV := Lib.hid (conv_U32 B a hB)
 generalize uintM B a 32 = r0 at *
 clear hC hB
 go_enter Tryz.func60, Tryz.ntmps60
 go_wp2_with fail
 refine H.out.mono ?_
 rintro E W1 ⟨rfl, hG⟩
 rw [HV.out.2.1, HV.out.2.2] at hG
 have HG := Lib.hid hG
 have HV1 := Lib.hid HV.out.1
 generalize numV r0 = v0 at *
 clear hG H HV
 go_wp2_with fail
 go_ret
 rw [← HV1.out]
 exact ⟨rfl, HG.out⟩
set_option maxRecDepth 100000 in
theorem U32_any (W : World) (p q : Nat) (B : List Int) (a : Nat) (e : Int) (hC : Cur W p q B a e) (hB : Byts B) :
  Calls Tryz.prog 34 #[.pointer (some ⟨p, 0, none⟩)] W fun E w' => E = .returned (.int .u32 (rdOf (u32M B a) a e).1) ∧ Goes W w' p q B (rdOf (u32M B a) a e).2.1 (rdOf (u32M B a) a e).2.2 := by
 have hC2 := hC.alloc (.cells #[.pointer (some ⟨p, 0, none⟩)] 53)
 by_cases he : e = 0
 ·subst he
  have H := Lib.hid (reads_uint32 _ p q B a _ ent_U321 #[.pointer (some ⟨W.heap.size, 0, none⟩)] _ _ _ hC2 (U321_any _ p q W.heap.size B a hC2 hB (by rw [(Blk.new W #[.pointer (some ⟨p, 0, none⟩)] 53).cell 0]; rfl)))
  have HR := Lib.hid (rs_num a (u32M B a) (err_U32 B a))
  have HV := Lib.hid (show rdOf (u32M B a) a 0 = (numV (u32M B a), numA a (u32M B a), numE (u32M B a)) from rfl)
  clear hC hC2 hB
  go_enter Tryz.func34, Tryz.ntmps34
  go_wp2_with fail
  refine H.out.mono ?_
  rintro E W1 ⟨rfl, hG⟩
  rw [HR.out.1]
  rw [HR.out.2] at hG
  have HG := Lib.hid hG
  clear hG H HR
  go_wp2_with fail
  go_ret
  rw [HV.out]
  exact ⟨rfl, HG.out.of_alloc⟩
 ·have H := Lib.hid (reads_bad_uint32 _ p q B a e (.func (.func 60) #[] #[.pointer (some ⟨W.heap.size, 0, none⟩)]) hC2 (beq_eq_false_iff_ne.2 he))
  have HV := Lib.hid (show rdOf (u32M B a) a e = (0, a, e) from by simp [rdOf, he])
  have HG := Lib.hid (Goes.of_alloc (Goes.same hC2))
  clear hC hC2 hB he
  go_enter Tryz.func34, Tryz.ntmps34
  go_wp2_with fail
  refine H.out.mono ?_
  rintro E W1 ⟨rfl, rfl⟩
  go_wp2_with fail
  go_ret
  rw [HV.out]
  exact ⟨rfl, HG.out⟩
set_option maxRecDepth 100000 in
theorem S321_any (W : World) (p q r : Nat) (B : List Int) (a : Nat) (hC : Cur W p q B a 0) (hB : Byts B) (hr : W.cell? ⟨r, 0, none⟩ = some (.pointer (some ⟨p, 0, none⟩))) :
  Calls Tryz.prog 160 #[.pointer (some ⟨r, 0, none⟩)] W fun E w' => E = .returned (.int .u32 (numV (s32M B a))) ∧ Goes W w' p q B (numA a (s32M B a)) (numE (s32M B a)) := by
 have H := Lib.hid (number_any W p q B a 32 _ ent_lS (sintM B a 32) hC (fun W' A c hQ hc => Sint_any W' q A c B a 32 hB hQ hc hC.2.1 (by omega)) (fun n nx h => (sintM_ok h).2) (fun e h => sintM_err h))
 have HV := Lib.hid (conv_S32 B a hB)
 generalize sintM B a 32 = r0 at *
 clear hC hB
 go_enter Tryz.func160, Tryz.ntmps160
 go_wp2_with fail
 refine H.out.mono ?_
 rintro E W1 ⟨rfl, hG⟩
 rw [HV.out.2.1, HV.out.2.2] at hG
 have HG := Lib.hid hG
 have HV1 := Lib.hid HV.out.1
 generalize numV r0 = v0 at *
 clear hG H HV
 go_wp2_with fail
 go_ret
 rw [← HV1.out]
 exact ⟨rfl, HG.out⟩
set_option maxRecDepth 100000 in
theorem S32_any (W : World) (p q : Nat) (B : List Int) (a : Nat) (e : Int) (hC : Cur W p q B a e) (hB : Byts B) :
  Calls Tryz.prog 149 #[.pointer (some ⟨p, 0, none⟩)] W fun E w' => E = .returned (.int .u32 (rdOf (s32M B a) a e).1) ∧ Goes W w' p q B (rdOf (s32M B a) a e).2.1 (rdOf (s32M B a) a e).2.2 := by
 have hC2 := hC.alloc (.cells #[.pointer (some ⟨p, 0, none⟩)] 53)
 by_cases he : e = 0
 ·subst he
  have H := Lib.hid (reads_uint32 _ p q B a _ ent_S321 #[.pointer (some ⟨W.heap.size, 0, none⟩)] _ _ _ hC2 (S321_any _ p q W.heap.size B a hC2 hB (by rw [(Blk.new W #[.pointer (some ⟨p, 0, none⟩)] 53).cell 0]; rfl)))
  have HR := Lib.hid (rs_num a (s32M B a) (err_S32 B a))
  have HV := Lib.hid (show rdOf (s32M B a) a 0 = (numV (s32M B a), numA a (s32M B a), numE (s32M B a)) from rfl)
  clear hC hC2 hB
  go_enter Tryz.func149, Tryz.ntmps149
  go_wp2_with fail
  refine H.out.mono ?_
  rintro E W1 ⟨rfl, hG⟩
  rw [HR.out.1]
  rw [HR.out.2] at hG
  have HG := Lib.hid hG
  clear hG H HR
  go_wp2_with fail
  go_ret
  rw [HV.out]
  exact ⟨rfl, HG.out.of_alloc⟩
 ·have H := Lib.hid (reads_bad_uint32 _ p q B a e (.func (.func 160) #[] #[.pointer (some ⟨W.heap.size, 0, none⟩)]) hC2 (beq_eq_false_iff_ne.2 he))
  have HV := Lib.hid (show rdOf (s32M B a) a e = (0, a, e) from by simp [rdOf, he])
  have HG := Lib.hid (Goes.of_alloc (Goes.same hC2))
  clear hC hC2 hB he
  go_enter Tryz.func149, Tryz.ntmps149
  go_wp2_with fail
  refine H.out.mono ?_
  rintro E W1 ⟨rfl, rfl⟩
  go_wp2_with fail
  go_ret
  rw [HV.out]
  exact ⟨rfl, HG.out⟩
set_option maxRecDepth 100000 in
theorem S641_any (W : World) (p q r : Nat) (B : List Int) (a : Nat) (hC : Cur W p q B a 0) (hB : Byts B) (hr : W.cell? ⟨r, 0, none⟩ = some (.pointer (some ⟨p, 0, none⟩))) :
  Calls Tryz.prog 163 #[.pointer (some ⟨r, 0, none⟩)] W fun E w' => E = .returned (.int .u64 (numV (s64M B a))) ∧ Goes W w' p q B (numA a (s64M B a)) (numE (s64M B a)) := by
 have H := Lib.hid (number_any W p q B a 64 _ ent_lS (sintM B a 64) hC (fun W' A c hQ hc => Sint_any W' q A c B a 64 hB hQ hc hC.2.1 (by omega)) (fun n nx h => (sintM_ok h).2) (fun e h => sintM_err h))
 have HV := Lib.hid (conv_S64 B a hB)
 generalize sintM B a 64 = r0 at *
 clear hC hB
 go_enter Tryz.func163, Tryz.ntmps163
 go_wp2_with fail
 refine H.out.mono ?_
 rintro E W1 ⟨rfl, hG⟩
 rw [HV.out.2.1, HV.out.2.2] at hG
 have HG := Lib.hid hG
 have HV1 := Lib.hid HV.out.1
 generalize numV r0 = v0 at *
 clear hG H HV
 go_wp2_with fail
 go_ret
 rw [← HV1.out]
 exact ⟨rfl, HG.out⟩
set_option maxRecDepth 100000 in
theorem S64_any (W : World) (p q : Nat) (B : List Int) (a : Nat) (e : Int) (hC : Cur W p q B a e) (hB : Byts B) :
  Calls Tryz.prog 150 #[.pointer (some ⟨p, 0, none⟩)] W fun E w' => E = .returned (.int .u64 (rdOf (s64M B a) a e).1) ∧ Goes W w' p q B (rdOf (s64M B a) a e).2.1 (rdOf (s64M B a) a e).2.2 := by
 have hC2 := hC.alloc (.cells #[.pointer (some ⟨p, 0, none⟩)] 53)
 by_cases he : e = 0
 ·subst he
  have H := Lib.hid (reads_uint64 _ p q B a _ ent_S641 #[.pointer (some ⟨W.heap.size, 0, none⟩)] _ _ _ hC2 (S641_any _ p q W.heap.size B a hC2 hB (by rw [(Blk.new W #[.pointer (some ⟨p, 0, none⟩)] 53).cell 0]; rfl)))
  have HR := Lib.hid (rs_num a (s64M B a) (err_S64 B a))
  have HV := Lib.hid (show rdOf (s64M B a) a 0 = (numV (s64M B a), numA a (s64M B a), numE (s64M B a)) from rfl)
  clear hC hC2 hB
  go_enter Tryz.func150, Tryz.ntmps150
  go_wp2_with fail
  refine H.out.mono ?_
  rintro E W1 ⟨rfl, hG⟩
  rw [HR.out.1]
  rw [HR.out.2] at hG
  have HG := Lib.hid hG
  clear hG H HR
  go_wp2_with fail
  go_ret
  rw [HV.out]
  exact ⟨rfl, HG.out.of_alloc⟩
 ·have H := Lib.hid (reads_bad_uint64 _ p q B a e (.func (.func 163) #[] #[.pointer (some ⟨W.heap.size, 0, none⟩)]) hC2 (beq_eq_false_iff_ne.2 he))
  have HV := Lib.hid (show rdOf (s64M B a) a e = (0, a, e) from by simp [rdOf, he])
  have HG := Lib.hid (Goes.of_alloc (Goes.same hC2))
  clear hC hC2 hB he
  go_enter Tryz.func150, Tryz.ntmps150
  go_wp2_with fail
  refine H.out.mono ?_
  rintro E W1 ⟨rfl, rfl⟩
  go_wp2_with fail
  go_ret
  rw [HV.out]
  exact ⟨rfl, HG.out⟩
end Go.Proofs.YtofaiocffifhfaaGreat
end
section
namespace Go.Proofs.YtofaiocffifhfaaGreatB
open Go.RowKit
def leN : List Int → Nat | [] => 0 | x :: r => x.toNat + 256 * leN r
theorem leN_snoc (l : List Int) (x : Int) : leN (l ++ [x]) = leN l + x.toNat * 2 ^ (8 * l.length) := by
 induction l with
 | nil => simp [leN]
 | cons y l ih =>
  rw [List.cons_append, leN, leN, ih, List.length_cons, show 8 * (l.length + 1) = 8 * l.length + 8 from by omega, Nat.pow_add, show (2 : Nat) ^ 8 = 256 from rfl, Nat.mul_add, Nat.add_assoc, Nat.mul_comm (2 ^ (8 * l.length)) 256, ← Nat.mul_assoc, ← Nat.mul_assoc, Nat.mul_comm x.toNat 256]
theorem leN_lt : ∀ (l : List Int), (∀ x ∈ l, 0 ≤ x ∧ x ≤ 255) → leN l < 2 ^ (8 * l.length)
 | [], _ => by simp [leN]
 | y :: l, h => by
  have ih := leN_lt l (fun x hx => h x (by simp [hx]))
  have hy := h y (by simp)
  rw [leN, List.length_cons, show 8 * (l.length + 1) = 8 + 8 * l.length from by omega, Nat.pow_add, show (2 : Nat) ^ 8 = 256 from rfl]
  omega
theorem le_or (n k : Nat) (x : Nat) (hx : x < 256) (hk : k ≤ 7) (hn : n < 2 ^ (8 * k)) : bits .or .u64 (n : Int) (IntKind.u64.wrap ((x : Int) * 2 ^ (8 * k))) = ((n + x * 2 ^ (8 * k) : Nat) : Int) := by
 have h1 : 2 ^ (8 * k) ≤ 2 ^ 56 := Nat.pow_le_pow_right (by omega) (by omega)
 have h2 : x * 2 ^ (8 * k) ≤ 255 * 2 ^ (8 * k) := Nat.mul_le_mul_right _ (by omega)
 have hd : (x * 2 ^ (8 * k)) % 2 ^ (8 * k) = 0 := Nat.mul_mod_left _ _
 have e : IntKind.u64.wrap ((x : Int) * 2 ^ (8 * k)) = ((x * 2 ^ (8 * k) : Nat) : Int) := by
  have : (x : Int) * 2 ^ (8 * k) = ((x * 2 ^ (8 * k) : Nat) : Int) := by rw [Int.natCast_mul, Int.natCast_pow]; rfl
  rw [this, IntKind.wrap_u64]
  omega
 rw [e]
 generalize hy : x * 2 ^ (8 * k) = y at *
 generalize ht : 2 ^ (8 * k) = t at *
 rw [u64_or_nat _ _ (by omega) (by omega), Nat.or_comm]
 subst ht
 rw [nat_join (8 * k) y n hd hn, Nat.add_comm]
end Go.Proofs.YtofaiocffifhfaaGreatB
namespace Go.Proofs.YtofaiocffifhfaaGreat
open Go.RowKit Go.Shelf YtofaiocffifhfaaGreatB Go.Proofs.YtofaiocffifhfaaGreatW.PrintWords
def fixM (B : List Int) (a n : Nat) : Except Int (Nat × Nat) := if a + n ≤ B.length then .ok (leN ((B.drop a).take n), a + n) else .error 100
def countM (B : List Int) (a : Nat) : Except Int (Nat × Nat) := match u32M B a with | .error e => .error e | .ok (n, nx) => if n > 4096 then .error 3 else .ok (n, nx)
def amongM (B : List Int) (a : Nat) (L : List Int) (e : Int) : Except Int (Nat × Nat) := match B[a]? with | none => .error 100 | some x => if x ∈ L then .ok (x.toNat, a + 1) else .error e
set_option maxRecDepth 100000 in
set_option maxHeartbeats 1000000 in
theorem Fixed1_any (W : World) (p q r s : Nat) (B : List Int) (a n : Nat) (hn : n = 4 ∨ n = 8) (hC : Cur W p q B a 0) (hB : Byts B) (hr : W.cell? ⟨r, 0, none⟩ = some (.pointer (some ⟨p, 0, none⟩))) (hs : W.cell? ⟨s, 0, none⟩ = some (.int .i64 n)) :
  Calls Tryz.prog 164 #[.pointer (some ⟨s, 0, none⟩), .pointer (some ⟨r, 0, none⟩)] W fun E w' => E = .returned (.int .u64 (numV (fixM B a n))) ∧ Goes W w' p q B (numA a (fixM B a n)) (numE (fixM B a n)) := by
 have hl := hB.1
 by_cases hle : a + n ≤ B.length
 ·have HT := Lib.hid (take_yes W p q B a n hC hB hle)
  have HV := Lib.hid (show fixM B a n = .ok (leN ((B.drop a).take n), a + n) from if_pos hle)
  have hL : ((B.drop a).take n).length = n := by rw [List.length_take, List.length_drop]; omega
  have hLb : ∀ x ∈ (B.drop a).take n, 0 ≤ x ∧ x ≤ 255 := fun x hx => hB.2 x (List.mem_of_mem_drop (List.mem_of_mem_take hx))
  generalize (B.drop a).take n = Z at *
  have HL := Lib.hid hL
  have HLb := Lib.hid hLb
  clear hL hLb hC hB
  have hn8 : n ≤ 8 := by omega
  rcases hn with rfl | rfl
  all_goals
   go_enter Tryz.func164, Tryz.ntmps164
   go_wp2_with fail
   refine HT.out.mono ?_
   rintro E W1 ⟨⟨A', c', rfl, hq⟩, hG⟩
   have HG := Lib.hid hG
   have HQ := Lib.hid hq
   clear hG hq HT
   go_wp2_with fail
   go_loop [3, 25] (fun u k => ∃ j : Nat, j ≤ Z.length ∧ k = .int .i64 j ∧ u = .int .u64 (leN (Z.take j))) (fun _ k => Z.length - (intOf k).toNat)
   case atStart => exact ⟨0, Nat.zero_le _, rfl, rfl⟩
   case round =>
    obtain ⟨j, hj, rfl, rfl⟩ := hrel
    have hj8 : (j : Int) ≤ 8 := by have := HL.out; omega
    by_cases hlt : j < Z.length
    ·obtain ⟨o, x, rfl, hx, hc⟩ := HQ.out.at_ j hlt
     have hxb := HLb.out x (List.mem_of_getElem? hx.out)
     have hx0 := hxb.1
     have hx1 := hxb.2
     have hlt2 : (j : Int) < (Z.length : Int) := by omega
     rw [HL.out] at hlt2
     have HT2 := Lib.hid (show leN (Z.take (j + 1)) = leN (Z.take j) + x.toNat * 2 ^ (8 * j) from by
      rw [List.take_add_one, hx.out]
      have := leN_snoc (Z.take j) x
      rw [List.length_take, Nat.min_eq_left (by omega)] at this
      exact this)
     have HB2 := Lib.hid (show leN (Z.take j) < 2 ^ (8 * j) from by
      have := leN_lt (Z.take j) (fun y hy => HLb.out y (List.mem_of_mem_take hy))
      rw [List.length_take, Nat.min_eq_left (by omega)] at this
      exact this)
     clear hxb
     generalize leN (Z.take j) = v at *
     go_wp2_with fail
     go_round
     case rel =>
      refine ⟨j + 1, by omega, by go_num, ?_⟩
      have h3 := le_or v j x.toNat (by omega) (by have := HL.out; omega) HB2.out
      rw [Int.toNat_of_nonneg hx0] at h3
      rw [HT2.out, h3]
     case measure => simp [intOf]; omega
    ·obtain rfl : j = Z.length := by omega
     have HV2 := Lib.hid (show leN (Z.take Z.length) = leN Z from by rw [List.take_length])
     generalize leN (Z.take Z.length) = v at *
     have hge := Int.le_of_eq (congrArg (fun n : Nat => (n : Int)) HL.out.symm)
     go_wp2_with fail
     go_ret
     rw [HV.out, HV2.out.symm]
     exact ⟨rfl, HG.out⟩
 ·have HT := Lib.hid (take_no W p q B a n hC hB (by omega) (by omega))
  have HV := Lib.hid (show fixM B a n = .error 100 from if_neg hle)
  clear hC hB
  rcases hn with rfl | rfl
  all_goals
   go_enter Tryz.func164, Tryz.ntmps164
   go_wp2_with fail
   refine HT.out.mono ?_
   rintro E W1 ⟨rfl, hG⟩
   have HG := Lib.hid hG
   clear hG HT
   go_wp2_with fail
   go_loop [3, 25] (fun u k => u = .int .u64 0 ∧ k = .int .i64 0) (fun _ k => 0)
   case atStart => exact ⟨rfl, rfl⟩
   case round =>
    obtain ⟨rfl, rfl⟩ := hrel
    go_wp2_with fail
    go_ret
    rw [HV.out]
    exact ⟨rfl, HG.out⟩
end Go.Proofs.YtofaiocffifhfaaGreat
end
section
namespace Go.Proofs.YtofaiocffifhfaaGreat
open Go.RowKit Go.Shelf YtofaiocffifhfaaGreatB Go.Proofs.YtofaiocffifhfaaGreatW.PrintWords
theorem fixM_ok {B : List Int} {a n m nx : Nat} (h : fixM B a n = .ok (m, nx)) : nx = a + n ∧ nx ≤ B.length := by
 unfold fixM at h
 split at h
 ·cases h; exact ⟨rfl, by assumption⟩
 ·cases h
theorem fixM_err {B : List Int} {a n : Nat} : ∀ e, fixM B a n = .error e → (e == 0) = false := fun e h => by
 unfold fixM at h
 split at h
 ·cases h
 ·cases h; rfl
theorem countM_err {B : List Int} {a : Nat} : ∀ e, countM B a = .error e → (e == 0) = false := fun e h => by
 unfold countM at h
 cases hr : u32M B a with
 | error e' => rw [hr] at h; cases h; exact err_U32 B a _ hr
 | ok y =>
  obtain ⟨n, nx⟩ := y
  rw [hr] at h
  simp only at h
  split at h
  ·cases h; rfl
  ·cases h
theorem countM_ok {B : List Int} {a n nx : Nat} (hB : Byts B) (h : countM B a = .ok (n, nx)) : n ≤ 4096 ∧ a + 1 ≤ nx ∧ nx ≤ B.length := by
 unfold countM at h
 cases hr : u32M B a with
 | error e' => rw [hr] at h; cases h
 | ok y =>
  obtain ⟨n, nx⟩ := y
  rw [hr] at h
  simp only at h
  split at h
  ·cases h
  ·cases h
   exact ⟨by omega, (u32M_lt hB hr).2⟩
set_option maxRecDepth 100000 in
theorem Fixed_any (W : World) (p q : Nat) (B : List Int) (a n : Nat) (e : Int) (hn : n = 4 ∨ n = 8) (hC : Cur W p q B a e) (hB : Byts B) :
  Calls Tryz.prog 151 #[.pointer (some ⟨p, 0, none⟩), .int .i64 n] W fun E w' => E = .returned (.int .u64 (rdOf (fixM B a n) a e).1) ∧ Goes W w' p q B (rdOf (fixM B a n) a e).2.1 (rdOf (fixM B a n) a e).2.2 := by
 have hC2 := (hC.alloc (.cells #[.pointer (some ⟨p, 0, none⟩)] 53)).alloc (.cells #[.int .i64 n] 3)
 have b1 := (Blk.new W #[.pointer (some ⟨p, 0, none⟩)] 53).alloc (.cells #[.int .i64 n] 3)
 have b2 := Blk.new (W.alloc (.cells #[.pointer (some ⟨p, 0, none⟩)] 53)) #[.int .i64 n] 3
 rw [World.size_alloc] at b2
 by_cases he : e = 0
 ·subst he
  have H := Lib.hid (reads_uint64 _ p q B a _ ent_Fixed1 #[.pointer (some ⟨W.heap.size + 1, 0, none⟩), .pointer (some ⟨W.heap.size, 0, none⟩)] _ _ _ hC2 (Fixed1_any _ p q W.heap.size (W.heap.size + 1) B a n hn hC2 hB (by rw [b1.cell]; rfl) (by rw [b2.cell]; rfl)))
  have HR := Lib.hid (rs_num a (fixM B a n) fixM_err)
  have HV := Lib.hid (show rdOf (fixM B a n) a 0 = (numV (fixM B a n), numA a (fixM B a n), numE (fixM B a n)) from rfl)
  clear hC hC2 hB b1 b2
  go_enter Tryz.func151, Tryz.ntmps151
  go_wp2_with fail
  refine H.out.mono ?_
  rintro E W1 ⟨rfl, hG⟩
  rw [HR.out.1]
  rw [HR.out.2] at hG
  have HG := Lib.hid hG
  clear hG H HR
  go_wp2_with fail
  go_ret
  rw [HV.out]
  exact ⟨rfl, HG.out.of_alloc.of_alloc⟩
 ·have H := Lib.hid (reads_bad_uint64 _ p q B a e (.func (.func 164) #[] #[.pointer (some ⟨W.heap.size + 1, 0, none⟩), .pointer (some ⟨W.heap.size, 0, none⟩)]) hC2 (beq_eq_false_iff_ne.2 he))
  have HV := Lib.hid (show rdOf (fixM B a n) a e = (0, a, e) from by simp [rdOf, he])
  have HG := Lib.hid (Goes.of_alloc (Goes.of_alloc (Goes.same hC2)))
  clear hC hC2 hB he b1 b2
  go_enter Tryz.func151, Tryz.ntmps151
  go_wp2_with fail
  refine H.out.mono ?_
  rintro E W1 ⟨rfl, rfl⟩
  go_wp2_with fail
  go_ret
  rw [HV.out]
  exact ⟨rfl, HG.out⟩
set_option maxRecDepth 100000 in
theorem Count1_any (W : World) (p q r : Nat) (B : List Int) (a : Nat) (hC : Cur W p q B a 0) (hB : Byts B) (hrp : r ≠ p) (hr : W.cell? ⟨r, 0, none⟩ = some (.pointer (some ⟨p, 0, none⟩))) :
  Calls Tryz.prog 95 #[.pointer (some ⟨r, 0, none⟩)] W fun E w' => (∃ v nx, E = .returned (.int .i64 v) ∧ (numE (countM B a) = 0 → v = numV (countM B a) ∧ nx = numA a (countM B a)) ∧ Goes W w' p q B nx (numE (countM B a))) := by
 have H := Lib.hid (U32_any W p q B a 0 hC hB)
 have hrlt := World.block_lt_of_cell? _ _ hr
 cases hu : u32M B a with
 | error e =>
  have he := err_U32 B a e hu
  have HV := Lib.hid (show countM B a = .error e from by unfold countM; rw [hu])
  have HU := Lib.hid hu
  clear hu hC hB he
  go_enter Tryz.func95, Tryz.ntmps95
  go_wp2_with fail
  refine H.out.mono ?_
  rw [HU.out]
  rintro E W1 ⟨rfl, hG⟩
  have HG := Lib.hid hG
  clear hG H
  simp only [rdOf, numV, if_pos]
  go_wp2_with fail
  go_ret
  rw [HV.out]
  exact ⟨0, a, rfl, fun _ => ⟨rfl, rfl⟩, HG.out⟩
 | ok y =>
  obtain ⟨n, nx⟩ := y
  have hlt := u32M_lt hB hu
  have hn := hlt.1
  by_cases hbig : n > 4096
  ·have HV := Lib.hid (show countM B a = .error 3 from by unfold countM; rw [hu]; exact if_pos hbig)
   have HU := Lib.hid hu
   have hbig2 : (4096 : Int) < (n : Int) := by omega
   clear hu hC hB hlt hbig
   go_enter Tryz.func95, Tryz.ntmps95
   go_wp2_with fail
   refine H.out.mono ?_
   rw [HU.out]
   rintro E W1 ⟨rfl, hG⟩
   have hG' : Goes W W1 p q B nx 0 := hG
   have HG := Lib.hid hG'
   have r1 : W1.cell? ⟨r, 0, none⟩ = some (.pointer (some ⟨p, 0, none⟩)) := (World.cell?_of_block (hG'.2.block r hrlt (by simpa using hrp))).trans hr
   obtain ⟨A, k, d0, d1, d2, l0, l1, l2, gle, gq, glt, ga⟩ := hG'.1.cells
   clear hG hG' H gq
   simp only [rdOf, numV, if_pos]
   go_wp2_with fail
   go_still_tail 8, (by kernel_rfl)
   change wpList _ _ _ _ _ W1.drew
   have HD := Lib.hid (Goes.trans HG.out (Goes.drewN HG.out.1 1))
   have HDC := Lib.hid (show Cur W1.drew p q B nx 0 from HD.out.1)
   have HG2 := Lib.hid (show W.grownBy W1.drew (some p) from HD.out.2)
   clear HD
   generalize W1.drew = W2 at *
   go_wp2_with fail
   refine (fail_yes _ _ _ _ _ _ _ HDC.out rfl ga).mono ?_
   rintro E w' ⟨rfl, hG⟩
   have HGo := Lib.hid hG
   clear hG
   go_wp2_with fail
   go_ret
   rw [HV.out]
   exact ⟨n, nx, rfl, (fun h => (by cases h)), HGo.out.1, HG2.out.trans HGo.out.2⟩
  ·have HV := Lib.hid (show countM B a = .ok (n, nx) from by unfold countM; rw [hu]; exact if_neg hbig)
   have HU := Lib.hid hu
   have hbig2 : (n : Int) ≤ 4096 := by omega
   clear hu hC hB hlt hbig
   go_enter Tryz.func95, Tryz.ntmps95
   go_wp2_with fail
   refine H.out.mono ?_
   rw [HU.out]
   rintro E W1 ⟨rfl, hG⟩
   have HG := Lib.hid hG
   clear hG H
   simp only [rdOf, numV, if_pos]
   go_wp2_with fail
   go_ret
   rw [HV.out]
   exact ⟨n, nx, rfl, fun _ => ⟨rfl, rfl⟩, HG.out⟩
set_option maxRecDepth 100000 in
theorem Count_any (W : World) (p q : Nat) (B : List Int) (a : Nat) (e : Int) (hC : Cur W p q B a e) (hB : Byts B) :
  Calls Tryz.prog 58 #[.pointer (some ⟨p, 0, none⟩)] W fun E w' => E = .returned (.int .i64 (rdOf (countM B a) a e).1) ∧ Goes W w' p q B (rdOf (countM B a) a e).2.1 (rdOf (countM B a) a e).2.2 := by
 have hC2 := hC.alloc (.cells #[.pointer (some ⟨p, 0, none⟩)] 53)
 have hplt := hC.lt
 by_cases he : e = 0
 ·subst he
  have H := Lib.hid (reads_ex_int _ p q B a _ ent_Count1 #[.pointer (some ⟨W.heap.size, 0, none⟩)] (fun v nx => numE (countM B a) = 0 → v = numV (countM B a) ∧ nx = numA a (countM B a)) (numE (countM B a)) hC2 (Count1_any _ p q W.heap.size B a hC2 hB (by omega) (by rw [(Blk.new W #[.pointer (some ⟨p, 0, none⟩)] 53).cell 0]; rfl)))
  have HR := Lib.hid (rs_num a (countM B a) countM_err)
  have HV := Lib.hid (show rdOf (countM B a) a 0 = (numV (countM B a), numA a (countM B a), numE (countM B a)) from rfl)
  clear hC hC2 hB
  go_enter Tryz.func58, Tryz.ntmps58
  go_wp2_with fail
  refine H.out.mono ?_
  rintro E W1 ⟨v, nx, hv, rfl, hG⟩
  have hvv : rsV v (numE (countM B a)) = numV (countM B a) ∧ rsA a nx (numE (countM B a)) = numA a (countM B a) := by
   by_cases h0 : numE (countM B a) = 0
   ·obtain ⟨rfl, rfl⟩ := hv h0
    exact HR.out
   ·have h1 := HR.out
    simp only [rsV, rsA, if_neg h0] at h1 ⊢
    exact h1
  rw [hvv.1]
  rw [hvv.2] at hG
  have HG := Lib.hid hG
  clear hG H HR hvv hv
  go_wp2_with fail
  go_ret
  rw [HV.out]
  exact ⟨rfl, HG.out.of_alloc⟩
 ·have H := Lib.hid (reads_bad_int _ p q B a e (.func (.func 95) #[] #[.pointer (some ⟨W.heap.size, 0, none⟩)]) hC2 (beq_eq_false_iff_ne.2 he))
  have HV := Lib.hid (show rdOf (countM B a) a e = (0, a, e) from by simp [rdOf, he])
  have HG := Lib.hid (Goes.of_alloc (Goes.same hC2))
  clear hC hC2 hB he
  go_enter Tryz.func58, Tryz.ntmps58
  go_wp2_with fail
  refine H.out.mono ?_
  rintro E W1 ⟨rfl, rfl⟩
  go_wp2_with fail
  go_ret
  rw [HV.out]
  exact ⟨rfl, HG.out⟩
end Go.Proofs.YtofaiocffifhfaaGreat
end
section
namespace Go.Proofs.YtofaiocffifhfaaGreat
open Go.RowKit Go.Shelf YtofaiocffifhfaaGreatB Go.Proofs.YtofaiocffifhfaaGreatW.PrintWords
theorem amongM_err {B : List Int} {a : Nat} {L : List Int} {e0 : Int} (h0 : (e0 == 0) = false) : ∀ e, amongM B a L e0 = .error e → (e == 0) = false := fun e h => by
 unfold amongM at h
 split at h
 ·cases h; rfl
 ·split at h
  ·cases h
  ·cases h; exact h0
def AmPost (W : World) (p q : Nat) (B : List Int) (r : Except Int (Nat × Nat)) (a : Nat) (E : Ending) (w' : World) : Prop :=
 ∃ v nx, E = .returned (.int .u8 v) ∧ (numE r = 0 → v = numV r ∧ nx = numA a r) ∧ Goes W w' p q B nx (numE r)
set_option maxRecDepth 100000 in
set_option maxHeartbeats 1000000 in
theorem among1_any (W : World) (p q r s u ql : Nat) (B : List Int) (a : Nat) (e0 : Int) (AL : Option Addr) (cL : Nat) (L : List Int) (hC : Cur W p q B a 0) (hB : Byts B) (h0 : (e0 == 0) = false) (hrp : r ≠ p) (hsp : s ≠ p) (hup : u ≠ p) (hqp : ql ≠ p)
  (hr : W.cell? ⟨r, 0, none⟩ = some (.pointer (some ⟨p, 0, none⟩))) (hs : W.cell? ⟨s, 0, none⟩ = some (.slice AL L.length cL)) (hu : W.cell? ⟨u, 0, none⟩ = some (.int .i64 e0)) (hL : ByQ W ql AL L) (hLl : L.length ≤ 100) :
  Calls Tryz.prog 99 #[.pointer (some ⟨r, 0, none⟩), .pointer (some ⟨s, 0, none⟩), .pointer (some ⟨u, 0, none⟩)] W (AmPost W p q B (amongM B a L e0) a) := by
 have H := Lib.hid (Byte_any W p q B a 0 hC hB)
 have hrlt := World.block_lt_of_cell? _ _ hr
 have hslt := World.block_lt_of_cell? _ _ hs
 have hult := World.block_lt_of_cell? _ _ hu
 obtain ⟨b, hb⟩ : ∃ b, b = (rdByte B a 0).1 := ⟨_, rfl⟩
 obtain ⟨a1, ha1⟩ : ∃ a1, a1 = (rdByte B a 0).2.1 := ⟨_, rfl⟩
 obtain ⟨e1, he1⟩ : ∃ e1, e1 = (rdByte B a 0).2.2 := ⟨_, rfl⟩
 rw [← hb, ← ha1, ← he1] at H
 have hcase : (e1 = 0 ∧ (amongM B a L e0 = if b ∈ L then .ok (b.toNat, a + 1) else .error e0) ∧ a1 = a + 1 ∧ 0 ≤ b) ∨ (e1 = 100 ∧ amongM B a L e0 = .error 100) := by
  unfold rdByte at hb ha1 he1
  unfold amongM
  cases hx : B[a]? with
  | none => rw [hx] at he1; exact .inr ⟨by simpa using he1, rfl⟩
  | some x =>
   rw [hx] at hb ha1 he1
   simp at hb ha1 he1
   subst hb
   exact .inl ⟨he1, rfl, ha1, (hB.get hx).1⟩
 have HC := Lib.hid hcase
 have H0 := Lib.hid h0
 clear hb ha1 he1 hC hB hcase h0
 go_enter Tryz.func99, Tryz.ntmps99
 go_wp2_with fail
 refine H.out.mono ?_
 rintro E W1 ⟨rfl, hG⟩
 have hk : ∀ k, k < W.heap.size → k ≠ p → W1.heap[k]? = W.heap[k]? := fun k h1 h2 => hG.2.block k h1 (by simpa using h2)
 have r1 : W1.cell? ⟨r, 0, none⟩ = some (.pointer (some ⟨p, 0, none⟩)) := (World.cell?_of_block (hk r hrlt hrp)).trans hr
 have s1 : W1.cell? ⟨s, 0, none⟩ = some (.slice AL L.length cL) := (World.cell?_of_block (hk s hslt hsp)).trans hs
 have u1 : W1.cell? ⟨u, 0, none⟩ = some (.int .i64 e0) := (World.cell?_of_block (hk u hult hup)).trans hu
 have HL1 := Lib.hid (hL.grown hG.2 (by simpa using hqp))
 obtain ⟨A, k, d0, d1, d2, l0, l1, l2, gle, gq, glt, ga⟩ := hG.1.cells
 have HG := Lib.hid hG
 clear hG hk H gq hL hr hs hu
 go_wp2_with fail
 go_loop [6, 11] (fun _ k => ∃ j : Nat, j ≤ L.length ∧ k = .int .i64 j ∧ Hid (∀ y ∈ L.take j, ¬ y = b)) (fun _ k => L.length - (intOf k).toNat)
 case atStart => exact ⟨0, Nat.zero_le _, rfl, by intro y hy; simp at hy⟩
 case round =>
  obtain ⟨j, hj, rfl, hno⟩ := hrel
  by_cases hlt : j < L.length
  ·obtain ⟨o, x, rfl, hx, hc⟩ := HL1.out.at_ j hlt
   by_cases hxb : x = b
   ·have hxb2 : (x == b) = true := by simpa using hxb
    have HM := Lib.hid (show b ∈ L from by rw [← hxb]; exact List.mem_of_getElem? hx.out)
    clear hxb
    go_wp2_with fail
    go_ret
    rcases HC.out with ⟨rfl, h1, rfl, h3⟩ | ⟨rfl, h1⟩
    ·rw [h1, if_pos HM.out]
     exact ⟨b, a + 1, rfl, fun _ => ⟨(Int.toNat_of_nonneg h3).symm, rfl⟩, HG.out⟩
    ·rw [h1]
     exact ⟨b, a1, rfl, (fun h => (by cases h)), HG.out⟩
   ·have hxb2 : (x == b) = false := by simpa using hxb
    have HN := Lib.hid (take_all_succ hno.out hx.out hxb)
    clear hxb
    go_wp2_with fail
    go_round
    case rel => exact ⟨j + 1, by omega, by go_num, HN⟩
    case measure => simp [intOf]; omega
  ·obtain rfl : j = L.length := by omega
   have HNO := Lib.hid (show ¬ b ∈ L from fun h => by have := hno.out b; rw [List.take_length] at this; exact this h rfl)
   go_wp2_with fail
   go_still_tail 9, (by kernel_rfl)
   change wpList _ _ _ _ _ W1.drew
   have HD := Lib.hid (Goes.trans HG.out (Goes.drewN HG.out.1 1))
   have HDC := Lib.hid (show Cur W1.drew p q B a1 e1 from HD.out.1)
   have HG2 := Lib.hid (show W.grownBy W1.drew (some p) from HD.out.2)
   have HF := Lib.hid (show ∀ X, Cur X p q B a1 e1 → Calls Tryz.prog 64 #[.pointer (some ⟨p, 0, none⟩), .int .i64 e0, .int .i64 a1] X fun E w' => E = .returned (.tuple #[]) ∧ Goes X w' p q B a1 (failE e1 e0) from fun X hX => by
    by_cases h0 : e1 = 0
    ·subst h0
     rw [failE, if_pos rfl]
     exact fail_yes X p q B a1 a1 e0 hX H0.out ga
    ·rw [failE, if_neg h0]
     exact (fail_no X p q B a1 e1 e0 a1 hX (beq_eq_false_iff_ne.2 h0)).mono (by rintro E w' ⟨rfl, rfl⟩; exact ⟨rfl, Goes.same hX⟩))
   clear HD
   generalize W1.drew = W2 at *
   go_wp2_with fail
   refine (HF.out _ HDC.out).mono ?_
   rintro E w' ⟨rfl, hG⟩
   have HGo := Lib.hid hG
   clear hG
   go_wp2_with fail
   go_ret
   have hfin := Goes.trans (⟨HDC.out, HG2.out⟩ : Goes W W2 p q B a1 e1) HGo.out
   have hne := H0.out
   rcases HC.out with ⟨rfl, h1, rfl, h3⟩ | ⟨rfl, h1⟩
   ·rw [h1, if_neg HNO.out]
    exact ⟨0, a + 1, rfl, (fun h => (by rw [show numE (Except.error e0) = e0 from rfl] at h; rw [h] at hne; cases hne)), hfin⟩
   ·rw [h1]
    exact ⟨0, a1, rfl, (fun h => (by cases h)), hfin⟩
end Go.Proofs.YtofaiocffifhfaaGreat
end
section
namespace Go.Proofs.YtofaiocffifhfaaGreat
open Go.RowKit Go.Shelf YtofaiocffifhfaaGreatB Go.Proofs.YtofaiocffifhfaaGreatW.PrintWords
set_option maxRecDepth 100000 in
theorem among_any (W : World) (p q ql : Nat) (B : List Int) (a : Nat) (e e0 : Int) (AL : Option Addr) (cL : Nat) (L : List Int) (hC : Cur W p q B a e) (hB : Byts B) (h0 : (e0 == 0) = false) (hqp : ql ≠ p) (hL : ByQ W ql AL L) (hLl : L.length ≤ 100) :
  Calls Tryz.prog 63 #[.pointer (some ⟨p, 0, none⟩), .int .i64 e0, .slice AL L.length cL] W fun E w' => E = .returned (.int .u8 (rdOf (amongM B a L e0) a e).1) ∧ Goes W w' p q B (rdOf (amongM B a L e0) a e).2.1 (rdOf (amongM B a L e0) a e).2.2 := by
 have hplt := hC.lt
 have hC2 := ((hC.alloc (.cells #[.pointer (some ⟨p, 0, none⟩)] 53)).alloc (.cells #[.int .i64 e0] 35)).alloc (.cells #[.slice AL L.length cL] 22)
 have b1 := ((Blk.new W #[.pointer (some ⟨p, 0, none⟩)] 53).alloc (.cells #[.int .i64 e0] 35)).alloc (.cells #[.slice AL L.length cL] 22)
 have b2 := (Blk.new (W.alloc (.cells #[.pointer (some ⟨p, 0, none⟩)] 53)) #[.int .i64 e0] 35).alloc (.cells #[.slice AL L.length cL] 22)
 have b3 := Blk.new ((W.alloc (.cells #[.pointer (some ⟨p, 0, none⟩)] 53)).alloc (.cells #[.int .i64 e0] 35)) #[.slice AL L.length cL] 22
 have hL2 := ((hL.grown (World.grownBy_alloc W (.cells #[.pointer (some ⟨p, 0, none⟩)] 53) none) (by simp)).grown (World.grownBy_alloc _ (.cells #[.int .i64 e0] 35) none) (by simp)).grown (World.grownBy_alloc _ (.cells #[.slice AL L.length cL] 22) none) (by simp)
 rw [World.size_alloc, World.size_alloc] at b3
 rw [World.size_alloc] at b2
 by_cases he : e = 0
 ·subst he
  have H := Lib.hid (reads_ex_byte _ p q B a _ ent_among1 #[.pointer (some ⟨W.heap.size, 0, none⟩), .pointer (some ⟨W.heap.size + 1 + 1, 0, none⟩), .pointer (some ⟨W.heap.size + 1, 0, none⟩)] (fun v nx => numE (amongM B a L e0) = 0 → v = numV (amongM B a L e0) ∧ nx = numA a (amongM B a L e0)) (numE (amongM B a L e0)) hC2
   (among1_any _ p q W.heap.size (W.heap.size + 1 + 1) (W.heap.size + 1) ql B a e0 AL cL L hC2 hB h0 (by omega) (by omega) (by omega) hqp (by rw [b1.cell]; rfl) (by rw [b3.cell]; rfl) (by rw [b2.cell]; rfl) hL2 hLl))
  have HR := Lib.hid (rs_num a (amongM B a L e0) (amongM_err h0))
  have HV := Lib.hid (show rdOf (amongM B a L e0) a 0 = (numV (amongM B a L e0), numA a (amongM B a L e0), numE (amongM B a L e0)) from rfl)
  clear hC hC2 hB b1 b2 b3 hL hL2 h0
  go_enter Tryz.func63, Tryz.ntmps63
  go_wp2_with fail
  refine H.out.mono ?_
  rintro E W1 ⟨v, nx, hv, rfl, hG⟩
  have hvv : rsV v (numE (amongM B a L e0)) = numV (amongM B a L e0) ∧ rsA a nx (numE (amongM B a L e0)) = numA a (amongM B a L e0) := by
   by_cases h0 : numE (amongM B a L e0) = 0
   ·obtain ⟨rfl, rfl⟩ := hv h0
    exact HR.out
   ·have h1 := HR.out
    simp only [rsV, rsA, if_neg h0] at h1 ⊢
    exact h1
  rw [hvv.1]
  rw [hvv.2] at hG
  have HG := Lib.hid hG
  clear hG H HR hvv hv
  go_wp2_with fail
  go_ret
  rw [HV.out]
  exact ⟨rfl, HG.out.of_alloc.of_alloc.of_alloc⟩
 ·have H := Lib.hid (reads_bad_byte _ p q B a e (.func (.func 99) #[] #[.pointer (some ⟨W.heap.size, 0, none⟩), .pointer (some ⟨W.heap.size + 1 + 1, 0, none⟩), .pointer (some ⟨W.heap.size + 1, 0, none⟩)]) hC2 (beq_eq_false_iff_ne.2 he))
  have HV := Lib.hid (show rdOf (amongM B a L e0) a e = (0, a, e) from by simp [rdOf, he])
  have HG := Lib.hid (Goes.of_alloc (Goes.of_alloc (Goes.of_alloc (Goes.same hC2))))
  clear hC hC2 hB he b1 b2 b3 hL hL2 h0
  go_enter Tryz.func63, Tryz.ntmps63
  go_wp2_with fail
  refine H.out.mono ?_
  rintro E W1 ⟨rfl, rfl⟩
  go_wp2_with fail
  go_ret
  rw [HV.out]
  exact ⟨rfl, HG.out⟩
def resM (B : List Int) (a : Nat) : Except Int (Nat × Nat) := match amongM B a [127, 126, 125, 124, 64] 106 with | .error e => .error e | .ok (n, nx) => .ok (if n = 64 then 0 else n, nx)
theorem lit_ByQ (W : World) (L : List Int) (t : TypeId) : ByQ (W.alloc (.cells (L.map (Value.int .u8)).toArray t)) W.heap.size (some ⟨W.heap.size, 0, none⟩) L := fun _ =>
 ⟨0, rfl, fun j x hx => by rw [Nat.zero_add, (Blk.new W (L.map (Value.int .u8)).toArray t).cell]; simp [hx]⟩
set_option maxRecDepth 100000 in
theorem Results_any (W : World) (p q : Nat) (B : List Int) (a : Nat) (e : Int) (hC : Cur W p q B a e) (hB : Byts B) :
  Calls Tryz.prog 159 #[.pointer (some ⟨p, 0, none⟩)] W fun E w' => E = .returned (.int .u8 (rdOf (resM B a) a e).1) ∧ Goes W w' p q B (rdOf (resM B a) a e).2.1 (rdOf (resM B a) a e).2.2 := by
 have hplt := hC.lt
 have H := Lib.hid (among_any _ p q W.heap.size B a e 106 (some ⟨W.heap.size, 0, none⟩) 5 [127, 126, 125, 124, 64] (hC.alloc (.cells (([127, 126, 125, 124, 64] : List Int).map (Value.int .u8)).toArray 5)) hB rfl (by omega) (lit_ByQ W [127, 126, 125, 124, 64] 5) (by decide))
 obtain ⟨r, hr⟩ : ∃ r, r = amongM B a [127, 126, 125, 124, 64] 106 := ⟨_, rfl⟩
 rw [← hr] at H
 have HV := Lib.hid (show (rdOf (resM B a) a e) = (if (rdOf r a e).1 = 64 then 0 else (rdOf r a e).1, (rdOf r a e).2) from by
  unfold resM rdOf
  rw [← hr]
  rcases r with e' | ⟨n, nx⟩
  ·by_cases h : e = 0 <;> simp [h, numV, numA, numE]
  ·by_cases h : e = 0
   ·by_cases h2 : n = 64
    ·simp [h, h2, numV, numA, numE]
    ·have h3 : ¬ (n : Int) = 64 := by omega
     simp [h, h2, h3, numV, numA, numE]
   ·simp [h])
 generalize rdOf r a e = t at *
 obtain ⟨v, a', e'⟩ := t
 have hb := Lib.hid hr
 clear hr hC hB
 by_cases h64 : v = 64
 ·subst h64
  rw [if_pos rfl] at HV
  go_enter Tryz.func159, Tryz.ntmps159
  go_wp2_with fail
  refine H.out.mono ?_
  rintro E W1 ⟨rfl, hG⟩
  have HG := Lib.hid hG
  clear hG H
  go_wp2_with fail
  go_ret
  rw [HV.out]
  exact ⟨rfl, HG.out.of_alloc⟩
 ·rw [if_neg h64] at HV
  have hv2 : (v == 64) = false := by simpa using h64
  clear h64
  go_enter Tryz.func159, Tryz.ntmps159
  go_wp2_with fail
  refine H.out.mono ?_
  rintro E W1 ⟨rfl, hG⟩
  have HG := Lib.hid hG
  clear hG H
  go_wp2_with fail
  go_ret
  rw [HV.out]
  exact ⟨rfl, HG.out.of_alloc⟩
end Go.Proofs.YtofaiocffifhfaaGreat
end
section
namespace Go.Proofs.YtofaiocffifhfaaGreat
open Go.RowKit Go.Shelf YtofaiocffifhfaaGreatB Go.Proofs.YtofaiocffifhfaaGreatW.PrintWords
def RvPost (Z : Value) (W : World) (p q : Nat) (B : List Int) (a nx : Nat) (e' : Int) (Rv : Value → World → Prop) (E : Ending) (w' : World) : Prop :=
 (∃ v, E = .returned v ∧ (e' = 0 → Rv v w') ∧ (e' ≠ 0 → v = Z)) ∧ Goes W w' p q B (rsA a nx e') e'
set_option maxRecDepth 100000 in
theorem reads_bad_bytes (W : World) (p q : Nat) (B : List Int) (a : Nat) (e : Int) (f : Value) (hC : Cur W p q B a e) (he : (e == 0) = false) :
  Calls Tryz.prog 101 #[.pointer (some ⟨p, 0, none⟩), f] W fun E w' => E = .returned (.slice none 0 0) ∧ W = w' := by
 have HC := Lib.hid hC
 have HE := Lib.hid he
 clear hC he
 go_enter Tryz.func101, Tryz.ntmps101
 go_wp2_with (go_at_call 96; refine (good_any _ _ _ _ _ _ false HC.out HE.out).mono ?_; rintro e w' ⟨rfl, rfl⟩)
 go_ret
 exact ⟨rfl, rfl⟩
set_option maxRecDepth 100000 in
theorem reads_v_bytes (W : World) (p q : Nat) (B : List Int) (a nx : Nat) (g : FuncId) (hent : Enters Tryz.prog g) (lb : Array Value) (Rv : Value → World → Prop) (e' : Int) (hC : Cur W p q B a 0)
  (hg : Calls Tryz.prog g lb W fun E w' => ∃ v, E = .returned v ∧ Rv v w' ∧ Goes W w' p q B nx e') :
  Calls Tryz.prog 101 #[.pointer (some ⟨p, 0, none⟩), .func (.func g) #[] lb] W (RvPost (.slice none 0 0) W p q B a nx e' Rv) := by
 have HC := Lib.hid hC
 have HG := Lib.hid hg
 obtain ⟨A, c, c0, c1, c2, f0, f1, f2, hle, hq, hlt, ha⟩ := hC.cells
 have hin : ∀ args w, Sem.run Tryz.prog (callFunc g args) w = .ok (.enter g args) w := hent
 clear hC hg hq hent
 go_enter Tryz.func101, Tryz.ntmps101
 go_wp2_with fail
 refine (good_any _ _ _ _ _ _ true HC.out rfl).mono ?_
 rintro E w' ⟨rfl, rfl⟩
 go_wp2_with fail
 refine HG.out.mono ?_
 rintro E W2 ⟨v, rfl, hR, hG2⟩
 have HR := Lib.hid hR
 clear hR
 by_cases he : e' = 0
 ·subst he
  have HG2 := Lib.hid hG2
  clear hG2 HG
  go_wp2_with fail
  refine (good_any _ _ _ _ _ _ true HG2.out.1 rfl).mono ?_
  rintro E w' ⟨rfl, rfl⟩
  go_wp2_with fail
  go_ret
  exact ⟨⟨v, rfl, fun _ => HR.out, fun h => absurd rfl h⟩, HG2.out⟩
 ·have he2 : (e' == 0) = false := beq_eq_false_iff_ne.2 he
  have HE2 := Lib.hid he2
  obtain ⟨A', c', g0, g1, g2, k0, k1, k2, gle, gq, glt, ga⟩ := hG2.1.cells
  have HG2 := Lib.hid hG2
  have HE := Lib.hid he
  clear hG2 HG gq he2 he
  go_wp2_with fail
  refine (good_any _ _ _ _ _ _ false HG2.out.1 HE2.out).mono ?_
  rintro E w' ⟨rfl, rfl⟩
  go_wp2_with fail
  go_ret
  refine ⟨⟨_, rfl, fun h => absurd h HE.out, fun _ => rfl⟩, ?_⟩
  rw [rsA, if_neg HE.out]
  exact ⟨HG2.out.1.setAt a ha, HG2.out.2.trans (gset _ _ _ _)⟩
set_option maxRecDepth 100000 in
theorem reads_bad_str (W : World) (p q : Nat) (B : List Int) (a : Nat) (e : Int) (f : Value) (hC : Cur W p q B a e) (he : (e == 0) = false) :
  Calls Tryz.prog 103 #[.pointer (some ⟨p, 0, none⟩), f] W fun E w' => E = .returned (.string ⟨#[]⟩) ∧ W = w' := by
 have HC := Lib.hid hC
 have HE := Lib.hid he
 clear hC he
 go_enter Tryz.func103, Tryz.ntmps103
 go_wp2_with (go_at_call 96; refine (good_any _ _ _ _ _ _ false HC.out HE.out).mono ?_; rintro e w' ⟨rfl, rfl⟩)
 go_ret
 exact ⟨rfl, rfl⟩
set_option maxRecDepth 100000 in
theorem reads_v_str (W : World) (p q : Nat) (B : List Int) (a nx : Nat) (g : FuncId) (hent : Enters Tryz.prog g) (lb : Array Value) (Rv : Value → World → Prop) (e' : Int) (hC : Cur W p q B a 0)
  (hg : Calls Tryz.prog g lb W fun E w' => ∃ v, E = .returned v ∧ Rv v w' ∧ Goes W w' p q B nx e') :
  Calls Tryz.prog 103 #[.pointer (some ⟨p, 0, none⟩), .func (.func g) #[] lb] W (RvPost (.string ⟨#[]⟩) W p q B a nx e' Rv) := by
 have HC := Lib.hid hC
 have HG := Lib.hid hg
 obtain ⟨A, c, c0, c1, c2, f0, f1, f2, hle, hq, hlt, ha⟩ := hC.cells
 have hin : ∀ args w, Sem.run Tryz.prog (callFunc g args) w = .ok (.enter g args) w := hent
 clear hC hg hq hent
 go_enter Tryz.func103, Tryz.ntmps103
 go_wp2_with fail
 refine (good_any _ _ _ _ _ _ true HC.out rfl).mono ?_
 rintro E w' ⟨rfl, rfl⟩
 go_wp2_with fail
 refine HG.out.mono ?_
 rintro E W2 ⟨v, rfl, hR, hG2⟩
 have HR := Lib.hid hR
 clear hR
 by_cases he : e' = 0
 ·subst he
  have HG2 := Lib.hid hG2
  clear hG2 HG
  go_wp2_with fail
  refine (good_any _ _ _ _ _ _ true HG2.out.1 rfl).mono ?_
  rintro E w' ⟨rfl, rfl⟩
  go_wp2_with fail
  go_ret
  exact ⟨⟨v, rfl, fun _ => HR.out, fun h => absurd rfl h⟩, HG2.out⟩
 ·have he2 : (e' == 0) = false := beq_eq_false_iff_ne.2 he
  have HE2 := Lib.hid he2
  obtain ⟨A', c', g0, g1, g2, k0, k1, k2, gle, gq, glt, ga⟩ := hG2.1.cells
  have HG2 := Lib.hid hG2
  have HE := Lib.hid he
  clear hG2 HG gq he2 he
  go_wp2_with fail
  refine (good_any _ _ _ _ _ _ false HG2.out.1 HE2.out).mono ?_
  rintro E w' ⟨rfl, rfl⟩
  go_wp2_with fail
  go_ret
  refine ⟨⟨_, rfl, fun h => absurd h HE.out, fun _ => rfl⟩, ?_⟩
  rw [rsA, if_neg HE.out]
  exact ⟨HG2.out.1.setAt a ha, HG2.out.2.trans (gset _ _ _ _)⟩
end Go.Proofs.YtofaiocffifhfaaGreat
end
section
namespace Go.Proofs.YtofaiocffifhfaaGreat
open Go.RowKit Go.Shelf YtofaiocffifhfaaGreatB Go.Proofs.YtofaiocffifhfaaGreatW.PrintWords
def valM (B : List Int) (a : Nat) : Except Int (Nat × Nat) := amongM B a [127, 126, 125, 124] 106
set_option maxRecDepth 100000 in
theorem Value_any (W : World) (p q : Nat) (B : List Int) (a : Nat) (e : Int) (hC : Cur W p q B a e) (hB : Byts B) :
  Calls Tryz.prog 35 #[.pointer (some ⟨p, 0, none⟩)] W fun E w' => E = .returned (.int .u8 (rdOf (valM B a) a e).1) ∧ Goes W w' p q B (rdOf (valM B a) a e).2.1 (rdOf (valM B a) a e).2.2 := by
 have hplt := hC.lt
 have H := Lib.hid (among_any _ p q W.heap.size B a e 106 (some ⟨W.heap.size, 0, none⟩) 4 [127, 126, 125, 124] (hC.alloc (.cells (([127, 126, 125, 124] : List Int).map (Value.int .u8)).toArray 5)) hB rfl (by omega) (lit_ByQ W [127, 126, 125, 124] 5) (by decide))
 obtain ⟨r, hr⟩ : ∃ r, r = rdOf (valM B a) a e := ⟨_, rfl⟩
 have hr2 : rdOf (amongM B a [127, 126, 125, 124] 106) a e = r := hr.symm
 rw [hr2] at H
 rw [← hr]
 clear hr hr2 hC hB
 obtain ⟨v, a', e'⟩ := r
 go_enter Tryz.func35, Tryz.ntmps35
 go_wp2_with fail
 refine H.out.mono ?_
 rintro E W1 ⟨rfl, hG⟩
 have HG := Lib.hid hG
 clear hG H
 go_wp2_with fail
 go_ret
 exact ⟨rfl, HG.out.of_alloc⟩
end Go.Proofs.YtofaiocffifhfaaGreat
end
section
namespace Go.Proofs.YtofaiocffifhfaaGreatB
open Go.RowKit Go.Proofs.YtofaiocffifhfaaGreatW.PrintWords
structure G2 (W W' : World) (p s : Nat) : Prop where
 os : W'.os = W.os
 tape : W'.tape = W.tape
 output : W'.output = W.output
 size : W.heap.size ≤ W'.heap.size
 block : ∀ k, k < W.heap.size → k ≠ p → k ≠ s → W'.heap[k]? = W.heap[k]?
theorem G2.refl (W : World) (p s : Nat) : G2 W W p s := ⟨rfl, rfl, rfl, Nat.le_refl _, fun _ _ _ _ => rfl⟩
theorem G2.trans {W W1 W2 : World} {p s : Nat} (h : G2 W W1 p s) (h' : G2 W1 W2 p s) : G2 W W2 p s :=
 ⟨h'.os.trans h.os, h'.tape.trans h.tape, h'.output.trans h.output, Nat.le_trans h.size h'.size, fun k hk h1 h2 => (h'.block k (Nat.lt_of_lt_of_le hk h.size) h1 h2).trans (h.block k hk h1 h2)⟩
theorem G2.of_grown {W W' : World} {p s : Nat} {row : Option Nat} (h : W.grownBy W' row) (hr : ∀ k, row = some k → k = p ∨ k = s ∨ W.heap.size ≤ k) : G2 W W' p s :=
 ⟨h.os, h.tape, h.output, h.size, fun k hk h1 h2 => h.block k hk (fun e => by rcases hr k e.symm with h | h | h <;> omega)⟩
theorem Blk.g2 {W W' : World} {g p s : Nat} {cs : Array Value} {t : TypeId} (h : Blk W g cs t) (hg : G2 W W' p s) (h1 : g ≠ p) (h2 : g ≠ s) : Blk W' g cs t := (hg.block g h.lt h1 h2).trans h
theorem G2.grown {W W1 W2 : World} {p s : Nat} (h : G2 W W1 p s) {row : Option Nat} (hg : W1.grownBy W2 row) (hr : ∀ r, row = some r → r = p ∨ r = s ∨ W.heap.size ≤ r) : G2 W W2 p s := by
 refine ⟨hg.os.trans h.os, hg.tape.trans h.tape, hg.output.trans h.output, Nat.le_trans h.size hg.size, fun k hk h1 h2 => (hg.block k (Nat.lt_of_lt_of_le hk h.size) (fun e => ?_)).trans (h.block k hk h1 h2)⟩
 rcases hr k e.symm with h | h | h <;> omega
theorem G2.alloc {W W1 : World} {p s : Nat} (h : G2 W W1 p s) (o : Obj) : G2 W (W1.alloc o) p s := h.grown (World.grownBy_alloc W1 o none) (fun r e => by cases e)
theorem Own.g2 {α : Type} {d : Kd α} {e base p s : Nat} {W W' : World} {ok : Nat → Prop} {v : Value} {xs : List α} (h : Own d e W base ok v xs) (hg : G2 W W' p s) (h1 : v.ownBlock ≠ some p) (h2 : v.ownBlock ≠ some s) (hok : ∀ k, ok k → k ≠ p ∧ k ≠ s) : Own d e W' base ok v xs := by
 have hb := fun k hk => (Own.block h (k := k) hk).2
 obtain ⟨inner, ho, hr⟩ := h
 exact ⟨inner, own_move ho (fun k hk => hg.block k (hb k hk) (fun e => h1 (e ▸ hk)) (fun e => h2 (e ▸ hk))), hr.imp_ (fun _ _ hp => Ft.step hp ⟨hg.os, hg.tape, hg.output, hg.size, fun k hk hlt => hg.block k hlt (hok k hk.1).1 (hok k hk.1).2⟩)⟩
end Go.Proofs.YtofaiocffifhfaaGreatB
namespace Go.Proofs.YtofaiocffifhfaaGreat
open Go.RowKit Go.Shelf YtofaiocffifhfaaGreatB Go.Proofs.YtofaiocffifhfaaGreatW.PrintWords
theorem Cur.grown' {W W' : World} {p q : Nat} {B : List Int} {a : Nat} {e : Int} (h : Cur W p q B a e) {row : Option Nat} (hg : W.grownBy W' row) (hp : some p ≠ row) (hq : 0 < B.length → some q ≠ row) : Cur W' p q B a e := by
 obtain ⟨h0, h1, A, c, h2, h3, h4⟩ := h
 exact ⟨h0, h1, A, c, h2, h3.grown hg hp, fun hl => (ByQ.grown h4 hg (hq hl)) hl⟩
theorem Cur.qlt' {W : World} {p q : Nat} {B : List Int} {a : Nat} {e : Int} (h : Cur W p q B a e) (hl : 0 < B.length) : q < W.heap.size := by
 obtain ⟨h0, h1, A, c, h2, h3, h4⟩ := h
 obtain ⟨o, x, _, _, hc⟩ := h4.at_ 0 hl
 exact World.block_lt_of_cell? _ _ hc
theorem Cur.other {W : World} {p q : Nat} {B : List Int} {a : Nat} {e : Int} (h : Cur W p q B a e) (r i : Nat) (v : Value) (hp : r ≠ p) (hq : 0 < B.length → r ≠ q) : Cur (W.setCell ⟨r, i, none⟩ v) p q B a e :=
 h.grown' (gset W r i v) (fun e => hp (by injection e with e; exact e.symm)) (fun hl e => hq hl (by injection e with e; exact e.symm))
theorem _root_.Go.Proofs.YtofaiocffifhfaaGreatB.G2.set {W W1 : World} {p s : Nat} (h : G2 W W1 p s) (r i : Nat) (v : Value) (hr : r = p ∨ r = s ∨ W.heap.size ≤ r) : G2 W (W1.setCell ⟨r, i, none⟩ v) p s := by
 have hg := gset W1 r i v
 refine ⟨hg.os.trans h.os, hg.tape.trans h.tape, hg.output.trans h.output, Nat.le_trans h.size hg.size, fun k hk h1 h2 => (hg.block k (Nat.lt_of_lt_of_le hk h.size) (fun e => ?_)).trans (h.block k hk h1 h2)⟩
 injection e with e
 rcases hr with h | h | h <;> omega
def grpM (B : List Int) (a : Nat) : (Int × Int) × Nat × Int :=
 let r := rdOf (u32M B a) a 0
 let t := rdOf (valM B r.2.1) r.2.1 r.2.2
 ((r.1, t.1), t.2.1, t.2.2)
def GrpPost (W : World) (p q bp bs : Nat) (B : List Int) (pc : Array Value) (s : Int) (r : (Int × Int) × Nat × Int) (E : Ending) (W' : World) : Prop :=
 E = .returned (.agg #[.int .u32 r.1.1, .int .u8 r.1.2]) ∧ Cur W' p q B r.2.1 r.2.2 ∧ Blk W' bp pc 67 ∧ Blk W' bs #[.int .u64 (s + r.1.1)] 125 ∧ G2 W W' p bs
theorem rdOf_u32 {B : List Int} {a : Nat} (hB : Byts B) : 0 ≤ (rdOf (u32M B a) a 0).1 ∧ (rdOf (u32M B a) a 0).1 ≤ 4294967295 := by
 rw [rdOf, if_pos rfl]
 cases h : u32M B a with
 | error e => simp [numV]
 | ok r =>
  obtain ⟨n, nx⟩ := r
  have := (u32M_lt hB h).1
  simp only [numV]
  omega
set_option maxRecDepth 100000 in
theorem grp_any (W : World) (p q bp bs : Nat) (B : List Int) (a : Nat) (sat : Bool) (s : Int) (hC : Cur W p q B a 0) (hB : Byts B) (hs0 : 0 ≤ s) (hs1 : s ≤ 35184372088832) (hbp : Blk W bp #[.pointer (some ⟨p, 0, none⟩), .bool sat] 67) (hbs : Blk W bs #[.int .u64 s] 125)
  (h1 : bp ≠ p) (h2 : bs ≠ p) (h3 : bs ≠ bp) (h4 : bs ≠ q) :
  Calls Tryz.prog 33 #[.pointer (some ⟨bp, 0, none⟩), .pointer (some ⟨bs, 0, none⟩)] W (GrpPost W p q bp bs B #[.pointer (some ⟨p, 0, none⟩), .bool sat] s (grpM B a)) := by
 have hn := rdOf_u32 (a := a) hB
 have HU := Lib.hid (fun X (hX : Cur X p q B a 0) => U32_any X p q B a 0 hX hB)
 have HV := Lib.hid (fun X a1 e1 (hX : Cur X p q B a1 e1) => Value_any X p q B a1 e1 hX hB)
 have HG := Lib.hid (show grpM B a = ((((rdOf (u32M B a) a 0).1, (rdOf (valM B (rdOf (u32M B a) a 0).2.1) (rdOf (u32M B a) a 0).2.1 (rdOf (u32M B a) a 0).2.2).1), (rdOf (valM B (rdOf (u32M B a) a 0).2.1) (rdOf (u32M B a) a 0).2.1 (rdOf (u32M B a) a 0).2.2).2) : (Int × Int) × Nat × Int) from rfl)
 generalize hr : rdOf (u32M B a) a 0 = r at *
 obtain ⟨n, a1, e1⟩ := r
 generalize ht : rdOf (valM B a1) a1 e1 = t at *
 obtain ⟨ty, a2, e2⟩ := t
 have HV1 := Lib.hid (fun X (hX : Cur X p q B a1 e1) => by have := HV.out X a1 e1 hX; rw [ht] at this; exact this : ∀ X, Cur X p q B a1 e1 → Calls Tryz.prog 35 #[.pointer (some ⟨p, 0, none⟩)] X fun E w' => E = .returned (.int .u8 ty) ∧ Goes X w' p q B a2 e2)
 have c0 : W.cell? ⟨bp, 0, none⟩ = some (.pointer (some ⟨p, 0, none⟩)) := hbp.cell 0
 have hbl := hbp.lt
 have hsl := hbs.lt
 have hpl := hC.lt
 have HQ := Lib.hid (fun hl => hC.qlt' hl : 0 < B.length → q < W.heap.size)
 have HC := Lib.hid (hC.alloc (.cells #[.int .u32 0, .int .u8 0] 129))
 have HP := Lib.hid (hbp.alloc (.cells #[.int .u32 0, .int .u8 0] 129))
 have HS := Lib.hid (hbs.alloc (.cells #[.int .u32 0, .int .u8 0] 129))
 have H1 := Lib.hid h1
 have H2 := Lib.hid h2
 have H3 := Lib.hid h3
 have H4 := Lib.hid h4
 clear hC hbp hbs h1 h2 h3 h4 HV hr ht
 rw [HG.out]
 dsimp only at hn
 go_enter Tryz.func33, Tryz.ntmps33
 go_wp2_with fail
 refine (HU.out _ HC.out).mono ?_
 rintro E W1 ⟨rfl, hG1⟩
 have hz1 := hG1.2.size
 rw [World.size_alloc] at hz1
 have HG1 := Lib.hid hG1
 have HP1 := Lib.hid (HP.out.grown hG1.2 (fun e => H1.out (by injection e)))
 have HS1 := Lib.hid (HS.out.grown hG1.2 (fun e => H2.out (by injection e)))
 have c1 : W1.cell? ⟨bp, 0, none⟩ = some (.pointer (some ⟨p, 0, none⟩)) := HP1.out.cell 0
 have hbl1 := HP1.out.lt
 clear c0 hG1
 go_wp2_with fail
 have HC1 := Lib.hid (HG1.out.1.alloc (.cells #[.int .u32 n, .int .u8 0] 129))
 refine (HV1.out _ HC1.out).mono ?_
 rintro E W2 ⟨rfl, hG2⟩
 have hz2 := hG2.2.size
 rw [World.size_alloc] at hz2
 have hx3 := (Blk.new W1 #[.int .u32 n, .int .u8 0] 129).grown hG2.2 (fun e => by injection e with e; have := HG1.out.1.lt; omega)
 have hx2 := (((Blk.new W #[.int .u32 0, .int .u8 0] 129).grown HG1.out.2 (fun e => by injection e with e; omega)).alloc (.cells #[.int .u32 n, .int .u8 0] 129)).grown hG2.2 (fun e => by injection e with e; omega)
 have HP2 := Lib.hid ((HP1.out.alloc (.cells #[.int .u32 n, .int .u8 0] 129)).grown hG2.2 (fun e => H1.out (by injection e)))
 have HS2 := Lib.hid ((HS1.out.alloc (.cells #[.int .u32 n, .int .u8 0] 129)).grown hG2.2 (fun e => H2.out (by injection e)))
 have HG2 := Lib.hid hG2
 have HX3 := Lib.hid hx3
 have HX2 := Lib.hid hx2
 have b0 : W2.cell? ⟨W1.heap.size, 0, none⟩ = some (.int .u32 n) := hx3.cell 0
 have b1 : W2.cell? ⟨W1.heap.size, 1, none⟩ = some (.int .u8 0) := hx3.cell 1
 have k1 := hx3.frozen 1
 have d0 : W2.cell? ⟨W.heap.size, 0, none⟩ = some (.int .u32 0) := hx2.cell 0
 have d1 : W2.cell? ⟨W.heap.size, 1, none⟩ = some (.int .u8 0) := hx2.cell 1
 have l0 := hx2.frozen 0
 have l1 := hx2.frozen 1
 have s0 : W2.cell? ⟨bs, 0, none⟩ = some (.int .u64 s) := HS2.out.cell 0
 have m0 := HS2.out.frozen 0
 have n1 : W.heap.size < W1.heap.size := by omega
 have n2 : W1.heap.size < W2.heap.size := by omega
 have n3 : bs < W.heap.size := hsl
 have n4 : bs < W1.heap.size := by omega
 have hn0 := hn.1
 have hn1 := hn.2
 clear c1 hG2 hx3 hx2 hn
 go_wp2_with fail
 have hpq := HG2.out.1
 refine bodyPost_ret (v := .agg #[.int .u32 n, .int .u8 ty]) (by simp [results, Tryz.results33, go_sem, d0, d1, n1, n2, n3, n4]) rfl ⟨rfl, ?_, ?_, ?_, ?_⟩
 ·refine (((hpq.other W1.heap.size 1 _ (by have := HG1.out.1.lt; omega) ?_).other bs 0 _ H2.out (fun _ => H4.out)).other W.heap.size 0 _ (by omega) ?_).other W.heap.size 1 _ (by omega) ?_
  all_goals exact fun hl => by have := HQ.out hl; omega
 ·exact (((HP2.out.set_other _ _ (by show bp ≠ W1.heap.size; omega)).set_other _ _ (by show bp ≠ bs; exact fun e => H3.out e.symm)).set_other _ _ (by show bp ≠ W.heap.size; omega)).set_other _ _ (by show bp ≠ W.heap.size; omega)
 ·have := (HS2.out.set_other ⟨W1.heap.size, 1, none⟩ (.int .u8 ty) (by show bs ≠ W1.heap.size; omega)).set 0 (.int .u64 (s + n))
  exact (this.set_other _ _ (by show bs ≠ W.heap.size; omega)).set_other _ _ (by show bs ≠ W.heap.size; omega)
 ·refine (((G2.set ?_ W1.heap.size 1 _ (by omega)).set bs 0 _ (by omega)).set W.heap.size 0 _ (by omega)).set W.heap.size 1 _ (by omega)
  exact ((((G2.refl W p bs).alloc _).grown HG1.out.2 (fun r e => by injection e with e; omega)).alloc _).grown HG2.out.2 (fun r e => by injection e with e; omega)
end Go.Proofs.YtofaiocffifhfaaGreat
end
section
namespace Go.Proofs.YtofaiocffifhfaaGreatB
open Go.RowKit Go.Proofs.YtofaiocffifhfaaGreatW.PrintWords
def kG : Kd (Int × Int) where
 sz := 2
 E := []
 K := fun _ x cs => cs = [.int .u32 x.1, .int .u8 x.2]
 M := fun _ _ _ x cs => cs = [.int .u32 x.1, .int .u8 x.2]
 K_len := fun h => by rw [h]; rfl
 K_one := fun h u hu => by
  rw [h] at hu
  simp only [List.mem_cons, List.mem_nil_iff, or_false] at hu
  rcases hu with rfl | rfl <;> rfl
 K_below := fun _ h => h
 K_of_M := fun h => h
 M_mono := fun _ h => h
 M_bound := fun h => h
 M_move := fun _ h => h
 M_lower := fun _ h => h
end Go.Proofs.YtofaiocffifhfaaGreatB
namespace Go.Proofs.YtofaiocffifhfaaGreat
open Go.RowKit Go.Shelf YtofaiocffifhfaaGreatB Go.Proofs.YtofaiocffifhfaaGreatW.PrintWords
theorem infoG : (Tryz.prog.info? 129).map (fun i => (i.zero, i.size, i.bytes)) = some (some (.agg #[.int .u32 0, .int .u8 0]), 2, 8) := by kernel_rfl
theorem pgood_any (W : World) (p q : Nat) (B : List Int) (a : Nat) (e : Int) (sat b : Bool) (hC : Cur W p q B a e) (hb : (e == 0) = b) :
  Calls Tryz.prog 18 #[.agg #[.pointer (some ⟨p, 0, none⟩), .bool sat]] W fun E w' => E = .returned (.bool b) ∧ w' = W.alloc (.cells #[.pointer (some ⟨p, 0, none⟩), .bool sat] 67) := by
 have H := Lib.hid (err_any _ p q B a e (hC.alloc (.cells #[.pointer (some ⟨p, 0, none⟩), .bool sat] 67)))
 have HB := Lib.hid hb
 clear hC hb
 go_enter Tryz.func18, Tryz.ntmps18
 go_wp2_with (go_at_call 15; refine H.out.mono ?_; rintro E w' ⟨rfl, rfl⟩)
 go_ret
 exact ⟨by rw [← HB.out]; rfl, rfl⟩
def grpsM (B : List Int) : Nat → Nat → Int → List (Int × Int) × Nat × Int
 | 0, a, e => ([], a, e)
 | k + 1, a, e => if e = 0 then ((grpM B a).1 :: (grpsM B k (grpM B a).2.1 (grpM B a).2.2).1, (grpsM B k (grpM B a).2.1 (grpM B a).2.2).2) else ([], a, e)
theorem grpsM_bad (B : List Int) (k a : Nat) (e : Int) (h : (e == 0) = false) : grpsM B k a e = ([], a, e) := by
 cases k with
 | zero => rfl
 | succ k => rw [grpsM, if_neg (by simpa using h)]
def sumG (l : List (Int × Int)) : Int := (l.map (·.1)).sum
theorem sumG_snoc (l : List (Int × Int)) (x : Int × Int) : sumG (l ++ [x]) = sumG l + x.1 := by simp [sumG]
def ListGPost (W : World) (p q bp bs : Nat) (B : List Int) (pc : Array Value) (r : List (Int × Int) × Nat × Int) (E : Ending) (W' : World) : Prop :=
 ∃ v, E = .returned v ∧ Own kG 129 W' W.heap.size (fun _ => False) v r.1 ∧ Cur W' p q B r.2.1 r.2.2 ∧ Blk W' bp pc 67 ∧ Blk W' bs #[.int .u64 (sumG r.1)] 125 ∧ G2 W W' p bs
end Go.Proofs.YtofaiocffifhfaaGreat
end
section
namespace Go.Proofs.YtofaiocffifhfaaGreat
open Go.RowKit Go.Shelf YtofaiocffifhfaaGreatB Go.Proofs.YtofaiocffifhfaaGreatW.PrintWords
structure LG (W : World) (p q bp bs : Nat) (B : List Int) (pc : Array Value) (target : List (Int × Int) × Nat × Int) (c j : Nat) (v : Value) (done : List (Int × Int)) (a : Nat) (e : Int) (X : World) : Prop where
 own : Own kG 129 X W.heap.size (fun _ => False) v done
 cur : Cur X p q B a e
 kbp : Blk X bp pc 67
 kbs : Blk X bs #[.int .u64 (sumG done)] 125
 g : G2 W X p bs
 t : (done ++ (grpsM B (c - j) a e).1, (grpsM B (c - j) a e).2) = target
 len : done.length ≤ j
 sum : 0 ≤ sumG done ∧ sumG done ≤ 4294967296 * j
theorem countM_rd {B : List Int} {a : Nat} {e : Int} (hB : Byts B) : 0 ≤ (rdOf (countM B a) a e).1 ∧ (rdOf (countM B a) a e).1 ≤ 4096 := by
 unfold rdOf
 split
 ·cases h : countM B a with
  | error e => simp [numV]
  | ok r =>
   obtain ⟨n, nx⟩ := r
   have := (countM_ok hB h).1
   simp only [numV]
   omega
 ·simp
set_option maxRecDepth 100000 in
set_option maxHeartbeats 1000000 in
theorem listG_any (W : World) (p q bp bs : Nat) (B : List Int) (a : Nat) (e : Int) (sat : Bool) (hC : Cur W p q B a e) (hB : Byts B) (hbp : Blk W bp #[.pointer (some ⟨p, 0, none⟩), .bool sat] 67) (hbs : Blk W bs #[.int .u64 0] 125)
  (h1 : bp ≠ p) (h2 : bs ≠ p) (h3 : bs ≠ bp) (h4 : bs ≠ q) :
  Calls Tryz.prog 32 #[.agg #[.pointer (some ⟨p, 0, none⟩), .bool sat], .func (.func 33) #[] #[.pointer (some ⟨bp, 0, none⟩), .pointer (some ⟨bs, 0, none⟩)]] W
   (ListGPost W p q bp bs B #[.pointer (some ⟨p, 0, none⟩), .bool sat] (grpsM B (rdOf (countM B a) a e).1.toNat (rdOf (countM B a) a e).2.1 (rdOf (countM B a) a e).2.2)) := by
 have hc := countM_rd (a := a) (e := e) hB
 have hin : ∀ args w, Sem.run Tryz.prog (callFunc 33 args) w = .ok (.enter 33 args) w := enters_of Tryz.func33 (by kernel_rfl) rfl
 have hpl := hC.lt
 have HQ := Lib.hid (fun hl => hC.qlt' hl : 0 < B.length → q < W.heap.size)
 have hbl := hbp.lt
 have hsl := hbs.lt
 have H0 := Lib.hid (Count_any _ p q B a e (hC.alloc (.cells #[.pointer (some ⟨p, 0, none⟩), .bool sat] 67)) hB)
 generalize rdOf (countM B a) a e = r at *
 obtain ⟨n, a0, e0⟩ := r
 dsimp only at hc
 obtain ⟨c, rfl⟩ := Int.eq_ofNat_of_zero_le hc.1
 rw [Int.toNat_natCast]
 obtain ⟨tg, htg⟩ : ∃ tg, grpsM B c a0 e0 = tg := ⟨_, rfl⟩
 have HTG := Lib.hid htg
 rw [htg]
 have hc2 : (c : Int) ≤ 4096 := hc.2
 have HB := Lib.hid hB
 have HX := Lib.hid (Blk.new W #[.pointer (some ⟨p, 0, none⟩), .bool sat] 67)
 have HP := Lib.hid (hbp.alloc (.cells #[.pointer (some ⟨p, 0, none⟩), .bool sat] 67))
 have HS := Lib.hid (hbs.alloc (.cells #[.pointer (some ⟨p, 0, none⟩), .bool sat] 67))
 have H1 := Lib.hid h1
 have H2 := Lib.hid h2
 have H3 := Lib.hid h3
 have H4 := Lib.hid h4
 clear hC hB hbp hbs h1 h2 h3 h4 hc htg
 go_enter Tryz.func32, Tryz.ntmps32
 go_wp2_with fail
 refine H0.out.mono ?_
 rintro E W1 ⟨rfl, hG1⟩
 have hz1 := hG1.2.size
 rw [World.size_alloc] at hz1
 have HX1 := Lib.hid (HX.out.grown hG1.2 (fun e => by injection e with e; omega))
 have HL := Lib.hid (⟨Own.nil, hG1.1, HP.out.grown hG1.2 (fun e => H1.out (by injection e)), HS.out.grown hG1.2 (fun e => H2.out (by injection e)), ((G2.refl W p bs).alloc _).grown hG1.2 (fun r e => by injection e with e; omega), by rw [Nat.sub_zero, HTG.out]; rfl, Nat.le_refl _, by simp [sumG]⟩ : LG W p q bp bs B #[.pointer (some ⟨p, 0, none⟩), .bool sat] tg c 0 (.slice none 0 0) [] a0 e0 W1)
 clear hG1 H0
 go_wp2_with fail
 go_loopw [5, 7] (fun v i wr => ∃ (j : Nat) (done : List (Int × Int)) (a : Nat) (e : Int), j ≤ c ∧ i = .int .i64 j ∧ Hid (LG W p q bp bs B #[.pointer (some ⟨p, 0, none⟩), .bool sat] tg c j v done a e wr) ∧ Hid (Blk wr W.heap.size #[.pointer (some ⟨p, 0, none⟩), .bool sat] 67)) (fun _ i _ => c - (intOf i).toNat)
 case atStart => exact ⟨0, [], a0, e0, Nat.zero_le _, rfl, HL, HX1⟩
 case round =>
  rename_i u5 _
  obtain ⟨j, done, a', e', hj, rfl, HLj, HXj⟩ := hrel
  clear HL HX1
  have b0 : wr.cell? ⟨W.heap.size, 0, none⟩ = some (.pointer (some ⟨p, 0, none⟩)) := HXj.out.cell 0
  have b1 : wr.cell? ⟨W.heap.size, 1, none⟩ = some (.bool sat) := HXj.out.cell 1
  have hwl := HXj.out.lt
  by_cases hlt : j < c
  ·have hlt2 : (j : Int) < (c : Int) := by omega
   by_cases he : e' = 0
   ·subst he
    have HPG := Lib.hid (pgood_any wr p q B a' 0 sat true HLj.out.cur rfl)
    have HGR := Lib.hid (fun X (hX : Below wr.heap.size wr X) => grp_any X p q bp bs B a' sat (sumG done) (HLj.out.cur.below hX) HB.out HLj.out.sum.1 (by have := HLj.out.sum.2; omega) (HLj.out.kbp.below hX HLj.out.kbp.lt) (HLj.out.kbs.below hX HLj.out.kbs.lt) H1.out H2.out H3.out H4.out)
    go_wp2_with fail
    refine HPG.out.mono ?_
    rintro E wg ⟨rfl, rfl⟩
    go_wp2_with fail
    refine (HGR.out _ ((Below.refl _ _).alloc (Nat.le_refl _) _)).mono ?_
    rintro E W2 ⟨rfl, hC2, hbp2, hbs2, hg2⟩
    have hsz := hg2.size
    rw [World.size_alloc] at hsz
    have hown : ∀ k, u5.ownBlock = some k → W.heap.size ≤ k := fun k hk => (Own.block HLj.out.own hk).1
    have HO2 := Lib.hid ((HLj.out.own.below ((Below.refl _ _).alloc (Nat.le_refl _) _)).g2 hg2 (fun e => by have := hown _ e; omega) (fun e => by have := hown _ e; omega) (fun k hk => hk.elim))
    have HG2 := Lib.hid ((HLj.out.g.alloc _).trans hg2)
    have HC2 := Lib.hid hC2
    have HP2 := Lib.hid hbp2
    have HS2 := Lib.hid hbs2
    have HX2 := Lib.hid ((HXj.out.alloc _).g2 hg2 (by omega) (by omega))
    have HF : FK kG W2 (fun k => False ∧ some k ≠ u5.ownBlock) (grpM B a').1 [.int .u32 (grpM B a').1.1, .int .u8 (grpM B a').1.2] := fun _ _ => rfl
    have hgs : W.heap.size ≤ W2.heap.size := by omega
    have hdl := HLj.out.len
    clear hC2 hbp2 hbs2 hg2 b0 b1 HPG HGR
    go_wp2_with (at_builtin; refine Own.append (d := kG) W.heap.size rfl (.tmp 20) (.tmp 23) 126 129 _ 8 rfl Tryz.underlying126 infoG rfl (by decide) (by decide) u5 done (grpM B a').1 _ (fun _ => False) rfl rfl HF HO2.out hgs (by omega) ?_; intro v1 w1 hown1 hg1 hat1)
    have hsz1 := hg1.size
    have hne : ∀ k, k < W.heap.size → some k ≠ u5.ownBlock := fun k hk e => by have := hown _ e.symm; omega
    have HO3 := Lib.hid hown1
    have HG3 := Lib.hid hg1
    have hs1 := HLj.out.sum
    have hu := rdOf_u32 (a := a') HB.out
    have hnX : some W.heap.size ≠ u5.ownBlock := fun e => by
     obtain ⟨_, ho, _⟩ := HO2.out
     obtain ⟨cs, hcs⟩ := own_typed ho _ e.symm
     rw [HX2.out] at hcs
     simp at hcs
    clear hown1 hg1 hat1 HO2 HF
    go_wp2_with fail
    go_roundw
    case rel =>
     refine ⟨j + 1, done ++ [(grpM B a').1], (grpM B a').2.1, (grpM B a').2.2, by omega, by go_num, ?_, HX2.out.grown HG3.out hnX⟩
     refine ⟨HO3.out, HC2.out.grown' HG3.out (hne _ hpl) (fun hl => hne _ (HQ.out hl)), HP2.out.grown HG3.out (hne _ hbl), ?_, HG2.out.grown HG3.out (fun r e => .inr (.inr (hown _ e))), ?_, by simp; omega, ?_⟩
     ·rw [sumG_snoc]; exact HS2.out.grown HG3.out (hne _ hsl)
     ·have ht := HLj.out.t
      rw [show c - j = (c - (j + 1)) + 1 from by omega, grpsM, if_pos rfl] at ht
      rw [← ht, List.append_assoc]
      rfl
     ·rw [sumG_snoc]
      have : (grpM B a').1.1 = (rdOf (u32M B a') a' 0).1 := rfl
      omega
    case measure => simp [intOf]; omega
   ·have he2 : (e' == 0) = false := beq_eq_false_iff_ne.2 he
    have HPG := Lib.hid (pgood_any wr p q B a' e' sat false HLj.out.cur he2)
    have ht := HLj.out.t
    rw [grpsM_bad _ _ _ _ he2, List.append_nil] at ht
    have HT := Lib.hid ht
    clear ht he he2
    go_wp2_with fail
    refine HPG.out.mono ?_
    rintro E wg ⟨rfl, rfl⟩
    go_wp2_with fail
    go_ret
    rw [← HT.out]
    exact ⟨u5, rfl, HLj.out.own.below ((Below.refl _ _).alloc (Nat.le_refl _) _), HLj.out.cur.alloc _, HLj.out.kbp.alloc _, HLj.out.kbs.alloc _, HLj.out.g.alloc _⟩
  ·obtain rfl : j = c := by omega
   have ht := HLj.out.t
   rw [Nat.sub_self, grpsM, List.append_nil] at ht
   have HT := Lib.hid ht
   clear ht
   go_wp2_with fail
   go_ret
   rw [← HT.out]
   exact ⟨u5, rfl, HLj.out.own, HLj.out.cur, HLj.out.kbp, HLj.out.kbs, HLj.out.g⟩
end Go.Proofs.YtofaiocffifhfaaGreat
end
