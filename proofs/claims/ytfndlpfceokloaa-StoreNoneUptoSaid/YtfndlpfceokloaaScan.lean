/- Lemmas towards this claim's statement: what the functions named here come to, each under the conditions that it states itself. -/
import Derived.Test.YtfndlpfceokloaaPlain
namespace Go.Proofs.YtfndlpfceokloaaB
open Go.RowKit Go.Proofs.YtfndlpfceokloaaW.PrintWords
theorem gset (W : World) (b i : Nat) (v : Value) : W.grownBy (W.setCell ⟨b, i, none⟩ v) (some b) :=
  ⟨rfl, rfl, rfl, by simp [World.setCell], fun k _ hk => Below.heap_setCell W _ v k (fun e => hk (by rw [e]))⟩
/-- Bytes that are read, all in block q. -/
def ByQ (W : World) (q : Nat) (A : Option Addr) (B : List Int) : Prop :=
  0 < B.length → ∃ o, A = some ⟨q, o, none⟩ ∧ ∀ j x, B[j]? = some x → W.cell? ⟨q, o + j, none⟩ = some (.int .u8 x)
theorem ByQ.grown {W W' : World} {q : Nat} {A : Option Addr} {B : List Int} (h : ByQ W q A B) {row : Option Nat} (hg : W.grownBy W' row) (hq : some q ≠ row) : ByQ W' q A B := fun hp => by
  obtain ⟨o, e, hc⟩ := h hp
  exact ⟨o, e, fun j x hj => by
    have hx := hc j x hj
    have hlt := World.block_lt_of_cell? _ _ hx
    rw [← hx]
    exact World.cell?_of_block (hg.block q hlt hq)⟩
theorem ByQ.at_ {W : World} {q : Nat} {A : Option Addr} {B : List Int} (h : ByQ W q A B) (i : Nat) (hi : i < B.length) : ∃ o x, A = some ⟨q, o, none⟩ ∧ Hid (B[i]? = some x) ∧ W.cell? ⟨q, o + i, none⟩ = some (.int .u8 x) := by
  obtain ⟨o, e, hc⟩ := h (by omega)
  exact ⟨o, B[i], e, List.getElem?_eq_getElem hi, hc i _ (List.getElem?_eq_getElem hi)⟩
/-- All bytes of a list. -/
def Byts (B : List Int) : Prop := B.length ≤ 1048576 ∧ ∀ x ∈ B, 0 ≤ x ∧ x ≤ 255
theorem Byts.get {B : List Int} (h : Byts B) {i : Nat} {x : Int} (hx : B[i]? = some x) : 0 ≤ x ∧ x ≤ 255 := h.2 x (List.mem_of_getElem? hx)
end Go.Proofs.YtfndlpfceokloaaB
namespace Go.Proofs.Ytfndlpfceokloaa
open Go.RowKit YtfndlpfceokloaaB Go.Proofs.YtfndlpfceokloaaW.PrintWords
/-- The cells of a cursor. -/
def CurB (W : World) (p q : Nat) (A : Option Addr) (c : Nat) (B : List Int) (a : Nat) (e : Int) : Prop :=
  Blk W p #[.slice A B.length c, .int .i64 a, .int .i64 e] 224 ∧ ByQ W q A B
/-- A cursor at p over the bytes B: its place, the first failure. -/
def Cur (W : World) (p q : Nat) (B : List Int) (a : Nat) (e : Int) : Prop := p ≠ q ∧ a ≤ B.length ∧ ∃ A c, B.length ≤ c ∧ CurB W p q A c B a e
theorem Cur.grown {W W' : World} {p q : Nat} {B : List Int} {a : Nat} {e : Int} (h : Cur W p q B a e) {row : Option Nat} (hg : W.grownBy W' row) (hp : some p ≠ row) (hq : some q ≠ row) : Cur W' p q B a e := by
  obtain ⟨h0, h1, A, c, h2, h3, h4⟩ := h
  exact ⟨h0, h1, A, c, h2, h3.grown hg hp, h4.grown hg hq⟩
theorem Cur.below {W W' : World} {p q : Nat} {B : List Int} {a : Nat} {e : Int} (h : Cur W p q B a e) (hb : Below W.heap.size W W') : Cur W' p q B a e := h.grown (grown_below hb none) (by simp) (by simp)
theorem Cur.alloc {W : World} {p q : Nat} {B : List Int} {a : Nat} {e : Int} (h : Cur W p q B a e) (o : Obj) : Cur (W.alloc o) p q B a e := h.grown (World.grownBy_alloc W o none) (by simp) (by simp)
theorem Cur.lt {W : World} {p q : Nat} {B : List Int} {a : Nat} {e : Int} (h : Cur W p q B a e) : p < W.heap.size := by
  obtain ⟨_, _, A, c, _, h3, _⟩ := h
  exact h3.lt
theorem Cur.set {W : World} {p q : Nat} {B : List Int} {a : Nat} {e : Int} (h : Cur W p q B a e) (a' : Nat) (e' : Int) (ha : a' ≤ B.length) : Cur ((W.setCell ⟨p, 2, none⟩ (.int .i64 e')).setCell ⟨p, 1, none⟩ (.int .i64 a')) p q B a' e' := by
  obtain ⟨h0, h1, A, c, h2, h3, h4⟩ := h
  refine ⟨h0, ha, A, c, h2, ?_, ?_⟩
  · have := (h3.set 2 (.int .i64 e')).set 1 (.int .i64 a')
    simpa using this
  · exact (h4.grown (gset W p 2 (.int .i64 e')) (fun e => h0 (by injection e with e; exact e.symm))).grown (gset _ p 1 (.int .i64 a')) (fun e => h0 (by injection e with e; exact e.symm))
theorem Cur.setAt {W : World} {p q : Nat} {B : List Int} {a : Nat} {e : Int} (h : Cur W p q B a e) (a' : Nat) (ha : a' ≤ B.length) : Cur (W.setCell ⟨p, 1, none⟩ (.int .i64 a')) p q B a' e := by
  obtain ⟨h0, h1, A, c, h2, h3, h4⟩ := h
  refine ⟨h0, ha, A, c, h2, ?_, ?_⟩
  · have := h3.set 1 (.int .i64 a')
    simpa using this
  · exact h4.grown (gset _ p 1 (.int .i64 a')) (fun e => h0 (by injection e with e; exact e.symm))
/-- What a reading call does to the world. -/
def Goes (W W' : World) (p q : Nat) (B : List Int) (a : Nat) (e : Int) : Prop := Cur W' p q B a e ∧ W.grownBy W' (some p)
theorem Goes.same {W : World} {p q : Nat} {B : List Int} {a : Nat} {e : Int} (h : Cur W p q B a e) : Goes W W p q B a e := ⟨h, World.grownBy.refl W _⟩
theorem Goes.drewN {W : World} {p q : Nat} {B : List Int} {a : Nat} {e : Int} (h : Cur W p q B a e) (m : Nat) : Goes W (W.drewN m) p q B a e := ⟨h.below ⟨rfl, rfl, rfl, Nat.le_refl _, fun _ _ => rfl⟩, ⟨rfl, rfl, rfl, Nat.le_refl _, fun _ _ _ => rfl⟩⟩
theorem Goes.trans {W W1 W2 : World} {p q : Nat} {B : List Int} {a a' : Nat} {e e' : Int} (h : Goes W W1 p q B a e) (h' : Goes W1 W2 p q B a' e') : Goes W W2 p q B a' e' := ⟨h'.1, h.2.trans h'.2⟩
/-- The three cells of a cursor, as a walk wants them. -/
theorem Cur.cells {W : World} {p q : Nat} {B : List Int} {a : Nat} {e : Int} (h : Cur W p q B a e) :
    ∃ A c, W.cell? ⟨p, 0, none⟩ = some (.slice A B.length c) ∧ W.cell? ⟨p, 1, none⟩ = some (.int .i64 a) ∧ W.cell? ⟨p, 2, none⟩ = some (.int .i64 e) ∧ W.frozen? ⟨p, 0, none⟩ = false ∧ W.frozen? ⟨p, 1, none⟩ = false ∧ W.frozen? ⟨p, 2, none⟩ = false ∧ B.length ≤ c ∧ ByQ W q A B ∧ p < W.heap.size ∧ a ≤ B.length := by
  obtain ⟨h0, h1, A, c, h2, h3, h4⟩ := h
  exact ⟨A, c, by rw [h3.cell]; rfl, by rw [h3.cell]; rfl, by rw [h3.cell]; rfl, h3.frozen 0, h3.frozen 1, h3.frozen 2, h2, h4, h3.lt, h1⟩
/-- The place of a cursor, its first failure, what is left. -/
theorem good_any (W : World) (p q : Nat) (B : List Int) (a : Nat) (e : Int) (b : Bool) (hC : Cur W p q B a e) (hb : (e == 0) = b) :
    Calls Try.prog 152 #[.pointer (some ⟨p, 0, none⟩)] W fun E w' => E = .returned (.bool b) ∧ W = w' := by
  obtain ⟨A, c, c0, c1, c2, f0, f1, f2, hle, hq, hlt, ha⟩ := hC.cells
  have HB := Lib.hid hb
  clear hb hC
  go_enter Try.func152, Try.ntmps152
  go_wp2
  go_ret
  exact ⟨by rw [← HB.out]; rfl, rfl⟩
theorem at_any (W : World) (p q : Nat) (B : List Int) (a : Nat) (e : Int) (hC : Cur W p q B a e) :
    Calls Try.prog 59 #[.pointer (some ⟨p, 0, none⟩)] W fun E w' => E = .returned (.int .i64 a) ∧ W = w' := by
  obtain ⟨A, c, c0, c1, c2, f0, f1, f2, hle, hq, hlt, ha⟩ := hC.cells
  clear hC
  go_enter Try.func59, Try.ntmps59
  go_wp2
  go_ret
  exact ⟨rfl, rfl⟩
theorem err_any (W : World) (p q : Nat) (B : List Int) (a : Nat) (e : Int) (hC : Cur W p q B a e) :
    Calls Try.prog 58 #[.pointer (some ⟨p, 0, none⟩)] W fun E w' => E = .returned (.int .i64 e) ∧ W = w' := by
  obtain ⟨A, c, c0, c1, c2, f0, f1, f2, hle, hq, hlt, ha⟩ := hC.cells
  clear hC
  go_enter Try.func58, Try.ntmps58
  go_wp2
  go_ret
  exact ⟨rfl, rfl⟩
theorem left_any (W : World) (p q : Nat) (B : List Int) (a : Nat) (e : Int) (hC : Cur W p q B a e) (hB : Byts B) :
    Calls Try.prog 93 #[.pointer (some ⟨p, 0, none⟩)] W fun E w' => E = .returned (.int .i64 ((B.length : Int) - a)) ∧ Goes W w' p q B a e := by
  have HC := Lib.hid hC
  obtain ⟨A, c, c0, c1, c2, f0, f1, f2, hle, hq, hlt, ha⟩ := hC.cells
  have hl := hB.1
  clear hC hB
  go_enter Try.func93, Try.ntmps93
  go_wp2
  go_quiet (fail)
  go_wp2
  go_ret
  exact ⟨rfl, Goes.drewN HC.out _⟩
set_option maxHeartbeats 400000 in
theorem fail_yes (W : World) (p q : Nat) (B : List Int) (a a' : Nat) (e' : Int) (hC : Cur W p q B a 0) (he : (e' == 0) = false) (ha' : a' ≤ B.length) :
    Calls Try.prog 130 #[.pointer (some ⟨p, 0, none⟩), .int .i64 e', .int .i64 a'] W fun E w' => E = .returned (.tuple #[]) ∧ Goes W w' p q B a' e' := by
  have HC := Lib.hid hC
  have he2 : (e' != 0) = true := by simp only [bne, he]; rfl
  obtain ⟨A, c, c0, c1, c2, f0, f1, f2, hle, hq, hlt, ha⟩ := hC.cells
  clear hC
  go_enter Try.func130, Try.ntmps130
  go_wp2_with (go_at_call 152; refine (good_any _ _ _ _ _ _ true HC.out rfl).mono ?_; rintro e w' ⟨rfl, rfl⟩)
  go_end0
  exact ⟨rfl, HC.out.set a' e' ha', (gset _ _ _ _).trans (gset _ _ _ _)⟩
theorem fail_no (W : World) (p q : Nat) (B : List Int) (a : Nat) (e e' a' : Int) (hC : Cur W p q B a e) (he : (e == 0) = false) :
    Calls Try.prog 130 #[.pointer (some ⟨p, 0, none⟩), .int .i64 e', .int .i64 a'] W fun E w' => E = .returned (.tuple #[]) ∧ W = w' := by
  have HC := Lib.hid hC
  have HE := Lib.hid he
  clear hC he
  go_enter Try.func130, Try.ntmps130
  go_wp2_with (go_at_call 152; refine (good_any _ _ _ _ _ _ false HC.out HE.out).mono ?_; rintro e w' ⟨rfl, rfl⟩)
  go_end0
  exact ⟨rfl, rfl⟩
/-- Cursor.Fail. -/
def failE (e e' : Int) : Int := if e = 0 then e' else e
set_option maxRecDepth 100000 in
theorem Fail_any (W : World) (p q : Nat) (B : List Int) (a : Nat) (e e' : Int) (hC : Cur W p q B a e) (he : (e' == 0) = false) :
    Calls Try.prog 118 #[.pointer (some ⟨p, 0, none⟩), .int .i64 e'] W fun E w' => E = .returned (.tuple #[]) ∧ Goes W w' p q B a (failE e e') := by
  have HC := Lib.hid hC
  obtain ⟨A, c, c0, c1, c2, f0, f1, f2, hle, hq, hlt, ha⟩ := hC.cells
  have H := Lib.hid (show ∀ W', Cur W' p q B a e → Calls Try.prog 130 #[.pointer (some ⟨p, 0, none⟩), .int .i64 e', .int .i64 a] W' fun E w' => E = .returned (.tuple #[]) ∧ Goes W' w' p q B a (failE e e') from fun W' h => by
    by_cases h0 : e = 0
    · subst h0
      rw [failE, if_pos rfl]
      exact fail_yes W' p q B a a e' h he ha
    · rw [failE, if_neg h0]
      exact (fail_no W' p q B a e e' a h (beq_eq_false_iff_ne.2 h0)).mono (by rintro E w' ⟨rfl, rfl⟩; exact ⟨rfl, Goes.same h⟩))
  clear hC he
  go_enter Try.func118, Try.ntmps118
  go_wp2_with fail
  go_still_tail 9, (by kernel_rfl)
  change wpList _ _ _ _ _ W.drew
  have HD := Lib.hid (show Cur W.drew p q B a e from HC.out.below ⟨rfl, rfl, rfl, Nat.le_refl _, fun _ _ => rfl⟩)
  have HG := Lib.hid (show W.grownBy W.drew (some p) from ⟨rfl, rfl, rfl, Nat.le_refl _, fun _ _ _ => rfl⟩)
  generalize W.drew = W2 at *
  go_wp2_with (go_at_call 130; refine (H.out _ HD.out).mono ?_; rintro e w' ⟨rfl, hG⟩)
  go_end0
  exact ⟨rfl, hG.1, HG.out.trans hG.2⟩
theorem infoB : (Try.prog.info? 5).map (·.size) = some 1 := by kernel_rfl
set_option maxRecDepth 100000 in
theorem take_no (W : World) (p q : Nat) (B : List Int) (a n : Nat) (hC : Cur W p q B a 0) (hB : Byts B) (hn : B.length < a + n) (hn2 : n ≤ 4294967296) :
    Calls Try.prog 129 #[.pointer (some ⟨p, 0, none⟩), .int .i64 n] W fun E w' => E = .returned (.slice none 0 0) ∧ Goes W w' p q B a 100 := by
  have hl := hB.1
  go_enter Try.func129, Try.ntmps129
  go_wp2_with fail
  refine (left_any _ _ _ _ _ _ hC hB).mono ?_
  rintro E1 W1 ⟨rfl, hG1⟩
  obtain ⟨A, c, c0, c1, c2, f0, f1, f2, hle, hq, hlt, ha⟩ := hG1.1.cells
  have HG1 := Lib.hid hG1
  clear hq hC hB hG1
  go_wp2_with fail
  go_still_tail 8, (by kernel_rfl)
  change wpList _ _ _ _ _ W1.drew
  have HD := Lib.hid (Goes.trans HG1.out (Goes.drewN HG1.out.1 1))
  have HDC := Lib.hid (show Cur W1.drew p q B a 0 from HD.out.1)
  clear HG1
  have HG2 := Lib.hid (show W.grownBy W1.drew (some p) from HD.out.2)
  clear HD
  generalize W1.drew = W2 at *
  go_wp2_with (go_at_call 130; refine (fail_yes _ _ _ _ _ _ _ HDC.out rfl ha).mono ?_; rintro e w' ⟨rfl, hG⟩)
  go_ret
  exact ⟨rfl, hG.1, HG2.out.trans hG.2⟩
set_option maxRecDepth 100000 in
theorem take_yes (W : World) (p q : Nat) (B : List Int) (a n : Nat) (hC : Cur W p q B a 0) (hB : Byts B) (hn : a + n ≤ B.length) :
    Calls Try.prog 129 #[.pointer (some ⟨p, 0, none⟩), .int .i64 n] W fun E w' => (∃ A' c', E = .returned (.slice A' n c') ∧ ByQ w' q A' ((B.drop a).take n)) ∧ Goes W w' p q B (a + n) 0 := by
  have hl := hB.1
  go_enter Try.func129, Try.ntmps129
  go_wp2_with fail
  refine (left_any _ _ _ _ _ _ hC hB).mono ?_
  rintro E1 W1 ⟨rfl, hG1⟩
  obtain ⟨A, c, c0, c1, c2, f0, f1, f2, hle, hq, hlt, ha⟩ := hG1.1.cells
  have HQ := Lib.hid hq
  have HG1 := Lib.hid hG1
  clear hC hB hq hG1
  obtain ⟨A', hrun, hA'⟩ := cut_lh (P := Try.prog) 85 5 .i64 .i64 1 Try.underlying85 infoB A B.length c a (a + n) (by omega) (by omega)
  rw [Int.natCast_add] at hrun
  have HA := Lib.hid hA'
  clear hA'
  have hQ := Lib.hid (show ByQ W1 q A' ((B.drop a).take n) from fun hp => by
    have hn0 : 0 < n ∧ a < B.length := by rw [List.length_take, List.length_drop] at hp; omega
    obtain ⟨o, rfl, hc⟩ := HQ.out (by omega)
    refine ⟨o + a, by rw [HA.out (by omega)]; simp [Addr.add] <;> omega, fun j x hj => ?_⟩
    rw [List.getElem?_take] at hj
    split at hj
    · rw [List.getElem?_drop] at hj
      rw [Nat.add_assoc]
      exact hc _ _ hj
    · cases hj)
  clear HQ
  go_wp2_with fail
  have hw : IntKind.i64.wrap ((a : Int) + n - n) = a := by rw [IntKind.wrap_i64]; omega
  go_quiet (fail)
  go_wp2
  have h2 : Cur (W1.setCell ⟨p, 1, none⟩ (.int .i64 ((a : Int) + n))) p q B (a + n) 0 := by rw [← Int.natCast_add]; exact HG1.out.1.setAt (a + n) hn
  have h3 : Goes W ((W1.setCell ⟨p, 1, none⟩ (.int .i64 ((a : Int) + n))).drewN nq) p q B (a + n) 0 := (HG1.out.trans ⟨h2, gset _ _ _ _⟩).trans (Goes.drewN h2 nq)
  go_ret
  exact ⟨⟨A', c - a, rfl, (hQ.out.grown (gset W1 p 1 (.int .i64 ((a : Int) + n))) (fun e => h2.1 (by injection e with e; exact e.symm))).grown (row := none) ⟨rfl, rfl, rfl, Nat.le_refl _, fun _ _ _ => rfl⟩ (by simp)⟩, h3⟩
end Go.Proofs.Ytfndlpfceokloaa
