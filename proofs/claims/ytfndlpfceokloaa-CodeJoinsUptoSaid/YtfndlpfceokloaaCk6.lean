/- Lemmas towards this claim's statement: what the functions named here come to, each under the conditions that it states itself. -/
import Derived.Test.YtfndlpfceokloaaCk5
section
namespace Go.Proofs.Ytfndlpfceokloaa
open Go.RowKit YtfndlpfceokloaaB
/-- A reader of bytes: from a place and a failure to what is read, the place behind, the failure. -/
abbrev Rr (α : Type) := List Int → Nat → Int → α × Nat × Int
/-- Both lists have the same below n. -/
def Agl (n : Nat) (B B' : List Int) : Prop := ∀ i, i < n → B'[i]? = B[i]?
theorem Agl.mono {n m : Nat} {B B' : List Int} (h : Agl n B B') (hm : m ≤ n) : Agl m B B' := fun i hi => h i (by omega)
theorem Agl.take {B : List Int} {k : Nat} : Agl k B (B.take k) := fun i hi => by rw [List.getElem?_take, if_pos hi]
theorem Agl.len {n : Nat} {B B' : List Int} (h : Agl n B B') (hn : n ≤ B.length) : n ≤ B'.length := by
  rcases Nat.eq_zero_or_pos n with h0 | h0
  · omega
  · have := h (n - 1) (by omega)
    rw [List.getElem?_eq_getElem (show n - 1 < B.length by omega)] at this
    have := (List.getElem?_eq_some_iff.1 this).1
    omega
/-- A reader reads from its place on, says where it ends, and fails at an end that comes too early. -/
structure Good {α : Type} (R : Rr α) : Prop where
  bad : ∀ B a e, e ≠ 0 → (R B a e).2.2 = e
  le : ∀ B a, a ≤ B.length → (R B a 0).2.2 = 0 → a ≤ (R B a 0).2.1 ∧ (R B a 0).2.1 ≤ B.length
  same : ∀ B B' a, a ≤ B.length → (R B a 0).2.2 = 0 → Agl (R B a 0).2.1 B B' → R B' a 0 = R B a 0
  cut : ∀ B a k, a ≤ B.length → (R B a 0).2.2 = 0 → a ≤ k → k < (R B a 0).2.1 → (R (B.take k) a 0).2.2 = 100
  shift : ∀ P B a, a ≤ B.length → (R B a 0).2.2 = 0 → R (P ++ B) (P.length + a) 0 = ((R B a 0).1, P.length + (R B a 0).2.1, 0)
theorem Good.congr {α : Type} {R S : Rr α} (hS : Good S) (h1 : ∀ B a e, (R B a e).2.2 = (S B a e).2.2) (h2 : ∀ B a, (S B a 0).2.2 = 0 → R B a 0 = S B a 0) : Good R where
  bad := fun B a e he => by rw [h1]; exact hS.bad B a e he
  le := fun B a ha h => by rw [h1] at h; rw [h2 B a h]; exact hS.le B a ha h
  same := fun B B' a ha h hA => by
    rw [h1] at h
    rw [h2 B a h] at hA ⊢
    have := hS.same B B' a ha h hA
    rw [h2 B' a (by rw [this]; exact h), this]
  cut := fun B a k ha h hk hk2 => by
    rw [h1] at h
    rw [h2 B a h] at hk2
    rw [h1]
    exact hS.cut B a k ha h hk hk2
  shift := fun P B a ha h => by
    rw [h1] at h
    rw [h2 B a h]
    have := hS.shift P B a ha h
    rw [h2 _ _ (by rw [this]), this]
theorem Good.bind {α β γ : Type} {R : Rr α} {S : α → Rr β} {f : α → β → γ} (hR : Good R) (hS : ∀ v, Good (S v)) :
    Good (fun B a e => (f (R B a e).1 (S (R B a e).1 B (R B a e).2.1 (R B a e).2.2).1, (S (R B a e).1 B (R B a e).2.1 (R B a e).2.2).2) : Rr γ) := by
  have hE : ∀ B a, (S (R B a 0).1 B (R B a 0).2.1 (R B a 0).2.2).2.2 = 0 → (R B a 0).2.2 = 0 := fun B a h => by
    apply Classical.byContradiction
    intro hn
    rw [(hS _).bad _ _ _ hn] at h
    exact hn h
  refine ⟨fun B a e he => ?_, fun B a ha h => ?_, fun B B' a ha h hA => ?_, fun B a k ha h hk hk2 => ?_, fun P B a ha h => ?_⟩
  · have := hR.bad B a e he
    try simp only
    rw [(hS _).bad _ _ _ (by rw [this]; exact he), this]
  · try simp only at h ⊢
    have h0 := hE _ _ h
    have l1 := hR.le B a ha h0
    rw [h0] at h ⊢
    have l2 := (hS _).le _ _ l1.2 h
    omega
  · try simp only at h hA ⊢
    have h0 := hE _ _ h
    have l1 := hR.le B a ha h0
    rw [h0] at h hA ⊢
    have l2 := (hS _).le _ _ l1.2 h
    have s1 := hR.same B B' a ha h0 (hA.mono l2.1)
    rw [s1, h0, (hS _).same B B' _ l1.2 h hA]
  · try simp only at h hk2 ⊢
    have h0 := hE _ _ h
    have l1 := hR.le B a ha h0
    rw [h0] at h hk2
    rcases Nat.lt_or_ge k (R B a 0).2.1 with hlt | hge
    · have c1 := hR.cut B a k ha h0 hk hlt
      rw [c1]
      exact (hS _).bad _ _ _ (by decide)
    · rw [hR.same B (B.take k) a ha h0 (Agl.take.mono hge), h0]
      exact (hS _).cut B _ k l1.2 h hge hk2
  · try simp only at h ⊢
    have h0 := hE _ _ h
    have l1 := hR.le B a ha h0
    rw [h0] at h ⊢
    have s1 := hR.shift P B a ha h0
    have s2 := (hS _).shift P B _ l1.2 h
    rw [s1]
    try simp only
    rw [s2]
theorem Good.map {α β : Type} {R : Rr α} (hR : Good R) (f : α → β) : Good (fun B a e => (f (R B a e).1, (R B a e).2) : Rr β) where
  bad := hR.bad
  le := hR.le
  same := fun B B' a ha h hA => by rw [hR.same B B' a ha h hA]
  cut := hR.cut
  shift := fun P B a ha h => by rw [hR.shift P B a ha h]
theorem Good.pure {α : Type} (v : α) : Good (fun _ a e => (v, a, e)) where
  bad := fun _ _ _ _ => rfl
  le := fun _ _ ha _ => ⟨Nat.le_refl _, ha⟩
  same := fun _ _ _ _ _ _ => rfl
  cut := fun _ _ _ _ _ h1 h2 => by simp only at h2; omega
  shift := fun _ _ _ _ _ => rfl
/-- A reader that fails. -/
theorem Good.fail {α : Type} (v : α) (c : Int) (hc : c ≠ 0) : Good (fun _ a e => (v, a, if e = 0 then c else e)) where
  bad := fun _ _ _ he => by simp [he]
  le := fun _ _ _ h => absurd h (by simpa using hc)
  same := fun _ _ _ _ h => absurd h (by simpa using hc)
  cut := fun _ _ _ _ h => absurd h (by simpa using hc)
  shift := fun _ _ _ _ h => absurd h (by simpa using hc)
/-- What the byte that comes next decides; it is read. -/
def byteR : Rr Int := fun B a e => if e = 0 then (match B[a]? with | some x => (x, a + 1, 0) | none => (0, a, 100)) else (0, a, e)
theorem byteR_some {B : List Int} {a : Nat} {x : Int} (h : B[a]? = some x) : byteR B a 0 = (x, a + 1, 0) := by simp [byteR, h]
theorem byteR_none {B : List Int} {a : Nat} (h : B[a]? = none) : byteR B a 0 = (0, a, 100) := by simp [byteR, h]
theorem good_byte : Good byteR := by
  have key : ∀ B a, (byteR B a 0).2.2 = 0 → ∃ x, B[a]? = some x := fun B a h => by
    cases hx : B[a]? with
    | none => rw [byteR_none hx] at h; exact absurd h (by simp)
    | some x => exact ⟨x, rfl⟩
  refine ⟨fun B a e he => by simp [byteR, he], fun B a ha h => ?_, fun B B' a ha h hA => ?_, fun B a k ha h hk hk2 => ?_, fun P B a ha h => ?_⟩
  · obtain ⟨x, hx⟩ := key B a h
    rw [byteR_some hx]
    have := (List.getElem?_eq_some_iff.1 hx).1
    try simp only
    omega
  · obtain ⟨x, hx⟩ := key B a h
    rw [byteR_some hx] at hA ⊢
    exact byteR_some (by rw [hA a (by simp)]; exact hx)
  · obtain ⟨x, hx⟩ := key B a h
    rw [byteR_some hx] at hk2
    try simp only at hk2
    obtain rfl : k = a := by omega
    rw [byteR_none (by rw [List.getElem?_take, if_neg (by omega)])]
  · obtain ⟨x, hx⟩ := key B a h
    rw [byteR_some hx, byteR_some (x := x) (by rw [List.getElem?_append_right (by omega), Nat.add_sub_cancel_left]; exact hx)]
    rfl
/-- What the byte that comes next decides; it is not read. -/
def lookR {α : Type} [Inhabited α] (T : Int → Rr α) : Rr α := fun B a e => if e = 0 then (match B[a]? with | some b => T b B a 0 | none => (default, a, 100)) else (default, a, e)
theorem Good.look {α : Type} [Inhabited α] (T : Int → Rr α) (hT : ∀ b, Good (T b)) (hp : ∀ b B a, B[a]? = some b → (T b B a 0).2.2 = 0 → a < (T b B a 0).2.1) : Good (lookR T) := by
  have h0 : ∀ B a, B[a]? = none → (lookR T B a 0).2.2 = 100 := fun B a h => by simp [lookR, h]
  have h1 : ∀ B a b, B[a]? = some b → lookR T B a 0 = T b B a 0 := fun B a b h => by simp [lookR, h]
  have key : ∀ B a, (lookR T B a 0).2.2 = 0 → ∃ x, B[a]? = some x := fun B a h => by
    cases hx : B[a]? with
    | none => rw [h0 B a hx] at h; exact absurd h (by simp)
    | some x => exact ⟨x, rfl⟩
  refine ⟨fun B a e he => by simp [lookR, he], fun B a ha h => ?_, fun B B' a ha h hA => ?_, fun B a k ha h hk hk2 => ?_, fun P B a ha h => ?_⟩
  · obtain ⟨x, hx⟩ := key B a h
    rw [h1 B a x hx] at h ⊢
    exact (hT x).le B a ha h
  · obtain ⟨x, hx⟩ := key B a h
    rw [h1 B a x hx] at h hA ⊢
    have hl := hp x B a hx h
    rw [h1 B' a x (by rw [hA a hl]; exact hx)]
    exact (hT x).same B B' a ha h hA
  · obtain ⟨x, hx⟩ := key B a h
    rw [h1 B a x hx] at h hk2
    rcases Nat.lt_or_ge a k with hlt | hge
    · rw [h1 (B.take k) a x (by rw [List.getElem?_take, if_pos hlt]; exact hx)]
      exact (hT x).cut B a k ha h hk hk2
    · exact h0 _ _ (by rw [List.getElem?_take, if_neg (by omega)])
  · obtain ⟨x, hx⟩ := key B a h
    rw [h1 B a x hx] at h ⊢
    rw [h1 (P ++ B) (P.length + a) x (by rw [List.getElem?_append_right (by omega), Nat.add_sub_cancel_left]; exact hx)]
    exact (hT x).shift P B a ha h
theorem Good.ite {α : Type} {R S : Rr α} {c : Prop} [Decidable c] (hR : Good R) (hS : Good S) : Good (fun B a e => if c then R B a e else S B a e) := by
  by_cases h : c
  · simpa [h] using hR
  · simpa [h] using hS
/-- A number read by rdOf: enough is what its reader says of the bytes that are left. -/
theorem good_rdOf {M : List Int → Nat → Except Int (Nat × Nat)} (hle : ∀ B a n nx, a ≤ B.length → M B a = .ok (n, nx) → a ≤ nx ∧ nx ≤ B.length)
    (hs : ∀ B B' a n nx, a ≤ B.length → M B a = .ok (n, nx) → Agl nx B B' → M B' a = .ok (n, nx)) (hc : ∀ B a k n nx, a ≤ B.length → M B a = .ok (n, nx) → a ≤ k → k < nx → M (B.take k) a = .error 100)
    (hh : ∀ P B a n nx, a ≤ B.length → M B a = .ok (n, nx) → M (P ++ B) (P.length + a) = .ok (n, P.length + nx)) (hz : ∀ B a, M B a ≠ .error 0) : Good (fun B a e => rdOf (M B a) a e) := by
  have key : ∀ B a, (rdOf (M B a) a 0).2.2 = 0 → ∃ n nx, M B a = .ok (n, nx) := fun B a h => by
    cases hm : M B a with
    | error e =>
      rw [hm] at h
      simp [rdOf, numE] at h
      exact absurd (h ▸ hm) (hz B a)
    | ok y => exact ⟨y.1, y.2, rfl⟩
  have ok : ∀ B a n nx, M B a = .ok (n, nx) → rdOf (M B a) a 0 = ((n : Int), nx, 0) := fun B a n nx h => by rw [h]; rfl
  refine ⟨fun B a e he => by simp [rdOf, he], fun B a ha h => ?_, fun B B' a ha h hA => ?_, fun B a k ha h hk hk2 => ?_, fun P B a ha h => ?_⟩
  · obtain ⟨n, nx, hm⟩ := key B a h
    try simp only
    rw [ok B a n nx hm]
    exact hle B a n nx ha hm
  · obtain ⟨n, nx, hm⟩ := key B a h
    try simp only at hA ⊢
    rw [ok B a n nx hm] at hA ⊢
    exact ok B' a n nx (hs B B' a n nx ha hm hA)
  · obtain ⟨n, nx, hm⟩ := key B a h
    try simp only at hk2 ⊢
    rw [ok B a n nx hm] at hk2
    rw [hc B a k n nx ha hm hk hk2]
    rfl
  · obtain ⟨n, nx, hm⟩ := key B a h
    try simp only
    rw [ok B a n nx hm, ok _ _ n (P.length + nx) (hh P B a n nx ha hm)]
-- Numbers of groups.
theorem lebG_same {lst : Int → Int → Bool} : ∀ (R R' : List Int) (l m h c : Nat), lebG lst R l = .ok (m, h, c) → (∀ i, i < c → R'[i]? = R[i]?) → lebG lst R' l = .ok (m, h, c)
  | [], R', l, m, h, c, e, _ => by simp [lebG] at e
  | x :: r, R', l, m, h, c, e, hA => by
    have hc := (lebG_c _ _ _ _ _ e).1
    match R', hA 0 (by omega) with
    | y :: r', hy =>
      obtain rfl : y = x := by simpa using hy
      rw [lebG] at e ⊢
      split at e
      next c1 =>
        rw [if_pos c1]
        split at e
        next c2 => rw [if_pos c2]; exact e
        next => cases e
      next c1 =>
        rw [if_neg c1]
        split at e
        next => cases e
        next c2 =>
        rw [if_neg c2]
        cases hr : lebG lst r (l - 7) with
        | error e' => rw [hr] at e; cases e
        | ok z =>
          obtain ⟨m', h', c'⟩ := z
          rw [hr] at e
          simp at e
          rw [lebG_same r r' (l - 7) m' h' c' hr (fun i hi => by simpa using hA (i + 1) (by omega))]
          simp [e]
    | [], hy => simp at hy
theorem lebG_cut {lst : Int → Int → Bool} : ∀ (R : List Int) (l m h c k : Nat), lebG lst R l = .ok (m, h, c) → k < c → lebG lst (R.take k) l = .error 100
  | [], l, m, h, c, k, e, _ => by simp [lebG] at e
  | x :: r, l, m, h, c, 0, e, _ => rfl
  | x :: r, l, m, h, c, k + 1, e, hk => by
    rw [List.take_succ_cons]
    rw [lebG] at e ⊢
    split at e
    next c1 =>
      split at e
      next c2 => simp at e; omega
      next => cases e
    next c1 =>
      rw [if_neg c1]
      split at e
      next => cases e
      next c2 =>
      rw [if_neg c2]
      cases hr : lebG lst r (l - 7) with
      | error e' => rw [hr] at e; cases e
      | ok z =>
        obtain ⟨m', h', c'⟩ := z
        rw [hr] at e
        simp at e
        rw [lebG_cut r (l - 7) m' h' c' k hr (by omega)]
theorem lebG_err {lst : Int → Int → Bool} : ∀ (R : List Int) (l : Nat), lebG lst R l ≠ .error 0
  | [], l => by simp [lebG]
  | x :: r, l => by
    rw [lebG]
    split
    · split <;> simp
    · split
      · simp
      · have := lebG_err (lst := lst) r (l - 7)
        cases hr : lebG lst r (l - 7) with
        | error e' => rw [hr] at this; exact this
        | ok z => simp
/-- A number of groups, whatever is made of its parts. -/
theorem good_leb {M : List Int → Nat → Except Int (Nat × Nat)} (lst : Int → Int → Bool) (l : Nat) (g : Nat → Nat → Except Int Nat) (hg : ∀ m h, g m h ≠ .error 0)
    (hM : ∀ B a, M B a = match lebG lst (B.drop a) l with | .error e => .error e | .ok (m, h, c) => (match g m h with | .error e => .error e | .ok n => .ok (n, a + c))) : Good (fun B a e => rdOf (M B a) a e) := by
  have key : ∀ B a n nx, M B a = .ok (n, nx) → ∃ m h c, lebG lst (B.drop a) l = .ok (m, h, c) ∧ g m h = .ok n ∧ nx = a + c := fun B a n nx hh => by
    rw [hM] at hh
    cases hr : lebG lst (B.drop a) l with
    | error e => rw [hr] at hh; cases hh
    | ok z =>
      obtain ⟨m, h, c⟩ := z
      rw [hr] at hh
      try simp only at hh
      cases hgm : g m h with
      | error e => rw [hgm] at hh; cases hh
      | ok y => rw [hgm] at hh; simp at hh; exact ⟨m, h, c, rfl, by rw [hgm, hh.1], hh.2.symm⟩
  have back : ∀ B a m h c n, lebG lst (B.drop a) l = .ok (m, h, c) → g m h = .ok n → M B a = .ok (n, a + c) := fun B a m h c n h1 h2 => by rw [hM, h1]; simp only [h2]
  refine good_rdOf (fun B a n nx ha hh => ?_) (fun B B' a n nx ha hh hA => ?_) (fun B a k n nx ha hh hk hk2 => ?_) (fun P B a n nx ha hh => ?_) (fun B a hh => ?_)
  · obtain ⟨m, h, c, h1, h2, rfl⟩ := key B a n nx hh
    have := lebG_c _ _ _ _ _ h1
    rw [List.length_drop] at this
    omega
  · obtain ⟨m, h, c, h1, h2, rfl⟩ := key B a n nx hh
    exact back B' a m h c n (lebG_same _ _ _ _ _ _ h1 (fun i hi => by rw [List.getElem?_drop, List.getElem?_drop]; exact hA _ (by omega))) h2
  · obtain ⟨m, h, c, h1, h2, rfl⟩ := key B a n nx hh
    rw [hM, List.drop_take, lebG_cut _ _ _ _ _ (k - a) h1 (by omega)]
  · obtain ⟨m, h, c, h1, h2, rfl⟩ := key B a n nx hh
    have := back (P ++ B) (P.length + a) m h c n (by rw [List.drop_append, List.drop_eq_nil_of_le (by omega), Nat.add_sub_cancel_left, List.nil_append]; exact h1) h2
    rw [this, Nat.add_assoc]
  · rw [hM] at hh
    cases hr : lebG lst (B.drop a) l with
    | error e => rw [hr] at hh; exact lebG_err _ _ (hr.trans (by simpa using hh))
    | ok z =>
      obtain ⟨m, h, c⟩ := z
      rw [hr] at hh
      try simp only at hh
      cases hgm : g m h with
      | error e => rw [hgm] at hh; exact hg m h (hgm.trans (by simpa using hh))
      | ok y => rw [hgm] at hh; cases hh
theorem Good.of0 {α : Type} {R S : Rr α} (hS : Good S) (hb : ∀ B a e, e ≠ 0 → (R B a e).2.2 = e) (h0 : ∀ B a, R B a 0 = S B a 0) : Good R :=
  hS.congr (fun B a e => by by_cases he : e = 0; · rw [he, h0]
                            · rw [hb B a e he, hS.bad B a e he]) (fun B a _ => h0 B a)
theorem good_u32 : Good (fun B a e => rdOf (u32M B a) a e) := good_leb lstU 32 (fun m _ => .ok (m % 18446744073709551616)) (fun _ _ h => by cases h) (fun B a => by
  unfold u32M uintM; cases lebG lstU (B.drop a) 32 <;> rfl)
theorem good_s32 : Good (fun B a e => rdOf (s32M B a) a e) := good_leb lstS 32 (fun m h => .ok (sgnV m h % 4294967296)) (fun _ _ h => by cases h) (fun B a => by
  unfold s32M sintM; cases lebG lstS (B.drop a) 32 <;> rfl)
theorem good_s64 : Good (fun B a e => rdOf (s64M B a) a e) := good_leb lstS 64 (fun m h => .ok (sgnV m h)) (fun _ _ h => by cases h) (fun B a => by
  unfold s64M sintM; cases lebG lstS (B.drop a) 64 <;> rfl)
theorem good_count : Good (fun B a e => rdOf (countM B a) a e) := good_leb lstU 32 (fun m _ => if m % 18446744073709551616 > 4096 then .error 3 else .ok (m % 18446744073709551616)) (fun m _ h => by split at h <;> cases h) (fun B a => by
  unfold countM u32M uintM
  cases lebG lstU (B.drop a) 32 with
  | error e => rfl
  | ok y => simp only; split <;> rfl)
theorem good_fix (n : Nat) : Good (fun B a e => rdOf (fixM B a n) a e) := by
  have key : ∀ B a v nx, fixM B a n = .ok (v, nx) → a + n ≤ B.length ∧ v = leN ((B.drop a).take n) ∧ nx = a + n := fun B a v nx h => by
    unfold fixM at h
    split at h
    next c => cases h; exact ⟨c, rfl, rfl⟩
    next => cases h
  refine good_rdOf (fun B a v nx ha hh => ?_) (fun B B' a v nx ha hh hA => ?_) (fun B a k v nx ha hh hk hk2 => ?_) (fun P B a v nx ha hh => ?_) (fun B a hh => ?_)
  · have := key B a v nx hh; omega
  · obtain ⟨h1, rfl, rfl⟩ := key B a v nx hh
    have hl := hA.len h1
    unfold fixM
    rw [if_pos hl]
    have : (B'.drop a).take n = (B.drop a).take n := by
      apply List.ext_getElem?
      intro i
      simp only [List.getElem?_take, List.getElem?_drop]
      split
      · exact hA _ (by omega)
      · rfl
    rw [this]
  · obtain ⟨h1, rfl, rfl⟩ := key B a v nx hh
    unfold fixM
    rw [if_neg (by rw [List.length_take]; omega)]
  · obtain ⟨h1, rfl, rfl⟩ := key B a v nx hh
    unfold fixM
    rw [if_pos (by rw [List.length_append]; omega), List.drop_append, List.drop_eq_nil_of_le (by omega), Nat.add_sub_cancel_left, List.nil_append, Nat.add_assoc]
  · unfold fixM at hh
    split at hh <;> cases hh
theorem good_res : Good (fun B a e => rdOf (resM B a) a e) := by
  have key : ∀ B a v nx, resM B a = .ok (v, nx) → ∃ x, B[a]? = some x ∧ nx = a + 1 := fun B a v nx h => by
    unfold resM amongM at h
    cases hx : B[a]? with
    | none => rw [hx] at h; cases h
    | some x =>
      rw [hx] at h
      try simp only at h
      split at h
      · cases h
      next h' => split at h' <;> cases h'; cases h; exact ⟨x, rfl, rfl⟩
  have cong : ∀ B B' a, B'[a]? = B[a]? → resM B' a = resM B a := fun B B' a h => by unfold resM amongM; rw [h]
  refine good_rdOf (fun B a v nx ha hh => ?_) (fun B B' a v nx ha hh hA => ?_) (fun B a k v nx ha hh hk hk2 => ?_) (fun P B a v nx ha hh => ?_) (fun B a hh => ?_)
  · obtain ⟨x, hx, rfl⟩ := key B a v nx hh
    have := (List.getElem?_eq_some_iff.1 hx).1
    omega
  · obtain ⟨x, hx, rfl⟩ := key B a v nx hh
    rw [cong B B' a (hA a (by omega))]; exact hh
  · obtain ⟨x, hx, rfl⟩ := key B a v nx hh
    unfold resM amongM
    rw [List.getElem?_take, if_neg (by omega)]
  · obtain ⟨x, hx, rfl⟩ := key B a v nx hh
    have e : (P ++ B)[P.length + a]? = B[a]? := by rw [List.getElem?_append_right (by omega), Nat.add_sub_cancel_left]
    unfold resM amongM at hh ⊢
    rw [e]
    rw [hx] at hh ⊢
    try simp only at hh ⊢
    split at hh
    · cases hh
    next h' =>
      split at h'
      next c => rw [if_pos c]; cases h'; cases hh; rfl
      next => cases h'
  · unfold resM amongM at hh
    cases hx : B[a]? with
    | none => rw [hx] at hh; cases hh
    | some x =>
      rw [hx] at hh
      try simp only at hh
      split at hh
      next h' => split at h' <;> cases h'; cases hh
      next => cases hh
def zeroR : Rr Unit := fun B a e => ((), zeroM B a e)
theorem good_zero : Good zeroR := by
  refine (Good.bind (f := fun _ _ => ()) good_byte (S := fun x => fun B a e => if x = 0 then ((), a, e) else ((), a, if e = 0 then 107 else e)) (fun x => Good.ite (Good.pure ()) (Good.fail () 107 (by decide)))).congr (fun B a e => ?_) (fun B a h => ?_)
  · by_cases he : e = 0
    · subst he
      cases hx : B[a]? with
      | none => rw [byteR_none hx]; simp [zeroR, zeroM, hx]
      | some x => rw [byteR_some hx]; simp only [zeroR, zeroM, hx]; by_cases h : x = 0 <;> simp [h]
    · rw [show byteR B a e = (0, a, e) from by simp [byteR, he]]
      simp [zeroR, zeroM, he]
  · cases hx : B[a]? with
    | none => rw [byteR_none hx] at h; simp at h
    | some x =>
      rw [byteR_some hx] at h ⊢
      by_cases h2 : x = 0
      · simp [zeroR, zeroM, hx, h2]
      · simp [h2] at h
theorem good_lab : ∀ (k : Nat) (acc : List Int), Good (fun B a e => labM B k a e acc)
  | 0, acc => Good.pure acc
  | k + 1, acc => by
    refine (Good.bind (f := fun _ y => y) good_u32 (S := fun v => fun B a e => labM B k a e (acc ++ [v])) (fun v => good_lab k _)).of0 (fun B a e he => ?_) (fun B a => ?_)
    · rw [labM_bad _ _ _ _ _ he]
    · rw [labM, if_pos rfl]
theorem good_labels : Good (fun B a e => labelsM B a e) := Good.bind (f := fun _ y => y) good_count (S := fun (n : Int) => fun B a e => labM B n.toNat a e []) (fun n => good_lab _ _)
def secondR : Rr Int := fun B a e => secondM B a e
theorem good_second : Good secondR := by
  refine (Good.bind (f := fun _ y => y) good_u32 (S := fun n => fun B a e => if n > 7 then (64512 + n, a, if e = 0 then 108 else e) else (64512 + n, a, e)) (fun n => Good.ite (Good.fail _ 108 (by decide)) (Good.pure _))).congr (fun B a e => ?_) (fun B a h => ?_)
  · simp only [secondR, secondM]
    split <;> rfl
  · simp only [secondR, secondM] at h ⊢
    split <;> rfl
def opT (sat : Bool) (deep : Nat) (b : Int) : Rr Int := fun B a e =>
  if (immM b).1 = 1 ∧ 64 ≤ deep then (0, a, if e = 0 then 3 else e) else if b = 252 ∧ sat = true then ((secondR B (byteR B a e).2.1 (byteR B a e).2.2).1, (secondR B (byteR B a e).2.1 (byteR B a e).2.2).2)
  else if (immM b).2 = true then byteR B a e else (0, a, if e = 0 then 108 else e)
theorem good_opT (sat : Bool) (deep : Nat) (b : Int) : Good (opT sat deep b) :=
  Good.ite (Good.fail _ 3 (by decide)) (Good.ite (Good.bind (f := fun _ y => y) good_byte (S := fun _ => secondR) (fun _ => good_second)) (Good.ite good_byte (Good.fail _ 108 (by decide))))
theorem opT_gt (sat : Bool) (deep : Nat) (b : Int) (B : List Int) (a : Nat) (hx : B[a]? = some b) (h : (opT sat deep b B a 0).2.2 = 0) : a < (opT sat deep b B a 0).2.1 := by
  have hl := (List.getElem?_eq_some_iff.1 hx).1
  unfold opT at h ⊢
  rw [byteR_some hx] at h ⊢
  split at h
  next => exact absurd h (by simp)
  next c =>
  rw [if_neg c]
  split at h
  next c1 =>
    rw [if_pos c1]
    have := good_second.le B (a + 1) (by omega) h
    try simp only
    omega
  next c1 =>
  rw [if_neg c1]
  split at h
  next c2 => rw [if_pos c2]; simp
  next => exact absurd h (by simp)
/-- An opcode, unless it lies too deep. -/
def opR (sat : Bool) (deep : Nat) : Rr Int := fun B a e => opM sat B a (deepE B deep a e)
theorem opR_bad (sat : Bool) (deep : Nat) (B : List Int) (a : Nat) (e : Int) (he : e ≠ 0) : opR sat deep B a e = (0, a, e) := by
  simp [opR, opM, deepE, peekM, he]
theorem opR_look (sat : Bool) (deep : Nat) (B : List Int) (a : Nat) : opR sat deep B a 0 = lookR (opT sat deep) B a 0 := by
  cases hx : B[a]? with
  | none => simp [opR, opM, deepE, peekM, hx, lookR]
  | some b =>
    have hp0 : peekM B a 0 = (b, 0) := by simp [peekM, hx]
    have hp3 : peekM B a 3 = (0, 3) := by simp [peekM]
    have hd : deepE B deep a 0 = if (immM b).1 = 1 ∧ 64 ≤ deep then 3 else 0 := by simp only [deepE, hp0]; by_cases c : (immM b).1 = 1 ∧ 64 ≤ deep <;> simp [c]
    rw [show lookR (opT sat deep) B a 0 = opT sat deep b B a 0 from by simp [lookR, hx], show opR sat deep B a 0 = opM sat B a (deepE B deep a 0) from rfl, hd]
    unfold opT
    by_cases c : (immM b).1 = 1 ∧ 64 ≤ deep
    · rw [if_pos c, if_pos c]; simp [opM, hp3]
    · rw [if_neg c, if_neg c, byteR_some hx]; simp only [opM, hp0, if_true]; rfl
theorem good_op (sat : Bool) (deep : Nat) : Good (opR sat deep) :=
  (Good.look (opT sat deep) (good_opT sat deep) (fun b B a => opT_gt sat deep b B a)).of0 (fun B a e he => by rw [opR_bad _ _ _ _ _ he]) (fun B a => opR_look sat deep B a)
theorem op_gt {sat : Bool} {deep : Nat} {B : List Int} {a : Nat} (h : (opR sat deep B a 0).2.2 = 0) : a < (opR sat deep B a 0).2.1 := by
  rw [opR_look] at h ⊢
  cases hx : B[a]? with
  | none => simp [lookR, hx] at h
  | some b =>
    simp only [lookR, hx, if_true] at h ⊢
    exact opT_gt sat deep b B a hx h
/-- A block's reader: what nested blocks are read by. -/
abbrev Bk := List Int → Bool → Nat → Int → List Ins × Int × Nat × Int
def bkR (bk : Bk) (m : Bool) : Rr (List Ins × Int) := fun B a e => (((bk B m a e).1, (bk B m a e).2.1), (bk B m a e).2.2.1, (bk B m a e).2.2.2)
def bodyR (bk : Bk) (op i : Int) : Rr Ins := fun B a e => if e = 0 then bodyM (bk B) B op i a else (leafI op, a, e)
theorem good_body (bk : Bk) (hbk : ∀ m, Good (bkR bk m)) (op i : Int) : Good (bodyR bk op i) := by
  have hb : ∀ (B : List Int) (a : Nat) (e : Int), e ≠ 0 → (bodyR bk op i B a e).2.2 = e := fun B a e he => by simp [bodyR, he]
  by_cases h1 : i = 1
  · refine (Good.bind (f := fun _ y => y) good_res (S := fun t => fun B a e =>
      ((if (bkR bk (op == 4) B a e).1.2 = 5 then ((Ins.mk op t 0 0 0 [] (bkR bk (op == 4) B a e).1.1 (bkR bk false B (bkR bk (op == 4) B a e).2.1 (bkR bk (op == 4) B a e).2.2).1.1 true), (bkR bk false B (bkR bk (op == 4) B a e).2.1 (bkR bk (op == 4) B a e).2.2).2)
        else ((Ins.mk op t 0 0 0 [] (bkR bk (op == 4) B a e).1.1 [] false), (bkR bk (op == 4) B a e).2)) : Ins × Nat × Int))
      (fun t => (Good.bind (f := fun _ y => y) (hbk (op == 4)) (S := fun v => fun B a e => if v.2 = 5 then (Ins.mk op t 0 0 0 [] v.1 (bkR bk false B a e).1.1 true, (bkR bk false B a e).2) else (Ins.mk op t 0 0 0 [] v.1 [] false, a, e))
        (fun v => Good.ite ((hbk false).map (fun y => Ins.mk op t 0 0 0 [] v.1 y.1 true)) (Good.pure (Ins.mk op t 0 0 0 [] v.1 [] false)))).congr (fun B a e => rfl) (fun B a _ => rfl))).of0 hb (fun B a => ?_)
    rw [show bodyR bk op i B a 0 = (if (bkR bk (op == 4) B (rdOf (resM B a) a 0).2.1 (rdOf (resM B a) a 0).2.2).1.2 = 5 then
        ((Ins.mk op (rdOf (resM B a) a 0).1 0 0 0 [] (bkR bk (op == 4) B (rdOf (resM B a) a 0).2.1 (rdOf (resM B a) a 0).2.2).1.1 (bkR bk false B (bkR bk (op == 4) B (rdOf (resM B a) a 0).2.1 (rdOf (resM B a) a 0).2.2).2.1 (bkR bk (op == 4) B (rdOf (resM B a) a 0).2.1 (rdOf (resM B a) a 0).2.2).2.2).1.1 true), (bkR bk false B (bkR bk (op == 4) B (rdOf (resM B a) a 0).2.1 (rdOf (resM B a) a 0).2.2).2.1 (bkR bk (op == 4) B (rdOf (resM B a) a 0).2.1 (rdOf (resM B a) a 0).2.2).2.2).2)
        else ((Ins.mk op (rdOf (resM B a) a 0).1 0 0 0 [] (bkR bk (op == 4) B (rdOf (resM B a) a 0).2.1 (rdOf (resM B a) a 0).2.2).1.1 [] false), (bkR bk (op == 4) B (rdOf (resM B a) a 0).2.1 (rdOf (resM B a) a 0).2.2).2)) from by
      unfold bodyR bodyM
      rw [if_pos rfl, if_pos h1]
      rfl]
  · have hz : ∀ (B : List Int) (a : Nat), bodyR bk op i B a 0 = bodyM (bk B) B op i a := fun B a => by simp [bodyR]
    by_cases c2 : i = 2 ∨ i = 4
    · refine (good_u32.map (fun v => Ins.mk op 0 v 0 0 [] [] [] false)).of0 hb (fun B a => ?_)
      rw [hz]; unfold bodyM; rw [if_neg h1, if_pos c2]
    by_cases c3 : i = 3
    · refine (Good.bind (f := fun _ y => y) good_labels (S := fun l => fun B a e => (Ins.mk op 0 (rdOf (u32M B a) a e).1 0 0 l [] [] false, (rdOf (u32M B a) a e).2)) (fun l => good_u32.map (fun w => Ins.mk op 0 w 0 0 l [] [] false))).of0 hb (fun B a => ?_)
      rw [hz]; unfold bodyM; rw [if_neg h1, if_neg c2, if_pos c3]
    by_cases c5 : i = 5
    · refine (Good.bind (f := fun v _ => Ins.mk op 0 v 0 0 [] [] [] false) good_u32 (S := fun _ => zeroR) (fun _ => good_zero)).of0 hb (fun B a => ?_)
      rw [hz]; unfold bodyM; rw [if_neg h1, if_neg c2, if_neg c3, if_pos c5]; rfl
    by_cases c6 : i = 6
    · refine (Good.bind (f := fun v u => Ins.mk op 0 v u 0 [] [] [] false) good_u32 (S := fun _ => fun B a e => rdOf (u32M B a) a e) (fun _ => good_u32)).of0 hb (fun B a => ?_)
      rw [hz]; unfold bodyM; rw [if_neg h1, if_neg c2, if_neg c3, if_neg c5, if_pos c6]
    by_cases c7 : i = 7
    · refine (good_zero.map (fun _ => leafI op)).of0 hb (fun B a => ?_)
      rw [hz]; unfold bodyM; rw [if_neg h1, if_neg c2, if_neg c3, if_neg c5, if_neg c6, if_pos c7]; rfl
    by_cases c8 : i = 8
    · refine (good_s32.map (fun v => Ins.mk op 0 0 0 v [] [] [] false)).of0 hb (fun B a => ?_)
      rw [hz]; unfold bodyM; rw [if_neg h1, if_neg c2, if_neg c3, if_neg c5, if_neg c6, if_neg c7, if_pos c8]
    by_cases c9 : i = 9
    · refine (good_s64.map (fun v => Ins.mk op 0 0 0 v [] [] [] false)).of0 hb (fun B a => ?_)
      rw [hz]; unfold bodyM; rw [if_neg h1, if_neg c2, if_neg c3, if_neg c5, if_neg c6, if_neg c7, if_neg c8, if_pos c9]
    by_cases c10 : i = 10
    · refine ((good_fix 4).map (fun v => Ins.mk op 0 0 0 v [] [] [] false)).of0 hb (fun B a => ?_)
      rw [hz]; unfold bodyM; rw [if_neg h1, if_neg c2, if_neg c3, if_neg c5, if_neg c6, if_neg c7, if_neg c8, if_neg c9, if_pos c10]
    by_cases c11 : i = 11
    · refine ((good_fix 8).map (fun v => Ins.mk op 0 0 0 v [] [] [] false)).of0 hb (fun B a => ?_)
      rw [hz]; unfold bodyM; rw [if_neg h1, if_neg c2, if_neg c3, if_neg c5, if_neg c6, if_neg c7, if_neg c8, if_neg c9, if_neg c10, if_pos c11]
    · refine (Good.pure (leafI op)).of0 hb (fun B a => ?_)
      rw [hz]; unfold bodyM; rw [if_neg h1, if_neg c2, if_neg c3, if_neg c5, if_neg c6, if_neg c7, if_neg c8, if_neg c9, if_neg c10, if_neg c11]
def insR (bk : Bk) (sat : Bool) (deep : Nat) : Rr Ins := fun B a e => insM (bk B) sat B deep a e
theorem ins_parts (bk : Bk) (sat : Bool) (deep : Nat) (B : List Int) (a : Nat) (e : Int) : (insR bk sat deep B a e).2.2 = (bodyR bk (opR sat deep B a e).1 (immM (opR sat deep B a e).1).1 B (opR sat deep B a e).2.1 (opR sat deep B a e).2.2).2.2 ∧
    ((opR sat deep B a e).2.2 = 0 → insR bk sat deep B a e = bodyR bk (opR sat deep B a e).1 (immM (opR sat deep B a e).1).1 B (opR sat deep B a e).2.1 (opR sat deep B a e).2.2) := by
  rw [show insR bk sat deep B a e = if (opR sat deep B a e).2.2 = 0 then bodyM (bk B) B (opR sat deep B a e).1 (immM (opR sat deep B a e).1).1 (opR sat deep B a e).2.1 else (leafI 0, (opR sat deep B a e).2.1, (opR sat deep B a e).2.2) from rfl]
  generalize opR sat deep B a e = o
  unfold bodyR
  by_cases h : o.2.2 = 0 <;> simp [h]
theorem good_ins (bk : Bk) (hbk : ∀ m, Good (bkR bk m)) (sat : Bool) (deep : Nat) : Good (insR bk sat deep) := by
  refine (Good.bind (f := fun _ y => y) (good_op sat deep) (S := fun op => bodyR bk op (immM op).1) (fun op => good_body bk hbk op _)).congr (fun B a e => (ins_parts bk sat deep B a e).1) (fun B a h => (ins_parts bk sat deep B a 0).2 ?_)
  apply Classical.byContradiction
  intro hn
  rw [(good_body bk hbk _ _).bad _ _ _ hn] at h
  exact hn h
theorem ins_gt (bk : Bk) (hbk : ∀ m, Good (bkR bk m)) {sat : Bool} {deep : Nat} {B : List Int} {a : Nat} (ha : a ≤ B.length) (h : (insR bk sat deep B a 0).2.2 = 0) : a < (insR bk sat deep B a 0).2.1 := by
  have hp := ins_parts bk sat deep B a 0
  have h0 : (opR sat deep B a 0).2.2 = 0 := by
    apply Classical.byContradiction
    intro hn
    rw [hp.1, (good_body bk hbk _ _).bad _ _ _ hn] at h
    exact hn h
  rw [hp.2 h0] at h ⊢
  have g1 := op_gt h0
  have g2 := (good_op sat deep).le B a ha h0
  rw [h0] at h ⊢
  have g3 := (good_body bk hbk _ _).le _ _ g2.2 h
  omega
def bkF (sat : Bool) (f deep : Nat) : Bk := fun B m a e => blkM sat B f deep m a e []
def blkR (sat : Bool) (f deep : Nat) (may : Bool) (acc : List Ins) : Rr (List Ins × Int) := fun B a e => (((blkM sat B f deep may a e acc).1, (blkM sat B f deep may a e acc).2.1), (blkM sat B f deep may a e acc).2.2.1, (blkM sat B f deep may a e acc).2.2.2)
def blkT (sat : Bool) (f deep : Nat) (may : Bool) (acc : List Ins) (b : Int) : Rr (List Ins × Int) := fun B a e =>
  if b = 11 then ((acc, 11), (byteR B a e).2) else if b = 5 then (if may = true then ((acc, 5), (byteR B a e).2) else (([], 0), a, if e = 0 then 108 else e))
  else ((blkR sat f deep may (acc ++ [(insR (bkF sat f (deep + 1)) sat deep B a e).1]) B (insR (bkF sat f (deep + 1)) sat deep B a e).2.1 (insR (bkF sat f (deep + 1)) sat deep B a e).2.2).1,
    (blkR sat f deep may (acc ++ [(insR (bkF sat f (deep + 1)) sat deep B a e).1]) B (insR (bkF sat f (deep + 1)) sat deep B a e).2.1 (insR (bkF sat f (deep + 1)) sat deep B a e).2.2).2)
theorem blkR_bad (sat : Bool) (f deep : Nat) (may : Bool) (acc : List Ins) (B : List Int) (a : Nat) (e : Int) (he : e ≠ 0) : blkR sat f deep may acc B a e = (([], 0), a, e) := by
  cases f with
  | zero => simp [blkR, blkM]
  | succ f => simp [blkR, blkM, he]
theorem blkR_look (sat : Bool) (f deep : Nat) (may : Bool) (acc : List Ins) (B : List Int) (a : Nat) :
    (blkR sat (f + 1) deep may acc B a 0).2.2 = (lookR (blkT sat f deep may acc) B a 0).2.2 ∧ ((lookR (blkT sat f deep may acc) B a 0).2.2 = 0 → blkR sat (f + 1) deep may acc B a 0 = lookR (blkT sat f deep may acc) B a 0) := by
  cases hx : B[a]? with
  | none => simp [blkR, blkM, lookR, hx]
  | some b =>
    simp only [blkR, blkM, lookR, hx, blkT, if_true, byteR_some hx]
    by_cases c : b = 11
    · simp [c]
    by_cases c5 : b = 5
    · subst c5
      rw [if_neg c, if_neg c]
      simp only [if_true]
      split <;> exact ⟨rfl, fun _ => rfl⟩
    · rw [if_neg c, if_neg c, if_neg c5, if_neg c5]
      show (_ ∧ _)
      have hi : insM (fun m a' e' => blkM sat B f (deep + 1) m a' e' []) sat B deep a 0 = insR (bkF sat f (deep + 1)) sat deep B a 0 := rfl
      rw [hi]
      by_cases h0 : (insR (bkF sat f (deep + 1)) sat deep B a 0).2.2 = 0
      · rw [if_pos h0, h0]
        exact ⟨rfl, fun _ => rfl⟩
      · rw [if_neg h0, show blkM sat B f deep may (insR (bkF sat f (deep + 1)) sat deep B a 0).2.1 (insR (bkF sat f (deep + 1)) sat deep B a 0).2.2 (acc ++ [(insR (bkF sat f (deep + 1)) sat deep B a 0).1]) = ([], 0, (insR (bkF sat f (deep + 1)) sat deep B a 0).2.1, (insR (bkF sat f (deep + 1)) sat deep B a 0).2.2) from by
          cases f with
          | zero => rfl
          | succ f => rw [blkM, if_neg h0]]
        exact ⟨rfl, fun h => rfl⟩
theorem good_blk (sat : Bool) : ∀ (f deep : Nat) (may : Bool) (acc : List Ins), Good (blkR sat f deep may acc)
  | 0, deep, may, acc => Good.pure ([], 0)
  | f + 1, deep, may, acc => by
    have hbk : ∀ m, Good (bkR (bkF sat f (deep + 1)) m) := fun m => good_blk sat f (deep + 1) m []
    refine (Good.look (blkT sat f deep may acc) (fun b => ?_) (fun b B a hx h => ?_)).congr (fun B a e => ?_) (fun B a h => (blkR_look sat f deep may acc B a).2 h)
    · exact Good.ite (good_byte.map (fun _ => (acc, 11))) (Good.ite (Good.ite (good_byte.map (fun _ => (acc, 5))) (Good.fail _ 108 (by decide))) (Good.bind (f := fun _ y => y) (good_ins _ hbk sat deep) (S := fun x => blkR sat f deep may (acc ++ [x])) (fun x => good_blk sat f deep may _)))
    · have hl := (List.getElem?_eq_some_iff.1 hx).1
      unfold blkT at h ⊢
      rw [byteR_some hx] at h ⊢
      split at h
      next c => rw [if_pos c]; simp
      next c =>
      rw [if_neg c]
      split at h
      next c5 =>
        rw [if_pos c5]
        split at h
        next c6 => rw [if_pos c6]; simp
        next => exact absurd h (by simp)
      next c5 =>
      rw [if_neg c5]
      have h0 : (insR (bkF sat f (deep + 1)) sat deep B a 0).2.2 = 0 := by
        apply Classical.byContradiction
        intro hn
        rw [(good_blk sat f deep may _).bad _ _ _ hn] at h
        exact hn h
      have g1 := ins_gt _ hbk (by omega) h0
      have g2 := (good_ins _ hbk sat deep).le B a (by omega) h0
      rw [h0] at h ⊢
      have g3 := (good_blk sat f deep may _).le _ _ g2.2 h
      try simp only
      omega
    · by_cases he : e = 0
      · subst he; exact (blkR_look sat f deep may acc B a).1
      · rw [blkR_bad _ _ _ _ _ _ _ _ he]; simp [lookR, he]
end Go.Proofs.Ytfndlpfceokloaa
end
section
namespace Go.Proofs.Ytfndlpfceokloaa
open Go.RowKit Go.Shelf YtfndlpfceokloaaB Go.Proofs.YtfndlpfceokloaaW.PrintWords
def BlkPost (W : World) (p q : Nat) (B : List Int) (r : List Ins × Int × Nat × Int) (E : Ending) (w' : World) : Prop :=
  (∃ A c, E = .returned (.tuple #[.slice A r.1.length c, .int .u8 r.2.1]) ∧ r.1.length ≤ c ∧ FC kI w' (fun k => W.heap.size ≤ k) A r.1) ∧ Goes W w' p q B r.2.2.1 r.2.2.2
/-- What a reading call does to the world that writes at X too. -/
def GoesX (W W' : World) (p q X : Nat) (B : List Int) (a : Nat) (e : Int) : Prop :=
  Cur W' p q B a e ∧ W'.os = W.os ∧ W'.tape = W.tape ∧ W'.output = W.output ∧ W.heap.size ≤ W'.heap.size ∧ ∀ k, k < W.heap.size → k ≠ p → k ≠ X → W'.heap[k]? = W.heap[k]?
theorem GoesX.of {W W' : World} {p q X : Nat} {B : List Int} {a : Nat} {e : Int} (h : Goes W W' p q B a e) : GoesX W W' p q X B a e :=
  ⟨h.1, h.2.os, h.2.tape, h.2.output, h.2.size, fun k hk hp _ => h.2.block k hk (by simpa using hp)⟩
theorem GoesX.trans {W W1 W2 : World} {p q X : Nat} {B : List Int} {a a' : Nat} {e e' : Int} (h : GoesX W W1 p q X B a e) (h' : GoesX W1 W2 p q X B a' e') : GoesX W W2 p q X B a' e' := by
  obtain ⟨_, h1, h2, h3, h4, h5⟩ := h
  obtain ⟨g0, g1, g2, g3, g4, g5⟩ := h'
  exact ⟨g0, g1.trans h1, g2.trans h2, g3.trans h3, Nat.le_trans h4 g4, fun k hk hp hX => (g5 k (Nat.lt_of_lt_of_le hk h4) hp hX).trans (h5 k hk hp hX)⟩
theorem GoesX.set {W W1 : World} {p q X : Nat} {B : List Int} {a : Nat} {e : Int} (h : GoesX W W1 p q X B a e) (hX : X ≠ p) (hq : X ≠ q) (j : Nat) (v : Value) : GoesX W (W1.setCell ⟨X, j, none⟩ v) p q X B a e := by
  obtain ⟨h0, h1, h2, h3, h4, h5⟩ := h
  have hg := gset W1 X j v
  exact ⟨h0.grown hg (by simpa using hX.symm) (by simpa using hq.symm), h1, h2, h3, Nat.le_trans h4 hg.size, fun k hk hp hx => (hg.block k (Nat.lt_of_lt_of_le hk h4) (by simpa using hx)).trans (h5 k hk hp hx)⟩
/-- The same, where the reader's block is written too. -/
structure Goes3 (W W' : World) (p q X R : Nat) (B : List Int) (a : Nat) (e : Int) : Prop where
  cur : Cur W' p q B a e
  os : W'.os = W.os
  tape : W'.tape = W.tape
  output : W'.output = W.output
  size : W.heap.size ≤ W'.heap.size
  block : ∀ k, k < W.heap.size → k ≠ p → k ≠ X → k ≠ R → W'.heap[k]? = W.heap[k]?
theorem Goes3.of {W W' : World} {p q X R : Nat} {B : List Int} {a : Nat} {e : Int} (h : Goes W W' p q B a e) : Goes3 W W' p q X R B a e :=
  ⟨h.1, h.2.os, h.2.tape, h.2.output, h.2.size, fun k hk hp _ _ => h.2.block k hk (by simpa using hp)⟩
theorem Goes3.goes {W W1 W2 : World} {p q X R : Nat} {B : List Int} {a a' : Nat} {e e' : Int} (h : Goes3 W W1 p q X R B a e) (h' : Goes W1 W2 p q B a' e') : Goes3 W W2 p q X R B a' e' :=
  ⟨h'.1, h'.2.os.trans h.os, h'.2.tape.trans h.tape, h'.2.output.trans h.output, Nat.le_trans h.size h'.2.size, fun k hk hp hX hR => (h'.2.block k (Nat.lt_of_lt_of_le hk h.size) (by simpa using hp)).trans (h.block k hk hp hX hR)⟩
theorem Goes3.set {W W1 : World} {p q X R : Nat} {B : List Int} {a : Nat} {e : Int} (h : Goes3 W W1 p q X R B a e) (g : Nat) (hg : g = X ∨ g = R) (hp : g ≠ p) (hq : g ≠ q) (j : Nat) (v : Value) : Goes3 W (W1.setCell ⟨g, j, none⟩ v) p q X R B a e := by
  have hs := gset W1 g j v
  refine ⟨h.cur.grown hs (by simpa using hp.symm) (by simpa using hq.symm), h.os, h.tape, h.output, Nat.le_trans h.size hs.size, fun k hk hkp hkX hkR => (hs.block k (Nat.lt_of_lt_of_le hk h.size) ?_).trans (h.block k hk hkp hkX hkR)⟩
  rcases hg with rfl | rfl
  · simpa using hkX
  · simpa using hkR
theorem Goes3.fin {W W' : World} {p q X R : Nat} {B : List Int} {a : Nat} {e : Int} {sat : Bool} {deep : Int} (h : Goes3 W W' p q X R B a e) (hR : Rp W R p sat deep) (hR' : Rp W' R p sat deep) : GoesX W W' p q X B a e :=
  ⟨h.cur, h.os, h.tape, h.output, h.size, fun k hk hp hX => by
    by_cases hkR : k = R
    · subst hkR; exact (show W'.heap[k]? = _ from hR').trans (show W.heap[k]? = _ from hR).symm
    · exact h.block k hk hp hX hkR⟩
theorem Rp.set {W : World} {R p : Nat} {sat : Bool} {deep : Int} (h : Rp W R p sat deep) (d' : Int) : Rp (W.setCell ⟨R, 2, none⟩ (.int .i64 d')) R p sat d' := by
  have := Blk.set h 2 (.int .i64 d')
  simp at this
  exact this
theorem Rp.other {W : World} {R p : Nat} {sat : Bool} {deep : Int} (h : Rp W R p sat deep) (g : Nat) (hg : R ≠ g) (j : Nat) (v : Value) : Rp (W.setCell ⟨g, j, none⟩ v) R p sat deep := Blk.set_other h _ _ hg
theorem FC.set {α : Type} {d : Kd α} {W : World} {ok : Nat → Prop} {A : Option Addr} {xs : List α} (h : FC d W ok A xs) (g j : Nat) (v : Value) (hg : ¬ ok g) : FC d (W.setCell ⟨g, j, none⟩ v) ok A xs := Ft.grown h (gset W g j v) (fun k hk e => by injection e with e; exact hg (e ▸ hk))
theorem FC.goes {α : Type} {d : Kd α} {W W1 : World} {ok : Nat → Prop} {A : Option Addr} {xs : List α} {p q : Nat} {B : List Int} {a : Nat} {e : Int} (h : FC d W ok A xs) (hG : Goes W W1 p q B a e) (hg : ¬ ok p) : FC d W1 ok A xs := Ft.grown h hG.2 (fun k hk e => by injection e with e; exact hg (e ▸ hk))
/-- The reader's block is written and written back. -/
def insC (op ty a b bits : Int) (vL vT vE : Value) (has : Bool) : Array Value := #[.int .i64 op, .int .u8 ty, .int .u32 a, .int .u32 b, .int .u64 bits, vL, vT, vE, .bool has]
def NestPost (W : World) (p q X R : Nat) (sat : Bool) (deep : Int) (B : List Int) (r : Ins × Nat × Int) (E : Ending) (w' : World) : Prop :=
  E = .returned (.tuple #[]) ∧ (∃ cs : Array Value, ∃ x', Blk w' X cs 160 ∧ FK kI w' (fun k => W.heap.size ≤ k) x' cs.toList ∧ (r.2.2 = 0 → x' = r.1)) ∧ GoesX W w' p q X B r.2.1 r.2.2 ∧ Rp w' R p sat deep
theorem Cur.qlt {W : World} {p q : Nat} {B : List Int} {a : Nat} {e : Int} (h : Cur W p q B a e) : B = [] ∨ q < W.heap.size := by
  rcases Nat.eq_zero_or_pos B.length with hz | hz
  · exact .inl (List.eq_nil_of_length_eq_zero hz)
  · obtain ⟨_, _, A, c, _, _, h4⟩ := h
    obtain ⟨o, _, hcell⟩ := h4 hz
    exact .inr (World.block_lt_of_cell? _ _ (hcell 0 _ (List.getElem?_eq_getElem hz)))
theorem nest_wf {op : Int} (h0 : 0 ≤ op) (h1 : op ≤ 5000000000) : (Lit.int .i64 op).wf = true := by simp [Lit.wf, IntKind.min, IntKind.max, IntKind.signed, IntKind.bits]; omega
theorem nest_ty {ty : Int} (h : ty = 0 ∨ ty = 127 ∨ ty = 126 ∨ ty = 125 ∨ ty = 124) : (Lit.int .u8 ty).wf = true := by rcases h with rfl | rfl | rfl | rfl | rfl <;> rfl
theorem res_bound (B : List Int) (a : Nat) (e : Int) : (rdOf (resM B a) a e).1 = 0 ∨ (rdOf (resM B a) a e).1 = 127 ∨ (rdOf (resM B a) a e).1 = 126 ∨ (rdOf (resM B a) a e).1 = 125 ∨ (rdOf (resM B a) a e).1 = 124 := by
  unfold rdOf
  by_cases he : e = 0
  · rw [if_pos he]
    unfold resM amongM
    cases hx : B[a]? with
    | none => exact .inl rfl
    | some x =>
      simp only
      by_cases hm : x ∈ ([127, 126, 125, 124, 64] : List Int)
      · rw [if_pos hm]
        simp only [List.mem_cons, List.mem_nil_iff, or_false] at hm
        rcases hm with rfl | rfl | rfl | rfl | rfl <;> simp [numV]
      · rw [if_neg hm]; exact .inl rfl
  · rw [if_neg he]; exact .inl rfl
set_option maxRecDepth 100000 in
set_option maxHeartbeats 4000000 in
theorem nested_any (bk : Bool → Nat → Int → List Ins × Int × Nat × Int) (W : World) (R p q X : Nat) (sat : Bool) (deep : Nat) (B : List Int) (a : Nat) (op : Int) (hR : Rp W R p sat deep) (hRp : R ≠ p) (hRX : R ≠ X) (hXp : X ≠ p) (hRq : R ≠ q) (hXq : X ≠ q) (hC : Cur W p q B a 0) (hB : Byts B) (hd : deep ≤ 64) (hop : 0 ≤ op ∧ op ≤ 5000000000)
    (hX : Blk W X (insC op 0 0 0 0 (.slice none 0 0) (.slice none 0 0) (.slice none 0 0) false) 160)
    (hbk : ∀ (W' : World) (m : Bool) (a' : Nat) (e' : Int), a ≤ a' ∨ ¬ e' = 0 → Rp W' R p sat (deep + 1 : Nat) → Cur W' p q B a' e' → Calls Try.prog 94 #[.pointer (some ⟨R, 0, none⟩), .bool m] W' (BlkPost W' p q B (bk m a' e')))
    (hge : BkGe bk) :
    Calls Try.prog 132 #[.pointer (some ⟨R, 0, none⟩), .pointer (some ⟨X, 0, none⟩)] W (NestPost W p q X R sat deep B (bodyM bk B op 1 a)) := by
  obtain ⟨r0, r1, r2, rf, rlt⟩ := hR.cells
  have hplt := hC.lt
  have hXlt := hX.lt
  have H := Lib.hid (Results_any W p q B a 0 hC hB)
  have HG1 := Lib.hid (res_ge (B := B) (a := a) (e := 0))
  have HV := Lib.hid (show bodyM bk B op 1 a = (let t := rdOf (resM B a) a 0; let r := bk (op == 4) t.2.1 t.2.2; if r.2.1 = 5 then let s := bk false r.2.2.1 r.2.2.2; (.mk op t.1 0 0 0 [] r.1 s.1 true, s.2.2.1, s.2.2.2) else (.mk op t.1 0 0 0 [] r.1 [] false, r.2.2.1, r.2.2.2)) from if_pos rfl)
  have hty := res_bound B a 0
  generalize rdOf (resM B a) a 0 = t at *
  obtain ⟨ty, a1, e1⟩ := t
  simp only at HV HG1 hty H
  have HBK := Lib.hid hbk
  have HGE := Lib.hid hge
  have HR := Lib.hid hR
  have HX := Lib.hid hX
  have hdi : (deep : Int) ≤ 64 := by omega
  clear hC hB hbk hge hR hX
  go_enter Try.func132, Try.ntmps132
  go_wp2_with fail
  refine H.out.mono ?_
  rintro E W1 ⟨rfl, hG⟩
  have HRa := Lib.hid (HR.out.goes hRp hG)
  have HXa := Lib.hid (HX.out.grown hG.2 (by simpa using hXp))
  obtain ⟨s0, s1, s2, sf, slt⟩ := HRa.out.cells
  have x0 : W1.cell? ⟨X, 0, none⟩ = some (.int .i64 op) := by rw [HXa.out.cell]; rfl
  have x1 : W1.cell? ⟨X, 1, none⟩ = some (.int .u8 0) := by rw [HXa.out.cell]; rfl
  have xf1 := HXa.out.frozen 1
  have HG := Lib.hid hG
  clear hG H
  go_wp2_with fail
  have XB : Blk ((W1.setCell ⟨X, 1, none⟩ (.int .u8 ty)).setCell ⟨R, 2, none⟩ (.int .i64 ((deep : Int) + 1))) X (insC op ty 0 0 0 (.slice none 0 0) (.slice none 0 0) (.slice none 0 0) false) 160 := by
    have := (HXa.out.set 1 (.int .u8 ty)).set_other ⟨R, 2, none⟩ (.int .i64 ((deep : Int) + 1)) (by simpa using hRX.symm)
    simpa [insC] using this
  have RB : Rp ((W1.setCell ⟨X, 1, none⟩ (.int .u8 ty)).setCell ⟨R, 2, none⟩ (.int .i64 ((deep : Int) + 1))) R p sat (deep + 1 : Nat) := by
    have := (HRa.out.other X hRX 1 (.int .u8 ty)).set ((deep : Int) + 1)
    exact this
  have G3 : Goes3 W ((W1.setCell ⟨X, 1, none⟩ (.int .u8 ty)).setCell ⟨R, 2, none⟩ (.int .i64 ((deep : Int) + 1))) p q X R B a1 e1 :=
    ((Goes3.of HG.out).set X (.inl rfl) hXp hXq 1 _).set R (.inr rfl) hRp hRq 2 _
  generalize (W1.setCell ⟨X, 1, none⟩ (.int .u8 ty)).setCell ⟨R, 2, none⟩ (.int .i64 ((deep : Int) + 1)) = Wb at *
  have HBC := Lib.hid (HBK.out Wb (op == 4) a1 e1 (by by_cases h : e1 = 0; exact .inl (HG1.out h).1; exact .inr h) RB G3.cur)
  have HGE1 := Lib.hid (HGE.out (op == 4) a1 e1)
  have HBK2 := Lib.hid (fun X' a' e' => HBK.out X' false a' e')
  have HVV := Lib.hid (fun a' e' => HGE.out false a' e')
  generalize bk (op == 4) a1 e1 = r at *
  obtain ⟨th, en, a2, e2⟩ := r
  simp only at HV HGE1
  have HXb := Lib.hid XB
  have HRb := Lib.hid RB
  have HG3 := Lib.hid G3
  clear XB RB G3 HXa HRa s0 s1 s2 sf slt x0 x1 xf1 HBK
  refine HBC.out.mono ?_
  rintro E W2 ⟨⟨A6, c6, rfl, hl6, hF6⟩, hG2⟩
  have hG2' : Goes Wb W2 p q B a2 e2 := hG2
  have HX2 := Lib.hid (HXb.out.grown hG2'.2 (by simpa using hXp))
  have HR2 := Lib.hid (HRb.out.goes hRp hG2')
  have HG4 := Lib.hid (HG3.out.goes hG2')
  have HF6 := Lib.hid (hF6.mono (ok' := fun k => W.heap.size ≤ k) (fun k hk => Nat.le_trans HG3.out.size hk))
  have x6 : (W2.cell? ⟨X, 6, none⟩) = some (.slice none 0 0) := by rw [HX2.out.cell]; rfl
  have x8 : (W2.cell? ⟨X, 8, none⟩) = some (.bool false) := by rw [HX2.out.cell]; rfl
  have xf6 := HX2.out.frozen 6
  have xf7 := HX2.out.frozen 7
  have xf8 := HX2.out.frozen 8
  have hXlt2 := HX2.out.lt
  obtain ⟨s0, s1, s2, sf, slt⟩ := HR2.out.cells
  have hdc : (((deep + 1 : Nat) : Nat) : Int) = (deep : Int) + 1 := by omega
  rw [hdc] at s2
  clear hF6 hG2 hG2' HBC hdc
  by_cases h5 : en = 5
  · subst h5
    rw [if_pos rfl] at HV
    have hd2 : (((deep + 1 : Nat) : Nat) : Int) = (deep : Int) + 1 := by omega
    go_wp2_with fail
    have X3 : Blk ((W2.setCell ⟨X, 6, none⟩ (.slice A6 th.length c6)).setCell ⟨X, 8, none⟩ (.bool true)) X (insC op ty 0 0 0 (.slice none 0 0) (.slice A6 th.length c6) (.slice none 0 0) true) 160 := by
      have := (HX2.out.set 6 (.slice A6 th.length c6)).set 8 (.bool true)
      simpa [insC] using this
    have R3 : Rp ((W2.setCell ⟨X, 6, none⟩ (.slice A6 th.length c6)).setCell ⟨X, 8, none⟩ (.bool true)) R p sat (deep + 1 : Nat) := (HR2.out.other X hRX 6 _).other X hRX 8 _
    have G5 : Goes3 W ((W2.setCell ⟨X, 6, none⟩ (.slice A6 th.length c6)).setCell ⟨X, 8, none⟩ (.bool true)) p q X R B a2 e2 := (HG4.out.set X (.inl rfl) hXp hXq 6 _).set X (.inl rfl) hXp hXq 8 _
    have F3 : FC kI ((W2.setCell ⟨X, 6, none⟩ (.slice A6 th.length c6)).setCell ⟨X, 8, none⟩ (.bool true)) (fun k => W.heap.size ≤ k) A6 th := FC.set (FC.set HF6.out X 6 _ (by omega)) X 8 _ (by omega)
    generalize (W2.setCell ⟨X, 6, none⟩ (.slice A6 th.length c6)).setCell ⟨X, 8, none⟩ (.bool true) = Wc at *
    have HBC := Lib.hid (HBK2.out Wc a2 e2 (by
      by_cases h : e2 = 0
      · have h1 := HGE1.out h
        have h2 := HG1.out h1.2
        exact .inl (by omega)
      · exact .inr h) R3 G5.cur)
    generalize bk false a2 e2 = r2 at *
    obtain ⟨el, en2, a3, e3⟩ := r2
    simp only at HV
    have HX3 := Lib.hid X3
    have HR3 := Lib.hid R3
    have HG5 := Lib.hid G5
    have HF3 := Lib.hid F3
    clear X3 R3 G5 F3 s0 s1 s2 sf slt x6 x8 xf6 xf7 xf8
    refine HBC.out.mono ?_
    rintro E W3 ⟨⟨A7, c7, rfl, hl7, hF7⟩, hG3⟩
    have hG3' : Goes Wc W3 p q B a3 e3 := hG3
    have HX4 := Lib.hid (HX3.out.grown hG3'.2 (by simpa using hXp))
    have HR4 := Lib.hid (HR3.out.goes hRp hG3')
    have HG6 := Lib.hid (HG5.out.goes hG3')
    have HF7 := Lib.hid (hF7.mono (ok' := fun k => W.heap.size ≤ k) (fun k hk => Nat.le_trans HG5.out.size hk))
    have HF4 := Lib.hid (FC.goes HF3.out hG3' (by omega))
    have x7 : (W3.cell? ⟨X, 7, none⟩) = some (.slice none 0 0) := by rw [HX4.out.cell]; rfl
    have xf7 := HX4.out.frozen 7
    have hXlt3 := HX4.out.lt
    obtain ⟨s0, s1, s2, sf, slt⟩ := HR4.out.cells
    rw [hd2] at s2
    clear hF7 hG3 hG3' HBC hd2
    go_wp2_with fail
    go_end0
    have X5 : Blk ((W3.setCell ⟨X, 7, none⟩ (.slice A7 el.length c7)).setCell ⟨R, 2, none⟩ (.int .i64 deep)) X (insC op ty 0 0 0 (.slice none 0 0) (.slice A6 th.length c6) (.slice A7 el.length c7) true) 160 := by
      have := (HX4.out.set 7 (.slice A7 el.length c7)).set_other ⟨R, 2, none⟩ (.int .i64 deep) (by simpa using hRX.symm)
      simpa [insC] using this
    have R5 : Rp ((W3.setCell ⟨X, 7, none⟩ (.slice A7 el.length c7)).setCell ⟨R, 2, none⟩ (.int .i64 deep)) R p sat deep := (HR4.out.other X hRX 7 _).set deep
    have G7 := ((HG6.out.set X (.inl rfl) hXp hXq 7 (.slice A7 el.length c7)).set R (.inr rfl) hRp hRq 2 (.int .i64 deep)).fin HR.out R5
    rw [HV.out]
    refine ⟨rfl, ⟨_, .mk op ty 0 0 0 [] th el true, X5, ?_, fun _ => rfl⟩, G7, R5⟩
    exact ins_mkF (x := .mk op ty 0 0 0 [] th el true) (nest_wf hop.1 hop.2) (nest_ty hty) rfl rfl rfl FC.nil (FC.set (FC.set HF4.out X 7 _ (by omega)) R 2 _ (by omega)) (FC.set (FC.set HF7.out X 7 _ (by omega)) R 2 _ (by omega)) (Nat.le_refl _) hl6 hl7
  · have h5b : (en == 5) = false := by simpa using h5
    rw [if_neg h5] at HV
    clear h5
    go_wp2_with fail
    go_end0
    have X5 : Blk ((W2.setCell ⟨X, 6, none⟩ (.slice A6 th.length c6)).setCell ⟨R, 2, none⟩ (.int .i64 deep)) X (insC op ty 0 0 0 (.slice none 0 0) (.slice A6 th.length c6) (.slice none 0 0) false) 160 := by
      have := (HX2.out.set 6 (.slice A6 th.length c6)).set_other ⟨R, 2, none⟩ (.int .i64 deep) (by simpa using hRX.symm)
      simpa [insC] using this
    have R5 : Rp ((W2.setCell ⟨X, 6, none⟩ (.slice A6 th.length c6)).setCell ⟨R, 2, none⟩ (.int .i64 deep)) R p sat deep := (HR2.out.other X hRX 6 _).set deep
    have G7 := ((HG4.out.set X (.inl rfl) hXp hXq 6 (.slice A6 th.length c6)).set R (.inr rfl) hRp hRq 2 (.int .i64 deep)).fin HR.out R5
    rw [HV.out]
    refine ⟨rfl, ⟨_, .mk op ty 0 0 0 [] th [] false, X5, ?_, fun _ => rfl⟩, G7, R5⟩
    exact ins_mkF (x := .mk op ty 0 0 0 [] th [] false) (nest_wf hop.1 hop.2) (nest_ty hty) rfl rfl rfl FC.nil (FC.set (FC.set HF6.out X 6 _ (by omega)) R 2 _ (by omega)) FC.nil (Nat.le_refl _) hl6 (Nat.le_refl _)
end Go.Proofs.Ytfndlpfceokloaa
end
section
namespace Go.Proofs.Ytfndlpfceokloaa
open Go.RowKit Go.Shelf YtfndlpfceokloaaB Go.Proofs.YtfndlpfceokloaaW.PrintWords
def zeroC : Array Value := insC 0 0 0 0 0 (.slice none 0 0) (.slice none 0 0) (.slice none 0 0) false
def InsPost (W : World) (p q : Nat) (B : List Int) (r : Ins × Nat × Int) (E : Ending) (w' : World) : Prop :=
  ∃ x' : Ins, ∃ AL AT AE cL cT cE, E = .returned (.agg (insC x'.op x'.ty x'.a x'.b x'.bits (.slice AL x'.list.length cL) (.slice AT x'.th.length cT) (.slice AE x'.el.length cE) x'.has)) ∧
    FK kI w' (fun k => W.heap.size ≤ k) x' (insC x'.op x'.ty x'.a x'.b x'.bits (.slice AL x'.list.length cL) (.slice AT x'.th.length cT) (.slice AE x'.el.length cE) x'.has).toList ∧ (r.2.2 = 0 → x' = r.1) ∧ Goes W w' p q B r.2.1 r.2.2
theorem insC_cells {W : World} {X : Nat} {op ty a b bits : Int} {vL vT vE : Value} {has : Bool} (h : Blk W X (insC op ty a b bits vL vT vE has) 160) :
    W.cell? ⟨X, 0, none⟩ = some (.int .i64 op) ∧ W.cell? ⟨X, 1, none⟩ = some (.int .u8 ty) ∧ W.cell? ⟨X, 2, none⟩ = some (.int .u32 a) ∧ W.cell? ⟨X, 3, none⟩ = some (.int .u32 b) ∧ W.cell? ⟨X, 4, none⟩ = some (.int .u64 bits) ∧ W.cell? ⟨X, 5, none⟩ = some vL ∧ W.cell? ⟨X, 6, none⟩ = some vT ∧ W.cell? ⟨X, 7, none⟩ = some vE ∧ W.cell? ⟨X, 8, none⟩ = some (.bool has) :=
  ⟨by rw [h.cell]; rfl, by rw [h.cell]; rfl, by rw [h.cell]; rfl, by rw [h.cell]; rfl, by rw [h.cell]; rfl, by rw [h.cell]; rfl, by rw [h.cell]; rfl, by rw [h.cell]; rfl, by rw [h.cell]; rfl⟩
theorem insC_frozen {W : World} {X : Nat} {cs : Array Value} {t : TypeId} (h : Blk W X cs t) :
    W.frozen? ⟨X, 0, none⟩ = false ∧ W.frozen? ⟨X, 1, none⟩ = false ∧ W.frozen? ⟨X, 2, none⟩ = false ∧ W.frozen? ⟨X, 3, none⟩ = false ∧ W.frozen? ⟨X, 4, none⟩ = false ∧ W.frozen? ⟨X, 5, none⟩ = false ∧ W.frozen? ⟨X, 6, none⟩ = false ∧ W.frozen? ⟨X, 7, none⟩ = false ∧ W.frozen? ⟨X, 8, none⟩ = false ∧ X < W.heap.size :=
  ⟨h.frozen 0, h.frozen 1, h.frozen 2, h.frozen 3, h.frozen 4, h.frozen 5, h.frozen 6, h.frozen 7, h.frozen 8, h.lt⟩
theorem Goes.setNew {W V : World} {p q : Nat} {B : List Int} {a a0 : Nat} {e e0 : Int} (hC : Cur W p q B a0 e0) (h : Goes W V p q B a e) (X : Nat) (hX : W.heap.size ≤ X) (j : Nat) (v : Value) : Goes W (V.setCell ⟨X, j, none⟩ v) p q B a e :=
  lab_goes hC h (gset V X j v) (fun k e => by cases e; exact hX)
def put9 (V : World) (Z : Nat) (n0 n1 n2 n3 n4 n5 n6 n7 n8 : Value) : World := (((((((((V.setCell ⟨Z, 0, none⟩ n0).setCell ⟨Z, 1, none⟩ n1).setCell ⟨Z, 2, none⟩ n2).setCell ⟨Z, 3, none⟩ n3).setCell ⟨Z, 4, none⟩ n4).setCell ⟨Z, 5, none⟩ n5).setCell ⟨Z, 6, none⟩ n6).setCell ⟨Z, 7, none⟩ n7).setCell ⟨Z, 8, none⟩ n8)
theorem put9_blk {V : World} {Z : Nat} {t : TypeId} {o0 o1 o2 o3 o4 o5 o6 o7 o8 : Value} (h : Blk V Z #[o0, o1, o2, o3, o4, o5, o6, o7, o8] t) (n0 n1 n2 n3 n4 n5 n6 n7 n8 : Value) : Blk (put9 V Z n0 n1 n2 n3 n4 n5 n6 n7 n8) Z #[n0, n1, n2, n3, n4, n5, n6, n7, n8] t := by
  have := ((((((((h.set 0 n0).set 1 n1).set 2 n2).set 3 n3).set 4 n4).set 5 n5).set 6 n6).set 7 n7).set 8 n8
  simpa [put9] using this
theorem put9_goes {W V : World} {p q : Nat} {B : List Int} {a a0 : Nat} {e e0 : Int} (hC : Cur W p q B a0 e0) (h : Goes W V p q B a e) (Z : Nat) (hZ : W.heap.size ≤ Z) (n0 n1 n2 n3 n4 n5 n6 n7 n8 : Value) : Goes W (put9 V Z n0 n1 n2 n3 n4 n5 n6 n7 n8) p q B a e :=
  ((((((((h.setNew hC Z hZ 0 n0).setNew hC Z hZ 1 n1).setNew hC Z hZ 2 n2).setNew hC Z hZ 3 n3).setNew hC Z hZ 4 n4).setNew hC Z hZ 5 n5).setNew hC Z hZ 6 n6).setNew hC Z hZ 7 n7).setNew hC Z hZ 8 n8
theorem put9_FC {α : Type} {d : Kd α} {V : World} {ok : Nat → Prop} {A : Option Addr} {xs : List α} (h : FC d V ok A xs) (Z : Nat) (hZ : ¬ ok Z) (n0 n1 n2 n3 n4 n5 n6 n7 n8 : Value) : FC d (put9 V Z n0 n1 n2 n3 n4 n5 n6 n7 n8) ok A xs :=
  FC.set (FC.set (FC.set (FC.set (FC.set (FC.set (FC.set (FC.set (FC.set h Z 0 n0 hZ) Z 1 n1 hZ) Z 2 n2 hZ) Z 3 n3 hZ) Z 4 n4 hZ) Z 5 n5 hZ) Z 6 n6 hZ) Z 7 n7 hZ) Z 8 n8 hZ
theorem fk_flat {W : World} {ok : Nat → Prop} {op ty a b bits : Int} (h1 : 0 ≤ op ∧ op ≤ 5000000000) (h2 : 0 ≤ ty ∧ ty ≤ 255) (h3 : 0 ≤ a ∧ a ≤ 4294967295) (h4 : 0 ≤ b ∧ b ≤ 4294967295) (h5 : 0 ≤ bits ∧ bits < 18446744073709551616) :
    FK kI W ok (.mk op ty a b bits [] [] [] false) (insC op ty a b bits (.slice none 0 0) (.slice none 0 0) (.slice none 0 0) false).toList :=
  ins_mkF (x := .mk op ty a b bits [] [] [] false) (nest_wf h1.1 h1.2) (show (Lit.int .u8 ty).wf = true from by simp [Lit.wf, IntKind.min, IntKind.max, IntKind.signed, IntKind.bits]; omega) (show (Lit.int .u32 a).wf = true from by simp [Lit.wf, IntKind.min, IntKind.max, IntKind.signed, IntKind.bits]; omega) (show (Lit.int .u32 b).wf = true from by simp [Lit.wf, IntKind.min, IntKind.max, IntKind.signed, IntKind.bits]; omega) (show (Lit.int .u64 bits).wf = true from by simp [Lit.wf, IntKind.min, IntKind.max, IntKind.signed, IntKind.bits]; omega) FC.nil FC.nil FC.nil (Nat.le_refl _) (Nat.le_refl _) (Nat.le_refl _)
theorem s32_bound (B : List Int) (a : Nat) (e : Int) : 0 ≤ (rdOf (s32M B a) a e).1 ∧ (rdOf (s32M B a) a e).1 ≤ 4294967295 := by
  unfold rdOf
  by_cases he : e = 0
  · rw [if_pos he]
    unfold s32M
    cases sintM B a 32 with
    | error e' => simp [numV]
    | ok y => obtain ⟨n, nx⟩ := y; simp only [numV]; omega
  · rw [if_neg he]; simp
theorem s64_bound (B : List Int) (a : Nat) (e : Int) (hB : Byts B) : 0 ≤ (rdOf (s64M B a) a e).1 ∧ (rdOf (s64M B a) a e).1 < 18446744073709551616 := by
  unfold rdOf
  by_cases he : e = 0
  · rw [if_pos he]
    unfold s64M
    cases hs : sintM B a 64 with
    | error e' => simp [numV]
    | ok y => obtain ⟨n, nx⟩ := y; have := sintM_lt hB (by omega) hs; simp only [numV]; omega
  · rw [if_neg he]; simp
theorem fix_bound (B : List Int) (a n : Nat) (e : Int) (hn : n ≤ 8) (hB : Byts B) : 0 ≤ (rdOf (fixM B a n) a e).1 ∧ (rdOf (fixM B a n) a e).1 < 18446744073709551616 := by
  unfold rdOf
  by_cases he : e = 0
  · rw [if_pos he]
    unfold fixM
    by_cases h : a + n ≤ B.length
    · rw [if_pos h]
      have h1 := leN_lt ((B.drop a).take n) (fun x hx => hB.2 x (List.mem_of_mem_drop (List.mem_of_mem_take hx)))
      have h2 : 2 ^ (8 * ((B.drop a).take n).length) ≤ 2 ^ 64 := Nat.pow_le_pow_right (by omega) (by simp; omega)
      simp only [numV]
      omega
    · rw [if_neg h]; simp [numV]
  · rw [if_neg he]; simp
/-- A body's fields in the instruction's order: what the final copy leaves. -/
theorem GoesX.goes {W V V' : World} {p q X a a' : Nat} {B : List Int} {e e' : Int} (h : Goes W V p q B a e) (h' : GoesX V V' p q X B a' e') (hX : W.heap.size ≤ X) : Goes W V' p q B a' e' := by
  obtain ⟨g0, g1, g2, g3, g4, g5⟩ := h'
  refine ⟨g0, ⟨g1.trans h.2.os, g2.trans h.2.tape, g3.trans h.2.output, Nat.le_trans h.2.size g4, fun k hk hp => ?_⟩⟩
  exact (g5 k (Nat.lt_of_lt_of_le hk h.2.size) (by simpa using hp) (by omega)).trans (h.2.block k hk hp)
theorem hB_in {B : List Int} (hB : Byts B) : ∀ x ∈ B, 0 ≤ x ∧ x ≤ 255 := hB.2
end Go.Proofs.Ytfndlpfceokloaa
end
