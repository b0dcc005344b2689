/- Lemmas towards this claim's statement: what the functions named here come to, each under the conditions that it states itself. -/
import Derived.Test.YtfndlpfceokloaaCk7
import Derived.Deep.CutRange
section
namespace Go.Proofs.Ytfndlpfceokloaa
open Go.RowKit YtfndlpfceokloaaB
mutual
def szI : Ins → Nat | .mk _ _ _ _ _ _ t e _ => 1 + szL t + szL e
def szL : List Ins → Nat | [] => 0 | x :: r => szI x + szL r
end
mutual
def dpI : Ins → Nat | .mk op _ _ _ _ _ t e _ => if (immM op).1 = 1 ∨ 0 < t.length + e.length then max (dpL t) (dpL e) + 1 else 0
def dpL : List Ins → Nat | [] => 0 | x :: r => max (dpI x) (dpL r)
end
theorem szL_append : ∀ (l m : List Ins), szL (l ++ m) = szL l + szL m
  | [], m => by simp [szL]
  | x :: l, m => by rw [List.cons_append, szL, szL, szL_append l m]; omega
theorem dpL_append : ∀ (l m : List Ins), dpL (l ++ m) = max (dpL l) (dpL m)
  | [], m => by simp [dpL]
  | x :: l, m => by rw [List.cons_append, dpL, dpL, dpL_append l m]; omega
theorem szL_one (x : Ins) : szL [x] = szI x := by simp [szL]
theorem dpL_one (x : Ins) : dpL [x] = dpI x := by simp [dpL]
def tE (en : Int) : Nat := if en = 0 then 0 else 1
theorem bkF_app (sat : Bool) (f d : Nat) (B : List Int) : bkF sat f d B = fun m a' e' => blkM sat B f d m a' e' [] := rfl
/-- The two readers of blocks answer alike from a on. -/
def BkEq (a N : Nat) (bk bk' : Bool → Nat → Int → List Ins × Int × Nat × Int) : Prop := ∀ m a' e', (e' = 0 → a ≤ a' ∧ a' ≤ N) → bk m a' e' = bk' m a' e'
theorem body_cong {bk bk' : Bk} {B : List Int} {op i : Int} {a : Nat} (ha : a ≤ B.length) (hg : ∀ m, Good (bkR bk m)) (h : BkEq a B.length (bk B) (bk' B)) : bodyM (bk B) B op i a = bodyM (bk' B) B op i a := by
  by_cases h1 : i = 1
  · unfold bodyM
    simp only [h1, if_true]
    have e1 : bk B (op == 4) (rdOf (resM B a) a 0).2.1 (rdOf (resM B a) a 0).2.2 = bk' B (op == 4) (rdOf (resM B a) a 0).2.1 (rdOf (resM B a) a 0).2.2 := h _ _ _ (fun he => good_res.le B a ha he)
    have e2 : bk B false (bk B (op == 4) (rdOf (resM B a) a 0).2.1 (rdOf (resM B a) a 0).2.2).2.2.1 (bk B (op == 4) (rdOf (resM B a) a 0).2.1 (rdOf (resM B a) a 0).2.2).2.2.2 = bk' B false (bk B (op == 4) (rdOf (resM B a) a 0).2.1 (rdOf (resM B a) a 0).2.2).2.2.1 (bk B (op == 4) (rdOf (resM B a) a 0).2.1 (rdOf (resM B a) a 0).2.2).2.2.2 := h _ _ _ (fun he => by
      have hr : (rdOf (resM B a) a 0).2.2 = 0 := by
        apply Classical.byContradiction
        intro hn
        have := (hg (op == 4)).bad B (rdOf (resM B a) a 0).2.1 _ hn
        simp only [bkR] at this
        exact hn (this.symm.trans he)
      have g1 := good_res.le B a ha hr
      try simp only at g1
      rw [hr] at he ⊢
      have g2 := (hg (op == 4)).le B _ g1.2 he
      simp only [bkR] at g2
      omega)
    rw [← e1]
    split
    · rw [← e2]
    · rfl
  · unfold bodyM
    simp only [h1, if_false]
theorem ins_cong {bk bk' : Bk} {sat : Bool} {B : List Int} {deep a : Nat} (ha : a ≤ B.length) (hg : ∀ m, Good (bkR bk m)) (h : BkEq (a + 1) B.length (bk B) (bk' B)) : insM (bk B) sat B deep a 0 = insM (bk' B) sat B deep a 0 := by
  unfold insM
  simp only
  split
  next c =>
    have g1 := op_gt (sat := sat) (deep := deep) (B := B) (a := a) c
    have g2 := (good_op sat deep).le B a ha c
    simp only [opR] at g1 g2
    exact body_cong g2.2 hg (fun m a' e' he => h m a' e' (fun h0 => by have := he h0; omega))
  next => rfl
/-- Enough rounds are enough. -/
theorem blk_fuel {sat : Bool} {B : List Int} : ∀ (f f' deep : Nat) (may : Bool) (a : Nat) (e : Int) (acc : List Ins), a ≤ B.length ∨ e ≠ 0 → (e = 0 → B.length < a + f) → (e = 0 → B.length < a + f') → blkM sat B f deep may a e acc = blkM sat B f' deep may a e acc
  | f, f', deep, may, a, e, acc, ha, h1, h2 => by
    by_cases he : e = 0
    · subst he
      have ha := ha.resolve_right (fun h => h rfl)
      match f, f', h1 rfl, h2 rfl with
      | 0, _, h1, _ => omega
      | _, 0, _, h2 => omega
      | f + 1, f' + 1, h1, h2 =>
        rw [blkM, blkM]
        cases hx : B[a]? with
        | none => rfl
        | some b =>
          have hl := (List.getElem?_eq_some_iff.1 hx).1
          have hg : ∀ m, Good (bkR (bkF sat f (deep + 1)) m) := fun m => good_blk sat f (deep + 1) m []
          have hi : insM (fun m a' e' => blkM sat B f (deep + 1) m a' e' []) sat B deep a 0 = insM (fun m a' e' => blkM sat B f' (deep + 1) m a' e' []) sat B deep a 0 :=
            ins_cong (bk := bkF sat f (deep + 1)) (bk' := bkF sat f' (deep + 1)) ha hg (fun m a' e' h => by
              by_cases h0 : e' = 0
              · have := h h0
                exact blk_fuel f f' (deep + 1) m a' e' [] (.inl this.2) (fun _ => by omega) (fun _ => by omega)
              · exact blk_fuel f f' (deep + 1) m a' e' [] (.inr h0) (fun h => absurd h h0) (fun h => absurd h h0))
          simp only [if_true]
          rw [← hi]
          split
          · rfl
          split
          · rfl
          split
          next c =>
            have g1 := ins_gt (bkF sat f (deep + 1)) hg (sat := sat) (deep := deep) (B := B) ha c
            have g2 := (good_ins (bkF sat f (deep + 1)) hg sat deep).le B a ha c
            simp only [insR, bkF_app] at g1 g2
            exact blk_fuel f f' deep may _ 0 _ (.inl g2.2) (fun _ => by omega) (fun _ => by omega)
          · rfl
    · cases f <;> cases f' <;> simp [blkM, he]
/-- What is read stands behind what was there. -/
theorem blk_acc {sat : Bool} {B : List Int} : ∀ (f deep : Nat) (may : Bool) (a : Nat) (e : Int) (acc : List Ins), (blkM sat B f deep may a e acc).2 = (blkM sat B f deep may a e []).2 ∧ ((blkM sat B f deep may a e []).2.1 ≠ 0 → (blkM sat B f deep may a e acc).1 = acc ++ (blkM sat B f deep may a e []).1)
  | 0, deep, may, a, e, acc => ⟨rfl, fun h => absurd rfl h⟩
  | f + 1, deep, may, a, e, acc => by
    rw [blkM, blkM]
    by_cases he : e = 0
    · rw [if_pos he, if_pos he]
      cases hx : B[a]? with
      | none => exact ⟨rfl, fun h => absurd rfl h⟩
      | some b =>
        simp only
        by_cases c : b = 11
        · rw [if_pos c, if_pos c]; exact ⟨rfl, fun _ => by simp⟩
        rw [if_neg c, if_neg c]
        by_cases c5 : b = 5
        · rw [if_pos c5, if_pos c5]
          cases may
          · exact ⟨rfl, fun h => absurd rfl h⟩
          · exact ⟨rfl, fun _ => by simp⟩
        rw [if_neg c5, if_neg c5]
        generalize insM (fun m a' e' => blkM sat B f (deep + 1) m a' e' []) sat B deep a 0 = r
        by_cases h0 : r.2.2 = 0
        · rw [if_pos h0, if_pos h0]
          have i1 := blk_acc (sat := sat) (B := B) f deep may r.2.1 0 (acc ++ [r.1])
          have i2 := blk_acc (sat := sat) (B := B) f deep may r.2.1 0 ([] ++ [r.1])
          refine ⟨i1.1.trans i2.1.symm, fun h => ?_⟩
          rw [i2.1] at h
          rw [i1.2 h, i2.2 h]
          simp
        · rw [if_neg h0, if_neg h0]; exact ⟨rfl, fun h => absurd rfl h⟩
    · rw [if_neg he, if_neg he]; exact ⟨rfl, fun h => absurd rfl h⟩
/-- Where a block ends: behind its end, or an else. -/
theorem blk_end {sat : Bool} {B : List Int} : ∀ (f deep : Nat) (may : Bool) (a : Nat) (acc : List Ins), a ≤ B.length → B.length < a + f → (blkM sat B f deep may a 0 acc).2.2.2 = 0 →
    ((blkM sat B f deep may a 0 acc).2.1 = 11 ∨ (may = true ∧ (blkM sat B f deep may a 0 acc).2.1 = 5)) ∧ a < (blkM sat B f deep may a 0 acc).2.2.1 ∧ B[(blkM sat B f deep may a 0 acc).2.2.1 - 1]? = some (blkM sat B f deep may a 0 acc).2.1
  | 0, deep, may, a, acc, ha, hf, h => by omega
  | f + 1, deep, may, a, acc, ha, hf, h => by
    rw [blkM] at h ⊢
    simp only [if_true] at h ⊢
    cases hx : B[a]? with
    | none => rw [hx] at h; exact absurd h (by simp)
    | some b =>
      rw [hx] at h
      simp only at h ⊢
      by_cases c : b = 11
      · rw [if_pos c]; simp [hx, c]
      rw [if_neg c] at h ⊢
      by_cases c5 : b = 5
      · rw [if_pos c5] at h ⊢
        cases may
        · exact absurd h (by simp)
        · simp [hx, c5]
      rw [if_neg c5] at h ⊢
      have hg : ∀ m, Good (bkR (bkF sat f (deep + 1)) m) := fun m => good_blk sat f (deep + 1) m []
      by_cases h0 : (insM (fun m a' e' => blkM sat B f (deep + 1) m a' e' []) sat B deep a 0).2.2 = 0
      · rw [if_pos h0] at h ⊢
        have g1 := ins_gt (bkF sat f (deep + 1)) hg (sat := sat) (deep := deep) (B := B) ha h0
        have g2 := (good_ins (bkF sat f (deep + 1)) hg sat deep).le B a ha h0
        simp only [insR, bkF_app] at g1 g2
        have ih := blk_end f deep may _ _ g2.2 (by omega) h
        exact ⟨ih.1, by omega, ih.2.2⟩
      · rw [if_neg h0] at h
        exact absurd h h0
theorem u32_gt {B : List Int} {a : Nat} (h : (rdOf (u32M B a) a 0).2.2 = 0) : a < (rdOf (u32M B a) a 0).2.1 := by
  unfold rdOf at h ⊢
  rw [if_pos rfl] at h ⊢
  unfold u32M uintM at h ⊢
  cases hr : lebG lstU (B.drop a) 32 with
  | error e =>
    rw [hr] at h
    simp only [numE] at h
    rw [h] at hr
    exact absurd hr (lebG_err _ _)
  | ok y =>
    obtain ⟨m, hh, c⟩ := y
    have := lebG_c _ _ _ _ _ hr
    simp only [numA]
    omega
theorem bkL_append : ∀ (l m : List Ins), bkL (l ++ m) = bkL l + bkL m
  | [], m => by simp [bkL]
  | x :: l, m => by rw [List.cons_append, bkL, bkL, bkL_append l m]; omega
theorem bkL_one (x : Ins) : bkL [x] = bkI x := by simp [bkL]
mutual
theorem szI_bk : ∀ (x : Ins), szI x ≤ bkI x
  | .mk o t a b n l th el h => by
    have h1 := szL_bk th
    have h2 := szL_bk el
    rw [szI, bkI]; omega
theorem szL_bk : ∀ (l : List Ins), szL l ≤ bkL l
  | [] => by simp [szL]
  | x :: r => by
    have h1 := szI_bk x
    have h2 := szL_bk r
    rw [szL, bkL]; omega
end
theorem lab_len {B : List Int} : ∀ (k a : Nat) (acc : List Int), a ≤ B.length → (labM B k a 0 acc).2.2 = 0 → (labM B k a 0 acc).1.length + a ≤ acc.length + (labM B k a 0 acc).2.1
  | 0, a, acc, ha, h => Nat.le_refl _
  | k + 1, a, acc, ha, h => by
    rw [labM, if_pos rfl] at h ⊢
    have e1 : (rdOf (u32M B a) a 0).2.2 = 0 := by
      apply Classical.byContradiction
      intro hn
      rw [labM_bad _ _ _ _ _ hn] at h
      exact hn h
    have g1 := good_u32.le B a ha e1
    try simp only at g1
    have g2 := u32_gt e1
    rw [e1] at h ⊢
    have ih := lab_len k _ (acc ++ [(rdOf (u32M B a) a 0).1]) g1.2 h
    rw [List.length_append, List.length_singleton] at ih
    omega
theorem labels_len {B : List Int} {a : Nat} (ha : a ≤ B.length) (h : (labelsM B a 0).2.2 = 0) : (labelsM B a 0).1.length + a ≤ (labelsM B a 0).2.1 := by
  unfold labelsM at h ⊢
  have e1 : (rdOf (countM B a) a 0).2.2 = 0 := by
    apply Classical.byContradiction
    intro hn
    rw [labM_bad _ _ _ _ _ hn] at h
    exact hn h
  have g1 := good_count.le B a ha e1
  try simp only at g1
  rw [e1] at h ⊢
  have := lab_len _ _ [] g1.2 h
  rw [List.length_nil] at this
  omega
/-- Each instruction takes a byte at least. -/
theorem body_size {bk : Bk} {B : List Int} {op i : Int} {a : Nat} (ha : a ≤ B.length) (hg : ∀ m, Good (bkR bk m)) (hs : ∀ m a', a' ≤ B.length → (bk B m a' 0).2.2.2 = 0 → bkL (bk B m a' 0).1 + a' ≤ (bk B m a' 0).2.2.1)
    (h : (bodyM (bk B) B op i a).2.2 = 0) : bkI (bodyM (bk B) B op i a).1 + a ≤ (bodyM (bk B) B op i a).2.1 + 1 := by
  by_cases h1 : i = 1
  · unfold bodyM at h ⊢
    simp only [h1, if_true] at h ⊢
    have hb : ∀ m a' e', (bk B m a' e').2.2.2 = 0 → e' = 0 := fun m a' e' hh => by
      apply Classical.byContradiction
      intro hn
      have := (hg m).bad B a' e' hn
      simp only [bkR] at this
      exact hn (this.symm.trans hh)
    split at h
    next c5 =>
      rw [if_pos c5]
      have e1 := hb _ _ _ h
      have e0 := hb _ _ _ e1
      have g1 := good_res.le B a ha e0
      try simp only at g1
      rw [e0] at e1 c5 ⊢
      have g2 := (hg (op == 4)).le B _ g1.2 e1
      simp only [bkR] at g2
      have s1 := hs _ _ g1.2 e1
      rw [e0, e1] at h
      rw [e1]
      have s2 := hs _ _ g2.2 h
      rw [bkI]
      simp only [List.length_nil]
      omega
    next c5 =>
      rw [if_neg c5]
      have e0 := hb _ _ _ h
      have g1 := good_res.le B a ha e0
      try simp only at g1
      rw [e0] at h ⊢
      have s1 := hs _ _ g1.2 h
      rw [bkI, bkL]
      simp only [List.length_nil]
      omega
  · have hb := (good_body bk hg op i).le B a ha (by unfold bodyR; rw [if_pos rfl]; exact h)
    unfold bodyR at hb
    rw [if_pos rfl] at hb
    by_cases h3 : i = 3
    · unfold bodyM at h hb ⊢
      subst h3
      simp only [show ¬((3 : Int) = 1) from by omega, show ¬((3 : Int) = 2 ∨ (3 : Int) = 4) from by omega, if_false, if_true] at h hb ⊢
      have e2 : (labelsM B a 0).2.2 = 0 := by
        apply Classical.byContradiction
        intro hn
        have := good_u32.bad B (labelsM B a 0).2.1 _ hn
        try simp only at this
        exact hn (this.symm.trans h)
      have g1 := good_labels.le B a ha e2
      try simp only at g1
      have g3 := labels_len ha e2
      rw [e2] at h
      have g2 := good_u32.le B _ g1.2 h
      try simp only at g2
      rw [e2]
      simp only [bkI, bkL]
      omega
    · have : bkI (bodyM (bk B) B op i a).1 = 1 := by
        unfold bodyM
        simp only [h1, if_false, h3]
        repeat' split
        all_goals rfl
      omega
theorem ins_size {bk : Bk} {sat : Bool} {B : List Int} {deep a : Nat} (ha : a ≤ B.length) (hg : ∀ m, Good (bkR bk m)) (hs : ∀ m a', a' ≤ B.length → (bk B m a' 0).2.2.2 = 0 → bkL (bk B m a' 0).1 + a' ≤ (bk B m a' 0).2.2.1)
    (h : (insM (bk B) sat B deep a 0).2.2 = 0) : bkI (insM (bk B) sat B deep a 0).1 + a ≤ (insM (bk B) sat B deep a 0).2.1 := by
  unfold insM at h ⊢
  simp only at h ⊢
  split at h
  next c =>
    rw [if_pos c]
    have g1 := op_gt (sat := sat) (deep := deep) (B := B) (a := a) c
    have g2 := (good_op sat deep).le B a ha c
    simp only [opR] at g1 g2
    have := body_size g2.2 hg hs h
    omega
  next c => exact absurd h c
theorem blk_size {sat : Bool} {B : List Int} : ∀ (f deep : Nat) (may : Bool) (a : Nat) (acc : List Ins), a ≤ B.length → (blkM sat B f deep may a 0 acc).2.2.2 = 0 →
    bkL (blkM sat B f deep may a 0 acc).1 + a + tE (blkM sat B f deep may a 0 acc).2.1 ≤ bkL acc + (blkM sat B f deep may a 0 acc).2.2.1
  | 0, deep, may, a, acc, ha, h => by simp [blkM, bkL, tE]
  | f + 1, deep, may, a, acc, ha, h => by
    rw [blkM] at h ⊢
    simp only [if_true] at h ⊢
    cases hx : B[a]? with
    | none => rw [hx] at h; exact absurd h (by simp)
    | some b =>
      rw [hx] at h
      simp only at h ⊢
      by_cases c : b = 11
      · rw [if_pos c]; simp [tE]; omega
      rw [if_neg c] at h ⊢
      by_cases c5 : b = 5
      · rw [if_pos c5] at h ⊢
        cases may
        · exact absurd h (by simp)
        · simp [tE]; omega
      rw [if_neg c5] at h ⊢
      have hg : ∀ m, Good (bkR (bkF sat f (deep + 1)) m) := fun m => good_blk sat f (deep + 1) m []
      by_cases h0 : (insM (fun m a' e' => blkM sat B f (deep + 1) m a' e' []) sat B deep a 0).2.2 = 0
      · rw [if_pos h0] at h ⊢
        have g2 := (good_ins (bkF sat f (deep + 1)) hg sat deep).le B a ha h0
        have g3 := ins_size (bk := bkF sat f (deep + 1)) ha hg (fun m a' ha' hh => by have := blk_size f (deep + 1) m a' [] ha' hh; simp only [bkL, bkF_app] at this ⊢; omega) h0
        simp only [insR, bkF_app] at g2 g3
        have ih := blk_size f deep may _ _ g2.2 h
        rw [bkL_append, bkL_one] at ih
        omega
      · rw [if_neg h0] at h
        exact absurd h h0
theorem imm_second (n : Int) (h0 : 0 ≤ n) (h : n ≤ 7) : (immM (64512 + n)).1 = 0 := by
  unfold immM
  repeat rw [if_neg (by omega)]
theorem u32_lo (B : List Int) (a : Nat) : 0 ≤ (rdOf (u32M B a) a 0).1 := by
  unfold rdOf
  rw [if_pos rfl]
  cases u32M B a with
  | error e => exact Int.le_refl _
  | ok y => exact Int.natCast_nonneg _
/-- An opcode that is read is a block's only where a block may lie. -/
theorem op_deep {sat : Bool} {B : List Int} {deep a : Nat} (h : (opR sat deep B a 0).2.2 = 0) (hi : (immM (opR sat deep B a 0).1).1 = 1) : deep < 64 := by
  rw [opR_look] at h hi
  cases hx : B[a]? with
  | none => simp [lookR, hx] at h
  | some b =>
    simp only [lookR, hx, if_true] at h hi
    unfold opT at h hi
    rw [byteR_some hx] at h hi
    split at h
    next => exact absurd h (by simp)
    next c =>
    rw [if_neg c] at hi
    split at h
    next c1 =>
      rw [if_pos c1] at hi
      simp only [secondR, secondM] at h hi
      have h7 : ¬ (rdOf (u32M B (a + 1)) (a + 1) 0).1 > 7 := fun h7 => by
        rw [if_pos h7] at h
        unfold failE at h
        split at h
        · simp at h
        · contradiction
      have hl := u32_lo B (a + 1)
      rw [imm_second _ hl (by omega)] at hi
      simp at hi
    next c1 =>
    rw [if_neg c1] at hi
    split at h
    next c2 =>
      rw [if_pos c2] at hi
      simp only at hi
      apply Classical.byContradiction
      intro hn
      exact c ⟨hi, by omega⟩
    next => exact absurd h (by simp)
theorem dpI_leaf {x : Ins} (h1 : (immM x.op).1 ≠ 1) (h2 : x.th = []) (h3 : x.el = []) : dpI x = 0 := by
  obtain ⟨op, ty, a, b, bits, list, th, el, has⟩ := x
  simp only [Ins.op, Ins.th, Ins.el] at h1 h2 h3
  subst h2 h3
  rw [dpI, if_neg (by simp [h1])]
theorem body_deep {bk : Bk} {B : List Int} {op : Int} {deep a : Nat} (ha : a ≤ B.length) (hd : (immM op).1 = 1 → deep < 64) (hg : ∀ m, Good (bkR bk m)) (hs : ∀ m a', a' ≤ B.length → deep < 64 → (bk B m a' 0).2.2.2 = 0 → dpL (bk B m a' 0).1 + (deep + 1) ≤ 64)
    (hd0 : deep ≤ 64) (h : (bodyM (bk B) B op (immM op).1 a).2.2 = 0) : dpI (bodyM (bk B) B op (immM op).1 a).1 + deep ≤ 64 := by
  by_cases h1 : (immM op).1 = 1
  · have hd := hd h1
    unfold bodyM at h ⊢
    simp only [h1, if_true] at h ⊢
    have hb : ∀ m a' e', (bk B m a' e').2.2.2 = 0 → e' = 0 := fun m a' e' hh => by
      apply Classical.byContradiction
      intro hn
      have := (hg m).bad B a' e' hn
      simp only [bkR] at this
      exact hn (this.symm.trans hh)
    split at h
    next c5 =>
      rw [if_pos c5]
      have e1 := hb _ _ _ h
      have e0 := hb _ _ _ e1
      have g1 := good_res.le B a ha e0
      try simp only at g1
      rw [e0] at e1 c5 ⊢
      have g2 := (hg (op == 4)).le B _ g1.2 e1
      simp only [bkR] at g2
      have s1 := hs _ _ g1.2 hd e1
      rw [e0, e1] at h
      rw [e1]
      have s2 := hs _ _ g2.2 hd h
      rw [dpI, if_pos (.inl h1)]
      omega
    next c5 =>
      rw [if_neg c5]
      have e0 := hb _ _ _ h
      have g1 := good_res.le B a ha e0
      try simp only at g1
      rw [e0] at h ⊢
      have s1 := hs _ _ g1.2 hd h
      rw [dpI, if_pos (.inl h1), dpL]
      omega
  · have : (bodyM (bk B) B op (immM op).1 a).1.op = op ∧ (bodyM (bk B) B op (immM op).1 a).1.th = [] ∧ (bodyM (bk B) B op (immM op).1 a).1.el = [] := by
      unfold bodyM
      simp only [h1, if_false]
      repeat' split
      all_goals exact ⟨rfl, rfl, rfl⟩
    rw [dpI_leaf (by rw [this.1]; exact h1) this.2.1 this.2.2]
    omega
theorem blk_deep {sat : Bool} {B : List Int} : ∀ (f deep : Nat) (may : Bool) (a : Nat) (acc : List Ins), a ≤ B.length → deep ≤ 64 → dpL acc + deep ≤ 64 → (blkM sat B f deep may a 0 acc).2.2.2 = 0 → dpL (blkM sat B f deep may a 0 acc).1 + deep ≤ 64
  | 0, deep, may, a, acc, ha, hd, hacc, h => by simp [blkM, dpL]; omega
  | f + 1, deep, may, a, acc, ha, hd, hacc, h => by
    rw [blkM] at h ⊢
    simp only [if_true] at h ⊢
    cases hx : B[a]? with
    | none => rw [hx] at h; exact absurd h (by simp)
    | some b =>
      rw [hx] at h
      simp only at h ⊢
      by_cases c : b = 11
      · rw [if_pos c]; exact hacc
      rw [if_neg c] at h ⊢
      by_cases c5 : b = 5
      · rw [if_pos c5] at h ⊢
        cases may
        · exact absurd h (by simp)
        · exact hacc
      rw [if_neg c5] at h ⊢
      have hg : ∀ m, Good (bkR (bkF sat f (deep + 1)) m) := fun m => good_blk sat f (deep + 1) m []
      by_cases h0 : (insM (fun m a' e' => blkM sat B f (deep + 1) m a' e' []) sat B deep a 0).2.2 = 0
      · rw [if_pos h0] at h ⊢
        have g2 := (good_ins (bkF sat f (deep + 1)) hg sat deep).le B a ha h0
        have hi := ins_parts (bkF sat f (deep + 1)) sat deep B a 0
        have ho : (opR sat deep B a 0).2.2 = 0 := by
          apply Classical.byContradiction
          intro hn
          have := hi.1
          rw [(good_body _ hg _ _).bad _ _ _ hn] at this
          exact hn (this.symm.trans h0)
        have go := (good_op sat deep).le B a ha ho
        have he := hi.2 ho
        unfold bodyR at he
        rw [if_pos ho] at he
        have h0' := h0
        rw [show insM (fun m a' e' => blkM sat B f (deep + 1) m a' e' []) sat B deep a 0 = _ from he] at h0'
        have g3 := body_deep (bk := bkF sat f (deep + 1)) (deep := deep) go.2 (op_deep ho) hg (fun m a' ha' hd' hh => blk_deep f (deep + 1) m a' [] ha' (by omega) (by simp [dpL]; omega) hh) hd h0'
        rw [← show insM (fun m a' e' => blkM sat B f (deep + 1) m a' e' []) sat B deep a 0 = _ from he] at g3
        simp only [insR, bkF_app] at g2
        refine blk_deep f deep may _ _ g2.2 hd ?_ h
        rw [dpL_append, dpL_one]
        omega
      · rw [if_neg h0] at h
        exact absurd h h0
-- What an expression's reader says.
theorem expr_ok {sat : Bool} {B : List Int} (h : (exprM sat B 0 0).2.2 = 0) : exprM sat B 0 0 = ((blkM sat B (B.length + 1) 0 false 0 0 []).1, (blkM sat B (B.length + 1) 0 false 0 0 []).2.2.1, 0) ∧ (blkM sat B (B.length + 1) 0 false 0 0 []).2.2.2 = 0 ∧ (blkM sat B (B.length + 1) 0 false 0 0 []).2.1 = 11 := by
  have h0 : (blkM sat B (B.length + 1) 0 false 0 0 []).2.2.2 = 0 := h
  have he := (blk_end (sat := sat) (B := B) (B.length + 1) 0 false 0 [] (Nat.zero_le _) (by omega) h0).1
  simp at he
  refine ⟨?_, h0, he⟩
  unfold exprM
  simp only [h0, if_true]
theorem expr_bad {sat : Bool} {B : List Int} (h : (exprM sat B 0 0).2.2 ≠ 0) : (exprM sat B 0 0).1 = [] := by
  unfold exprM at h ⊢
  simp only at h ⊢
  rw [if_neg h]
theorem expr_bk {sat : Bool} {B : List Int} : bkL (exprM sat B 0 0).1 ≤ B.length := by
  by_cases h : (exprM sat B 0 0).2.2 = 0
  · obtain ⟨hv, h0, h11⟩ := expr_ok h
    have hL := (good_blk sat (B.length + 1) 0 false []).le B 0 (Nat.zero_le _) h0
    have hS := blk_size (sat := sat) (B := B) (B.length + 1) 0 false 0 [] (Nat.zero_le _) h0
    rw [hv]
    simp only [blkR] at hL
    simp only [bkL] at hS
    simp only
    omega
  · rw [expr_bad h]; simp [bkL]
theorem keeps_plain {sat : Bool} {B : List Int} (h : (exprM sat B 0 0).2.2 = 0) (more : List Int) :
    1 ≤ (exprM sat B 0 0).2.1 ∧ (exprM sat B 0 0).2.1 ≤ B.length ∧ B[(exprM sat B 0 0).2.1 - 1]? = some 11 ∧ dpL (exprM sat B 0 0).1 ≤ 64 ∧ szL (exprM sat B 0 0).1 < (exprM sat B 0 0).2.1 ∧
      exprM sat (B.take (exprM sat B 0 0).2.1 ++ more) 0 0 = exprM sat B 0 0 ∧ ∀ k, k < (exprM sat B 0 0).2.1 → (exprM sat (B.take k) 0 0).1 = [] ∧ (exprM sat (B.take k) 0 0).2.2 = 100 := by
  obtain ⟨hv, h0, h11⟩ := expr_ok h
  have hE := blk_end (sat := sat) (B := B) (B.length + 1) 0 false 0 [] (Nat.zero_le _) (by omega) h0
  have hG := good_blk sat (B.length + 1) 0 false []
  have hL := hG.le B 0 (Nat.zero_le _) h0
  have hS := blk_size (sat := sat) (B := B) (B.length + 1) 0 false 0 [] (Nat.zero_le _) h0
  have hD := blk_deep (sat := sat) (B := B) (B.length + 1) 0 false 0 [] (Nat.zero_le _) (by omega) (by simp [dpL]) h0
  rw [h11] at hS hE
  rw [hv]
  simp only [blkR] at hL
  simp only [bkL] at hS
  have hsb := szL_bk (blkM sat B (B.length + 1) 0 false 0 0 []).1
  simp only
  refine ⟨by omega, hL.2, hE.2.2, by omega, by simp [tE] at hS; omega, ?_, fun k hk => ?_⟩
  · have hA : Agl (blkM sat B (B.length + 1) 0 false 0 0 []).2.2.1 B (B.take (blkM sat B (B.length + 1) 0 false 0 0 []).2.2.1 ++ more) := fun i hi => by
      rw [List.getElem?_append_left (by rw [List.length_take]; omega), List.getElem?_take, if_pos hi]
    have hN := blk_fuel (sat := sat) (B := B.take (blkM sat B (B.length + 1) 0 false 0 0 []).2.2.1 ++ more) ((B.take (blkM sat B (B.length + 1) 0 false 0 0 []).2.2.1 ++ more).length + 1) (B.length + 1 + more.length) 0 false 0 0 [] (.inl (Nat.zero_le _)) (fun _ => by omega) (fun _ => by rw [List.length_append, List.length_take]; omega)
    have hG' := good_blk sat (B.length + 1 + more.length) 0 false []
    have hN2 := blk_fuel (sat := sat) (B := B) (B.length + 1) (B.length + 1 + more.length) 0 false 0 0 [] (.inl (Nat.zero_le _)) (fun _ => by omega) (fun _ => by omega)
    have hs2 := hG'.same B (B.take (blkM sat B (B.length + 1) 0 false 0 0 []).2.2.1 ++ more) 0 (Nat.zero_le _) (by simp only [blkR]; rw [← hN2]; exact h0) (by simp only [blkR]; rw [← hN2]; exact hA)
    have e2 : blkM sat (B.take (blkM sat B (B.length + 1) 0 false 0 0 []).2.2.1 ++ more) (B.length + 1 + more.length) 0 false 0 0 [] = blkM sat B (B.length + 1) 0 false 0 0 [] := by
      simp only [blkR, Prod.mk.injEq] at hs2
      rw [← hN2] at hs2
      exact Prod.ext hs2.1.1 (Prod.ext hs2.1.2 (Prod.ext hs2.2.1 hs2.2.2))
    unfold exprM
    simp only [hN, e2, h0, if_true]
  · have hc := hG.cut B 0 k (Nat.zero_le _) h0 (Nat.zero_le _) hk
    have hN := blk_fuel (sat := sat) (B := B.take k) ((B.take k).length + 1) (B.length + 1) 0 false 0 0 [] (.inl (Nat.zero_le _)) (fun _ => by omega) (fun _ => by rw [List.length_take]; omega)
    have h100 : (exprM sat (B.take k) 0 0).2.2 = 100 := by
      unfold exprM
      simp only [hN]
      exact hc
    exact ⟨expr_bad (by rw [h100]; decide), h100⟩
/-- Up to a block's end, in other bytes behind it. -/
theorem blk_prefix {sat : Bool} {A C : List Int} : ∀ (f deep : Nat) (a : Nat) (acc : List Ins), a ≤ A.length → A.length < a + f → (blkM sat A f deep false a 0 acc).2.2.2 = 0 → Agl ((blkM sat A f deep false a 0 acc).2.2.1 - 1) A C →
    ∃ g, f + a ≤ g + ((blkM sat A f deep false a 0 acc).2.2.1 - 1) ∧ blkM sat C f deep false a 0 acc = blkM sat C g deep false ((blkM sat A f deep false a 0 acc).2.2.1 - 1) 0 (blkM sat A f deep false a 0 acc).1
  | 0, deep, a, acc, ha, hf, h, hA => by omega
  | f + 1, deep, a, acc, ha, hf, h, hA => by
    rw [blkM] at h hA
    rw [show blkM sat A (f + 1) deep false a 0 acc = _ from by rw [blkM]]
    simp only [if_true] at h hA ⊢
    cases hx : A[a]? with
    | none => rw [hx] at h; exact absurd h (by simp)
    | some b =>
      rw [hx] at h hA
      simp only at h hA ⊢
      by_cases c : b = 11
      · rw [if_pos c]
        exact ⟨f + 1, by simp, by simp⟩
      rw [if_neg c] at h hA ⊢
      by_cases c5 : b = 5
      · rw [if_pos c5] at h
        exact absurd h (by simp)
      rw [if_neg c5] at h hA ⊢
      have hg : ∀ m, Good (bkR (bkF sat f (deep + 1)) m) := fun m => good_blk sat f (deep + 1) m []
      by_cases h0 : (insM (fun m a' e' => blkM sat A f (deep + 1) m a' e' []) sat A deep a 0).2.2 = 0
      · rw [if_pos h0] at h hA ⊢
        have g1 := ins_gt (bkF sat f (deep + 1)) hg (sat := sat) (deep := deep) (B := A) ha h0
        have g2 := (good_ins (bkF sat f (deep + 1)) hg sat deep).le A a ha h0
        simp only [insR, bkF_app] at g1 g2
        have hE := blk_end (sat := sat) (B := A) f deep false _ (acc ++ [(insM (fun m a' e' => blkM sat A f (deep + 1) m a' e' []) sat A deep a 0).1]) g2.2 (by omega) h
        have hs := (good_ins (bkF sat f (deep + 1)) hg sat deep).same A C a ha h0 (hA.mono (by simp only [insR, bkF_app]; omega))
        simp only [insR, bkF_app] at hs
        obtain ⟨g, hg1, hg2⟩ := blk_prefix (sat := sat) (A := A) (C := C) f deep _ _ g2.2 (by omega) h hA
        refine ⟨g, by omega, ?_⟩
        rw [← hg2, blkM, if_pos rfl, hA a (by omega), hx]
        simp only
        rw [if_neg c, if_neg c5, hs, if_pos h0]
      · rw [if_neg h0] at h
        exact absurd h h0
theorem joins_plain {sat : Bool} {A B : List Int} (h1 : (exprM sat A 0 0).2.2 = 0) (h2 : (exprM sat B 0 0).2.2 = 0) :
    exprM sat (A.take ((exprM sat A 0 0).2.1 - 1) ++ B) 0 0 = ((exprM sat A 0 0).1 ++ (exprM sat B 0 0).1, (exprM sat A 0 0).2.1 - 1 + (exprM sat B 0 0).2.1, 0) := by
  obtain ⟨v1, a0, a11⟩ := expr_ok h1
  obtain ⟨v2, b0, b11⟩ := expr_ok h2
  have l1 := (good_blk sat (A.length + 1) 0 false []).le A 0 (Nat.zero_le _) a0
  have E1 := blk_end (sat := sat) (B := A) (A.length + 1) 0 false 0 [] (Nat.zero_le _) (by omega) a0
  simp only [blkR] at l1
  rw [v1, v2]
  simp only
  have nA := blk_fuel (sat := sat) (B := A) (A.length + 1) (A.length + B.length + 1) 0 false 0 0 [] (.inl (Nat.zero_le _)) (fun _ => by omega) (fun _ => by omega)
  rw [nA] at a0 l1 E1 ⊢
  generalize hP : A.take ((blkM sat A (A.length + B.length + 1) 0 false 0 0 []).2.2.1 - 1) = P
  have hPl : P.length = (blkM sat A (A.length + B.length + 1) 0 false 0 0 []).2.2.1 - 1 := by rw [← hP, List.length_take]; omega
  have hA : Agl ((blkM sat A (A.length + B.length + 1) 0 false 0 0 []).2.2.1 - 1) A (P ++ B) := fun i hi => by
    rw [List.getElem?_append_left (by omega), ← hP, List.getElem?_take, if_pos hi]
  obtain ⟨g, hg, hpre⟩ := blk_prefix (sat := sat) (A := A) (C := P ++ B) (A.length + B.length + 1) 0 0 [] (Nat.zero_le _) (by omega) a0 hA
  rw [← hPl] at hpre hg
  have nC := blk_fuel (sat := sat) (B := P ++ B) ((P ++ B).length + 1) (A.length + B.length + 1) 0 false 0 0 [] (.inl (Nat.zero_le _)) (fun _ => by omega) (fun _ => by rw [List.length_append]; omega)
  have nG := blk_fuel (sat := sat) (B := P ++ B) g (B.length + 1) 0 false P.length 0 (blkM sat A (A.length + B.length + 1) 0 false 0 0 []).1 (.inl (by simp)) (fun _ => by rw [List.length_append]; omega) (fun _ => by rw [List.length_append]; omega)
  have hsh := (good_blk sat (B.length + 1) 0 false []).shift P B 0 (Nat.zero_le _) b0
  simp only [blkR, Nat.add_zero, Prod.mk.injEq] at hsh
  obtain ⟨⟨s1, s2⟩, s3, s4⟩ := hsh
  have hacc := blk_acc (sat := sat) (B := P ++ B) (B.length + 1) 0 false P.length 0 (blkM sat A (A.length + B.length + 1) 0 false 0 0 []).1
  rw [s1, s2, b11] at hacc
  have key : blkM sat (P ++ B) ((P ++ B).length + 1) 0 false 0 0 [] = ((blkM sat A (A.length + B.length + 1) 0 false 0 0 []).1 ++ (blkM sat B (B.length + 1) 0 false 0 0 []).1, 11, P.length + (blkM sat B (B.length + 1) 0 false 0 0 []).2.2.1, 0) := by
    rw [nC, hpre, nG]
    refine Prod.ext (hacc.2 (by decide)) (hacc.1.trans (Prod.ext (s2.trans b11) (Prod.ext s3 s4)))
  unfold exprM
  rw [key, hPl]
  simp
end Go.Proofs.Ytfndlpfceokloaa
end
section
namespace Go.Proofs.Ytfndlpfceokloaa
open Go.RowKit Go.Shelf YtfndlpfceokloaaB Go.Proofs.YtfndlpfceokloaaW.PrintWords
/-- The reference's reader of code. -/
def Rq (W : World) (R p : Nat) (sat : Bool) : Prop := Blk W R #[.pointer (some ⟨p, 0, none⟩), .bool sat] 232
theorem Rq.cells {W : World} {R p : Nat} {sat : Bool} (h : Rq W R p sat) : W.cell? ⟨R, 0, none⟩ = some (.pointer (some ⟨p, 0, none⟩)) ∧ W.cell? ⟨R, 1, none⟩ = some (.bool sat) ∧ R < W.heap.size :=
  ⟨by rw [Blk.cell h]; rfl, by rw [Blk.cell h]; rfl, Blk.lt h⟩
theorem Rq.goes {W W' : World} {R p q : Nat} {sat : Bool} {B : List Int} {a : Nat} {e : Int} (h : Rq W R p sat) (hR : R ≠ p) (hG : GoesR W W' p q B a e) : Rq W' R p sat := Blk.grown h hG.2 (by simpa using hR)
def nextV (B : List Int) (a : Nat) (e : Int) : Int := if (peekM B a e).2 = 0 then (peekM B a e).1 else -1
set_option maxRecDepth 100000 in
set_option maxHeartbeats 1000000 in
theorem rnext_any (W : World) (R p q : Nat) (sat : Bool) (B : List Int) (a : Nat) (e : Int) (hR : Rq W R p sat) (hC : Rdr W p q B a e) (hB : Byts B) :
    Calls Try.prog 120 #[.pointer (some ⟨R, 0, none⟩)] W fun E w' => E = .returned (.int .i64 (nextV B a e)) ∧ GoesR W w' p q B a (peekM B a e).2 := by
  have hl := hB.1
  have HC := Lib.hid hC
  obtain ⟨A, c, c0, c1, c2, f0, f1, f2, hle, hq, hlt, ha⟩ := hC.cells
  obtain ⟨s0, s1, slt⟩ := hR.cells
  by_cases he : e = 0
  · subst he
    rcases Nat.lt_or_ge a B.length with hlt2 | hge
    · obtain ⟨o, x, rfl, hx, hc⟩ := hq.at_ a hlt2
      have hxb := hB.get hx.out
      have HV := Lib.hid (show nextV B a 0 = x ∧ (peekM B a 0).2 = 0 from by simp [nextV, peekM, hx.out])
      have hlt3 : decide ((B.length : Int) ≤ (a : Int)) = false := decide_eq_false (by omega)
      obtain ⟨hx0, hx1⟩ := hxb
      clear hC hB hq hx hR
      go_enter Try.func120, Try.ntmps120
      go_wp2_with fail
      go_quiet (fail)
      go_wp2_with fail
      go_quiet (fail)
      go_wp2_with fail
      go_ret
      rw [HV.out.1, HV.out.2]
      exact ⟨rfl, GoesR.trans (GoesR.drewN HC.out _) (GoesR.drewN (GoesR.drewN HC.out _).1 _)⟩
    · obtain rfl : a = B.length := by omega
      have HV := Lib.hid (show nextV B B.length 0 = -1 ∧ (peekM B B.length 0).2 = 100 from by simp [nextV, peekM])
      have HF := Lib.hid (fun X h => rFail_any X p q B B.length 0 100 h)
      rw [show failE 0 100 = 100 from rfl] at HF
      have hlt3 : decide ((B.length : Int) ≤ (B.length : Int)) = true := decide_eq_true (Int.le_refl _)
      clear hC hB hq hR
      go_enter Try.func120, Try.ntmps120
      go_wp2_with fail
      go_quiet (fail)
      go_wp2_with fail
      refine (HF.out _ (GoesR.drewN HC.out _).1).mono ?_
      rintro E W2 ⟨rfl, hG⟩
      have HG := Lib.hid (GoesR.trans (GoesR.drewN HC.out _) hG)
      clear hG
      go_wp2_with fail
      go_ret
      rw [HV.out.1, HV.out.2]
      exact ⟨rfl, HG.out⟩
  · have he2 : (e != 0) = true := by simp; exact he
    have HV := Lib.hid (show nextV B a e = -1 ∧ (peekM B a e).2 = e from by simp [nextV, peekM, he])
    clear hC hB hq he hR
    go_enter Try.func120, Try.ntmps120
    go_wp2_with fail
    go_ret
    rw [HV.out.1, HV.out.2]
    exact ⟨rfl, GoesR.same HC.out⟩
set_option maxRecDepth 100000 in
set_option maxHeartbeats 1000000 in
theorem rzero_any (W : World) (R p q : Nat) (sat : Bool) (B : List Int) (a : Nat) (e : Int) (hR : Rq W R p sat) (hRp : R ≠ p) (hC : Rdr W p q B a e) (hB : Byts B) :
    Calls Try.prog 145 #[.pointer (some ⟨R, 0, none⟩)] W fun E w' => E = .returned (.tuple #[]) ∧ GoesR W w' p q B (zeroM B a e).1 (zeroM B a e).2 := by
  have HC := Lib.hid hC
  obtain ⟨A, c, c0, c1, c2, f0, f1, f2, hle, hq, hlt, ha⟩ := hC.cells
  obtain ⟨s0, s1, slt⟩ := hR.cells
  have H := Lib.hid (rByte_any W p q B a e hC hB)
  have HR := Lib.hid hR
  by_cases he : e = 0
  · subst he
    by_cases hx : ∃ x, B[a]? = some x ∧ ¬ x = 0
    · obtain ⟨x, hx, hx0⟩ := hx
      have HV := Lib.hid (show zeroM B a 0 = (a + 1, 107) from by simp [zeroM, hx, hx0])
      rw [show rdByte B a 0 = (x, a + 1, 0) from by simp [rdByte, hx]] at H
      have hxb : (x != 0) = true := by simp; exact hx0
      clear hC hB hR hx hx0 hq
      go_enter Try.func145, Try.ntmps145
      go_wp2_with fail
      refine H.out.mono ?_
      rintro E W1 ⟨rfl, hG⟩
      have HG := Lib.hid (show GoesR W W1 p q B (a + 1) 0 from hG)
      have HR1 := Lib.hid (HR.out.goes hRp HG.out)
      clear hG s0 s1 slt
      obtain ⟨s0, s1, slt⟩ := HR1.out.cells
      go_wp2_with fail
      refine (rFail_any W1 p q B (a + 1) 0 107 HG.out.1).mono ?_
      rintro E W2 ⟨rfl, hG⟩
      have HG2 := Lib.hid (HG.out.trans hG)
      clear hG
      go_wp2_with fail
      go_end0
      rw [HV.out]
      exact ⟨rfl, HG2.out⟩
    · have HV := Lib.hid (show (rdByte B a 0).1 = 0 ∧ zeroM B a 0 = (rdByte B a 0).2 from by
        unfold rdByte zeroM
        simp only [if_true]
        cases hb : B[a]? with
        | none => exact ⟨rfl, rfl⟩
        | some x =>
          have h0 : x = 0 := Classical.byContradiction fun h => hx ⟨x, hb, h⟩
          subst h0
          exact ⟨rfl, rfl⟩)
      generalize rdByte B a 0 = t at *
      obtain ⟨v, a', e'⟩ := t
      obtain ⟨h1, h2⟩ := HV.out
      simp only at h1
      subst h1
      have H2 := Lib.hid h2
      clear hC hB hR hx h2 HV hq
      go_enter Try.func145, Try.ntmps145
      go_wp2_with fail
      refine H.out.mono ?_
      rintro E W1 ⟨rfl, hG⟩
      have HG := Lib.hid (show GoesR W W1 p q B a' e' from hG)
      clear hG
      go_wp2_with fail
      go_end0
      rw [H2.out]
      exact ⟨rfl, HG.out⟩
  · have he2 : (e == 0) = false := by simpa using he
    have HV := Lib.hid (show zeroM B a e = (a, e) from by simp [zeroM, he])
    clear hC hB hR he hq H
    go_enter Try.func145, Try.ntmps145
    go_wp2_with fail
    go_end0
    rw [HV.out]
    exact ⟨rfl, GoesR.same HC.out⟩
end Go.Proofs.Ytfndlpfceokloaa
end
section
namespace Go.Proofs.Ytfndlpfceokloaa
open Go.RowKit Go.Shelf YtfndlpfceokloaaB Go.Proofs.YtfndlpfceokloaaW.PrintWords
def ropV (o : Int × Nat × Int) : Int := if o.2.2 = 0 then o.1 else -1
def ROpPost (W : World) (p q : Nat) (B : List Int) (o : Int × Nat × Int) (E : Ending) (w' : World) : Prop := E = .returned (.int .i64 (ropV o)) ∧ GoesR W w' p q B o.2.1 o.2.2
set_option maxRecDepth 100000 in
set_option maxHeartbeats 2000000 in
theorem rop_second (W : World) (R p q : Nat) (B : List Int) (a : Nat) (hR : Rq W R p true) (hRp : R ≠ p) (hC : Rdr W p q B a 0) (hB : Byts B) (hx : B[a]? = some 252) :
    Calls Try.prog 140 #[.pointer (some ⟨R, 0, none⟩)] W (ROpPost W p q B (secondM B (a + 1) 0)) := by
  have HN := Lib.hid (rnext_any W R p q true B a 0 hR hC hB)
  rw [show nextV B a 0 = 252 from by simp [nextV, peekM, hx], show (peekM B a 0).2 = 0 from by simp [peekM, hx]] at HN
  have HBy := Lib.hid (fun X h => rByte_any X p q B a 0 h hB)
  rw [show rdByte B a 0 = (252, a + 1, 0) from by simp [rdByte, hx]] at HBy
  have HU := Lib.hid (fun X h => rdUint_any X p q B (a + 1) 32 0 h hB (by omega) (by omega))
  have hb := u32_bound B (a + 1) 0 hB
  have HV := Lib.hid (show secondM B (a + 1) 0 = (64512 + (rdOf (uintM B (a + 1) 32) (a + 1) 0).1, (rdOf (uintM B (a + 1) 32) (a + 1) 0).2.1, if (rdOf (uintM B (a + 1) 32) (a + 1) 0).1 > 7 then failE (rdOf (uintM B (a + 1) 32) (a + 1) 0).2.2 108 else (rdOf (uintM B (a + 1) 32) (a + 1) 0).2.2) from rfl)
  have hb : 0 ≤ (rdOf (uintM B (a + 1) 32) (a + 1) 0).1 ∧ (rdOf (uintM B (a + 1) 32) (a + 1) 0).1 ≤ 4294967295 := hb
  generalize rdOf (uintM B (a + 1) 32) (a + 1) 0 = t at *
  obtain ⟨n, a1, e1⟩ := t
  obtain ⟨hb0, hb1⟩ := hb
  simp only at hb0 hb1 HV
  have HR := Lib.hid hR
  clear hR hC hB hx
  have HF := Lib.hid (fun X h => rFail_any X p q B a1 e1 108 h)
  by_cases h7 : n > 7
  · have h7d : decide ((7 : Int) < n) = true := decide_eq_true h7
    rw [if_pos h7] at HV
    have hfe : ¬ failE e1 108 = 0 := by
      unfold failE
      by_cases h : e1 = 0
      · rw [if_pos h]; decide
      · rw [if_neg h]; exact h
    generalize failE e1 108 = e2 at *
    have he2 : (e2 != 0) = true := by simpa using hfe
    have HP := Lib.hid (show ropV (64512 + n, a1, e2) = -1 from if_neg hfe)
    clear hfe h7
    go_enter Try.func140, Try.ntmps140
    go_wp2_with fail
    refine HN.out.mono ?_
    rintro E W1 ⟨rfl, hG⟩
    have HG1 := Lib.hid hG
    have HR1 := Lib.hid (HR.out.goes hRp hG)
    clear hG HR
    obtain ⟨s0, s1, slt⟩ := HR1.out.cells
    go_wp2_with fail
    refine (HBy.out _ HG1.out.1).mono ?_
    rintro E W2 ⟨rfl, hG⟩
    have hG : GoesR W1 W2 p q B (a + 1) 0 := hG
    have HG2 := Lib.hid (HG1.out.trans hG)
    have HR2 := Lib.hid (HR1.out.goes hRp hG)
    clear hG HR1 HG1 s0 s1 slt
    obtain ⟨s0, s1, slt⟩ := HR2.out.cells
    go_wp2_with fail
    refine (HU.out _ HG2.out.1).mono ?_
    rintro E W3 ⟨rfl, hG⟩
    have hG : GoesR W2 W3 p q B a1 e1 := hG
    have HG3 := Lib.hid (HG2.out.trans hG)
    have HR3 := Lib.hid (HR2.out.goes hRp hG)
    clear hG HR2 HG2 s0 s1 slt
    obtain ⟨s0, s1, slt⟩ := HR3.out.cells
    go_wp2_with fail
    refine (HF.out _ HG3.out.1).mono ?_
    rintro E W4 ⟨rfl, hG⟩
    have hG : GoesR W3 W4 p q B a1 e2 := hG
    have HG4 := Lib.hid (HG3.out.trans hG)
    have HR4 := Lib.hid (HR3.out.goes hRp hG)
    clear hG HR3 HG3 s0 s1 slt
    obtain ⟨s0, s1, slt⟩ := HR4.out.cells
    obtain ⟨A, c, c0, c1, c2, f0, f1, f2, hle, hq, hlt, ha⟩ := HG4.out.1.cells
    clear hq
    go_wp2_with fail
    go_ret
    rw [HV.out]
    exact ⟨by rw [HP.out]; rfl, HG4.out⟩
  · have h7d : decide ((7 : Int) < n) = false := decide_eq_false h7
    rw [if_neg h7] at HV
    have hn7 : n ≤ 7 := by omega
    clear h7 HF
    by_cases hfe : e1 = 0
    · subst hfe
      have HP := Lib.hid (show ropV (64512 + n, a1, 0) = 64512 + n from if_pos rfl)
      go_enter Try.func140, Try.ntmps140
      go_wp2_with fail
      refine HN.out.mono ?_
      rintro E W1 ⟨rfl, hG⟩
      have HG1 := Lib.hid hG
      have HR1 := Lib.hid (HR.out.goes hRp hG)
      clear hG HR
      obtain ⟨s0, s1, slt⟩ := HR1.out.cells
      go_wp2_with fail
      refine (HBy.out _ HG1.out.1).mono ?_
      rintro E W2 ⟨rfl, hG⟩
      have hG : GoesR W1 W2 p q B (a + 1) 0 := hG
      have HG2 := Lib.hid (HG1.out.trans hG)
      have HR2 := Lib.hid (HR1.out.goes hRp hG)
      clear hG HR1 HG1 s0 s1 slt
      obtain ⟨s0, s1, slt⟩ := HR2.out.cells
      go_wp2_with fail
      refine (HU.out _ HG2.out.1).mono ?_
      rintro E W3 ⟨rfl, hG⟩
      have hG : GoesR W2 W3 p q B a1 0 := hG
      have HG3 := Lib.hid (HG2.out.trans hG)
      have HR3 := Lib.hid (HR2.out.goes hRp hG)
      clear hG HR2 HG2 s0 s1 slt
      obtain ⟨s0, s1, slt⟩ := HR3.out.cells
      obtain ⟨A, c, c0, c1, c2, f0, f1, f2, hle, hq, hlt, ha⟩ := HG3.out.1.cells
      clear hq
      go_wp2_with fail
      go_ret
      rw [HV.out]
      refine ⟨?_, HG3.out⟩
      rw [HP.out]
      simp [IntKind.wrap_i64]
    · have he2 : (e1 != 0) = true := by simpa using hfe
      have HP := Lib.hid (show ropV (64512 + n, a1, e1) = -1 from if_neg hfe)
      clear hfe
      go_enter Try.func140, Try.ntmps140
      go_wp2_with fail
      refine HN.out.mono ?_
      rintro E W1 ⟨rfl, hG⟩
      have HG1 := Lib.hid hG
      have HR1 := Lib.hid (HR.out.goes hRp hG)
      clear hG HR
      obtain ⟨s0, s1, slt⟩ := HR1.out.cells
      go_wp2_with fail
      refine (HBy.out _ HG1.out.1).mono ?_
      rintro E W2 ⟨rfl, hG⟩
      have hG : GoesR W1 W2 p q B (a + 1) 0 := hG
      have HG2 := Lib.hid (HG1.out.trans hG)
      have HR2 := Lib.hid (HR1.out.goes hRp hG)
      clear hG HR1 HG1 s0 s1 slt
      obtain ⟨s0, s1, slt⟩ := HR2.out.cells
      go_wp2_with fail
      refine (HU.out _ HG2.out.1).mono ?_
      rintro E W3 ⟨rfl, hG⟩
      have hG : GoesR W2 W3 p q B a1 e1 := hG
      have HG3 := Lib.hid (HG2.out.trans hG)
      have HR3 := Lib.hid (HR2.out.goes hRp hG)
      clear hG HR2 HG2 s0 s1 slt
      obtain ⟨s0, s1, slt⟩ := HR3.out.cells
      obtain ⟨A, c, c0, c1, c2, f0, f1, f2, hle, hq, hlt, ha⟩ := HG3.out.1.cells
      clear hq
      go_wp2_with fail
      go_ret
      rw [HV.out]
      exact ⟨by rw [HP.out]; rfl, HG3.out⟩
end Go.Proofs.Ytfndlpfceokloaa
end
section
namespace Go.Proofs.Ytfndlpfceokloaa
open Go.RowKit Go.Shelf YtfndlpfceokloaaB Go.Proofs.YtfndlpfceokloaaW.PrintWords
set_option maxRecDepth 100000 in
set_option maxHeartbeats 1000000 in
theorem rop_bad (W : World) (R p q : Nat) (sat : Bool) (B : List Int) (a : Nat) (e : Int) (hR : Rq W R p sat) (hC : Rdr W p q B a e) (hB : Byts B) (hx : ¬ (peekM B a e).2 = 0) :
    Calls Try.prog 140 #[.pointer (some ⟨R, 0, none⟩)] W (ROpPost W p q B (0, a, (peekM B a e).2)) := by
  have HN := Lib.hid (rnext_any W R p q sat B a e hR hC hB)
  rw [show nextV B a e = -1 from if_neg hx] at HN
  have HP := Lib.hid (show ropV (0, a, (peekM B a e).2) = -1 from if_neg hx)
  generalize (peekM B a e).2 = pe at *
  clear hR hC hB hx
  go_enter Try.func140, Try.ntmps140
  go_wp2_with fail
  refine HN.out.mono ?_
  rintro E W1 ⟨rfl, hG⟩
  have HG1 := Lib.hid hG
  clear hG
  go_wp2_with fail
  go_ret
  exact ⟨by rw [HP.out]; rfl, HG1.out⟩
theorem imm_nonneg (b : Int) : 0 ≤ (immM b).1 ∧ (immM b).1 ≤ 12 := by
  unfold immM
  by_cases c0 : b = 0 ∨ b = 1 ∨ b = 15 ∨ b = 26 ∨ b = 27
  · rw [if_pos c0]; decide
  rw [if_neg c0]
  by_cases c1 : b = 2 ∨ b = 3 ∨ b = 4
  · rw [if_pos c1]; decide
  rw [if_neg c1]
  by_cases c2 : b = 5 ∨ b = 11
  · rw [if_pos c2]; decide
  rw [if_neg c2]
  by_cases c3 : b = 12 ∨ b = 13
  · rw [if_pos c3]; decide
  rw [if_neg c3]
  by_cases c4 : b = 14
  · rw [if_pos c4]; decide
  rw [if_neg c4]
  by_cases c5 : b = 16 ∨ b = 32 ∨ b = 33 ∨ b = 34 ∨ b = 35 ∨ b = 36
  · rw [if_pos c5]; decide
  rw [if_neg c5]
  by_cases c6 : b = 17
  · rw [if_pos c6]; decide
  rw [if_neg c6]
  by_cases c7 : b = 63 ∨ b = 64
  · rw [if_pos c7]; decide
  rw [if_neg c7]
  by_cases c8 : b = 65
  · rw [if_pos c8]; decide
  rw [if_neg c8]
  by_cases c9 : b = 66
  · rw [if_pos c9]; decide
  rw [if_neg c9]
  by_cases c10 : b = 67
  · rw [if_pos c10]; decide
  rw [if_neg c10]
  by_cases c11 : b = 68
  · rw [if_pos c11]; decide
  rw [if_neg c11]
  by_cases c12 : 40 ≤ b ∧ b ≤ 62
  · rw [if_pos c12]; decide
  rw [if_neg c12]
  exact ⟨Int.le_refl _, by simp⟩
theorem rImm_sign (b : Int) : (rImmV b < 0) ↔ (immM b).2 = false := by
  have h0 := imm_nonneg b
  unfold rImmV
  cases h : (immM b).2 with
  | true => simp; omega
  | false => simp
set_option maxRecDepth 100000 in
set_option maxHeartbeats 2000000 in
theorem rop_one (W : World) (R p q : Nat) (sat : Bool) (B : List Int) (a : Nat) (b : Int) (hR : Rq W R p sat) (hRp : R ≠ p) (hC : Rdr W p q B a 0) (hB : Byts B) (hx : B[a]? = some b) (hs : ¬ (b = 252 ∧ sat = true)) (v : Int) (hv : rImmV b = v) (hv0 : ¬ v < 0) (h5 : ¬ b = 5) (h11 : ¬ b = 11) :
    Calls Try.prog 140 #[.pointer (some ⟨R, 0, none⟩)] W (ROpPost W p q B (b, a + 1, 0)) := by
  have hbb := hB.get hx
  have HN := Lib.hid (rnext_any W R p q sat B a 0 hR hC hB)
  rw [show nextV B a 0 = b from by simp [nextV, peekM, hx], show (peekM B a 0).2 = 0 from by simp [peekM, hx]] at HN
  have HBy := Lib.hid (fun X h => rByte_any X p q B a 0 h hB)
  rw [show rdByte B a 0 = (b, a + 1, 0) from by simp [rdByte, hx]] at HBy
  have HI := Lib.hid (fun X => rImm_any X b hbb.1 (by omega))
  rw [hv] at HI
  have HR := Lib.hid hR
  have HP := Lib.hid (show ropV (b, a + 1, 0) = b from if_pos rfl)
  have b5 : (b == 5) = false := beq_eq_false_iff_ne.2 h5
  have b11 : (b == 11) = false := beq_eq_false_iff_ne.2 h11
  have bv : decide (v < 0) = false := decide_eq_false hv0
  have bb : decide (b < 0) = false := decide_eq_false (by omega)
  have hm : ((b == 252) = false) ∨ ((b == 252) = true ∧ sat = false) := by
    by_cases h : b = 252
    · right
      refine ⟨beq_iff_eq.2 h, ?_⟩
      cases sat with
      | true => exact absurd ⟨h, rfl⟩ hs
      | false => rfl
    · exact .inl (beq_eq_false_iff_ne.2 h)
  obtain ⟨hb0, hb1⟩ := hbb
  clear hR hC hB hx hs hv hv0 h5 h11
  go_enter Try.func140, Try.ntmps140
  go_wp2_with fail
  refine HN.out.mono ?_
  rintro E W1 ⟨rfl, hG⟩
  have HG1 := Lib.hid hG
  have HR1 := Lib.hid (HR.out.goes hRp hG)
  clear hG HR HN
  obtain ⟨s0, s1, slt⟩ := HR1.out.cells
  rcases hm with hm | ⟨hm, rfl⟩
  all_goals
    go_wp2_with fail
    refine (HI.out _).mono ?_
    rintro E W2 ⟨rfl, hB2⟩
    have hg2 : GoesR W1 W2 p q B a 0 := ⟨HG1.out.1.below hB2, grown_below hB2 _⟩
    have HG2 := Lib.hid (HG1.out.trans hg2)
    have HR2 := Lib.hid (HR1.out.goes hRp hg2)
    clear hg2 hB2 HR1 HG1 s0 s1 slt
    obtain ⟨s0, s1, slt⟩ := HR2.out.cells
    go_wp2_with fail
    refine (HBy.out _ HG2.out.1).mono ?_
    rintro E W3 ⟨rfl, hG⟩
    have hG : GoesR W2 W3 p q B (a + 1) 0 := hG
    have HG3 := Lib.hid (HG2.out.trans hG)
    clear hG HG2 s0 s1 slt
    go_wp2_with fail
    go_ret
    exact ⟨by rw [HP.out]; rfl, HG3.out⟩
set_option maxRecDepth 100000 in
set_option maxHeartbeats 2000000 in
theorem rop_not (W : World) (R p q : Nat) (sat : Bool) (B : List Int) (a : Nat) (b : Int) (hR : Rq W R p sat) (hRp : R ≠ p) (hC : Rdr W p q B a 0) (hB : Byts B) (hx : B[a]? = some b) (hs : ¬ (b = 252 ∧ sat = true)) (v : Int) (hv : rImmV b = v) (hv0 : v < 0 ∨ b = 5) :
    Calls Try.prog 140 #[.pointer (some ⟨R, 0, none⟩)] W (ROpPost W p q B (0, a, 108)) := by
  have hbb := hB.get hx
  have HN := Lib.hid (rnext_any W R p q sat B a 0 hR hC hB)
  rw [show nextV B a 0 = b from by simp [nextV, peekM, hx], show (peekM B a 0).2 = 0 from by simp [peekM, hx]] at HN
  have HI := Lib.hid (fun X => rImm_any X b hbb.1 (by omega))
  rw [hv] at HI
  have HR := Lib.hid hR
  have HF := Lib.hid (fun X h => rFail_any X p q B a 0 108 h)
  rw [show failE 0 108 = 108 from rfl] at HF
  have HP := Lib.hid (show ropV (0, a, 108) = -1 from rfl)
  have bb : decide (b < 0) = false := decide_eq_false (by omega)
  have hm : ((b == 252) = false) ∨ ((b == 252) = true ∧ sat = false) := by
    by_cases h : b = 252
    · right
      refine ⟨beq_iff_eq.2 h, ?_⟩
      cases sat with
      | true => exact absurd ⟨h, rfl⟩ hs
      | false => rfl
    · exact .inl (beq_eq_false_iff_ne.2 h)
  have hw : decide (v < 0) = true ∨ (decide (v < 0) = false ∧ (b == 5) = true) := by
    by_cases h : v < 0
    · exact .inl (decide_eq_true h)
    · exact .inr ⟨decide_eq_false h, beq_iff_eq.2 (hv0.resolve_left h)⟩
  obtain ⟨hb0, hb1⟩ := hbb
  clear hR hC hB hx hs hv hv0
  go_enter Try.func140, Try.ntmps140
  go_wp2_with fail
  refine HN.out.mono ?_
  rintro E W1 ⟨rfl, hG⟩
  have HG1 := Lib.hid hG
  have HR1 := Lib.hid (HR.out.goes hRp hG)
  clear hG HR HN
  obtain ⟨s0, s1, slt⟩ := HR1.out.cells
  rcases hm with hm | ⟨hm, rfl⟩
  all_goals
    go_wp2_with fail
    refine (HI.out _).mono ?_
    rintro E W2 ⟨rfl, hB2⟩
    have hg2 : GoesR W1 W2 p q B a 0 := ⟨HG1.out.1.below hB2, grown_below hB2 _⟩
    have HG2 := Lib.hid (HG1.out.trans hg2)
    have HR2 := Lib.hid (HR1.out.goes hRp hg2)
    clear hg2 hB2 HR1 HG1 s0 s1 slt
    obtain ⟨s0, s1, slt⟩ := HR2.out.cells
    rcases hw with hw | ⟨hw, hw5⟩
    all_goals
      go_wp2_with fail
      refine (HF.out _ HG2.out.1).mono ?_
      rintro E W3 ⟨rfl, hG⟩
      have HG3 := Lib.hid (HG2.out.trans hG)
      clear hG HG2 s0 s1 slt
      go_wp2_with fail
      go_ret
      exact ⟨by rw [HP.out]; rfl, HG3.out⟩
theorem rop_any (W : World) (R p q : Nat) (sat : Bool) (B : List Int) (a : Nat) (e : Int) (hR : Rq W R p sat) (hRp : R ≠ p) (hC : Rdr W p q B a e) (hB : Byts B) (h5 : ∀ b, peekM B a e = (b, 0) → ¬ b = 5 ∧ ¬ b = 11) :
    Calls Try.prog 140 #[.pointer (some ⟨R, 0, none⟩)] W (ROpPost W p q B (opM sat B a e)) := by
  by_cases hp : (peekM B a e).2 = 0
  · obtain ⟨b, hx⟩ : ∃ b, peekM B a e = (b, 0) := ⟨(peekM B a e).1, by rw [← hp]⟩
    obtain ⟨rfl, hxx⟩ := peek_good hx
    have hn := h5 b hx
    by_cases hs : b = 252 ∧ sat = true
    · obtain ⟨rfl, rfl⟩ := hs
      rw [show opM true B a 0 = secondM B (a + 1) 0 from by unfold opM; rw [hx]; rfl]
      exact rop_second W R p q B a hR hRp hC hB hxx
    · by_cases hi : (immM b).2 = true
      · rw [show opM sat B a 0 = (b, a + 1, 0) from by unfold opM; rw [hx]; simp only [if_neg hs, if_pos hi, if_true]]
        exact rop_one W R p q sat B a b hR hRp hC hB hxx hs _ rfl (fun h => by have := (rImm_sign b).1 h; rw [this] at hi; cases hi) hn.1 hn.2
      · rw [show opM sat B a 0 = (0, a, 108) from by unfold opM; rw [hx]; simp only [if_neg hs, if_neg hi, if_true]]
        exact rop_not W R p q sat B a b hR hRp hC hB hxx hs _ rfl (.inl ((rImm_sign b).2 (by simpa using hi)))
  · rw [show opM sat B a e = (0, a, (peekM B a e).2) from by unfold opM; rw [if_neg hp]]
    exact rop_bad W R p q sat B a e hR hC hB hp
end Go.Proofs.Ytfndlpfceokloaa
end
section
namespace Go.Proofs.Ytfndlpfceokloaa
open Go.RowKit Go.Shelf YtfndlpfceokloaaB Go.Proofs.YtfndlpfceokloaaW.PrintWords
def RInsPost (W : World) (p q : Nat) (B : List Int) (r : Ins × Nat × Int) (E : Ending) (w' : World) : Prop :=
  ∃ x' : Ins, ∃ AL AT AE cL cT cE, E = .returned (.agg (insC x'.op x'.ty x'.a x'.b x'.bits (.slice AL x'.list.length cL) (.slice AT x'.th.length cT) (.slice AE x'.el.length cE) x'.has)) ∧
    FK kR w' (fun k => W.heap.size ≤ k) x' (insC x'.op x'.ty x'.a x'.b x'.bits (.slice AL x'.list.length cL) (.slice AT x'.th.length cT) (.slice AE x'.el.length cE) x'.has).toList ∧ (r.2.2 = 0 → x' = r.1) ∧ GoesR W w' p q B r.2.1 r.2.2
theorem rU32_any (W : World) (p q : Nat) (B : List Int) (a : Nat) (e : Int) (hC : Rdr W p q B a e) (hB : Byts B) :
    Calls Try.prog 143 #[.pointer (some ⟨p, 0, none⟩), .int .i64 32] W fun E w' => E = .returned (.int .u64 (rdOf (u32M B a) a e).1) ∧ GoesR W w' p q B (rdOf (u32M B a) a e).2.1 (rdOf (u32M B a) a e).2.2 :=
  rdUint_any W p q B a 32 e hC hB (by omega) (by omega)
theorem lab_goesR {W W2 w1 : World} {p q : Nat} {B : List Int} {a a0 : Nat} {e e0 : Int} {row : Option Nat} (hC : Rdr W p q B a0 e0) (h : GoesR W W2 p q B a e) (hg : W2.grownBy w1 row) (hr : ∀ k, row = some k → W.heap.size ≤ k) : GoesR W w1 p q B a e := by
  have hplt := hC.lt
  refine ⟨?_, h.2.os ▸ hg.os, h.2.tape ▸ hg.tape, h.2.output ▸ hg.output, Nat.le_trans h.2.size hg.size, fun k hk hp => ?_⟩
  · rcases Nat.eq_zero_or_pos B.length with hz | hz
    · obtain ⟨g0, g1, A, c, g2, g3, g4⟩ := h.1
      exact ⟨g0, g1, A, c, g2, g3.grown hg (fun e => by have := hr p e.symm; omega), fun hh => absurd hh (by omega)⟩
    · obtain ⟨_, _, A, c, _, _, h4⟩ := hC
      obtain ⟨o, _, hcell⟩ := h4 hz
      have hq := World.block_lt_of_cell? _ _ (hcell 0 _ (List.getElem?_eq_getElem hz))
      exact h.1.grown hg (fun e => by have := hr p e.symm; omega) (fun e => by have := hr q e.symm; simp only at hq; omega)
  · have hk2 : k < W2.heap.size := Nat.lt_of_lt_of_le hk h.2.size
    exact (hg.block k hk2 (fun e => by have := hr k e.symm; omega)).trans (h.2.block k hk hp)
theorem GoesR.setNew {W V : World} {p q : Nat} {B : List Int} {a a0 : Nat} {e e0 : Int} (hC : Rdr W p q B a0 e0) (h : GoesR W V p q B a e) (X : Nat) (hX : W.heap.size ≤ X) (j : Nat) (v : Value) : GoesR W (V.setCell ⟨X, j, none⟩ v) p q B a e :=
  lab_goesR hC h (gset V X j v) (fun k e => by cases e; exact hX)
theorem put9_goesR {W V : World} {p q : Nat} {B : List Int} {a a0 : Nat} {e e0 : Int} (hC : Rdr W p q B a0 e0) (h : GoesR W V p q B a e) (Z : Nat) (hZ : W.heap.size ≤ Z) (n0 n1 n2 n3 n4 n5 n6 n7 n8 : Value) : GoesR W (put9 V Z n0 n1 n2 n3 n4 n5 n6 n7 n8) p q B a e :=
  ((((((((h.setNew hC Z hZ 0 n0).setNew hC Z hZ 1 n1).setNew hC Z hZ 2 n2).setNew hC Z hZ 3 n3).setNew hC Z hZ 4 n4).setNew hC Z hZ 5 n5).setNew hC Z hZ 6 n6).setNew hC Z hZ 7 n7).setNew hC Z hZ 8 n8
theorem fk_flatR {W : World} {ok : Nat → Prop} {op ty a b bits : Int} (h1 : 0 ≤ op ∧ op ≤ 5000000000) (h2 : 0 ≤ ty ∧ ty ≤ 255) (h3 : 0 ≤ a ∧ a ≤ 4294967295) (h4 : 0 ≤ b ∧ b ≤ 4294967295) (h5 : 0 ≤ bits ∧ bits < 18446744073709551616) :
    FK kR W ok (.mk op ty a b bits [] [] [] false) (insC op ty a b bits (.slice none 0 0) (.slice none 0 0) (.slice none 0 0) false).toList :=
  ins_mkF (x := .mk op ty a b bits [] [] [] false) (nest_wf h1.1 h1.2) (show (Lit.int .u8 ty).wf = true from by simp [Lit.wf, IntKind.min, IntKind.max, IntKind.signed, IntKind.bits]; omega) (show (Lit.int .u32 a).wf = true from by simp [Lit.wf, IntKind.min, IntKind.max, IntKind.signed, IntKind.bits]; omega) (show (Lit.int .u32 b).wf = true from by simp [Lit.wf, IntKind.min, IntKind.max, IntKind.signed, IntKind.bits]; omega) (show (Lit.int .u64 bits).wf = true from by simp [Lit.wf, IntKind.min, IntKind.max, IntKind.signed, IntKind.bits]; omega) FC.nil FC.nil FC.nil (Nat.le_refl _) (Nat.le_refl _) (Nat.le_refl _)
theorem insC_cellsT {t : TypeId} {W : World} {X : Nat} {op ty a b bits : Int} {vL vT vE : Value} {has : Bool} (h : Blk W X (insC op ty a b bits vL vT vE has) t) :
    W.cell? ⟨X, 0, none⟩ = some (.int .i64 op) ∧ W.cell? ⟨X, 1, none⟩ = some (.int .u8 ty) ∧ W.cell? ⟨X, 2, none⟩ = some (.int .u32 a) ∧ W.cell? ⟨X, 3, none⟩ = some (.int .u32 b) ∧ W.cell? ⟨X, 4, none⟩ = some (.int .u64 bits) ∧ W.cell? ⟨X, 5, none⟩ = some vL ∧ W.cell? ⟨X, 6, none⟩ = some vT ∧ W.cell? ⟨X, 7, none⟩ = some vE ∧ W.cell? ⟨X, 8, none⟩ = some (.bool has) :=
  ⟨by rw [h.cell]; rfl, by rw [h.cell]; rfl, by rw [h.cell]; rfl, by rw [h.cell]; rfl, by rw [h.cell]; rfl, by rw [h.cell]; rfl, by rw [h.cell]; rfl, by rw [h.cell]; rfl, by rw [h.cell]; rfl⟩
end Go.Proofs.Ytfndlpfceokloaa
end
section
namespace Go.Proofs.Ytfndlpfceokloaa
open Go.RowKit Go.Shelf YtfndlpfceokloaaB Go.Proofs.YtfndlpfceokloaaW.PrintWords
set_option maxRecDepth 100000 in
set_option maxHeartbeats 16000000 in
theorem rinstr_n (bk : Bool → Nat → Int → List Ins × Int × Nat × Int) (W : World) (R p q : Nat) (sat : Bool) (deep : Nat) (B : List Int) (a a1 : Nat) (b opc i : Int) (hR : Rq W R p sat) (hRp : R ≠ p) (hC : Rdr W p q B a 0) (hB : Byts B) (hx : B[a]? = some b)
    (hi1 : ¬ (2 ≤ b ∧ b ≤ 4)) (h5 : ¬ b = 5 ∧ ¬ b = 11) (ho : opM sat B a 0 = (opc, a1, 0)) (hopc : 0 ≤ opc ∧ opc ≤ 5000000000) (hi2 : rImmV opc = i) (c1 : ¬ i = 1) (c3 : ¬ i = 3) :
    Calls Try.prog 122 #[.pointer (some ⟨R, 0, none⟩), .int .i64 deep] W (RInsPost W p q B (bodyM bk B opc i a1)) := by
  have hxb := hB.get hx
  have hplt := hC.lt
  have hRlt := hR.cells.2.2
  have HP := Lib.hid (rnext_any (W.alloc (.cells zeroC 174)) R p q sat B a 0 (Blk.alloc hR _) (hC.alloc _) hB)
  rw [show nextV B a 0 = b from by simp [nextV, peekM, hx], show (peekM B a 0).2 = 0 from by simp [peekM, hx]] at HP
  have HI2 := Lib.hid (fun X => rImm_any X opc hopc.1 hopc.2)
  rw [hi2] at HI2
  have HOP := Lib.hid (fun X h1 h2 => rop_any X R p q sat B a 0 h1 hRp h2 hB (fun b' hb' => by rw [show peekM B a 0 = (b, 0) from by simp [peekM, hx]] at hb'; injection hb' with hb' _; subst hb'; exact h5))
  rw [ho] at HOP
  have HR := Lib.hid (show Rq (W.alloc (.cells zeroC 174)) R p sat from Blk.alloc hR _)
  have HZ := Lib.hid (Blk.new W zeroC 174)
  have HB := Lib.hid hB
  have hm : decide (2 ≤ b) = false ∨ (decide (2 ≤ b) = true ∧ decide (b ≤ 4) = false) := by
    by_cases h : 2 ≤ b
    · exact .inr ⟨decide_eq_true h, decide_eq_false (fun h4 => hi1 ⟨h, h4⟩)⟩
    · exact .inl (decide_eq_false h)
  have hopd : decide (opc < 0) = false := decide_eq_false (by omega)
  have HW := Lib.hid hC
  have HC1 := Lib.hid c1
  have HC3 := Lib.hid c3
  clear hR hC hB hx ho hi2 hxb c1 c3 h5 hi1
  go_enter Try.func122, Try.ntmps122
  go_wp2_with fail
  refine HP.out.mono ?_
  rintro E W1 ⟨rfl, hG1⟩
  have HR1 := Lib.hid (HR.out.goes hRp hG1)
  have HZ1 := Lib.hid (HZ.out.grown hG1.2 (by simp; omega))
  have HG1 := Lib.hid (GoesR.of_alloc hG1)
  clear hG1 HP HR HZ
  go_upto_region 2 with fail
  go_cut [21] from 12 to 21 (fun s21 wx => s21 = .bool false ∧ wx = W1)
  case first =>
    rcases hm with hm | ⟨hm, hm2⟩
    all_goals
      go_wp2_with fail
      go_meet
      exact ⟨rfl, rfl⟩
  case rest =>
  obtain ⟨rfl, rfl⟩ := hcut
  clear hm
  go_wp2_with fail
  refine (HOP.out _ HR1.out HG1.out.1).mono ?_
  rintro E W3 ⟨rfl, hG3⟩
  have HR3 := Lib.hid (HR1.out.goes hRp hG3)
  have HZ3 := Lib.hid (HZ1.out.grown hG3.2 (by simp; omega))
  have HG3 := Lib.hid (HG1.out.trans hG3)
  clear hG3 HR1 HZ1 HG1 HOP
  rw [show ropV (opc, a1, 0) = opc from if_pos rfl]
  go_wp2_with fail
  refine (HI2.out _).mono ?_
  rintro E W4 ⟨rfl, hB4⟩
  have XB4 : Blk W4 W3.heap.size (insC opc 0 0 0 0 (.slice none 0 0) (.slice none 0 0) (.slice none 0 0) false) 174 := (Blk.new W3 (insC opc 0 0 0 0 (.slice none 0 0) (.slice none 0 0) (.slice none 0 0) false) 174).below hB4 (by simp)
  have hg4 : GoesR W3 W4 p q B a1 0 := GoesR.of_alloc (o := .cells (insC opc 0 0 0 0 (.slice none 0 0) (.slice none 0 0) (.slice none 0 0) false) 174) ⟨(HG3.out.1.alloc _).below hB4, grown_below hB4 _⟩
  have HR4 := Lib.hid (HR3.out.goes hRp hg4)
  have HZ4 := Lib.hid (HZ3.out.grown hg4.2 (by simp; omega))
  have HG4 := Lib.hid (HG3.out.trans hg4)
  have HX4 := Lib.hid XB4
  have hXp : p < W3.heap.size := Nat.lt_of_lt_of_le hplt HG3.out.2.size
  have hXR : R < W3.heap.size := Nat.lt_of_lt_of_le hRlt HG3.out.2.size
  have hXZ : W.heap.size < W3.heap.size := HZ3.out.lt
  obtain ⟨X, hXe⟩ : ∃ X, X = W3.heap.size := ⟨_, rfl⟩
  rw [← hXe] at HX4 hXp hXR hXZ ⊢
  clear hB4 XB4 hg4 HR3 HZ3 HG3 hXe HI2
  by_cases c2 : i = 2
  · obtain rfl : i = 2 := c2
    have HV := Lib.hid (show bodyM bk B opc 2 a1 = (.mk opc 0 (rdOf (u32M B a1) a1 0).1 0 0 [] [] [] false, (rdOf (u32M B a1) a1 0).2.1, (rdOf (u32M B a1) a1 0).2.2) from rfl)
    obtain ⟨s0, s1, slt⟩ := HR4.out.cells
    obtain ⟨x0, x1, x2, x3, x4, x5, x6, x7, x8⟩ := insC_cellsT HX4.out
    obtain ⟨xf0, xf1, xf2, xf3, xf4, xf5, xf6, xf7, xf8, xlt⟩ := insC_frozen HX4.out
    obtain ⟨z0, z1, z2, z3, z4, z5, z6, z7, z8⟩ := insC_cellsT HZ4.out
    obtain ⟨zf0, zf1, zf2, zf3, zf4, zf5, zf6, zf7, zf8, zlt⟩ := insC_frozen HZ4.out
    go_wp2_with fail
    have hvb := u32_bound B a1 0 HB.out
    have H := Lib.hid (rU32_any W4 p q B a1 0 HG4.out.1 HB.out)
    generalize rdOf (u32M B a1) a1 0 = t at *
    obtain ⟨v14, a14, e14⟩ := t
    simp only at HV
    obtain ⟨hv14, hw14⟩ := hvb
    refine H.out.mono ?_
    rintro E W14 ⟨rfl, hG⟩
    have hG0 : GoesR W4 W14 p q B a14 e14 := hG
    have HR14 := Lib.hid (HR4.out.goes hRp hG0)
    have HX14 := Lib.hid (HX4.out.grown hG0.2 (by simp; omega))
    have HZ14 := Lib.hid (HZ4.out.grown hG0.2 (by simp; omega))
    have HG14 := Lib.hid (HG4.out.trans hG0)
    clear hG hG0 H HR4 HX4 HZ4 HG4
    clear s0 s1 slt x0 x1 x2 x3 x4 x5 x6 x7 x8 xf0 xf1 xf2 xf3 xf4 xf5 xf6 xf7 xf8 xlt z0 z1 z2 z3 z4 z5 z6 z7 z8 zf0 zf1 zf2 zf3 zf4 zf5 zf6 zf7 zf8 zlt
    obtain ⟨s0, s1, slt⟩ := HR14.out.cells
    obtain ⟨x0, x1, x2, x3, x4, x5, x6, x7, x8⟩ := insC_cellsT HX14.out
    obtain ⟨xf0, xf1, xf2, xf3, xf4, xf5, xf6, xf7, xf8, xlt⟩ := insC_frozen HX14.out
    obtain ⟨z0, z1, z2, z3, z4, z5, z6, z7, z8⟩ := insC_cellsT HZ14.out
    obtain ⟨zf0, zf1, zf2, zf3, zf4, zf5, zf6, zf7, zf8, zlt⟩ := insC_frozen HZ14.out
    go_wp2_with fail
    have HX15 := Lib.hid (show Blk (W14.setCell ⟨X, 2, none⟩ (.int .u32 v14)) X (insC opc 0 v14 0 0 (.slice none 0 0) (.slice none 0 0) (.slice none 0 0) false) 174 from by have := HX14.out.set 2 (.int .u32 v14); simpa [insC] using this)
    have HZ15 := Lib.hid (show Blk (W14.setCell ⟨X, 2, none⟩ (.int .u32 v14)) W.heap.size zeroC 174 from HZ14.out.set_other ⟨X, 2, none⟩ (.int .u32 v14) (by simp; omega))
    have HR15 := Lib.hid (show Rq (W14.setCell ⟨X, 2, none⟩ (.int .u32 v14)) R p sat from Blk.set_other HR14.out ⟨X, 2, none⟩ (.int .u32 v14) (by simp; omega))
    have HG15 := Lib.hid (show GoesR W (W14.setCell ⟨X, 2, none⟩ (.int .u32 v14)) p q B a14 e14 from HG14.out.setNew HW.out X (by omega) 2 (.int .u32 v14))
    clear HX14 HZ14 HR14 HG14
    clear s0 s1 slt x0 x1 x2 x3 x4 x5 x6 x7 x8 xf0 xf1 xf2 xf3 xf4 xf5 xf6 xf7 xf8 xlt z0 z1 z2 z3 z4 z5 z6 z7 z8 zf0 zf1 zf2 zf3 zf4 zf5 zf6 zf7 zf8 zlt
    change bodyPost _ _ _ Exit.ret _ (put9 (W14.setCell ⟨X, 2, none⟩ (.int .u32 v14)) W.heap.size (.int .i64 opc) (.int .u8 0) (.int .u32 v14) (.int .u32 0) (.int .u64 0) (.slice none 0 0) (.slice none 0 0) (.slice none 0 0) (.bool false))
    have hgF : GoesR W (put9 (W14.setCell ⟨X, 2, none⟩ (.int .u32 v14)) W.heap.size (.int .i64 opc) (.int .u8 0) (.int .u32 v14) (.int .u32 0) (.int .u64 0) (.slice none 0 0) (.slice none 0 0) (.slice none 0 0) (.bool false)) p q B a14 e14 := put9_goesR HW.out HG15.out _ (Nat.le_refl _) _ _ _ _ _ _ _ _ _
    have hbF := put9_blk HZ15.out (.int .i64 opc) (.int .u8 0) (.int .u32 v14) (.int .u32 0) (.int .u64 0) (.slice none 0 0) (.slice none 0 0) (.slice none 0 0) (.bool false)
    generalize put9 (W14.setCell ⟨X, 2, none⟩ (.int .u32 v14)) W.heap.size (.int .i64 opc) (.int .u8 0) (.int .u32 v14) (.int .u32 0) (.int .u64 0) (.slice none 0 0) (.slice none 0 0) (.slice none 0 0) (.bool false) = V9 at *
    obtain ⟨y0, y1, y2, y3, y4, y5, y6, y7, y8⟩ := insC_cellsT hbF
    rw [HV.out]
    have HGF := Lib.hid hgF
    refine bodyPost_ret (v := .agg (insC opc 0 v14 0 0 (.slice none 0 0) (.slice none 0 0) (.slice none 0 0) false)) (by simp [results, Try.results122, go_sem, y0, y1, y2, y3, y4, y5, y6, y7, y8, insC]) rfl ⟨.mk opc 0 v14 0 0 [] [] [] false, none, none, none, 0, 0, 0, rfl, ?_, fun _ => rfl, HGF.out⟩
    exact fk_flatR hopc (by omega) (by omega) (by omega) (by omega)
  by_cases c4 : i = 4
  · obtain rfl : i = 4 := c4
    have HV := Lib.hid (show bodyM bk B opc 4 a1 = (.mk opc 0 (rdOf (u32M B a1) a1 0).1 0 0 [] [] [] false, (rdOf (u32M B a1) a1 0).2.1, (rdOf (u32M B a1) a1 0).2.2) from rfl)
    obtain ⟨s0, s1, slt⟩ := HR4.out.cells
    obtain ⟨x0, x1, x2, x3, x4, x5, x6, x7, x8⟩ := insC_cellsT HX4.out
    obtain ⟨xf0, xf1, xf2, xf3, xf4, xf5, xf6, xf7, xf8, xlt⟩ := insC_frozen HX4.out
    obtain ⟨z0, z1, z2, z3, z4, z5, z6, z7, z8⟩ := insC_cellsT HZ4.out
    obtain ⟨zf0, zf1, zf2, zf3, zf4, zf5, zf6, zf7, zf8, zlt⟩ := insC_frozen HZ4.out
    go_wp2_with fail
    have hvb := u32_bound B a1 0 HB.out
    have H := Lib.hid (rU32_any W4 p q B a1 0 HG4.out.1 HB.out)
    generalize rdOf (u32M B a1) a1 0 = t at *
    obtain ⟨v14, a14, e14⟩ := t
    simp only at HV
    obtain ⟨hv14, hw14⟩ := hvb
    refine H.out.mono ?_
    rintro E W14 ⟨rfl, hG⟩
    have hG0 : GoesR W4 W14 p q B a14 e14 := hG
    have HR14 := Lib.hid (HR4.out.goes hRp hG0)
    have HX14 := Lib.hid (HX4.out.grown hG0.2 (by simp; omega))
    have HZ14 := Lib.hid (HZ4.out.grown hG0.2 (by simp; omega))
    have HG14 := Lib.hid (HG4.out.trans hG0)
    clear hG hG0 H HR4 HX4 HZ4 HG4
    clear s0 s1 slt x0 x1 x2 x3 x4 x5 x6 x7 x8 xf0 xf1 xf2 xf3 xf4 xf5 xf6 xf7 xf8 xlt z0 z1 z2 z3 z4 z5 z6 z7 z8 zf0 zf1 zf2 zf3 zf4 zf5 zf6 zf7 zf8 zlt
    obtain ⟨s0, s1, slt⟩ := HR14.out.cells
    obtain ⟨x0, x1, x2, x3, x4, x5, x6, x7, x8⟩ := insC_cellsT HX14.out
    obtain ⟨xf0, xf1, xf2, xf3, xf4, xf5, xf6, xf7, xf8, xlt⟩ := insC_frozen HX14.out
    obtain ⟨z0, z1, z2, z3, z4, z5, z6, z7, z8⟩ := insC_cellsT HZ14.out
    obtain ⟨zf0, zf1, zf2, zf3, zf4, zf5, zf6, zf7, zf8, zlt⟩ := insC_frozen HZ14.out
    go_wp2_with fail
    have HX15 := Lib.hid (show Blk (W14.setCell ⟨X, 2, none⟩ (.int .u32 v14)) X (insC opc 0 v14 0 0 (.slice none 0 0) (.slice none 0 0) (.slice none 0 0) false) 174 from by have := HX14.out.set 2 (.int .u32 v14); simpa [insC] using this)
    have HZ15 := Lib.hid (show Blk (W14.setCell ⟨X, 2, none⟩ (.int .u32 v14)) W.heap.size zeroC 174 from HZ14.out.set_other ⟨X, 2, none⟩ (.int .u32 v14) (by simp; omega))
    have HR15 := Lib.hid (show Rq (W14.setCell ⟨X, 2, none⟩ (.int .u32 v14)) R p sat from Blk.set_other HR14.out ⟨X, 2, none⟩ (.int .u32 v14) (by simp; omega))
    have HG15 := Lib.hid (show GoesR W (W14.setCell ⟨X, 2, none⟩ (.int .u32 v14)) p q B a14 e14 from HG14.out.setNew HW.out X (by omega) 2 (.int .u32 v14))
    clear HX14 HZ14 HR14 HG14
    clear s0 s1 slt x0 x1 x2 x3 x4 x5 x6 x7 x8 xf0 xf1 xf2 xf3 xf4 xf5 xf6 xf7 xf8 xlt z0 z1 z2 z3 z4 z5 z6 z7 z8 zf0 zf1 zf2 zf3 zf4 zf5 zf6 zf7 zf8 zlt
    change bodyPost _ _ _ Exit.ret _ (put9 (W14.setCell ⟨X, 2, none⟩ (.int .u32 v14)) W.heap.size (.int .i64 opc) (.int .u8 0) (.int .u32 v14) (.int .u32 0) (.int .u64 0) (.slice none 0 0) (.slice none 0 0) (.slice none 0 0) (.bool false))
    have hgF : GoesR W (put9 (W14.setCell ⟨X, 2, none⟩ (.int .u32 v14)) W.heap.size (.int .i64 opc) (.int .u8 0) (.int .u32 v14) (.int .u32 0) (.int .u64 0) (.slice none 0 0) (.slice none 0 0) (.slice none 0 0) (.bool false)) p q B a14 e14 := put9_goesR HW.out HG15.out _ (Nat.le_refl _) _ _ _ _ _ _ _ _ _
    have hbF := put9_blk HZ15.out (.int .i64 opc) (.int .u8 0) (.int .u32 v14) (.int .u32 0) (.int .u64 0) (.slice none 0 0) (.slice none 0 0) (.slice none 0 0) (.bool false)
    generalize put9 (W14.setCell ⟨X, 2, none⟩ (.int .u32 v14)) W.heap.size (.int .i64 opc) (.int .u8 0) (.int .u32 v14) (.int .u32 0) (.int .u64 0) (.slice none 0 0) (.slice none 0 0) (.slice none 0 0) (.bool false) = V9 at *
    obtain ⟨y0, y1, y2, y3, y4, y5, y6, y7, y8⟩ := insC_cellsT hbF
    rw [HV.out]
    have HGF := Lib.hid hgF
    refine bodyPost_ret (v := .agg (insC opc 0 v14 0 0 (.slice none 0 0) (.slice none 0 0) (.slice none 0 0) false)) (by simp [results, Try.results122, go_sem, y0, y1, y2, y3, y4, y5, y6, y7, y8, insC]) rfl ⟨.mk opc 0 v14 0 0 [] [] [] false, none, none, none, 0, 0, 0, rfl, ?_, fun _ => rfl, HGF.out⟩
    exact fk_flatR hopc (by omega) (by omega) (by omega) (by omega)
  by_cases c5 : i = 5
  · obtain rfl : i = 5 := c5
    have HV := Lib.hid (show bodyM bk B opc 5 a1 = (.mk opc 0 (rdOf (u32M B a1) a1 0).1 0 0 [] [] [] false, (zeroM B (rdOf (u32M B a1) a1 0).2.1 (rdOf (u32M B a1) a1 0).2.2).1, (zeroM B (rdOf (u32M B a1) a1 0).2.1 (rdOf (u32M B a1) a1 0).2.2).2) from rfl)
    obtain ⟨s0, s1, slt⟩ := HR4.out.cells
    obtain ⟨x0, x1, x2, x3, x4, x5, x6, x7, x8⟩ := insC_cellsT HX4.out
    obtain ⟨xf0, xf1, xf2, xf3, xf4, xf5, xf6, xf7, xf8, xlt⟩ := insC_frozen HX4.out
    obtain ⟨z0, z1, z2, z3, z4, z5, z6, z7, z8⟩ := insC_cellsT HZ4.out
    obtain ⟨zf0, zf1, zf2, zf3, zf4, zf5, zf6, zf7, zf8, zlt⟩ := insC_frozen HZ4.out
    go_wp2_with fail
    have hvb := u32_bound B a1 0 HB.out
    have H := Lib.hid (rU32_any W4 p q B a1 0 HG4.out.1 HB.out)
    generalize rdOf (u32M B a1) a1 0 = t at *
    obtain ⟨v14, a14, e14⟩ := t
    simp only at HV
    obtain ⟨hv14, hw14⟩ := hvb
    refine H.out.mono ?_
    rintro E W14 ⟨rfl, hG⟩
    have hG0 : GoesR W4 W14 p q B a14 e14 := hG
    have HR14 := Lib.hid (HR4.out.goes hRp hG0)
    have HX14 := Lib.hid (HX4.out.grown hG0.2 (by simp; omega))
    have HZ14 := Lib.hid (HZ4.out.grown hG0.2 (by simp; omega))
    have HG14 := Lib.hid (HG4.out.trans hG0)
    clear hG hG0 H HR4 HX4 HZ4 HG4
    clear s0 s1 slt x0 x1 x2 x3 x4 x5 x6 x7 x8 xf0 xf1 xf2 xf3 xf4 xf5 xf6 xf7 xf8 xlt z0 z1 z2 z3 z4 z5 z6 z7 z8 zf0 zf1 zf2 zf3 zf4 zf5 zf6 zf7 zf8 zlt
    obtain ⟨s0, s1, slt⟩ := HR14.out.cells
    obtain ⟨x0, x1, x2, x3, x4, x5, x6, x7, x8⟩ := insC_cellsT HX14.out
    obtain ⟨xf0, xf1, xf2, xf3, xf4, xf5, xf6, xf7, xf8, xlt⟩ := insC_frozen HX14.out
    obtain ⟨z0, z1, z2, z3, z4, z5, z6, z7, z8⟩ := insC_cellsT HZ14.out
    obtain ⟨zf0, zf1, zf2, zf3, zf4, zf5, zf6, zf7, zf8, zlt⟩ := insC_frozen HZ14.out
    go_wp2_with fail
    have HX15 := Lib.hid (show Blk (W14.setCell ⟨X, 2, none⟩ (.int .u32 v14)) X (insC opc 0 v14 0 0 (.slice none 0 0) (.slice none 0 0) (.slice none 0 0) false) 174 from by have := HX14.out.set 2 (.int .u32 v14); simpa [insC] using this)
    have HZ15 := Lib.hid (show Blk (W14.setCell ⟨X, 2, none⟩ (.int .u32 v14)) W.heap.size zeroC 174 from HZ14.out.set_other ⟨X, 2, none⟩ (.int .u32 v14) (by simp; omega))
    have HR15 := Lib.hid (show Rq (W14.setCell ⟨X, 2, none⟩ (.int .u32 v14)) R p sat from Blk.set_other HR14.out ⟨X, 2, none⟩ (.int .u32 v14) (by simp; omega))
    have HG15 := Lib.hid (show GoesR W (W14.setCell ⟨X, 2, none⟩ (.int .u32 v14)) p q B a14 e14 from HG14.out.setNew HW.out X (by omega) 2 (.int .u32 v14))
    generalize W14.setCell ⟨X, 2, none⟩ (.int .u32 v14) = W15 at *
    clear HX14 HZ14 HR14 HG14
    clear s0 s1 slt x0 x1 x2 x3 x4 x5 x6 x7 x8 xf0 xf1 xf2 xf3 xf4 xf5 xf6 xf7 xf8 xlt z0 z1 z2 z3 z4 z5 z6 z7 z8 zf0 zf1 zf2 zf3 zf4 zf5 zf6 zf7 zf8 zlt
    obtain ⟨s0, s1, slt⟩ := HR15.out.cells
    obtain ⟨x0, x1, x2, x3, x4, x5, x6, x7, x8⟩ := insC_cellsT HX15.out
    obtain ⟨xf0, xf1, xf2, xf3, xf4, xf5, xf6, xf7, xf8, xlt⟩ := insC_frozen HX15.out
    obtain ⟨z0, z1, z2, z3, z4, z5, z6, z7, z8⟩ := insC_cellsT HZ15.out
    obtain ⟨zf0, zf1, zf2, zf3, zf4, zf5, zf6, zf7, zf8, zlt⟩ := insC_frozen HZ15.out
    have H := Lib.hid (rzero_any W15 R p q sat B a14 e14 HR15.out hRp HG15.out.1 HB.out)
    generalize zeroM B a14 e14 = t at *
    obtain ⟨a25, e25⟩ := t
    simp only at HV
    refine H.out.mono ?_
    rintro E W25 ⟨rfl, hG⟩
    have hG0 : GoesR W15 W25 p q B a25 e25 := hG
    have HR25 := Lib.hid (HR15.out.goes hRp hG0)
    have HX25 := Lib.hid (HX15.out.grown hG0.2 (by simp; omega))
    have HZ25 := Lib.hid (HZ15.out.grown hG0.2 (by simp; omega))
    have HG25 := Lib.hid (HG15.out.trans hG0)
    clear hG hG0 H HR15 HX15 HZ15 HG15
    clear s0 s1 slt x0 x1 x2 x3 x4 x5 x6 x7 x8 xf0 xf1 xf2 xf3 xf4 xf5 xf6 xf7 xf8 xlt z0 z1 z2 z3 z4 z5 z6 z7 z8 zf0 zf1 zf2 zf3 zf4 zf5 zf6 zf7 zf8 zlt
    obtain ⟨s0, s1, slt⟩ := HR25.out.cells
    obtain ⟨x0, x1, x2, x3, x4, x5, x6, x7, x8⟩ := insC_cellsT HX25.out
    obtain ⟨xf0, xf1, xf2, xf3, xf4, xf5, xf6, xf7, xf8, xlt⟩ := insC_frozen HX25.out
    obtain ⟨z0, z1, z2, z3, z4, z5, z6, z7, z8⟩ := insC_cellsT HZ25.out
    obtain ⟨zf0, zf1, zf2, zf3, zf4, zf5, zf6, zf7, zf8, zlt⟩ := insC_frozen HZ25.out
    go_wp2_with fail
    clear s0 s1 slt x0 x1 x2 x3 x4 x5 x6 x7 x8 xf0 xf1 xf2 xf3 xf4 xf5 xf6 xf7 xf8 xlt z0 z1 z2 z3 z4 z5 z6 z7 z8 zf0 zf1 zf2 zf3 zf4 zf5 zf6 zf7 zf8 zlt
    change bodyPost _ _ _ Exit.ret _ (put9 W25 W.heap.size (.int .i64 opc) (.int .u8 0) (.int .u32 v14) (.int .u32 0) (.int .u64 0) (.slice none 0 0) (.slice none 0 0) (.slice none 0 0) (.bool false))
    have hgF : GoesR W (put9 W25 W.heap.size (.int .i64 opc) (.int .u8 0) (.int .u32 v14) (.int .u32 0) (.int .u64 0) (.slice none 0 0) (.slice none 0 0) (.slice none 0 0) (.bool false)) p q B a25 e25 := put9_goesR HW.out HG25.out _ (Nat.le_refl _) _ _ _ _ _ _ _ _ _
    have hbF := put9_blk HZ25.out (.int .i64 opc) (.int .u8 0) (.int .u32 v14) (.int .u32 0) (.int .u64 0) (.slice none 0 0) (.slice none 0 0) (.slice none 0 0) (.bool false)
    generalize put9 W25 W.heap.size (.int .i64 opc) (.int .u8 0) (.int .u32 v14) (.int .u32 0) (.int .u64 0) (.slice none 0 0) (.slice none 0 0) (.slice none 0 0) (.bool false) = V9 at *
    obtain ⟨y0, y1, y2, y3, y4, y5, y6, y7, y8⟩ := insC_cellsT hbF
    rw [HV.out]
    have HGF := Lib.hid hgF
    refine bodyPost_ret (v := .agg (insC opc 0 v14 0 0 (.slice none 0 0) (.slice none 0 0) (.slice none 0 0) false)) (by simp [results, Try.results122, go_sem, y0, y1, y2, y3, y4, y5, y6, y7, y8, insC]) rfl ⟨.mk opc 0 v14 0 0 [] [] [] false, none, none, none, 0, 0, 0, rfl, ?_, fun _ => rfl, HGF.out⟩
    exact fk_flatR hopc (by omega) (by omega) (by omega) (by omega)
  by_cases c6 : i = 6
  · obtain rfl : i = 6 := c6
    have HV := Lib.hid (show bodyM bk B opc 6 a1 = (.mk opc 0 (rdOf (u32M B a1) a1 0).1 (rdOf (u32M B (rdOf (u32M B a1) a1 0).2.1) (rdOf (u32M B a1) a1 0).2.1 (rdOf (u32M B a1) a1 0).2.2).1 0 [] [] [] false, (rdOf (u32M B (rdOf (u32M B a1) a1 0).2.1) (rdOf (u32M B a1) a1 0).2.1 (rdOf (u32M B a1) a1 0).2.2).2.1, (rdOf (u32M B (rdOf (u32M B a1) a1 0).2.1) (rdOf (u32M B a1) a1 0).2.1 (rdOf (u32M B a1) a1 0).2.2).2.2) from rfl)
    obtain ⟨s0, s1, slt⟩ := HR4.out.cells
    obtain ⟨x0, x1, x2, x3, x4, x5, x6, x7, x8⟩ := insC_cellsT HX4.out
    obtain ⟨xf0, xf1, xf2, xf3, xf4, xf5, xf6, xf7, xf8, xlt⟩ := insC_frozen HX4.out
    obtain ⟨z0, z1, z2, z3, z4, z5, z6, z7, z8⟩ := insC_cellsT HZ4.out
    obtain ⟨zf0, zf1, zf2, zf3, zf4, zf5, zf6, zf7, zf8, zlt⟩ := insC_frozen HZ4.out
    go_wp2_with fail
    have hvb := u32_bound B a1 0 HB.out
    have H := Lib.hid (rU32_any W4 p q B a1 0 HG4.out.1 HB.out)
    generalize rdOf (u32M B a1) a1 0 = t at *
    obtain ⟨v14, a14, e14⟩ := t
    simp only at HV
    obtain ⟨hv14, hw14⟩ := hvb
    refine H.out.mono ?_
    rintro E W14 ⟨rfl, hG⟩
    have hG0 : GoesR W4 W14 p q B a14 e14 := hG
    have HR14 := Lib.hid (HR4.out.goes hRp hG0)
    have HX14 := Lib.hid (HX4.out.grown hG0.2 (by simp; omega))
    have HZ14 := Lib.hid (HZ4.out.grown hG0.2 (by simp; omega))
    have HG14 := Lib.hid (HG4.out.trans hG0)
    clear hG hG0 H HR4 HX4 HZ4 HG4
    clear s0 s1 slt x0 x1 x2 x3 x4 x5 x6 x7 x8 xf0 xf1 xf2 xf3 xf4 xf5 xf6 xf7 xf8 xlt z0 z1 z2 z3 z4 z5 z6 z7 z8 zf0 zf1 zf2 zf3 zf4 zf5 zf6 zf7 zf8 zlt
    obtain ⟨s0, s1, slt⟩ := HR14.out.cells
    obtain ⟨x0, x1, x2, x3, x4, x5, x6, x7, x8⟩ := insC_cellsT HX14.out
    obtain ⟨xf0, xf1, xf2, xf3, xf4, xf5, xf6, xf7, xf8, xlt⟩ := insC_frozen HX14.out
    obtain ⟨z0, z1, z2, z3, z4, z5, z6, z7, z8⟩ := insC_cellsT HZ14.out
    obtain ⟨zf0, zf1, zf2, zf3, zf4, zf5, zf6, zf7, zf8, zlt⟩ := insC_frozen HZ14.out
    go_wp2_with fail
    have HX15 := Lib.hid (show Blk (W14.setCell ⟨X, 2, none⟩ (.int .u32 v14)) X (insC opc 0 v14 0 0 (.slice none 0 0) (.slice none 0 0) (.slice none 0 0) false) 174 from by have := HX14.out.set 2 (.int .u32 v14); simpa [insC] using this)
    have HZ15 := Lib.hid (show Blk (W14.setCell ⟨X, 2, none⟩ (.int .u32 v14)) W.heap.size zeroC 174 from HZ14.out.set_other ⟨X, 2, none⟩ (.int .u32 v14) (by simp; omega))
    have HR15 := Lib.hid (show Rq (W14.setCell ⟨X, 2, none⟩ (.int .u32 v14)) R p sat from Blk.set_other HR14.out ⟨X, 2, none⟩ (.int .u32 v14) (by simp; omega))
    have HG15 := Lib.hid (show GoesR W (W14.setCell ⟨X, 2, none⟩ (.int .u32 v14)) p q B a14 e14 from HG14.out.setNew HW.out X (by omega) 2 (.int .u32 v14))
    generalize W14.setCell ⟨X, 2, none⟩ (.int .u32 v14) = W15 at *
    clear HX14 HZ14 HR14 HG14
    clear s0 s1 slt x0 x1 x2 x3 x4 x5 x6 x7 x8 xf0 xf1 xf2 xf3 xf4 xf5 xf6 xf7 xf8 xlt z0 z1 z2 z3 z4 z5 z6 z7 z8 zf0 zf1 zf2 zf3 zf4 zf5 zf6 zf7 zf8 zlt
    obtain ⟨s0, s1, slt⟩ := HR15.out.cells
    obtain ⟨x0, x1, x2, x3, x4, x5, x6, x7, x8⟩ := insC_cellsT HX15.out
    obtain ⟨xf0, xf1, xf2, xf3, xf4, xf5, xf6, xf7, xf8, xlt⟩ := insC_frozen HX15.out
    obtain ⟨z0, z1, z2, z3, z4, z5, z6, z7, z8⟩ := insC_cellsT HZ15.out
    obtain ⟨zf0, zf1, zf2, zf3, zf4, zf5, zf6, zf7, zf8, zlt⟩ := insC_frozen HZ15.out
    have hvb := u32_bound B a14 e14 HB.out
    have H := Lib.hid (rU32_any W15 p q B a14 e14 HG15.out.1 HB.out)
    generalize rdOf (u32M B a14) a14 e14 = t at *
    obtain ⟨v25, a25, e25⟩ := t
    simp only at HV
    obtain ⟨hv25, hw25⟩ := hvb
    refine H.out.mono ?_
    rintro E W25 ⟨rfl, hG⟩
    have hG0 : GoesR W15 W25 p q B a25 e25 := hG
    have HR25 := Lib.hid (HR15.out.goes hRp hG0)
    have HX25 := Lib.hid (HX15.out.grown hG0.2 (by simp; omega))
    have HZ25 := Lib.hid (HZ15.out.grown hG0.2 (by simp; omega))
    have HG25 := Lib.hid (HG15.out.trans hG0)
    clear hG hG0 H HR15 HX15 HZ15 HG15
    clear s0 s1 slt x0 x1 x2 x3 x4 x5 x6 x7 x8 xf0 xf1 xf2 xf3 xf4 xf5 xf6 xf7 xf8 xlt z0 z1 z2 z3 z4 z5 z6 z7 z8 zf0 zf1 zf2 zf3 zf4 zf5 zf6 zf7 zf8 zlt
    obtain ⟨s0, s1, slt⟩ := HR25.out.cells
    obtain ⟨x0, x1, x2, x3, x4, x5, x6, x7, x8⟩ := insC_cellsT HX25.out
    obtain ⟨xf0, xf1, xf2, xf3, xf4, xf5, xf6, xf7, xf8, xlt⟩ := insC_frozen HX25.out
    obtain ⟨z0, z1, z2, z3, z4, z5, z6, z7, z8⟩ := insC_cellsT HZ25.out
    obtain ⟨zf0, zf1, zf2, zf3, zf4, zf5, zf6, zf7, zf8, zlt⟩ := insC_frozen HZ25.out
    go_wp2_with fail
    have HX26 := Lib.hid (show Blk (W25.setCell ⟨X, 3, none⟩ (.int .u32 v25)) X (insC opc 0 v14 v25 0 (.slice none 0 0) (.slice none 0 0) (.slice none 0 0) false) 174 from by have := HX25.out.set 3 (.int .u32 v25); simpa [insC] using this)
    have HZ26 := Lib.hid (show Blk (W25.setCell ⟨X, 3, none⟩ (.int .u32 v25)) W.heap.size zeroC 174 from HZ25.out.set_other ⟨X, 3, none⟩ (.int .u32 v25) (by simp; omega))
    have HR26 := Lib.hid (show Rq (W25.setCell ⟨X, 3, none⟩ (.int .u32 v25)) R p sat from Blk.set_other HR25.out ⟨X, 3, none⟩ (.int .u32 v25) (by simp; omega))
    have HG26 := Lib.hid (show GoesR W (W25.setCell ⟨X, 3, none⟩ (.int .u32 v25)) p q B a25 e25 from HG25.out.setNew HW.out X (by omega) 3 (.int .u32 v25))
    clear HX25 HZ25 HR25 HG25
    clear s0 s1 slt x0 x1 x2 x3 x4 x5 x6 x7 x8 xf0 xf1 xf2 xf3 xf4 xf5 xf6 xf7 xf8 xlt z0 z1 z2 z3 z4 z5 z6 z7 z8 zf0 zf1 zf2 zf3 zf4 zf5 zf6 zf7 zf8 zlt
    change bodyPost _ _ _ Exit.ret _ (put9 (W25.setCell ⟨X, 3, none⟩ (.int .u32 v25)) W.heap.size (.int .i64 opc) (.int .u8 0) (.int .u32 v14) (.int .u32 v25) (.int .u64 0) (.slice none 0 0) (.slice none 0 0) (.slice none 0 0) (.bool false))
    have hgF : GoesR W (put9 (W25.setCell ⟨X, 3, none⟩ (.int .u32 v25)) W.heap.size (.int .i64 opc) (.int .u8 0) (.int .u32 v14) (.int .u32 v25) (.int .u64 0) (.slice none 0 0) (.slice none 0 0) (.slice none 0 0) (.bool false)) p q B a25 e25 := put9_goesR HW.out HG26.out _ (Nat.le_refl _) _ _ _ _ _ _ _ _ _
    have hbF := put9_blk HZ26.out (.int .i64 opc) (.int .u8 0) (.int .u32 v14) (.int .u32 v25) (.int .u64 0) (.slice none 0 0) (.slice none 0 0) (.slice none 0 0) (.bool false)
    generalize put9 (W25.setCell ⟨X, 3, none⟩ (.int .u32 v25)) W.heap.size (.int .i64 opc) (.int .u8 0) (.int .u32 v14) (.int .u32 v25) (.int .u64 0) (.slice none 0 0) (.slice none 0 0) (.slice none 0 0) (.bool false) = V9 at *
    obtain ⟨y0, y1, y2, y3, y4, y5, y6, y7, y8⟩ := insC_cellsT hbF
    rw [HV.out]
    have HGF := Lib.hid hgF
    refine bodyPost_ret (v := .agg (insC opc 0 v14 v25 0 (.slice none 0 0) (.slice none 0 0) (.slice none 0 0) false)) (by simp [results, Try.results122, go_sem, y0, y1, y2, y3, y4, y5, y6, y7, y8, insC]) rfl ⟨.mk opc 0 v14 v25 0 [] [] [] false, none, none, none, 0, 0, 0, rfl, ?_, fun _ => rfl, HGF.out⟩
    exact fk_flatR hopc (by omega) (by omega) (by omega) (by omega)
  by_cases c7 : i = 7
  · obtain rfl : i = 7 := c7
    have HV := Lib.hid (show bodyM bk B opc 7 a1 = (.mk opc 0 0 0 0 [] [] [] false, (zeroM B a1 0).1, (zeroM B a1 0).2) from rfl)
    obtain ⟨s0, s1, slt⟩ := HR4.out.cells
    obtain ⟨x0, x1, x2, x3, x4, x5, x6, x7, x8⟩ := insC_cellsT HX4.out
    obtain ⟨xf0, xf1, xf2, xf3, xf4, xf5, xf6, xf7, xf8, xlt⟩ := insC_frozen HX4.out
    obtain ⟨z0, z1, z2, z3, z4, z5, z6, z7, z8⟩ := insC_cellsT HZ4.out
    obtain ⟨zf0, zf1, zf2, zf3, zf4, zf5, zf6, zf7, zf8, zlt⟩ := insC_frozen HZ4.out
    go_wp2_with fail
    have H := Lib.hid (rzero_any W4 R p q sat B a1 0 HR4.out hRp HG4.out.1 HB.out)
    generalize zeroM B a1 0 = t at *
    obtain ⟨a14, e14⟩ := t
    simp only at HV
    refine H.out.mono ?_
    rintro E W14 ⟨rfl, hG⟩
    have hG0 : GoesR W4 W14 p q B a14 e14 := hG
    have HR14 := Lib.hid (HR4.out.goes hRp hG0)
    have HX14 := Lib.hid (HX4.out.grown hG0.2 (by simp; omega))
    have HZ14 := Lib.hid (HZ4.out.grown hG0.2 (by simp; omega))
    have HG14 := Lib.hid (HG4.out.trans hG0)
    clear hG hG0 H HR4 HX4 HZ4 HG4
    clear s0 s1 slt x0 x1 x2 x3 x4 x5 x6 x7 x8 xf0 xf1 xf2 xf3 xf4 xf5 xf6 xf7 xf8 xlt z0 z1 z2 z3 z4 z5 z6 z7 z8 zf0 zf1 zf2 zf3 zf4 zf5 zf6 zf7 zf8 zlt
    obtain ⟨s0, s1, slt⟩ := HR14.out.cells
    obtain ⟨x0, x1, x2, x3, x4, x5, x6, x7, x8⟩ := insC_cellsT HX14.out
    obtain ⟨xf0, xf1, xf2, xf3, xf4, xf5, xf6, xf7, xf8, xlt⟩ := insC_frozen HX14.out
    obtain ⟨z0, z1, z2, z3, z4, z5, z6, z7, z8⟩ := insC_cellsT HZ14.out
    obtain ⟨zf0, zf1, zf2, zf3, zf4, zf5, zf6, zf7, zf8, zlt⟩ := insC_frozen HZ14.out
    go_wp2_with fail
    clear s0 s1 slt x0 x1 x2 x3 x4 x5 x6 x7 x8 xf0 xf1 xf2 xf3 xf4 xf5 xf6 xf7 xf8 xlt z0 z1 z2 z3 z4 z5 z6 z7 z8 zf0 zf1 zf2 zf3 zf4 zf5 zf6 zf7 zf8 zlt
    change bodyPost _ _ _ Exit.ret _ (put9 W14 W.heap.size (.int .i64 opc) (.int .u8 0) (.int .u32 0) (.int .u32 0) (.int .u64 0) (.slice none 0 0) (.slice none 0 0) (.slice none 0 0) (.bool false))
    have hgF : GoesR W (put9 W14 W.heap.size (.int .i64 opc) (.int .u8 0) (.int .u32 0) (.int .u32 0) (.int .u64 0) (.slice none 0 0) (.slice none 0 0) (.slice none 0 0) (.bool false)) p q B a14 e14 := put9_goesR HW.out HG14.out _ (Nat.le_refl _) _ _ _ _ _ _ _ _ _
    have hbF := put9_blk HZ14.out (.int .i64 opc) (.int .u8 0) (.int .u32 0) (.int .u32 0) (.int .u64 0) (.slice none 0 0) (.slice none 0 0) (.slice none 0 0) (.bool false)
    generalize put9 W14 W.heap.size (.int .i64 opc) (.int .u8 0) (.int .u32 0) (.int .u32 0) (.int .u64 0) (.slice none 0 0) (.slice none 0 0) (.slice none 0 0) (.bool false) = V9 at *
    obtain ⟨y0, y1, y2, y3, y4, y5, y6, y7, y8⟩ := insC_cellsT hbF
    rw [HV.out]
    have HGF := Lib.hid hgF
    refine bodyPost_ret (v := .agg (insC opc 0 0 0 0 (.slice none 0 0) (.slice none 0 0) (.slice none 0 0) false)) (by simp [results, Try.results122, go_sem, y0, y1, y2, y3, y4, y5, y6, y7, y8, insC]) rfl ⟨.mk opc 0 0 0 0 [] [] [] false, none, none, none, 0, 0, 0, rfl, ?_, fun _ => rfl, HGF.out⟩
    exact fk_flatR hopc (by omega) (by omega) (by omega) (by omega)
  by_cases c8 : i = 8
  · obtain rfl : i = 8 := c8
    have HV := Lib.hid (show bodyM bk B opc 8 a1 = (.mk opc 0 0 0 (rdOf (s32M B a1) a1 0).1 [] [] [] false, (rdOf (s32M B a1) a1 0).2.1, (rdOf (s32M B a1) a1 0).2.2) from rfl)
    obtain ⟨s0, s1, slt⟩ := HR4.out.cells
    obtain ⟨x0, x1, x2, x3, x4, x5, x6, x7, x8⟩ := insC_cellsT HX4.out
    obtain ⟨xf0, xf1, xf2, xf3, xf4, xf5, xf6, xf7, xf8, xlt⟩ := insC_frozen HX4.out
    obtain ⟨z0, z1, z2, z3, z4, z5, z6, z7, z8⟩ := insC_cellsT HZ4.out
    obtain ⟨zf0, zf1, zf2, zf3, zf4, zf5, zf6, zf7, zf8, zlt⟩ := insC_frozen HZ4.out
    go_wp2_with fail
    have hvb := s32_bound B a1 0
    have H := Lib.hid (rdS32_any W4 p q B a1 0 HG4.out.1 HB.out)
    generalize rdOf (s32M B a1) a1 0 = t at *
    obtain ⟨v14, a14, e14⟩ := t
    simp only at HV
    obtain ⟨hv14, hw14⟩ := hvb
    refine H.out.mono ?_
    rintro E W14 ⟨rfl, hG⟩
    have hG0 : GoesR W4 W14 p q B a14 e14 := hG
    have HR14 := Lib.hid (HR4.out.goes hRp hG0)
    have HX14 := Lib.hid (HX4.out.grown hG0.2 (by simp; omega))
    have HZ14 := Lib.hid (HZ4.out.grown hG0.2 (by simp; omega))
    have HG14 := Lib.hid (HG4.out.trans hG0)
    clear hG hG0 H HR4 HX4 HZ4 HG4
    clear s0 s1 slt x0 x1 x2 x3 x4 x5 x6 x7 x8 xf0 xf1 xf2 xf3 xf4 xf5 xf6 xf7 xf8 xlt z0 z1 z2 z3 z4 z5 z6 z7 z8 zf0 zf1 zf2 zf3 zf4 zf5 zf6 zf7 zf8 zlt
    obtain ⟨s0, s1, slt⟩ := HR14.out.cells
    obtain ⟨x0, x1, x2, x3, x4, x5, x6, x7, x8⟩ := insC_cellsT HX14.out
    obtain ⟨xf0, xf1, xf2, xf3, xf4, xf5, xf6, xf7, xf8, xlt⟩ := insC_frozen HX14.out
    obtain ⟨z0, z1, z2, z3, z4, z5, z6, z7, z8⟩ := insC_cellsT HZ14.out
    obtain ⟨zf0, zf1, zf2, zf3, zf4, zf5, zf6, zf7, zf8, zlt⟩ := insC_frozen HZ14.out
    go_wp2_with fail
    have HX15 := Lib.hid (show Blk (W14.setCell ⟨X, 4, none⟩ (.int .u64 v14)) X (insC opc 0 0 0 v14 (.slice none 0 0) (.slice none 0 0) (.slice none 0 0) false) 174 from by have := HX14.out.set 4 (.int .u64 v14); simpa [insC] using this)
    have HZ15 := Lib.hid (show Blk (W14.setCell ⟨X, 4, none⟩ (.int .u64 v14)) W.heap.size zeroC 174 from HZ14.out.set_other ⟨X, 4, none⟩ (.int .u64 v14) (by simp; omega))
    have HR15 := Lib.hid (show Rq (W14.setCell ⟨X, 4, none⟩ (.int .u64 v14)) R p sat from Blk.set_other HR14.out ⟨X, 4, none⟩ (.int .u64 v14) (by simp; omega))
    have HG15 := Lib.hid (show GoesR W (W14.setCell ⟨X, 4, none⟩ (.int .u64 v14)) p q B a14 e14 from HG14.out.setNew HW.out X (by omega) 4 (.int .u64 v14))
    clear HX14 HZ14 HR14 HG14
    clear s0 s1 slt x0 x1 x2 x3 x4 x5 x6 x7 x8 xf0 xf1 xf2 xf3 xf4 xf5 xf6 xf7 xf8 xlt z0 z1 z2 z3 z4 z5 z6 z7 z8 zf0 zf1 zf2 zf3 zf4 zf5 zf6 zf7 zf8 zlt
    change bodyPost _ _ _ Exit.ret _ (put9 (W14.setCell ⟨X, 4, none⟩ (.int .u64 v14)) W.heap.size (.int .i64 opc) (.int .u8 0) (.int .u32 0) (.int .u32 0) (.int .u64 v14) (.slice none 0 0) (.slice none 0 0) (.slice none 0 0) (.bool false))
    have hgF : GoesR W (put9 (W14.setCell ⟨X, 4, none⟩ (.int .u64 v14)) W.heap.size (.int .i64 opc) (.int .u8 0) (.int .u32 0) (.int .u32 0) (.int .u64 v14) (.slice none 0 0) (.slice none 0 0) (.slice none 0 0) (.bool false)) p q B a14 e14 := put9_goesR HW.out HG15.out _ (Nat.le_refl _) _ _ _ _ _ _ _ _ _
    have hbF := put9_blk HZ15.out (.int .i64 opc) (.int .u8 0) (.int .u32 0) (.int .u32 0) (.int .u64 v14) (.slice none 0 0) (.slice none 0 0) (.slice none 0 0) (.bool false)
    generalize put9 (W14.setCell ⟨X, 4, none⟩ (.int .u64 v14)) W.heap.size (.int .i64 opc) (.int .u8 0) (.int .u32 0) (.int .u32 0) (.int .u64 v14) (.slice none 0 0) (.slice none 0 0) (.slice none 0 0) (.bool false) = V9 at *
    obtain ⟨y0, y1, y2, y3, y4, y5, y6, y7, y8⟩ := insC_cellsT hbF
    rw [HV.out]
    have HGF := Lib.hid hgF
    refine bodyPost_ret (v := .agg (insC opc 0 0 0 v14 (.slice none 0 0) (.slice none 0 0) (.slice none 0 0) false)) (by simp [results, Try.results122, go_sem, y0, y1, y2, y3, y4, y5, y6, y7, y8, insC]) rfl ⟨.mk opc 0 0 0 v14 [] [] [] false, none, none, none, 0, 0, 0, rfl, ?_, fun _ => rfl, HGF.out⟩
    exact fk_flatR hopc (by omega) (by omega) (by omega) (by omega)
  by_cases c9 : i = 9
  · obtain rfl : i = 9 := c9
    have HV := Lib.hid (show bodyM bk B opc 9 a1 = (.mk opc 0 0 0 (rdOf (s64M B a1) a1 0).1 [] [] [] false, (rdOf (s64M B a1) a1 0).2.1, (rdOf (s64M B a1) a1 0).2.2) from rfl)
    obtain ⟨s0, s1, slt⟩ := HR4.out.cells
    obtain ⟨x0, x1, x2, x3, x4, x5, x6, x7, x8⟩ := insC_cellsT HX4.out
    obtain ⟨xf0, xf1, xf2, xf3, xf4, xf5, xf6, xf7, xf8, xlt⟩ := insC_frozen HX4.out
    obtain ⟨z0, z1, z2, z3, z4, z5, z6, z7, z8⟩ := insC_cellsT HZ4.out
    obtain ⟨zf0, zf1, zf2, zf3, zf4, zf5, zf6, zf7, zf8, zlt⟩ := insC_frozen HZ4.out
    go_wp2_with fail
    have hvb := s64_bound B a1 0 HB.out
    have H := Lib.hid (rdS64_any W4 p q B a1 0 HG4.out.1 HB.out)
    generalize rdOf (s64M B a1) a1 0 = t at *
    obtain ⟨v14, a14, e14⟩ := t
    simp only at HV
    obtain ⟨hv14, hw14⟩ := hvb
    refine H.out.mono ?_
    rintro E W14 ⟨rfl, hG⟩
    have hG0 : GoesR W4 W14 p q B a14 e14 := hG
    have HR14 := Lib.hid (HR4.out.goes hRp hG0)
    have HX14 := Lib.hid (HX4.out.grown hG0.2 (by simp; omega))
    have HZ14 := Lib.hid (HZ4.out.grown hG0.2 (by simp; omega))
    have HG14 := Lib.hid (HG4.out.trans hG0)
    clear hG hG0 H HR4 HX4 HZ4 HG4
    clear s0 s1 slt x0 x1 x2 x3 x4 x5 x6 x7 x8 xf0 xf1 xf2 xf3 xf4 xf5 xf6 xf7 xf8 xlt z0 z1 z2 z3 z4 z5 z6 z7 z8 zf0 zf1 zf2 zf3 zf4 zf5 zf6 zf7 zf8 zlt
    obtain ⟨s0, s1, slt⟩ := HR14.out.cells
    obtain ⟨x0, x1, x2, x3, x4, x5, x6, x7, x8⟩ := insC_cellsT HX14.out
    obtain ⟨xf0, xf1, xf2, xf3, xf4, xf5, xf6, xf7, xf8, xlt⟩ := insC_frozen HX14.out
    obtain ⟨z0, z1, z2, z3, z4, z5, z6, z7, z8⟩ := insC_cellsT HZ14.out
    obtain ⟨zf0, zf1, zf2, zf3, zf4, zf5, zf6, zf7, zf8, zlt⟩ := insC_frozen HZ14.out
    go_wp2_with fail
    have HX15 := Lib.hid (show Blk (W14.setCell ⟨X, 4, none⟩ (.int .u64 v14)) X (insC opc 0 0 0 v14 (.slice none 0 0) (.slice none 0 0) (.slice none 0 0) false) 174 from by have := HX14.out.set 4 (.int .u64 v14); simpa [insC] using this)
    have HZ15 := Lib.hid (show Blk (W14.setCell ⟨X, 4, none⟩ (.int .u64 v14)) W.heap.size zeroC 174 from HZ14.out.set_other ⟨X, 4, none⟩ (.int .u64 v14) (by simp; omega))
    have HR15 := Lib.hid (show Rq (W14.setCell ⟨X, 4, none⟩ (.int .u64 v14)) R p sat from Blk.set_other HR14.out ⟨X, 4, none⟩ (.int .u64 v14) (by simp; omega))
    have HG15 := Lib.hid (show GoesR W (W14.setCell ⟨X, 4, none⟩ (.int .u64 v14)) p q B a14 e14 from HG14.out.setNew HW.out X (by omega) 4 (.int .u64 v14))
    clear HX14 HZ14 HR14 HG14
    clear s0 s1 slt x0 x1 x2 x3 x4 x5 x6 x7 x8 xf0 xf1 xf2 xf3 xf4 xf5 xf6 xf7 xf8 xlt z0 z1 z2 z3 z4 z5 z6 z7 z8 zf0 zf1 zf2 zf3 zf4 zf5 zf6 zf7 zf8 zlt
    change bodyPost _ _ _ Exit.ret _ (put9 (W14.setCell ⟨X, 4, none⟩ (.int .u64 v14)) W.heap.size (.int .i64 opc) (.int .u8 0) (.int .u32 0) (.int .u32 0) (.int .u64 v14) (.slice none 0 0) (.slice none 0 0) (.slice none 0 0) (.bool false))
    have hgF : GoesR W (put9 (W14.setCell ⟨X, 4, none⟩ (.int .u64 v14)) W.heap.size (.int .i64 opc) (.int .u8 0) (.int .u32 0) (.int .u32 0) (.int .u64 v14) (.slice none 0 0) (.slice none 0 0) (.slice none 0 0) (.bool false)) p q B a14 e14 := put9_goesR HW.out HG15.out _ (Nat.le_refl _) _ _ _ _ _ _ _ _ _
    have hbF := put9_blk HZ15.out (.int .i64 opc) (.int .u8 0) (.int .u32 0) (.int .u32 0) (.int .u64 v14) (.slice none 0 0) (.slice none 0 0) (.slice none 0 0) (.bool false)
    generalize put9 (W14.setCell ⟨X, 4, none⟩ (.int .u64 v14)) W.heap.size (.int .i64 opc) (.int .u8 0) (.int .u32 0) (.int .u32 0) (.int .u64 v14) (.slice none 0 0) (.slice none 0 0) (.slice none 0 0) (.bool false) = V9 at *
    obtain ⟨y0, y1, y2, y3, y4, y5, y6, y7, y8⟩ := insC_cellsT hbF
    rw [HV.out]
    have HGF := Lib.hid hgF
    refine bodyPost_ret (v := .agg (insC opc 0 0 0 v14 (.slice none 0 0) (.slice none 0 0) (.slice none 0 0) false)) (by simp [results, Try.results122, go_sem, y0, y1, y2, y3, y4, y5, y6, y7, y8, insC]) rfl ⟨.mk opc 0 0 0 v14 [] [] [] false, none, none, none, 0, 0, 0, rfl, ?_, fun _ => rfl, HGF.out⟩
    exact fk_flatR hopc (by omega) (by omega) (by omega) (by omega)
  by_cases c10 : i = 10
  · obtain rfl : i = 10 := c10
    have HV := Lib.hid (show bodyM bk B opc 10 a1 = (.mk opc 0 0 0 (rdOf (fixM B a1 4) a1 0).1 [] [] [] false, (rdOf (fixM B a1 4) a1 0).2.1, (rdOf (fixM B a1 4) a1 0).2.2) from rfl)
    obtain ⟨s0, s1, slt⟩ := HR4.out.cells
    obtain ⟨x0, x1, x2, x3, x4, x5, x6, x7, x8⟩ := insC_cellsT HX4.out
    obtain ⟨xf0, xf1, xf2, xf3, xf4, xf5, xf6, xf7, xf8, xlt⟩ := insC_frozen HX4.out
    obtain ⟨z0, z1, z2, z3, z4, z5, z6, z7, z8⟩ := insC_cellsT HZ4.out
    obtain ⟨zf0, zf1, zf2, zf3, zf4, zf5, zf6, zf7, zf8, zlt⟩ := insC_frozen HZ4.out
    go_wp2_with fail
    have hvb := fix_bound B a1 4 0 (by omega) HB.out
    have H := Lib.hid (rFixed_4 W4 p q B a1 0 HG4.out.1 HB.out)
    generalize rdOf (fixM B a1 4) a1 0 = t at *
    obtain ⟨v14, a14, e14⟩ := t
    simp only at HV
    obtain ⟨hv14, hw14⟩ := hvb
    refine H.out.mono ?_
    rintro E W14 ⟨rfl, hG⟩
    have hG0 : GoesR W4 W14 p q B a14 e14 := hG
    have HR14 := Lib.hid (HR4.out.goes hRp hG0)
    have HX14 := Lib.hid (HX4.out.grown hG0.2 (by simp; omega))
    have HZ14 := Lib.hid (HZ4.out.grown hG0.2 (by simp; omega))
    have HG14 := Lib.hid (HG4.out.trans hG0)
    clear hG hG0 H HR4 HX4 HZ4 HG4
    clear s0 s1 slt x0 x1 x2 x3 x4 x5 x6 x7 x8 xf0 xf1 xf2 xf3 xf4 xf5 xf6 xf7 xf8 xlt z0 z1 z2 z3 z4 z5 z6 z7 z8 zf0 zf1 zf2 zf3 zf4 zf5 zf6 zf7 zf8 zlt
    obtain ⟨s0, s1, slt⟩ := HR14.out.cells
    obtain ⟨x0, x1, x2, x3, x4, x5, x6, x7, x8⟩ := insC_cellsT HX14.out
    obtain ⟨xf0, xf1, xf2, xf3, xf4, xf5, xf6, xf7, xf8, xlt⟩ := insC_frozen HX14.out
    obtain ⟨z0, z1, z2, z3, z4, z5, z6, z7, z8⟩ := insC_cellsT HZ14.out
    obtain ⟨zf0, zf1, zf2, zf3, zf4, zf5, zf6, zf7, zf8, zlt⟩ := insC_frozen HZ14.out
    go_wp2_with fail
    have HX15 := Lib.hid (show Blk (W14.setCell ⟨X, 4, none⟩ (.int .u64 v14)) X (insC opc 0 0 0 v14 (.slice none 0 0) (.slice none 0 0) (.slice none 0 0) false) 174 from by have := HX14.out.set 4 (.int .u64 v14); simpa [insC] using this)
    have HZ15 := Lib.hid (show Blk (W14.setCell ⟨X, 4, none⟩ (.int .u64 v14)) W.heap.size zeroC 174 from HZ14.out.set_other ⟨X, 4, none⟩ (.int .u64 v14) (by simp; omega))
    have HR15 := Lib.hid (show Rq (W14.setCell ⟨X, 4, none⟩ (.int .u64 v14)) R p sat from Blk.set_other HR14.out ⟨X, 4, none⟩ (.int .u64 v14) (by simp; omega))
    have HG15 := Lib.hid (show GoesR W (W14.setCell ⟨X, 4, none⟩ (.int .u64 v14)) p q B a14 e14 from HG14.out.setNew HW.out X (by omega) 4 (.int .u64 v14))
    clear HX14 HZ14 HR14 HG14
    clear s0 s1 slt x0 x1 x2 x3 x4 x5 x6 x7 x8 xf0 xf1 xf2 xf3 xf4 xf5 xf6 xf7 xf8 xlt z0 z1 z2 z3 z4 z5 z6 z7 z8 zf0 zf1 zf2 zf3 zf4 zf5 zf6 zf7 zf8 zlt
    change bodyPost _ _ _ Exit.ret _ (put9 (W14.setCell ⟨X, 4, none⟩ (.int .u64 v14)) W.heap.size (.int .i64 opc) (.int .u8 0) (.int .u32 0) (.int .u32 0) (.int .u64 v14) (.slice none 0 0) (.slice none 0 0) (.slice none 0 0) (.bool false))
    have hgF : GoesR W (put9 (W14.setCell ⟨X, 4, none⟩ (.int .u64 v14)) W.heap.size (.int .i64 opc) (.int .u8 0) (.int .u32 0) (.int .u32 0) (.int .u64 v14) (.slice none 0 0) (.slice none 0 0) (.slice none 0 0) (.bool false)) p q B a14 e14 := put9_goesR HW.out HG15.out _ (Nat.le_refl _) _ _ _ _ _ _ _ _ _
    have hbF := put9_blk HZ15.out (.int .i64 opc) (.int .u8 0) (.int .u32 0) (.int .u32 0) (.int .u64 v14) (.slice none 0 0) (.slice none 0 0) (.slice none 0 0) (.bool false)
    generalize put9 (W14.setCell ⟨X, 4, none⟩ (.int .u64 v14)) W.heap.size (.int .i64 opc) (.int .u8 0) (.int .u32 0) (.int .u32 0) (.int .u64 v14) (.slice none 0 0) (.slice none 0 0) (.slice none 0 0) (.bool false) = V9 at *
    obtain ⟨y0, y1, y2, y3, y4, y5, y6, y7, y8⟩ := insC_cellsT hbF
    rw [HV.out]
    have HGF := Lib.hid hgF
    refine bodyPost_ret (v := .agg (insC opc 0 0 0 v14 (.slice none 0 0) (.slice none 0 0) (.slice none 0 0) false)) (by simp [results, Try.results122, go_sem, y0, y1, y2, y3, y4, y5, y6, y7, y8, insC]) rfl ⟨.mk opc 0 0 0 v14 [] [] [] false, none, none, none, 0, 0, 0, rfl, ?_, fun _ => rfl, HGF.out⟩
    exact fk_flatR hopc (by omega) (by omega) (by omega) (by omega)
  by_cases c11 : i = 11
  · obtain rfl : i = 11 := c11
    have HV := Lib.hid (show bodyM bk B opc 11 a1 = (.mk opc 0 0 0 (rdOf (fixM B a1 8) a1 0).1 [] [] [] false, (rdOf (fixM B a1 8) a1 0).2.1, (rdOf (fixM B a1 8) a1 0).2.2) from rfl)
    obtain ⟨s0, s1, slt⟩ := HR4.out.cells
    obtain ⟨x0, x1, x2, x3, x4, x5, x6, x7, x8⟩ := insC_cellsT HX4.out
    obtain ⟨xf0, xf1, xf2, xf3, xf4, xf5, xf6, xf7, xf8, xlt⟩ := insC_frozen HX4.out
    obtain ⟨z0, z1, z2, z3, z4, z5, z6, z7, z8⟩ := insC_cellsT HZ4.out
    obtain ⟨zf0, zf1, zf2, zf3, zf4, zf5, zf6, zf7, zf8, zlt⟩ := insC_frozen HZ4.out
    go_wp2_with fail
    have hvb := fix_bound B a1 8 0 (by omega) HB.out
    have H := Lib.hid (rFixed_8 W4 p q B a1 0 HG4.out.1 HB.out)
    generalize rdOf (fixM B a1 8) a1 0 = t at *
    obtain ⟨v14, a14, e14⟩ := t
    simp only at HV
    obtain ⟨hv14, hw14⟩ := hvb
    refine H.out.mono ?_
    rintro E W14 ⟨rfl, hG⟩
    have hG0 : GoesR W4 W14 p q B a14 e14 := hG
    have HR14 := Lib.hid (HR4.out.goes hRp hG0)
    have HX14 := Lib.hid (HX4.out.grown hG0.2 (by simp; omega))
    have HZ14 := Lib.hid (HZ4.out.grown hG0.2 (by simp; omega))
    have HG14 := Lib.hid (HG4.out.trans hG0)
    clear hG hG0 H HR4 HX4 HZ4 HG4
    clear s0 s1 slt x0 x1 x2 x3 x4 x5 x6 x7 x8 xf0 xf1 xf2 xf3 xf4 xf5 xf6 xf7 xf8 xlt z0 z1 z2 z3 z4 z5 z6 z7 z8 zf0 zf1 zf2 zf3 zf4 zf5 zf6 zf7 zf8 zlt
    obtain ⟨s0, s1, slt⟩ := HR14.out.cells
    obtain ⟨x0, x1, x2, x3, x4, x5, x6, x7, x8⟩ := insC_cellsT HX14.out
    obtain ⟨xf0, xf1, xf2, xf3, xf4, xf5, xf6, xf7, xf8, xlt⟩ := insC_frozen HX14.out
    obtain ⟨z0, z1, z2, z3, z4, z5, z6, z7, z8⟩ := insC_cellsT HZ14.out
    obtain ⟨zf0, zf1, zf2, zf3, zf4, zf5, zf6, zf7, zf8, zlt⟩ := insC_frozen HZ14.out
    go_wp2_with fail
    have HX15 := Lib.hid (show Blk (W14.setCell ⟨X, 4, none⟩ (.int .u64 v14)) X (insC opc 0 0 0 v14 (.slice none 0 0) (.slice none 0 0) (.slice none 0 0) false) 174 from by have := HX14.out.set 4 (.int .u64 v14); simpa [insC] using this)
    have HZ15 := Lib.hid (show Blk (W14.setCell ⟨X, 4, none⟩ (.int .u64 v14)) W.heap.size zeroC 174 from HZ14.out.set_other ⟨X, 4, none⟩ (.int .u64 v14) (by simp; omega))
    have HR15 := Lib.hid (show Rq (W14.setCell ⟨X, 4, none⟩ (.int .u64 v14)) R p sat from Blk.set_other HR14.out ⟨X, 4, none⟩ (.int .u64 v14) (by simp; omega))
    have HG15 := Lib.hid (show GoesR W (W14.setCell ⟨X, 4, none⟩ (.int .u64 v14)) p q B a14 e14 from HG14.out.setNew HW.out X (by omega) 4 (.int .u64 v14))
    clear HX14 HZ14 HR14 HG14
    clear s0 s1 slt x0 x1 x2 x3 x4 x5 x6 x7 x8 xf0 xf1 xf2 xf3 xf4 xf5 xf6 xf7 xf8 xlt z0 z1 z2 z3 z4 z5 z6 z7 z8 zf0 zf1 zf2 zf3 zf4 zf5 zf6 zf7 zf8 zlt
    change bodyPost _ _ _ Exit.ret _ (put9 (W14.setCell ⟨X, 4, none⟩ (.int .u64 v14)) W.heap.size (.int .i64 opc) (.int .u8 0) (.int .u32 0) (.int .u32 0) (.int .u64 v14) (.slice none 0 0) (.slice none 0 0) (.slice none 0 0) (.bool false))
    have hgF : GoesR W (put9 (W14.setCell ⟨X, 4, none⟩ (.int .u64 v14)) W.heap.size (.int .i64 opc) (.int .u8 0) (.int .u32 0) (.int .u32 0) (.int .u64 v14) (.slice none 0 0) (.slice none 0 0) (.slice none 0 0) (.bool false)) p q B a14 e14 := put9_goesR HW.out HG15.out _ (Nat.le_refl _) _ _ _ _ _ _ _ _ _
    have hbF := put9_blk HZ15.out (.int .i64 opc) (.int .u8 0) (.int .u32 0) (.int .u32 0) (.int .u64 v14) (.slice none 0 0) (.slice none 0 0) (.slice none 0 0) (.bool false)
    generalize put9 (W14.setCell ⟨X, 4, none⟩ (.int .u64 v14)) W.heap.size (.int .i64 opc) (.int .u8 0) (.int .u32 0) (.int .u32 0) (.int .u64 v14) (.slice none 0 0) (.slice none 0 0) (.slice none 0 0) (.bool false) = V9 at *
    obtain ⟨y0, y1, y2, y3, y4, y5, y6, y7, y8⟩ := insC_cellsT hbF
    rw [HV.out]
    have HGF := Lib.hid hgF
    refine bodyPost_ret (v := .agg (insC opc 0 0 0 v14 (.slice none 0 0) (.slice none 0 0) (.slice none 0 0) false)) (by simp [results, Try.results122, go_sem, y0, y1, y2, y3, y4, y5, y6, y7, y8, insC]) rfl ⟨.mk opc 0 0 0 v14 [] [] [] false, none, none, none, 0, 0, 0, rfl, ?_, fun _ => rfl, HGF.out⟩
    exact fk_flatR hopc (by omega) (by omega) (by omega) (by omega)
  have HC24 := Lib.hid (show ¬ (i = 2 ∨ i = 4) from fun h => h.elim c2 c4)
  have HC5 := Lib.hid c5
  have HC6 := Lib.hid c6
  have HC7 := Lib.hid c7
  have HC8 := Lib.hid c8
  have HC9 := Lib.hid c9
  have HC10 := Lib.hid c10
  have HC11 := Lib.hid c11
  have b1 : (i == 1) = false := beq_eq_false_iff_ne.mpr HC1.out
  have b3 : (i == 3) = false := beq_eq_false_iff_ne.mpr HC3.out
  have b2 : (i == 2) = false := beq_eq_false_iff_ne.mpr c2
  have b4 : (i == 4) = false := beq_eq_false_iff_ne.mpr c4
  have b5 : (i == 5) = false := beq_eq_false_iff_ne.mpr c5
  have b6 : (i == 6) = false := beq_eq_false_iff_ne.mpr c6
  have b7 : (i == 7) = false := beq_eq_false_iff_ne.mpr c7
  have b8 : (i == 8) = false := beq_eq_false_iff_ne.mpr c8
  have b9 : (i == 9) = false := beq_eq_false_iff_ne.mpr c9
  have b10 : (i == 10) = false := beq_eq_false_iff_ne.mpr c10
  have b11 : (i == 11) = false := beq_eq_false_iff_ne.mpr c11
  clear c2 c4 c5 c6 c7 c8 c9 c10 c11
  have HV := Lib.hid (show bodyM bk B opc i a1 = (.mk opc 0 0 0 0 [] [] [] false, a1, 0) from by unfold bodyM; rw [if_neg HC1.out, if_neg HC24.out, if_neg HC3.out, if_neg HC5.out, if_neg HC6.out, if_neg HC7.out, if_neg HC8.out, if_neg HC9.out, if_neg HC10.out, if_neg HC11.out]; rfl)
  obtain ⟨s0, s1, slt⟩ := HR4.out.cells
  obtain ⟨x0, x1, x2, x3, x4, x5, x6, x7, x8⟩ := insC_cellsT HX4.out
  obtain ⟨xf0, xf1, xf2, xf3, xf4, xf5, xf6, xf7, xf8, xlt⟩ := insC_frozen HX4.out
  obtain ⟨z0, z1, z2, z3, z4, z5, z6, z7, z8⟩ := insC_cellsT HZ4.out
  obtain ⟨zf0, zf1, zf2, zf3, zf4, zf5, zf6, zf7, zf8, zlt⟩ := insC_frozen HZ4.out
  go_wp2_with fail
  clear s0 s1 slt x0 x1 x2 x3 x4 x5 x6 x7 x8 xf0 xf1 xf2 xf3 xf4 xf5 xf6 xf7 xf8 xlt z0 z1 z2 z3 z4 z5 z6 z7 z8 zf0 zf1 zf2 zf3 zf4 zf5 zf6 zf7 zf8 zlt
  change bodyPost _ _ _ Exit.ret _ (put9 W4 W.heap.size (.int .i64 opc) (.int .u8 0) (.int .u32 0) (.int .u32 0) (.int .u64 0) (.slice none 0 0) (.slice none 0 0) (.slice none 0 0) (.bool false))
  have hgF : GoesR W (put9 W4 W.heap.size (.int .i64 opc) (.int .u8 0) (.int .u32 0) (.int .u32 0) (.int .u64 0) (.slice none 0 0) (.slice none 0 0) (.slice none 0 0) (.bool false)) p q B a1 0 := put9_goesR HW.out HG4.out _ (Nat.le_refl _) _ _ _ _ _ _ _ _ _
  have hbF := put9_blk HZ4.out (.int .i64 opc) (.int .u8 0) (.int .u32 0) (.int .u32 0) (.int .u64 0) (.slice none 0 0) (.slice none 0 0) (.slice none 0 0) (.bool false)
  generalize put9 W4 W.heap.size (.int .i64 opc) (.int .u8 0) (.int .u32 0) (.int .u32 0) (.int .u64 0) (.slice none 0 0) (.slice none 0 0) (.slice none 0 0) (.bool false) = V9 at *
  obtain ⟨y0, y1, y2, y3, y4, y5, y6, y7, y8⟩ := insC_cellsT hbF
  rw [HV.out]
  have HGF := Lib.hid hgF
  refine bodyPost_ret (v := .agg (insC opc 0 0 0 0 (.slice none 0 0) (.slice none 0 0) (.slice none 0 0) false)) (by simp [results, Try.results122, go_sem, y0, y1, y2, y3, y4, y5, y6, y7, y8, insC]) rfl ⟨.mk opc 0 0 0 0 [] [] [] false, none, none, none, 0, 0, 0, rfl, ?_, fun _ => rfl, HGF.out⟩
  exact fk_flatR hopc (by omega) (by omega) (by omega) (by omega)
end Go.Proofs.Ytfndlpfceokloaa
end
