/- Lemmas towards this claim's statement: what the functions named here come to, each under the conditions that it states itself. -/
import Derived.Test.YtofaiocffifhfaaGreatMC9
section
namespace Go.Proofs.YtofaiocffifhfaaGreatB
open Go.RowKit Go.Proofs.YtofaiocffifhfaaGreatW.PrintWords
/-- A module that is read: the functions' types and bodies beside. -/
structure ModD where
  types : List (List Int × List Int) := []
  imports : List ImpD := []
  tables : List (Int × Int × Bool) := []
  mems : List (Int × Int × Bool) := []
  globals : List CellD := []
  exports : List ExpD := []
  starts : Bool := false
  start : Int := 0
  elems : List ElemD := []
  datas : List DataD := []
  tys : List Int := []
  bodies : List FnD := []
/-- A slice that is read, with its footprint. -/
def Row {α : Type} (d : Kd α) (ok : Nat → Prop) (X : World) (v : Value) (xs : List α) : Prop := ∃ A c, v = .slice A xs.length c ∧ xs.length ≤ c ∧ FC d X ok A xs
section
variable {α : Type} {d : Kd α} {ok ok' : Nat → Prop} {X Y : World} {v : Value} {xs : List α}
theorem Row.step (h : Row d ok X v xs) (ha : Agr ok X Y) : Row d ok Y v xs := by
  obtain ⟨A, c, h1, h2, h3⟩ := h
  exact ⟨A, c, h1, h2, Ft.step h3 ha⟩
theorem Row.mono (h : Row d ok X v xs) (hk : ∀ k, ok k → ok' k) : Row d ok' X v xs := by
  obtain ⟨A, c, h1, h2, h3⟩ := h
  exact ⟨A, c, h1, h2, Ft.mono h3 hk⟩
theorem Row.bound (h : Row d ok X v xs) (hk : ∀ k, ok k → k < X.heap.size → ok' k) : Row d ok' X v xs := by
  obtain ⟨A, c, h1, h2, h3⟩ := h
  exact ⟨A, c, h1, h2, Ft.bound h3 hk⟩
theorem Row.nil : Row d ok X (.slice none 0 0) ([] : List α) := ⟨none, 0, rfl, Nat.le_refl _, FC.nil⟩
theorem Row.of_own {t base : Nat} (h : Own d t X base (fun k => base ≤ k) v xs) : Row d (fun k => base ≤ k) X v xs := by
  obtain ⟨A, c, h1, h2, h3⟩ := h.reads
  exact ⟨A, c, h1, h2, Ft.mono h3 (fun k hk => hk.elim id id)⟩
end
theorem agr_g2 {W Y : World} {p m : Nat} {ok : Nat → Prop} (h : G2 W Y p m) (hok : ∀ k, ok k → k ≠ m ∧ k ≠ p) : Agr ok W Y := ⟨h.os, h.tape, h.output, h.size, fun k hk hl => h.block k hl (hok k hk).2 (hok k hk).1⟩
theorem agr_grown {W Y : World} {row : Option Nat} {ok : Nat → Prop} (h : W.grownBy Y row) (hok : ∀ k, ok k → some k ≠ row) : Agr ok W Y := ⟨h.os, h.tape, h.output, h.size, fun k hk hl => h.block k hl (hok k hk)⟩
end Go.Proofs.YtofaiocffifhfaaGreatB
namespace Go.Proofs.YtofaiocffifhfaaGreat
open Go.RowKit Go.Shelf YtofaiocffifhfaaGreatB Go.Proofs.YtofaiocffifhfaaGreatW.PrintWords
structure BRows (ok : Nat → Prop) (X : World) (M : ModD) (v0 v1 v3 v4 v5 v6 v9 v10 v11 v12 : Value) : Prop where
  r0 : Row kFt ok X v0 M.types
  r1 : Row kImp ok X v1 M.imports
  r3 : Row kLim ok X v3 M.tables
  r4 : Row kLim ok X v4 M.mems
  r5 : Row kCell ok X v5 M.globals
  r6 : Row kExp ok X v6 M.exports
  r9 : Row kElem ok X v9 M.elems
  r10 : Row kData ok X v10 M.datas
  r11 : Row (rng .u32) ok X v11 M.tys
  r12 : Row kFn ok X v12 M.bodies
section
variable {ok ok' : Nat → Prop} {X Y : World} {M : ModD} {v0 v1 v3 v4 v5 v6 v9 v10 v11 v12 : Value}
theorem BRows.step (h : BRows ok X M v0 v1 v3 v4 v5 v6 v9 v10 v11 v12) (ha : Agr ok X Y) : BRows ok Y M v0 v1 v3 v4 v5 v6 v9 v10 v11 v12 :=
  ⟨h.r0.step ha, h.r1.step ha, h.r3.step ha, h.r4.step ha, h.r5.step ha, h.r6.step ha, h.r9.step ha, h.r10.step ha, h.r11.step ha, h.r12.step ha⟩
theorem BRows.mono (h : BRows ok X M v0 v1 v3 v4 v5 v6 v9 v10 v11 v12) (hk : ∀ k, ok k → ok' k) : BRows ok' X M v0 v1 v3 v4 v5 v6 v9 v10 v11 v12 :=
  ⟨h.r0.mono hk, h.r1.mono hk, h.r3.mono hk, h.r4.mono hk, h.r5.mono hk, h.r6.mono hk, h.r9.mono hk, h.r10.mono hk, h.r11.mono hk, h.r12.mono hk⟩
theorem BRows.bound (h : BRows ok X M v0 v1 v3 v4 v5 v6 v9 v10 v11 v12) (hk : ∀ k, ok k → k < X.heap.size → ok' k) : BRows ok' X M v0 v1 v3 v4 v5 v6 v9 v10 v11 v12 :=
  ⟨h.r0.bound hk, h.r1.bound hk, h.r3.bound hk, h.r4.bound hk, h.r5.bound hk, h.r6.bound hk, h.r9.bound hk, h.r10.bound hk, h.r11.bound hk, h.r12.bound hk⟩
end
/-- The block of what is built. -/
def BI (ok : Nat → Prop) (X : World) (m : Nat) (M : ModD) : Prop := ∃ v0 v1 v3 v4 v5 v6 v9 v10 v11 v12,
  Blk X m #[v0, v1, .slice none 0 0, v3, v4, v5, v6, .bool M.starts, .int .u32 M.start, v9, v10, v11, v12] 71 ∧ BRows ok X M v0 v1 v3 v4 v5 v6 v9 v10 v11 v12
theorem BI.step {ok : Nat → Prop} {X Y : World} {m : Nat} {M : ModD} (h : BI ok X m M) (ha : Agr ok X Y) (hb : Y.heap[m]? = X.heap[m]?) : BI ok Y m M := by
  obtain ⟨v0, v1, v3, v4, v5, v6, v9, v10, v11, v12, h1, h2⟩ := h
  exact ⟨v0, v1, v3, v4, v5, v6, v9, v10, v11, v12, hb.trans h1, h2.step ha⟩
theorem BI.mono {ok ok' : Nat → Prop} {X : World} {m : Nat} {M : ModD} (h : BI ok X m M) (hk : ∀ k, ok k → ok' k) : BI ok' X m M := by
  obtain ⟨v0, v1, v3, v4, v5, v6, v9, v10, v11, v12, h1, h2⟩ := h
  exact ⟨v0, v1, v3, v4, v5, v6, v9, v10, v11, v12, h1, h2.mono hk⟩
theorem BI.bound {ok ok' : Nat → Prop} {X : World} {m : Nat} {M : ModD} (h : BI ok X m M) (hk : ∀ k, ok k → k < X.heap.size → ok' k) : BI ok' X m M := by
  obtain ⟨v0, v1, v3, v4, v5, v6, v9, v10, v11, v12, h1, h2⟩ := h
  exact ⟨v0, v1, v3, v4, v5, v6, v9, v10, v11, v12, h1, h2.bound hk⟩
theorem BI.lt {ok : Nat → Prop} {X : World} {m : Nat} {M : ModD} (h : BI ok X m M) : m < X.heap.size := by
  obtain ⟨v0, v1, v3, v4, v5, v6, v9, v10, v11, v12, h1, h2⟩ := h
  exact h1.lt
/-- A section's content. -/
def contM (sat : Bool) (B : List Int) (n : Int) (M : ModD) : ModD × Nat × Int := match n.toNat with
  | 0 => (M, cusM B 0 0)
  | 1 => ({ M with types := (lsOf (funM B) B 0 0).1 }, (lsOf (funM B) B 0 0).2)
  | 2 => ({ M with imports := (lsOf (impM B) B 0 0).1 }, (lsOf (impM B) B 0 0).2)
  | 3 => ({ M with tys := (lsOf (u32R B) B 0 0).1 }, (lsOf (u32R B) B 0 0).2)
  | 4 => ({ M with tables := (lsOf (tabM B) B 0 0).1 }, (lsOf (tabM B) B 0 0).2)
  | 5 => ({ M with mems := (lsOf (limM B) B 0 0).1 }, (lsOf (limM B) B 0 0).2)
  | 6 => ({ M with globals := (lsOf (cellM sat B) B 0 0).1 }, (lsOf (cellM sat B) B 0 0).2)
  | 7 => ({ M with exports := (lsOf (expM B) B 0 0).1 }, (lsOf (expM B) B 0 0).2)
  | 8 => ({ M with starts := true, start := (u32R B 0 0).1 }, (u32R B 0 0).2)
  | 9 => ({ M with elems := (lsOf (elemM sat B) B 0 0).1 }, (lsOf (elemM sat B) B 0 0).2)
  | 10 => ({ M with bodies := (lsOf (bodM sat B) B 0 0).1 }, (lsOf (bodM sat B) B 0 0).2)
  | 11 => ({ M with datas := (lsOf (dataM sat B) B 0 0).1 }, (lsOf (dataM sat B) B 0 0).2)
  | _ => (M, 0, 0)
def ContG (ok : Nat → Prop) (W : World) (p q m : Nat) (B : List Int) (r : ModD × Nat × Int) (E : Ending) (Y : World) : Prop :=
  E = .returned (.tuple #[]) ∧ BI (fun k => ok k ∨ W.heap.size ≤ k) Y m r.1 ∧ Cur Y p q B r.2.1 r.2.2 ∧ G2 W Y p m
set_option maxHeartbeats 2000000 in
theorem content_any (ok : Nat → Prop) (W : World) (p q m : Nat) (B : List Int) (n : Int) (sat : Bool) (M : ModD) (hC : Cur W p q B 0 0) (hB : Byts B) (hM : BI ok W m M) (hok : ∀ k, ok k → k ≠ m ∧ k ≠ p) (hmp : m ≠ p) (hmq : 0 < B.length → m ≠ q) (h0 : 0 ≤ n) (h11 : n ≤ 11) :
    Calls Tryz.prog 44 #[.pointer (some ⟨m, 0, none⟩), .int .u8 n, .agg #[.pointer (some ⟨p, 0, none⟩), .bool sat]] W (ContG ok W p q m B (contM sat B n M)) := by
  obtain ⟨v0, v1, v3, v4, v5, v6, v9, v10, v11, v12, hm, hR⟩ := hM
  have hn : n = 0 ∨ n = 1 ∨ n = 2 ∨ n = 3 ∨ n = 4 ∨ n = 5 ∨ n = 6 ∨ n = 7 ∨ n = 8 ∨ n = 9 ∨ n = 10 ∨ n = 11 := by omega
  rcases hn with rfl | rfl | rfl | rfl | rfl | rfl | rfl | rfl | rfl | rfl | rfl | rfl
  · refine (cont_0 W p q m B 0 0 sat _ hC hB hm hmp hmq).mono ?_
    rintro E Y ⟨rfl, hb, hC', hG⟩
    exact ⟨rfl, ⟨v0, v1, v3, v4, v5, v6, v9, v10, v11, v12, hb, (hR.step (agr_g2 hG hok)).mono (fun k hk => .inl hk)⟩, hC', hG⟩
  · refine (cont_1 W p q m B 0 0 sat _ v0 hC hB hm rfl hmp hmq).mono ?_
    rintro E Y ⟨rfl, ⟨v, hO, hb⟩, hC', hG⟩
    have hR' := (hR.step (agr_g2 hG hok)).mono (ok' := fun k => ok k ∨ W.heap.size ≤ k) (fun k hk => .inl hk)
    exact ⟨rfl, ⟨v, v1, v3, v4, v5, v6, v9, v10, v11, v12, hb, { hR' with r0 := (Row.of_own hO).mono (fun k hk => .inr hk) }⟩, hC', hG⟩
  · refine (cont_2 W p q m B 0 0 sat _ v1 hC hB hm rfl hmp hmq).mono ?_
    rintro E Y ⟨rfl, ⟨v, hO, hb⟩, hC', hG⟩
    have hR' := (hR.step (agr_g2 hG hok)).mono (ok' := fun k => ok k ∨ W.heap.size ≤ k) (fun k hk => .inl hk)
    exact ⟨rfl, ⟨v0, v, v3, v4, v5, v6, v9, v10, v11, v12, hb, { hR' with r1 := (Row.of_own hO).mono (fun k hk => .inr hk) }⟩, hC', hG⟩
  · refine (cont_3 W p q m B 0 0 sat _ v11 hC hB hm rfl hmp hmq).mono ?_
    rintro E Y ⟨rfl, ⟨v, hO, hb⟩, hC', hG⟩
    have hR' := (hR.step (agr_g2 hG hok)).mono (ok' := fun k => ok k ∨ W.heap.size ≤ k) (fun k hk => .inl hk)
    exact ⟨rfl, ⟨v0, v1, v3, v4, v5, v6, v9, v10, v, v12, hb, { hR' with r11 := (Row.of_own hO).mono (fun k hk => .inr hk) }⟩, hC', hG⟩
  · refine (cont_4 W p q m B 0 0 sat _ v3 hC hB hm rfl hmp hmq).mono ?_
    rintro E Y ⟨rfl, ⟨v, hO, hb⟩, hC', hG⟩
    have hR' := (hR.step (agr_g2 hG hok)).mono (ok' := fun k => ok k ∨ W.heap.size ≤ k) (fun k hk => .inl hk)
    exact ⟨rfl, ⟨v0, v1, v, v4, v5, v6, v9, v10, v11, v12, hb, { hR' with r3 := (Row.of_own hO).mono (fun k hk => .inr hk) }⟩, hC', hG⟩
  · refine (cont_5 W p q m B 0 0 sat _ v4 hC hB hm rfl hmp hmq).mono ?_
    rintro E Y ⟨rfl, ⟨v, hO, hb⟩, hC', hG⟩
    have hR' := (hR.step (agr_g2 hG hok)).mono (ok' := fun k => ok k ∨ W.heap.size ≤ k) (fun k hk => .inl hk)
    exact ⟨rfl, ⟨v0, v1, v3, v, v5, v6, v9, v10, v11, v12, hb, { hR' with r4 := (Row.of_own hO).mono (fun k hk => .inr hk) }⟩, hC', hG⟩
  · refine (cont_6 W p q m B 0 0 sat _ v5 hC hB hm rfl hmp hmq).mono ?_
    rintro E Y ⟨rfl, ⟨v, hO, hb⟩, hC', hG⟩
    have hR' := (hR.step (agr_g2 hG hok)).mono (ok' := fun k => ok k ∨ W.heap.size ≤ k) (fun k hk => .inl hk)
    exact ⟨rfl, ⟨v0, v1, v3, v4, v, v6, v9, v10, v11, v12, hb, { hR' with r5 := (Row.of_own hO).mono (fun k hk => .inr hk) }⟩, hC', hG⟩
  · refine (cont_7 W p q m B 0 0 sat _ v6 hC hB hm rfl hmp hmq).mono ?_
    rintro E Y ⟨rfl, ⟨v, hO, hb⟩, hC', hG⟩
    have hR' := (hR.step (agr_g2 hG hok)).mono (ok' := fun k => ok k ∨ W.heap.size ≤ k) (fun k hk => .inl hk)
    exact ⟨rfl, ⟨v0, v1, v3, v4, v5, v, v9, v10, v11, v12, hb, { hR' with r6 := (Row.of_own hO).mono (fun k hk => .inr hk) }⟩, hC', hG⟩
  · refine (cont_8 W p q m B 0 0 sat _ (.bool M.starts) (.int .u32 M.start) hC hB hm rfl rfl hmp hmq).mono ?_
    rintro E Y ⟨rfl, hb, hC', hG⟩
    have hR' := (hR.step (agr_g2 hG hok)).mono (ok' := fun k => ok k ∨ W.heap.size ≤ k) (fun k hk => .inl hk)
    exact ⟨rfl, ⟨v0, v1, v3, v4, v5, v6, v9, v10, v11, v12, hb, { hR' with }⟩, hC', hG⟩
  · refine (cont_9 W p q m B 0 0 sat _ v9 hC hB hm rfl hmp hmq).mono ?_
    rintro E Y ⟨rfl, ⟨v, hO, hb⟩, hC', hG⟩
    have hR' := (hR.step (agr_g2 hG hok)).mono (ok' := fun k => ok k ∨ W.heap.size ≤ k) (fun k hk => .inl hk)
    exact ⟨rfl, ⟨v0, v1, v3, v4, v5, v6, v, v10, v11, v12, hb, { hR' with r9 := (Row.of_own hO).mono (fun k hk => .inr hk) }⟩, hC', hG⟩
  · refine (cont_10 W p q m B 0 0 sat _ v12 hC hB hm rfl hmp hmq).mono ?_
    rintro E Y ⟨rfl, ⟨v, hO, hb⟩, hC', hG⟩
    have hR' := (hR.step (agr_g2 hG hok)).mono (ok' := fun k => ok k ∨ W.heap.size ≤ k) (fun k hk => .inl hk)
    exact ⟨rfl, ⟨v0, v1, v3, v4, v5, v6, v9, v10, v11, v, hb, { hR' with r12 := (Row.of_own hO).mono (fun k hk => .inr hk) }⟩, hC', hG⟩
  · refine (cont_11 W p q m B 0 0 sat _ v10 hC hB hm rfl hmp hmq).mono ?_
    rintro E Y ⟨rfl, ⟨v, hO, hb⟩, hC', hG⟩
    have hR' := (hR.step (agr_g2 hG hok)).mono (ok' := fun k => ok k ∨ W.heap.size ≤ k) (fun k hk => .inl hk)
    exact ⟨rfl, ⟨v0, v1, v3, v4, v5, v6, v9, v, v11, v12, hb, { hR' with r10 := (Row.of_own hO).mono (fun k hk => .inr hk) }⟩, hC', hG⟩
end Go.Proofs.YtofaiocffifhfaaGreat
end
section
namespace Go.Proofs.YtofaiocffifhfaaGreat
open Go.RowKit Go.Shelf YtofaiocffifhfaaGreatB Go.Proofs.YtofaiocffifhfaaGreatW.PrintWords
theorem ent_secs1 : Enters Tryz.prog 43 := enters_of Tryz.func43 (by kernel_rfl) rfl
set_option maxRecDepth 100000 in
set_option maxHeartbeats 1000000 in
theorem secs1_any (ok : Nat → Prop) (W : World) (p q m bm bn : Nat) (B : List Int) (n : Int) (sat : Bool) (M : ModD) (hC : Cur W p q B 0 0) (hB : Byts B) (hM : BI ok W m M) (hok : ∀ k, ok k → k ≠ m ∧ k ≠ p) (hmp : m ≠ p) (hmq : 0 < B.length → m ≠ q) (h0 : 0 ≤ n) (h11 : n ≤ 11)
    (h1 : W.cell? ⟨bm, 0, none⟩ = some (.pointer (some ⟨m, 0, none⟩))) (h2 : W.cell? ⟨bn, 0, none⟩ = some (.int .u8 n)) :
    Calls Tryz.prog 43 #[.agg #[.pointer (some ⟨p, 0, none⟩), .bool sat], .pointer (some ⟨bm, 0, none⟩), .pointer (some ⟨bn, 0, none⟩)] W (ContG ok W p q m B (contM sat B n M)) := by
  have hpl := hC.lt
  have hl1 := World.block_lt_of_cell? _ _ h1
  have hl2 := World.block_lt_of_cell? _ _ h2
  have hb0 : Below W.heap.size W (W.alloc (.cells #[.pointer (some ⟨p, 0, none⟩), .bool sat] 67)) := (Below.refl _ _).alloc (Nat.le_refl _) _
  have H0 := Lib.hid (content_any ok (W.alloc (.cells #[.pointer (some ⟨p, 0, none⟩), .bool sat] 67)) p q m B n sat M (hC.alloc _) hB (hM.step (Agr.of_below hb0) (hb0.block m hM.lt)) hok hmp hmq h0 h11)
  generalize contM sat B n M = r at *
  clear hC hB hM hmp hmq hb0
  go_enter Tryz.func43, Tryz.ntmps43
  go_wp2_with fail
  refine H0.out.mono ?_
  rintro E W1 ⟨rfl, hM, hC1, hG⟩
  have HM := Lib.hid (hM.mono (ok' := fun k => ok k ∨ W.heap.size ≤ k) (fun k hk => by rw [World.size_alloc] at hk; rcases hk with h | h; exact .inl h; exact .inr (by omega)))
  have HC := Lib.hid hC1
  have HG := Lib.hid hG
  clear hM hC1 hG H0
  go_wp2_with fail
  go_end0
  exact ⟨rfl, HM.out, HC.out, ((G2.refl W p m).alloc _).trans HG.out⟩
theorem take_pos {B : List Int} {a n nx : Nat} {l : List Int} (h : takeM B a n = .ok (l, nx)) : a ≤ nx := by
  unfold takeM at h
  split at h
  · injection h with h
    injection h with _ h
    omega
  · cases h
theorem piece_pos {B : List Int} (hB : Byts B) (a : Nat) (h : (pieceM B a 0).2.2 = 0) : a ≤ (pieceM B a 0).2.1 := by
  have hu0 : a ≤ (rdOf (u32M B a) a 0).2.1 := by
    rw [rdOf, if_pos rfl]
    cases hu : u32M B a with
    | error e' => exact Nat.le_refl _
    | ok r =>
      obtain ⟨n, nx⟩ := r
      have := (u32M_lt hB hu).2.1
      show a ≤ nx
      omega
  unfold pieceM at h ⊢
  generalize rdOf (u32M B a) a 0 = r at *
  obtain ⟨n, a1, e1⟩ := r
  dsimp only at h hu0 ⊢
  unfold rdL at h ⊢
  by_cases h1 : e1 = 0
  · rw [if_pos h1] at h ⊢
    cases ht : takeM B a1 n.toNat with
    | error e' => exact hu0
    | ok r =>
      obtain ⟨l, nx⟩ := r
      exact Nat.le_trans hu0 (take_pos ht)
  · rw [if_neg h1]
    exact hu0
/-- The reading of one section. -/
def secStep (sat : Bool) (B : List Int) (M : ModD) (n : Int) (a : Nat) : ModD × Nat × Int :=
  let t := pieceM B a 0
  if t.2.2 = 0 then ((contM sat t.1 n M).1, t.2.1, backP (contM sat t.1 n M).2 t.1.length) else (M, t.2.1, t.2.2)
def SecI (n0 m p : Nat) (X : World) (M : ModD) (_ : Nat) : Prop := BI (fun k => n0 ≤ k ∧ k ≠ m ∧ k ≠ p) X m M ∧ p < X.heap.size ∧ n0 ≤ X.heap.size
theorem secI_move {n0 m p : Nat} (hmp : m ≠ p) : ∀ X Y M a, SecI n0 m p X M a → X.grownBy Y (some p) → SecI n0 m p Y M a := by
  rintro X Y M a ⟨h1, h2, h3⟩ hg
  exact ⟨h1.step (agr_grown hg (fun k hk e => by injection e with e; exact hk.2.2 e)) (hg.block m h1.lt (fun e => hmp (by injection e))), by have := hg.size; omega, by have := hg.size; omega⟩
set_option maxHeartbeats 1000000 in
theorem secStep_ok (n0 : Nat) (W : World) (p q m : Nat) (B : List Int) (sat : Bool) (hB : Byts B) (hmp : m ≠ p) (hmq : 0 < B.length → m ≠ q) : StepOk (SecI n0 m p) (secStep sat B) W p q m B sat := by
  intro X M a n bm bn hX hI hC hn h0 h11 hbm hbn h1 h2
  obtain ⟨hM, hpX, hnX⟩ := hI
  have hpb := piece_byts hB (a + 1) 0
  by_cases he : (pieceM B (a + 1) 0).2.2 = 0
  · have hst : secStep sat B M n (a + 1) = ((contM sat (pieceM B (a + 1) 0).1 n M).1, (pieceM B (a + 1) 0).2.1, backP (contM sat (pieceM B (a + 1) 0).1 n M).2 (pieceM B (a + 1) 0).1.length) := if_pos he
    have hpos := piece_pos hB (a + 1) he
    rw [hst]
    have hmX := hM.lt
    refine (wholeg_two (fun p2 Y => BI (fun k => n0 ≤ k ∧ k ≠ m ∧ k ≠ p ∧ k ≠ p2) Y m (contM sat (pieceM B (a + 1) 0).1 n M).1 ∧ p < Y.heap.size ∧ n0 ≤ Y.heap.size) 43 ent_secs1 X p q m bm bn B (a + 1) 0 sat (contM sat (pieceM B (a + 1) 0).1 n M).2 hC hB he hpb hmX hmp hmq ?_ ?_).mono ?_
    · rintro p2 Y Z row hp2 ⟨h3, h4, h5⟩ hg hr
      refine ⟨h3.step (agr_grown hg (fun k hk e => by rcases hr _ e.symm with h | h; exact hk.2.2.1 h; exact hk.2.2.2 h)) (hg.block m h3.lt (fun e => by rcases hr _ e.symm with h | h; exact hmp h; omega)), by have := hg.size; omega, by have := hg.size; omega⟩
    · intro X' p2 q2 hp2 hpX' hq2 hC2 hg
      have hsz := hg.size
      have hb1 : X'.cell? ⟨bm, 0, none⟩ = some (.pointer (some ⟨m, 0, none⟩)) := by
        rw [← hbm]; exact World.cell?_of_block (hg.block bm (World.block_lt_of_cell? _ _ hbm) (fun e => h1 (by injection e)))
      have hb2 : X'.cell? ⟨bn, 0, none⟩ = some (.int .u8 n) := by
        rw [← hbn]; exact World.cell?_of_block (hg.block bn (World.block_lt_of_cell? _ _ hbn) (fun e => h2 (by injection e)))
      have hM' := (hM.bound (ok' := fun k => (n0 ≤ k ∧ k ≠ m ∧ k ≠ p) ∧ k < X.heap.size) (fun k hk hl => ⟨hk, hl⟩)).step (agr_grown hg (fun k hk e => by injection e with e; exact hk.1.2.2 e)) (hg.block m hmX (fun e => hmp (by injection e)))
      refine (secs1_any _ X' p2 q2 m bm bn (pieceM B (a + 1) 0).1 n sat M hC2 hpb hM' (fun k hk => ⟨hk.1.2.1, by omega⟩) (by omega) (fun hl => by have := hq2 hl; omega) h0 h11 hb1 hb2).mono ?_
      rintro E Y ⟨rfl, g1, g2, g3⟩
      have hs3 := g3.size
      refine ⟨rfl, ⟨g1.mono (fun k hk => ?_), by omega, by omega⟩, g2, g3⟩
      rcases hk with h | h
      · exact ⟨h.1.1, h.1.2.1, h.1.2.2, by omega⟩
      · exact ⟨by omega, by omega, by omega, by omega⟩
    · rintro E Y ⟨rfl, ⟨p2, hp2, g1, g2, g3⟩, hC', hG⟩
      exact ⟨rfl, ⟨g1.mono (fun k hk => ⟨hk.1, hk.2.1, hk.2.2.1⟩), g2, g3⟩, hC', hG, fun _ => hpos⟩
  · have hst : secStep sat B M n (a + 1) = (M, (pieceM B (a + 1) 0).2.1, (pieceM B (a + 1) 0).2.2) := if_neg he
    rw [hst]
    refine (whole_bad X p q B (a + 1) 0 sat _ hC hB (beq_eq_false_iff_ne.2 he)).mono ?_
    rintro E Y ⟨rfl, hG⟩
    exact ⟨rfl, secI_move hmp X Y M 0 ⟨hM, hpX, hnX⟩ hG.2, hG.1, G2.of_grown hG.2 (fun k e => by injection e with e; exact .inl e.symm), fun h => absurd h he⟩
end Go.Proofs.YtofaiocffifhfaaGreat
end
section
namespace Go.Proofs.YtofaiocffifhfaaGreat
open Go.RowKit Go.Shelf YtofaiocffifhfaaGreatB Go.Proofs.YtofaiocffifhfaaGreatW.PrintWords
theorem map_u8_inj : ∀ {a b : List Int}, (∀ x ∈ a, 0 ≤ x ∧ x ≤ 255) → (∀ x ∈ b, 0 ≤ x ∧ x ≤ 255) → a.map (fun n => UInt8.ofNat n.toNat) = b.map (fun n => UInt8.ofNat n.toNat) → a = b
  | [], [], _, _, _ => rfl
  | [], _ :: _, _, _, h => by simp at h
  | _ :: _, [], _, _, h => by simp at h
  | x :: a, y :: b, ha, hb, h => by
    simp only [List.map_cons, List.cons.injEq] at h
    have hx := ha x (by simp)
    have hy := hb y (by simp)
    have h1 := congrArg UInt8.toNat h.1
    simp at h1
    have hxy : x = y := by omega
    rw [hxy, map_u8_inj (fun z hz => ha z (by simp [hz])) (fun z hz => hb z (by simp [hz])) h.2]
theorem strOf_inj {a b : List Int} (ha : ∀ x ∈ a, 0 ≤ x ∧ x ≤ 255) (hb : ∀ x ∈ b, 0 ≤ x ∧ x ≤ 255) (h : strOfNums a = strOfNums b) : a = b :=
  map_u8_inj ha hb (by have := congrArg (fun s : ByteArray => s.data.toList) h; simpa [strOfNums_data] using this)
theorem str_ne_list {a b : ByteArray} (h : a ≠ b) : (a.toList == b.data.toList) = false := by
  rw [ByteArray.toList_eq]
  exact beq_eq_false_iff_ne.2 (fun e => h (ByteArray.ext (Array.toList_inj.1 e)))
/-- The functions: types and bodies, side by side. -/
def fnsM (M : ModD) : List FnD := List.zipWith (fun t b => ⟨t, b.loc, b.body⟩) M.tys M.bodies
def decM (sat : Bool) (B : List Int) : (ModD × List FnD) × Int :=
  if 65536 < B.length then (({}, []), 3)
  else if B.length < 8 ∨ ¬ B.take 8 = magicL then (({}, []), 103)
  else (let r := secM (secStep sat (B.drop 8)) (B.drop 8) ((B.drop 8).length + 1) {} 0 0 0
    if r.2.2 = 0 then (if r.1.tys.length = r.1.bodies.length then ((r.1, fnsM r.1), 0) else (({}, []), 109)) else (({}, []), r.2.2))
def DecPost (W : World) (r : (ModD × List FnD) × Int) (E : Ending) (W' : World) : Prop :=
  Below W.heap.size W W' ∧ ∃ v0 v1 v2 v3 v4 v5 v6 v9 v10 v11 v12, E = .returned (.tuple #[.agg #[v0, v1, v2, v3, v4, v5, v6, .bool r.1.1.starts, .int .u32 r.1.1.start, v9, v10], .int .i64 r.2]) ∧
    BRows (fun k => W.heap.size ≤ k) W' r.1.1 v0 v1 v3 v4 v5 v6 v9 v10 v11 v12 ∧ Row kFn (fun k => W.heap.size ≤ k) W' v2 r.1.2
theorem bRows_none {ok : Nat → Prop} {X : World} : BRows ok X {} (.slice none 0 0) (.slice none 0 0) (.slice none 0 0) (.slice none 0 0) (.slice none 0 0) (.slice none 0 0) (.slice none 0 0) (.slice none 0 0) (.slice none 0 0) (.slice none 0 0) :=
  ⟨Row.nil, Row.nil, Row.nil, Row.nil, Row.nil, Row.nil, Row.nil, Row.nil, Row.nil, Row.nil⟩
theorem decPost_bad {W W' : World} {e : Int} (hb : Below W.heap.size W W') : DecPost W (({}, []), e) (.returned (.tuple #[.agg (mod0 (.slice none 0 0)), .int .i64 e])) W' :=
  ⟨hb, _, _, _, _, _, _, _, _, _, _, _, rfl, bRows_none, Row.nil⟩
set_option maxRecDepth 100000 in
set_option maxHeartbeats 2000000 in
theorem Decode_early (W : World) (A : Option Addr) (c : Nat) (B : List Int) (sat : Bool) (hR : RdI W .u8 A B) (hB : Byts B) (hle : B.length ≤ c) (h : 65536 < B.length ∨ B.length < 8 ∨ ¬ B.take 8 = magicL) :
    Calls Tryz.prog 8 #[.slice A B.length c, .bool sat] W (DecPost W (decM sat B)) := by
  have hz := Blk.new W (mod0 (.slice none 0 0)) 34
  have hB0 : Below W.heap.size W (W.alloc (.cells (mod0 (.slice none 0 0)) 34)) := (Below.refl _ _).alloc (Nat.le_refl _) _
  have z0 : (W.alloc (.cells (mod0 (.slice none 0 0)) 34)).cell? ⟨W.heap.size, 0, none⟩ = some (.slice none 0 0) := hz.cell 0
  have z1 : (W.alloc (.cells (mod0 (.slice none 0 0)) 34)).cell? ⟨W.heap.size, 1, none⟩ = some (.slice none 0 0) := hz.cell 1
  have z2 : (W.alloc (.cells (mod0 (.slice none 0 0)) 34)).cell? ⟨W.heap.size, 2, none⟩ = some (.slice none 0 0) := hz.cell 2
  have z3 : (W.alloc (.cells (mod0 (.slice none 0 0)) 34)).cell? ⟨W.heap.size, 3, none⟩ = some (.slice none 0 0) := hz.cell 3
  have z4 : (W.alloc (.cells (mod0 (.slice none 0 0)) 34)).cell? ⟨W.heap.size, 4, none⟩ = some (.slice none 0 0) := hz.cell 4
  have z5 : (W.alloc (.cells (mod0 (.slice none 0 0)) 34)).cell? ⟨W.heap.size, 5, none⟩ = some (.slice none 0 0) := hz.cell 5
  have z6 : (W.alloc (.cells (mod0 (.slice none 0 0)) 34)).cell? ⟨W.heap.size, 6, none⟩ = some (.slice none 0 0) := hz.cell 6
  have z7 : (W.alloc (.cells (mod0 (.slice none 0 0)) 34)).cell? ⟨W.heap.size, 7, none⟩ = some (.bool false) := hz.cell 7
  have z8 : (W.alloc (.cells (mod0 (.slice none 0 0)) 34)).cell? ⟨W.heap.size, 8, none⟩ = some (.int .u32 0) := hz.cell 8
  have z9 : (W.alloc (.cells (mod0 (.slice none 0 0)) 34)).cell? ⟨W.heap.size, 9, none⟩ = some (.slice none 0 0) := hz.cell 9
  have z10 : (W.alloc (.cells (mod0 (.slice none 0 0)) 34)).cell? ⟨W.heap.size, 10, none⟩ = some (.slice none 0 0) := hz.cell 10
  have zf0 := hz.frozen 0
  have zf1 := hz.frozen 1
  have zf2 := hz.frozen 2
  have zf3 := hz.frozen 3
  have zf4 := hz.frozen 4
  have zf5 := hz.frozen 5
  have zf6 := hz.frozen 6
  have zf7 := hz.frozen 7
  have zf8 := hz.frozen 8
  have zf9 := hz.frozen 9
  have zf10 := hz.frozen 10
  have zl := hz.lt
  have HB0 := Lib.hid hB0
  clear hz
  by_cases h1 : 65536 < B.length
  · have hd : decM sat B = (({}, []), 3) := if_pos h1
    rw [hd]
    have h2 : (65536 : Int) < B.length := by omega
    clear hR hB h h1 hd
    go_enter Tryz.func8, Tryz.ntmps8
    go_wp2_with fail
    refine bodyPost_ret (v := .tuple #[.agg (mod0 (.slice none 0 0)), .int .i64 3]) (by simp [results, Tryz.results8, go_sem, z0, z1, z2, z3, z4, z5, z6, z7, z8, z9, z10, zl]) rfl (decPost_bad ?_)
    (repeat (first | with_reducible exact HB0.out | (with_reducible refine bl_set ?_ _ _ _ ?_; rotate_left; omega) | with_reducible refine bl_alloc ?_ _ | with_reducible refine bl_drew ?_))
  · have h2 : ¬ (65536 : Int) < B.length := by omega
    by_cases h3 : B.length < 8
    · have hd : decM sat B = (({}, []), 103) := by rw [decM, if_neg h1, if_pos (.inl h3)]
      rw [hd]
      have h4 : (B.length : Int) < 8 := by omega
      clear hR hB h h1 hd h3
      go_enter Tryz.func8, Tryz.ntmps8
      go_wp2_with fail
      refine bodyPost_ret (v := .tuple #[.agg (mod0 (.slice none 0 0)), .int .i64 103]) (by simp [results, Tryz.results8, go_sem, z0, z1, z2, z3, z4, z5, z6, z7, z8, z9, z10, zl]) rfl (decPost_bad ?_)
      (repeat (first | with_reducible exact HB0.out | (with_reducible refine bl_set ?_ _ _ _ ?_; rotate_left; omega) | with_reducible refine bl_alloc ?_ _ | with_reducible refine bl_drew ?_))
    · have h5 : ¬ B.take 8 = magicL := by rcases h with h | h | h; exact absurd h h1; exact absurd h h3; exact h
      have hd : decM sat B = (({}, []), 103) := by rw [decM, if_neg h1, if_pos (.inr h5)]
      rw [hd]
      have h4 : ¬ (B.length : Int) < 8 := by omega
      have h6 : (8 : Int) ≤ c := by omega
      have hl8 : (B.take 8).length = 8 := by rw [List.length_take]; omega
      have hR8 : RdI W .u8 A (B.take 8) := ⟨by omega, fun _ => by
        obtain ⟨b, o, e, hcc⟩ := hR.2 (by omega)
        refine ⟨b, o, e, fun j x hj => hcc j x ?_⟩
        have := (List.getElem?_eq_some_iff.1 hj).1
        rw [List.getElem?_take] at hj
        split at hj
        · exact hj
        · cases hj⟩
      have hk1 := conv_str _ A (B.take 8) c (hR8.below hB0)
      rw [hl8] at hk1
      have hs : strOfNums (B.take 8) ≠ strOfNums magicL := fun e => h5 (strOf_inj (fun x hx => hB.2 x (List.mem_of_mem_take hx)) (by decide) e)
      rw [magic_str] at hs
      have hsb : ((strOfNums (B.take 8)).toList == [0, 97, 115, 109, 1, 0, 0, 0]) = false := str_ne_list hs
      generalize strOfNums (B.take 8) = s at *
      clear hR hB h h1 hd h3 h5 hl8 hR8 hs hB0
      go_enter Tryz.func8, Tryz.ntmps8
      go_wp2_with fail
      refine bodyPost_ret (v := .tuple #[.agg (mod0 (.slice none 0 0)), .int .i64 103]) (by simp [results, Tryz.results8, go_sem, z0, z1, z2, z3, z4, z5, z6, z7, z8, z9, z10, zl]) rfl (decPost_bad ?_)
      (repeat (first | with_reducible exact HB0.out | (with_reducible refine bl_set ?_ _ _ _ ?_; rotate_left; omega) | with_reducible refine bl_alloc ?_ _ | with_reducible refine bl_drew ?_))
end Go.Proofs.YtofaiocffifhfaaGreat
end
section
namespace Go.Proofs.YtofaiocffifhfaaGreat
open Go.RowKit Go.Shelf YtofaiocffifhfaaGreatB Go.Proofs.YtofaiocffifhfaaGreatW.PrintWords
theorem gw_same {W X : World} {b : Nat} (h : W.grownBy X (some b)) (i : Nat) (v : Value) : W.grownBy (X.setCell ⟨b, i, none⟩ v) (some b) := h.trans (gset X b i v)
theorem decPost_ok {W wr Y : World} {M : ModD} {F : List FnD} {v0 v1 vf v3 v4 v5 v6 v9 v10 v11 v12 : Value} (hb : Below W.heap.size W wr) (hg : wr.grownBy Y (some W.heap.size)) (hR : BRows (fun k => W.heap.size + 1 ≤ k) wr M v0 v1 v3 v4 v5 v6 v9 v10 v11 v12) (hF : Row kFn (fun k => W.heap.size + 1 ≤ k) wr vf F) :
    DecPost W ((M, F), 0) (.returned (.tuple #[.agg #[v0, v1, vf, v3, v4, v5, v6, .bool M.starts, .int .u32 M.start, v9, v10], .int .i64 0])) Y := by
  have ha : Agr (fun k => W.heap.size + 1 ≤ k) wr Y := agr_grown hg (fun k hk e => by injection e with e; omega)
  exact ⟨hb.grown hg hb.size (fun k hk => by injection hk with hk; omega), v0, v1, vf, v3, v4, v5, v6, v9, v10, v11, v12, rfl, (hR.step ha).mono (fun k hk => by omega), (hF.step ha).mono (fun k hk => by omega)⟩
theorem fc_bound {α : Type} {d : Kd α} {X : World} {ok ok' : Nat → Prop} {A : Option Addr} {xs : List α} (h : FC d X ok A xs) (hk : ∀ k, ok k → k < X.heap.size → ok' k) : FC d X ok' A xs := Ft.bound h hk
theorem secM_inv {α : Type} (P : α → Prop) (step : α → Int → Nat → α × Nat × Int) (B : List Int) (hs : ∀ M n a, P M → P (step M n a).1) : ∀ (f : Nat) (M : α) (hi : Int) (a : Nat) (e : Int), P M → P (secM step B f M hi a e).1
  | 0, M, hi, a, e, h => h
  | f + 1, M, hi, a, e, h => by
    rw [secM]
    split
    · split
      · exact h
      · split
        · exact h
        · exact secM_inv P step B hs f _ _ _ _ (hs _ _ _ h)
    · exact h
theorem lsM_len {α : Type} (rd : Nat → Int → α × Nat × Int) : ∀ (k a : Nat) (e : Int), (lsM rd k a e).1.length ≤ k
  | 0, a, e => by simp [lsM]
  | k + 1, a, e => by
    rw [lsM]
    split
    · have := lsM_len rd k (rd a 0).2.1 (rd a 0).2.2
      simp only [List.length_cons]
      omega
    · simp
theorem lsOf_len {α : Type} (rd : Nat → Int → α × Nat × Int) {B : List Int} (hB : Byts B) (a : Nat) (e : Int) : (lsOf rd B a e).1.length ≤ 4096 := by
  have h1 := lsM_len rd (rdOf (countM B a) a e).1.toNat (rdOf (countM B a) a e).2.1 (rdOf (countM B a) a e).2.2
  have h2 := countM_rd (a := a) (e := e) hB
  unfold lsOf
  omega
theorem secStep_bodies {sat : Bool} {B : List Int} (hB : Byts B) (M : ModD) (n : Int) (a : Nat) (h : M.bodies.length ≤ 4096) : (secStep sat B M n a).1.bodies.length ≤ 4096 := by
  unfold secStep
  dsimp only
  split
  · unfold contM
    split <;> first | exact h | exact lsOf_len _ (piece_byts hB a 0) 0 0
  · exact h
set_option maxRecDepth 100000 in
set_option maxHeartbeats 4000000 in
theorem Decode_late (W : World) (A : Option Addr) (c : Nat) (T : List Int) (sat : Bool) (hR : RdI W .u8 A (magicL ++ T)) (hB : Byts (magicL ++ T)) (hl : T.length ≤ 65528) (hc : (magicL ++ T).length ≤ c) :
    Calls Tryz.prog 8 #[.slice A (magicL ++ T).length c, .bool sat] W (DecPost W (decM sat (magicL ++ T))) := by
  have hml : (magicL ++ T).length = 8 + T.length := by simp [magicL]; omega
  have hd : decM sat (magicL ++ T) = (let r := secM (secStep sat T) T (T.length + 1) {} 0 0 0; if r.2.2 = 0 then (if r.1.tys.length = r.1.bodies.length then ((r.1, fnsM r.1), 0) else (({}, []), 109)) else (({}, []), r.2.2)) := by
    unfold decM
    rw [if_neg (by omega), if_neg (fun h => by rcases h with h | h; omega; exact h (by simp [magicL]))]
    rfl
  obtain ⟨RR, hRR⟩ : ∃ RR, RR = decM sat (magicL ++ T) := ⟨_, rfl⟩
  rw [← hRR]
  rw [hd] at hRR
  dsimp only at hRR
  have HRR := Lib.hid hRR
  clear hd hRR
  obtain ⟨A2, hr2, hA2⟩ := cut_lo (P := Tryz.prog) 22 5 .i64 1 Tryz.underlying22 infoB A (magicL ++ T).length c 8 (by omega)
  have hR8 : RdI W .u8 A magicL := ⟨by decide, fun _ => by
    obtain ⟨b, o, e, hcc⟩ := hR.2 (by omega)
    refine ⟨b, o, e, fun j x hj => hcc j x ?_⟩
    have := (List.getElem?_eq_some_iff.1 hj).1
    rw [List.getElem?_append_left this]; exact hj⟩
  have hRT : RdI W .u8 A2 T := ⟨by omega, fun hp => by
    obtain ⟨b, o, e, hcc⟩ := hR.2 (by omega)
    refine ⟨b, o + 8, by rw [hA2 (by omega), e]; simp [Addr.add], fun j x hj => ?_⟩
    rw [Nat.add_assoc]
    refine hcc (8 + j) x ?_
    rw [List.getElem?_append_right (by simp [magicL])]
    simpa [magicL] using hj⟩
  have hk1 := fun X (h : Below W.heap.size W X) => conv_str X A magicL c (hR8.below h)
  rw [magic_str] at hk1
  have HK := Lib.hid hk1
  have HR := Lib.hid hRT
  have hBT : Byts T := ⟨by have := hB.1; omega, fun x hx => hB.2 x (List.mem_append_right _ hx)⟩
  have HB := Lib.hid hBT
  rw [hml] at hc ⊢
  have hr3 : ∀ X : World, (Instr.slice 22 (.slice A (8 + T.length) c) (some (.int .i64 8)) none none).run Tryz.prog X = .ok (.slice A2 T.length (c - 8)) X := fun X => by
    have h := hr2 X
    rw [hml, Nat.add_sub_cancel_left] at h
    exact h
  clear hr2
  have hk0 : ∀ X : World, Below W.heap.size W X → (convert 22 9 (.slice A 8 c)).run Tryz.prog X = .ok (.string ⟨#[0, 97, 115, 109, 1, 0, 0, 0]⟩) X := HK.out
  have hk2 := hk0 _ ((Below.refl _ _).alloc (Nat.le_refl _) (.cells (mod0 (.slice none 0 0)) 34))
  clear hR hB hA2 hR8 hRT hk1 hBT hml hk0
  go_enter Tryz.func8, Tryz.ntmps8
  go_wp2_with fail
  have hW1 : Below W.heap.size W (W.alloc (.cells (mod0 (.slice none 0 0)) 34)) := (Below.refl _ _).alloc (Nat.le_refl _) _
  have hz1 : (W.alloc (.cells (mod0 (.slice none 0 0)) 34)).heap.size = W.heap.size + 1 := World.size_alloc _ _
  have hx := Blk.new W (mod0 (.slice none 0 0)) 34
  have HN := Lib.hid (New_own _ A2 (c - 8) T (HR.out.below hW1) HB.out)
  have HW1 := Lib.hid hW1
  have HX := Lib.hid hx
  clear hx hW1
  refine HN.out.mono ?_
  rintro E W2 ⟨p, q, hp, hq, rfl, hC2, hB2⟩
  have HX2 := Lib.hid (HX.out.below hB2 (by omega))
  have hz2 := hB2.size
  have HW2 := Lib.hid (HW1.out.trans (hB2.mono (by omega)))
  have HC2 := Lib.hid hC2
  have hpl := hC2.lt
  have HQ := Lib.hid (fun hl => hC2.qlt' hl : 0 < T.length → q < W2.heap.size)
  clear hC2 hB2 hq HN HX HW1 hk2
  have hb6 := (Blk.new W2 #[.pointer (some ⟨p, 0, none⟩), .bool sat] 67).alloc (.cells (bld0 (.slice none 0 0)) 71)
  have hbm := Blk.new (W2.alloc (.cells #[.pointer (some ⟨p, 0, none⟩), .bool sat] 67)) (bld0 (.slice none 0 0)) 71
  have hx3 := (HX2.out.alloc (.cells #[.pointer (some ⟨p, 0, none⟩), .bool sat] 67)).alloc (.cells (bld0 (.slice none 0 0)) 71)
  have hC3 := (HC2.out.alloc (.cells #[.pointer (some ⟨p, 0, none⟩), .bool sat] 67)).alloc (.cells (bld0 (.slice none 0 0)) 71)
  have hz3 : ((W2.alloc (.cells #[.pointer (some ⟨p, 0, none⟩), .bool sat] 67)).alloc (.cells (bld0 (.slice none 0 0)) 71)).heap.size = W2.heap.size + 2 := by rw [World.size_alloc, World.size_alloc]
  rw [World.size_alloc] at hbm
  have hmp : W2.heap.size + 1 ≠ p := by omega
  have hs3 := sections_gen (SecI (W.heap.size + 1) (W2.heap.size + 1) p) (secStep sat T) _ p q (W2.heap.size + 1) T sat {} hC3 HB.out (by omega) hmp ⟨⟨_, _, _, _, _, _, _, _, _, _, hbm, bRows_none⟩, by omega, by omega⟩ (secI_move hmp) (secStep_ok (W.heap.size + 1) _ p q (W2.heap.size + 1) T sat HB.out hmp (fun hl => by have := HQ.out hl; omega))
  have hbod := secM_inv (fun M : ModD => M.bodies.length ≤ 4096) (secStep sat T) T (fun M n a h => secStep_bodies HB.out M n a h) (T.length + 1) {} 0 0 0 (Nat.zero_le _)
  generalize secM (secStep sat T) T (T.length + 1) {} 0 0 0 = r at *
  have HB3 := Lib.hid ((HW2.out.alloc HW2.out.size (.cells #[.pointer (some ⟨p, 0, none⟩), .bool sat] 67)).alloc (by rw [World.size_alloc]; have := HW2.out.size; omega) (.cells (bld0 (.slice none 0 0)) 71))
  have HX3 := Lib.hid hx3
  have HX6 := Lib.hid hb6
  have HS3 := Lib.hid hs3
  have HXM := Lib.hid (show W2.heap.size + 1 < ((W2.alloc (.cells #[.pointer (some ⟨p, 0, none⟩), .bool sat] 67)).alloc (.cells (bld0 (.slice none 0 0)) 71)).heap.size by omega)
  clear hb6 hbm hx3 hC3 hs3
  go_wp2_with fail
  refine HS3.out.mono ?_
  rintro E W4 ⟨rfl, ⟨a5, ⟨v0, v1, v3, v4, v5, v6, v9, v10, v11, v12, hm4, hR4⟩, _, _⟩, hC4, hG4⟩
  obtain ⟨M, a4, e1⟩ := r
  dsimp only at hm4 hR4 hC4 hbod ⊢
  have HR4 := Lib.hid hR4
  have hz4 := hG4.size
  rw [hz3] at hz4
  have hpw : W.heap.size ≠ p := by omega
  have hmw : W.heap.size ≠ W2.heap.size + 1 := by omega
  have hx4 : Blk W4 W.heap.size (mod0 (.slice none 0 0)) 34 := HX3.out.g2 hG4 hpw hmw
  have hx6 : Blk W4 W2.heap.size #[.pointer (some ⟨p, 0, none⟩), .bool sat] 67 := HX6.out.g2 hG4 (by omega) (by omega)
  have HB4 := Lib.hid (below_ge W.heap.size HB3.out p (W2.heap.size + 1) hG4 (by omega) (by omega) (by omega))
  have HC4 := Lib.hid hC4
  have HX4 := Lib.hid hx4
  have HX5 := Lib.hid hx6
  have HM4 := Lib.hid hm4
  have x0 : W4.cell? ⟨W2.heap.size, 0, none⟩ = some (.pointer (some ⟨p, 0, none⟩)) := hx6.cell 0
  have x1 : W4.cell? ⟨W2.heap.size, 1, none⟩ = some (.bool sat) := hx6.cell 1
  have xl := hx6.lt
  clear hG4 hC4 hx4 hx6 hm4 hR4 HS3 HB3 HX3 HX6 HX2 HW2 HC2 HQ HXM hz3
  by_cases he : e1 = 0
  · subst he
    have HPG := Lib.hid (pgood_any W4 p q T a4 0 sat true HC4.out rfl)
    obtain ⟨A11, c11, h11v, hc11, hF11⟩ := HR4.out.r11
    obtain ⟨A12, c12, h12v, hc12, hF12⟩ := HR4.out.r12
    subst h11v h12v
    have HF11 := Lib.hid hF11
    have HF12 := Lib.hid hF12
    have HL11 := Lib.hid hc11
    have HL12 := Lib.hid hc12
    clear hc11 hF11 hc12 hF12
    go_wp2_with fail
    refine HPG.out.mono ?_
    rintro E w' ⟨rfl, rfl⟩
    have hal : Below W4.heap.size W4 (W4.alloc (.cells #[.pointer (some ⟨p, 0, none⟩), .bool sat] 67)) := (Below.refl _ _).alloc (Nat.le_refl _) _
    have hm5 := HM4.out.alloc (.cells #[.pointer (some ⟨p, 0, none⟩), .bool sat] 67)
    have hx5 := HX4.out.alloc (.cells #[.pointer (some ⟨p, 0, none⟩), .bool sat] 67)
    have hB5 := HB4.out.alloc HB4.out.size (.cells #[.pointer (some ⟨p, 0, none⟩), .bool sat] 67)
    have HR5 := Lib.hid (HR4.out.step (Agr.of_below hal))
    have HG11 := Lib.hid (fc_bound (Ft.step HF11.out (Agr.of_below hal)) (ok' := fun k => (W.heap.size + 1 ≤ k ∧ k ≠ W2.heap.size + 1 ∧ k ≠ p) ∧ k < (W4.alloc (.cells #[.pointer (some ⟨p, 0, none⟩), .bool sat] 67)).heap.size) (fun k hk hl => ⟨hk, hl⟩))
    have HG12 := Lib.hid (fc_bound (Ft.step HF12.out (Agr.of_below hal)) (ok' := fun k => (W.heap.size + 1 ≤ k ∧ k ≠ W2.heap.size + 1 ∧ k ≠ p) ∧ k < (W4.alloc (.cells #[.pointer (some ⟨p, 0, none⟩), .bool sat] 67)).heap.size) (fun k hk hl => ⟨hk, hl⟩))
    clear HX5 HX4 HM4 HC4 HB4 x0 x1 HR4 HF11 HF12 hal
    generalize W4.alloc (.cells #[.pointer (some ⟨p, 0, none⟩), .bool sat] 67) = W5 at *
    have m0 : W5.cell? ⟨W2.heap.size + 1, 0, none⟩ = some (v0) := hm5.cell 0
    have m1 : W5.cell? ⟨W2.heap.size + 1, 1, none⟩ = some (v1) := hm5.cell 1
    have m2 : W5.cell? ⟨W2.heap.size + 1, 2, none⟩ = some (.slice none 0 0) := hm5.cell 2
    have m3 : W5.cell? ⟨W2.heap.size + 1, 3, none⟩ = some (v3) := hm5.cell 3
    have m4 : W5.cell? ⟨W2.heap.size + 1, 4, none⟩ = some (v4) := hm5.cell 4
    have m5 : W5.cell? ⟨W2.heap.size + 1, 5, none⟩ = some (v5) := hm5.cell 5
    have m6 : W5.cell? ⟨W2.heap.size + 1, 6, none⟩ = some (v6) := hm5.cell 6
    have m7 : W5.cell? ⟨W2.heap.size + 1, 7, none⟩ = some (.bool M.starts) := hm5.cell 7
    have m8 : W5.cell? ⟨W2.heap.size + 1, 8, none⟩ = some (.int .u32 M.start) := hm5.cell 8
    have m9 : W5.cell? ⟨W2.heap.size + 1, 9, none⟩ = some (v9) := hm5.cell 9
    have m10 : W5.cell? ⟨W2.heap.size + 1, 10, none⟩ = some (v10) := hm5.cell 10
    have m11 : W5.cell? ⟨W2.heap.size + 1, 11, none⟩ = some (.slice A11 M.tys.length c11) := hm5.cell 11
    have m12 : W5.cell? ⟨W2.heap.size + 1, 12, none⟩ = some (.slice A12 M.bodies.length c12) := hm5.cell 12
    have z0 : W5.cell? ⟨W.heap.size, 0, none⟩ = some (.slice none 0 0) := hx5.cell 0
    have z1 : W5.cell? ⟨W.heap.size, 1, none⟩ = some (.slice none 0 0) := hx5.cell 1
    have z2 : W5.cell? ⟨W.heap.size, 2, none⟩ = some (.slice none 0 0) := hx5.cell 2
    have z3 : W5.cell? ⟨W.heap.size, 3, none⟩ = some (.slice none 0 0) := hx5.cell 3
    have z4 : W5.cell? ⟨W.heap.size, 4, none⟩ = some (.slice none 0 0) := hx5.cell 4
    have z5 : W5.cell? ⟨W.heap.size, 5, none⟩ = some (.slice none 0 0) := hx5.cell 5
    have z6 : W5.cell? ⟨W.heap.size, 6, none⟩ = some (.slice none 0 0) := hx5.cell 6
    have z7 : W5.cell? ⟨W.heap.size, 7, none⟩ = some (.bool false) := hx5.cell 7
    have z8 : W5.cell? ⟨W.heap.size, 8, none⟩ = some (.int .u32 0) := hx5.cell 8
    have z9 : W5.cell? ⟨W.heap.size, 9, none⟩ = some (.slice none 0 0) := hx5.cell 9
    have z10 : W5.cell? ⟨W.heap.size, 10, none⟩ = some (.slice none 0 0) := hx5.cell 10
    have zf0 := hx5.frozen 0
    have zf1 := hx5.frozen 1
    have zf2 := hx5.frozen 2
    have zf3 := hx5.frozen 3
    have zf4 := hx5.frozen 4
    have zf5 := hx5.frozen 5
    have zf6 := hx5.frozen 6
    have zf7 := hx5.frozen 7
    have zf8 := hx5.frozen 8
    have zf9 := hx5.frozen 9
    have zf10 := hx5.frozen 10
    have ml := hm5.lt
    have zl := hx5.lt
    have HM5 := Lib.hid hm5
    have HX5 := Lib.hid hx5
    have HB5 := Lib.hid hB5
    clear hm5 hx5 hB5
    by_cases hlen : M.tys.length = M.bodies.length
    · have HRV := Lib.hid (show RR = ((M, fnsM M), 0) from by have h := HRR.out; simpa [hlen] using h)
      clear HRR
      have hlen2 : (M.tys.length : Int) = (M.bodies.length : Int) := by omega
      have HLE := Lib.hid hlen
      clear hlen
      go_wp2_with fail
      go_region
      go_wp2_with fail
      obtain ⟨m, hmm⟩ : ∃ m, W2.heap.size + 1 = m := ⟨_, rfl⟩
      obtain ⟨n5, hn5⟩ : ∃ n5, W5.heap.size = n5 := ⟨_, rfl⟩
      have hfl : (fnsM M).length = M.bodies.length := by simp [fnsM, HLE.out]
      rw [hmm] at HM5 hmp hmw ml
      rw [hmm]
      have hmn : m < n5 := by omega
      have hnw : W.heap.size ≤ n5 := by have := HB5.out.size; omega
      have HMW := Lib.hid (show W.heap.size < m from by omega)
      clear m0 m1 m2 m3 m4 m5 m6 m7 m8 m9 m10 m11 m12 z0 z1 z2 z3 z4 z5 z6 z7 z8 z9 z10 zf0 zf1 zf2 zf3 zf4 zf5 zf6 zf7 zf8 zf9 zf10
      go_loopw [62] (fun i wr => ∃ (j : Nat) (vf : Value), j ≤ M.bodies.length ∧ i = .int .i64 j ∧ Hid (Own kFn 75 wr n5 (fun k => W.heap.size + 1 ≤ k ∧ k < n5 ∧ k ≠ m) vf ((fnsM M).take j)) ∧ Hid (Blk wr m #[v0, v1, vf, v3, v4, v5, v6, .bool M.starts, .int .u32 M.start, v9, v10, .slice A11 M.tys.length c11, .slice A12 M.bodies.length c12] 71) ∧ Hid (W5.grownBy wr (some m))) (fun i _ => M.bodies.length - (intOf i).toNat)
      case atStart => exact ⟨0, .slice none 0 0, Nat.zero_le _, rfl, Own.nil, HM5.out, (by first | exact World.grownBy.refl _ _ | exact grown_below (bl_drew (Below.refl _ W5)) _)⟩
      case round =>
        obtain ⟨j, vf, hj, rfl, HO, HMb, HG⟩ := hrel
        have hzr := HG.out.size
        rw [hn5] at hzr
        have hbm : W.heap.size < W5.heap.size := zl
        have HX6 := Lib.hid (HX5.out.grown HG.out (fun e => by injection e with e; have := HMW.out; omega))
        have H11 := Lib.hid (Ft.step HG11.out (agr_grown HG.out (fun k hk e => by injection e with e; exact hk.1.2.1 (by rw [hmm]; exact e))))
        have H12 := Lib.hid (Ft.step HG12.out (agr_grown HG.out (fun k hk e => by injection e with e; exact hk.1.2.1 (by rw [hmm]; exact e))))
        by_cases hlt : j < M.bodies.length
        · have hlt2 : (j : Int) < (M.bodies.length : Int) := by omega
          have hjt : j < M.tys.length := by have := HLE.out; omega
          have hlt3 : (j : Int) < (M.tys.length : Int) := by omega
          obtain ⟨b, o, x, cs, hA12, hx, hk, hc⟩ := FC.at_ H12.out (show 0 < 3 by decide) j hlt
          obtain ⟨b', o', x', cs', hA11, hx', hk', hc'⟩ := FC.at_ H11.out (show 0 < 1 by decide) j hjt
          obtain ⟨rfl, hw'⟩ := (hk'.now : cs' = [.int .u32 x'] ∧ (Lit.int .u32 x').wf = true)
          obtain ⟨AL, cL, AB, cB, rfl, hlL, hFL, hlB, hFB⟩ := fn_open hk
          have hsz3 : kFn.sz = 3 := rfl
          have hsz1 : (rng .u32).sz = 1 := rfl
          have d0 := hc 0 _ rfl
          have d1 := hc 1 _ rfl
          have d2 := hc 2 _ rfl
          have d3 := hc' 0 _ rfl
          simp only [hsz3, hsz1, Nat.add_zero, Nat.mul_one] at d0 d1 d2 d3
          have hbl := World.block_lt_of_cell? _ _ d0
          have hbl' := World.block_lt_of_cell? _ _ d3
          have hmb := HMb.out
          have k2 := hmb.cell 2
          have k11 := hmb.cell 11
          have k12 := hmb.cell 12
          have HX := Lib.hid hx.out
          have HX' := Lib.hid hx'.out
          have HFL := Lib.hid hFL
          have HFB := Lib.hid hFB
          have HLL := Lib.hid hlL
          have HLB := Lib.hid hlB
          have HW' := Lib.hid hw'
          have kl := hmb.lt
          clear hx hx' hk hk' hc hc' hFL hFB hlL hlB hw' hmb
          simp only at hbl hbl'
          go_wp2_with fail
          have hzw : (wr.alloc (.cells #[.int .u32 x', .slice AL x.loc.length cL, .slice AB x.body.length cB] 75)).heap.size = wr.heap.size + 1 := World.size_alloc _ _
          have hal : Below wr.heap.size wr (wr.alloc (.cells #[.int .u32 x', .slice AL x.loc.length cL, .slice AB x.body.length cB] 75)) := (Below.refl _ _).alloc (Nat.le_refl _) _
          have HF9 := Lib.hid (Blk.new wr #[.int .u32 x', .slice AL x.loc.length cL, .slice AB x.body.length cB] 75)
          have HM9 := Lib.hid (HMb.out.alloc (.cells #[.int .u32 x', .slice AL x.loc.length cL, .slice AB x.body.length cB] 75))
          have HO9 := Lib.hid (HO.out.below hal)
          have HG9 := Lib.hid (gw_alloc HG.out (.cells #[.int .u32 x', .slice AL x.loc.length cL, .slice AB x.body.length cB] 75))
          have HFL9 := Lib.hid (fc_alloc HFL.out (.cells #[.int .u32 x', .slice AL x.loc.length cL, .slice AB x.body.length cB] 75))
          have HFB9 := Lib.hid (fc_alloc HFB.out (.cells #[.int .u32 x', .slice AL x.loc.length cL, .slice AB x.body.length cB] 75))
          clear hal d0 d1 d2 d3 k2 k11 k12 hbl hbl' kl HFL HFB H11 H12 HX6
          generalize wr.alloc (.cells #[.int .u32 x', .slice AL x.loc.length cL, .slice AB x.body.length cB] 75) = X at *
          have hne : ∀ k, vf.ownBlock = some k → n5 ≤ k := fun k hk => (Own.block HO9.out hk).1
          have hwx := HW'.out
          have hx0 : 0 ≤ x' ∧ x' ≤ 4294967295 := by have := wf_bounds hwx; simp [IntKind.min, IntKind.max, IntKind.signed, IntKind.bits] at this; omega
          have HFK := Lib.hid (show FK kFn X.drew (fun k => (W.heap.size + 1 ≤ k ∧ k < n5 ∧ k ≠ m) ∧ some k ≠ vf.ownBlock) ⟨x', x.loc, x.body⟩ [.int .u32 x', .slice AL x.loc.length cL, .slice AB x.body.length cB] from
            fn_mk (x := ⟨x', x.loc, x.body⟩) hx0
              (fc_mono (fc_drew HFL9.out) (fun k hk => ⟨⟨hk.1.1, by rw [← hn5]; exact hk.2, by rw [← hmm]; exact hk.1.2.1⟩, fun e => by have h1 := hne k e.symm; have h2 := hk.2; omega⟩)) HLL.out
              (fc_mono (fc_drew HFB9.out) (fun k hk => ⟨⟨hk.1.1, by rw [← hn5]; exact hk.2, by rw [← hmm]; exact hk.1.2.1⟩, fun e => by have h1 := hne k e.symm; have h2 := hk.2; omega⟩)) HLB.out)
          have HOD := Lib.hid (HO9.out.below (bl_drew (Below.refl X.heap.size X)))
          have hmx := HM9.out
          have k2 := hmx.cell 2
          have kl := hmx.lt
          have hfx := HF9.out
          have g0 := hfx.cell 0
          have g1 := hfx.cell 1
          have g2 := hfx.cell 2
          have gl := hfx.lt
          have HNE := Lib.hid (fun e => by have := hne m e.symm; omega : some m ≠ vf.ownBlock)
          have HMD := Lib.hid (fun Y (h : X.drew.grownBy Y vf.ownBlock) => (by
            have hb : Blk Y m #[v0, v1, vf, v3, v4, v5, v6, .bool M.starts, .int .u32 M.start, v9, v10, .slice A11 M.tys.length c11, .slice A12 M.bodies.length c12] 71 := Blk.grown (show Blk X.drew m _ _ from HM9.out) h HNE.out
            exact ⟨hb.cell 2, hb.frozen 2, hb.lt⟩ : Y.cell? ⟨m, 2, none⟩ = some vf ∧ Y.frozen? ⟨m, 2, none⟩ = false ∧ m < Y.heap.size))
          have hb9 := hbod
          have HL9 := Lib.hid (show (((fnsM M).take j).length + 1) * 56 ≤ 140737488355328 from by rw [List.length_take]; omega)
          have hbs : n5 ≤ X.drew.heap.size := by show n5 ≤ X.heap.size; omega
          have HZW := Lib.hid hzw
          clear hmx hfx hwx hzw
          go_region_law (first
            | (refine Own.append_step (d := kFn) n5 rfl (.tmp 80) (.tmp 82) 26 75 _ 56 rfl Tryz.underlying26 info_fn rfl (by decide) (by decide) vf ((fnsM M).take j) ⟨x', x.loc, x.body⟩ _ (fun k => W.heap.size + 1 ≤ k ∧ k < n5 ∧ k ≠ m) rfl rfl HFK.out HOD.out hbs HL9.out ?_; intro v1 w1 hown1 hg1 hat1; obtain ⟨A9, c9, rfl, hl9, hF9⟩ := Own.reads hown1; obtain ⟨q2, qf, ql⟩ := HMD.out _ hg1))
          all_goals
            have hfj : (fnsM M)[j]? = some ⟨x', x.loc, x.body⟩ := by
              unfold fnsM
              rw [List.getElem?_zipWith, HX'.out, HX.out]
            have htk : (fnsM M).take (j + 1) = (fnsM M).take j ++ [(⟨x', x.loc, x.body⟩ : FnD)] := by rw [List.take_add_one, hfj]; rfl
            have hlen9 : ((fnsM M).take j ++ [(⟨x', x.loc, x.body⟩ : FnD)]).length = j + 1 := by
              rw [List.length_append, List.length_take, hfl]
              simp only [List.length_cons, List.length_nil]
              omega
            rw [hlen9] at hown1
            have hbk : ∀ k, (Value.slice A9 (j + 1) c9).ownBlock = some k → n5 ≤ k := fun k hk => (Own.block hown1 hk).1
            have hoz := hown1.grown (gset w1 m 2 (.slice A9 (j + 1) c9)) (.inr (fun e => by have := hbk m e; omega)) (fun k hk e => by injection e with e; exact hk.2.2 e)
            have HOZ := Lib.hid (show Own kFn 75 (w1.setCell ⟨m, 2, none⟩ (.slice A9 (j + 1) c9)) n5 (fun k => W.heap.size + 1 ≤ k ∧ k < n5 ∧ k ≠ m) (.slice A9 (j + 1) c9) ((fnsM M).take (j + 1)) from by rw [htk]; exact hoz)
            have HMZ := Lib.hid ((Blk.grown (show Blk X.drew m _ _ from HM9.out) hg1 HNE.out).set 2 (.slice A9 (j + 1) c9))
            have HGZ := Lib.hid ((grown_jj (gw_drew HG9.out) hg1 (fun k hk => .inr (by rw [hn5]; exact hne k hk))).trans (gset w1 m 2 (.slice A9 (j + 1) c9)))
            clear hown1 hg1 hat1 hl9 hF9 q2 qf ql hfj htk hbk hoz hlen9
            go_wp2_with fail
            subst hA11 hA12
            refine ⟨?_, ?_⟩
            · (repeat apply Exists.intro)
              refine ⟨?_, rfl⟩
              exact ⟨j + 1, _, by omega, by go_num, HOZ, HMZ, HGZ⟩
            · simp [intOf]; omega
        · obtain rfl : j = M.bodies.length := by omega
          have hmx := HMb.out
          have hzx := HX6.out
          have m0 : wr.cell? ⟨m, 0, none⟩ = some (v0) := hmx.cell 0
          have m1 : wr.cell? ⟨m, 1, none⟩ = some (v1) := hmx.cell 1
          have m2 : wr.cell? ⟨m, 2, none⟩ = some (vf) := hmx.cell 2
          have m3 : wr.cell? ⟨m, 3, none⟩ = some (v3) := hmx.cell 3
          have m4 : wr.cell? ⟨m, 4, none⟩ = some (v4) := hmx.cell 4
          have m5 : wr.cell? ⟨m, 5, none⟩ = some (v5) := hmx.cell 5
          have m6 : wr.cell? ⟨m, 6, none⟩ = some (v6) := hmx.cell 6
          have m7 : wr.cell? ⟨m, 7, none⟩ = some (.bool M.starts) := hmx.cell 7
          have m8 : wr.cell? ⟨m, 8, none⟩ = some (.int .u32 M.start) := hmx.cell 8
          have m9 : wr.cell? ⟨m, 9, none⟩ = some (v9) := hmx.cell 9
          have m10 : wr.cell? ⟨m, 10, none⟩ = some (v10) := hmx.cell 10
          have z0 : wr.cell? ⟨W.heap.size, 0, none⟩ = some (.slice none 0 0) := hzx.cell 0
          have z1 : wr.cell? ⟨W.heap.size, 1, none⟩ = some (.slice none 0 0) := hzx.cell 1
          have z2 : wr.cell? ⟨W.heap.size, 2, none⟩ = some (.slice none 0 0) := hzx.cell 2
          have z3 : wr.cell? ⟨W.heap.size, 3, none⟩ = some (.slice none 0 0) := hzx.cell 3
          have z4 : wr.cell? ⟨W.heap.size, 4, none⟩ = some (.slice none 0 0) := hzx.cell 4
          have z5 : wr.cell? ⟨W.heap.size, 5, none⟩ = some (.slice none 0 0) := hzx.cell 5
          have z6 : wr.cell? ⟨W.heap.size, 6, none⟩ = some (.slice none 0 0) := hzx.cell 6
          have z7 : wr.cell? ⟨W.heap.size, 7, none⟩ = some (.bool false) := hzx.cell 7
          have z8 : wr.cell? ⟨W.heap.size, 8, none⟩ = some (.int .u32 0) := hzx.cell 8
          have z9 : wr.cell? ⟨W.heap.size, 9, none⟩ = some (.slice none 0 0) := hzx.cell 9
          have z10 : wr.cell? ⟨W.heap.size, 10, none⟩ = some (.slice none 0 0) := hzx.cell 10
          have zf0 := hzx.frozen 0
          have zf1 := hzx.frozen 1
          have zf2 := hzx.frozen 2
          have zf3 := hzx.frozen 3
          have zf4 := hzx.frozen 4
          have zf5 := hzx.frozen 5
          have zf6 := hzx.frozen 6
          have zf7 := hzx.frozen 7
          have zf8 := hzx.frozen 8
          have zf9 := hzx.frozen 9
          have zf10 := hzx.frozen 10
          have ml6 := hmx.lt
          have zl6 := hzx.lt
          rw [← hfl, List.take_length] at HO
          have HRW := Lib.hid (HR5.out.step (agr_grown HG.out (fun k hk e => by injection e with e; exact hk.2.1 (by rw [hmm]; exact e))))
          have HBW := Lib.hid (HB5.out.grown HG.out HB5.out.size (fun k hk => by injection hk with hk; have := HMW.out; omega))
          clear hmx hzx H11 H12
          obtain ⟨B0, b0, e0, _, _⟩ := HRW.out.r0
          subst e0
          obtain ⟨B1, b1, e1, _, _⟩ := HRW.out.r1
          subst e1
          obtain ⟨B3, b3, e3, _, _⟩ := HRW.out.r3
          subst e3
          obtain ⟨B4, b4, e4, _, _⟩ := HRW.out.r4
          subst e4
          obtain ⟨B5, b5, e5, _, _⟩ := HRW.out.r5
          subst e5
          obtain ⟨B6, b6, e6, _, _⟩ := HRW.out.r6
          subst e6
          obtain ⟨B9, b9, e9, _, _⟩ := HRW.out.r9
          subst e9
          obtain ⟨B10, b10, e10, _, _⟩ := HRW.out.r10
          subst e10
          obtain ⟨Bf, bf, ef, _, _⟩ := HO.out.reads
          subst ef
          go_wp2_with fail
          rw [HRV.out]
          refine bodyPost_ret (v := .tuple #[.agg #[.slice B0 M.types.length b0, .slice B1 M.imports.length b1, .slice Bf M.bodies.length bf, .slice B3 M.tables.length b3, .slice B4 M.mems.length b4, .slice B5 M.globals.length b5, .slice B6 M.exports.length b6, .bool M.starts, .int .u32 M.start, .slice B9 M.elems.length b9, .slice B10 M.datas.length b10], .int .i64 0]) (by simp [results, Tryz.results8, go_sem, z0, z1, z2, z3, z4, z5, z6, z7, z8, z9, z10, zl6]) rfl ?_
          refine decPost_ok HBW.out ?_ (HRW.out.mono (fun k hk => hk.1)) (by
            obtain ⟨A9, c9, h1, h2, h3⟩ := HO.out.reads
            rw [hfl] at h1
            exact ⟨A9, c9, h1.trans (by rw [hfl]), h2, fc_mono h3 (fun k hk => by rcases hk with h | h; exact h.1; have := HMW.out; omega)⟩)
          (repeat (first | with_reducible exact World.grownBy.refl _ _ | with_reducible refine gw_same ?_ _ _))
    · have HRV := Lib.hid (show RR = (({}, []), 109) from by have h := HRR.out; simpa [hlen] using h)
      have hlen2 : ¬ (M.tys.length : Int) = (M.bodies.length : Int) := by omega
      clear hlen
      go_wp2_with fail
      go_region
      go_wp2_with fail
      rw [HRV.out]
      refine bodyPost_ret (v := .tuple #[.agg (mod0 (.slice none 0 0)), .int .i64 109]) (by simp [results, Tryz.results8, go_sem, z0, z1, z2, z3, z4, z5, z6, z7, z8, z9, z10, zl]) rfl (decPost_bad ?_)
      (repeat (first | with_reducible exact HB5.out | (with_reducible refine bl_set ?_ _ _ _ ?_; rotate_left; omega) | with_reducible refine bl_alloc ?_ _ | with_reducible refine bl_drew ?_))
  · have HPG := Lib.hid (pgood_any W4 p q T a4 e1 sat false HC4.out (by simp [he]))
    have hx5 := HX4.out.alloc (.cells #[.pointer (some ⟨p, 0, none⟩), .bool sat] 67)
    have hx6 := HX5.out.alloc (.cells #[.pointer (some ⟨p, 0, none⟩), .bool sat] 67)
    have HE := Lib.hid (err_any _ p q T a4 e1 (HC4.out.alloc (.cells #[.pointer (some ⟨p, 0, none⟩), .bool sat] 67)))
    have y0 : (W4.alloc (.cells #[.pointer (some ⟨p, 0, none⟩), .bool sat] 67)).cell? ⟨W2.heap.size, 0, none⟩ = some (.pointer (some ⟨p, 0, none⟩)) := hx6.cell 0
    have HX6 := Lib.hid hx5
    have HB5 := Lib.hid (HB4.out.alloc HB4.out.size (.cells #[.pointer (some ⟨p, 0, none⟩), .bool sat] 67))
    have HE1 := Lib.hid he
    clear he hx6
    have z0 : (W4.alloc (.cells #[.pointer (some ⟨p, 0, none⟩), .bool sat] 67)).cell? ⟨W.heap.size, 0, none⟩ = some (.slice none 0 0) := hx5.cell 0
    have z1 : (W4.alloc (.cells #[.pointer (some ⟨p, 0, none⟩), .bool sat] 67)).cell? ⟨W.heap.size, 1, none⟩ = some (.slice none 0 0) := hx5.cell 1
    have z2 : (W4.alloc (.cells #[.pointer (some ⟨p, 0, none⟩), .bool sat] 67)).cell? ⟨W.heap.size, 2, none⟩ = some (.slice none 0 0) := hx5.cell 2
    have z3 : (W4.alloc (.cells #[.pointer (some ⟨p, 0, none⟩), .bool sat] 67)).cell? ⟨W.heap.size, 3, none⟩ = some (.slice none 0 0) := hx5.cell 3
    have z4 : (W4.alloc (.cells #[.pointer (some ⟨p, 0, none⟩), .bool sat] 67)).cell? ⟨W.heap.size, 4, none⟩ = some (.slice none 0 0) := hx5.cell 4
    have z5 : (W4.alloc (.cells #[.pointer (some ⟨p, 0, none⟩), .bool sat] 67)).cell? ⟨W.heap.size, 5, none⟩ = some (.slice none 0 0) := hx5.cell 5
    have z6 : (W4.alloc (.cells #[.pointer (some ⟨p, 0, none⟩), .bool sat] 67)).cell? ⟨W.heap.size, 6, none⟩ = some (.slice none 0 0) := hx5.cell 6
    have z7 : (W4.alloc (.cells #[.pointer (some ⟨p, 0, none⟩), .bool sat] 67)).cell? ⟨W.heap.size, 7, none⟩ = some (.bool false) := hx5.cell 7
    have z8 : (W4.alloc (.cells #[.pointer (some ⟨p, 0, none⟩), .bool sat] 67)).cell? ⟨W.heap.size, 8, none⟩ = some (.int .u32 0) := hx5.cell 8
    have z9 : (W4.alloc (.cells #[.pointer (some ⟨p, 0, none⟩), .bool sat] 67)).cell? ⟨W.heap.size, 9, none⟩ = some (.slice none 0 0) := hx5.cell 9
    have z10 : (W4.alloc (.cells #[.pointer (some ⟨p, 0, none⟩), .bool sat] 67)).cell? ⟨W.heap.size, 10, none⟩ = some (.slice none 0 0) := hx5.cell 10
    have zf0 := hx5.frozen 0
    have zf1 := hx5.frozen 1
    have zf2 := hx5.frozen 2
    have zf3 := hx5.frozen 3
    have zf4 := hx5.frozen 4
    have zf5 := hx5.frozen 5
    have zf6 := hx5.frozen 6
    have zf7 := hx5.frozen 7
    have zf8 := hx5.frozen 8
    have zf9 := hx5.frozen 9
    have zf10 := hx5.frozen 10
    have zl := hx5.lt
    clear hx5
    go_wp2_with fail
    refine HPG.out.mono ?_
    rintro E w' ⟨rfl, rfl⟩
    go_wp2_with fail
    refine HE.out.mono ?_
    rintro E w' ⟨rfl, rfl⟩
    go_wp2_with fail
    have hrv : RR = (({}, []), e1) := (by have h := HRR.out; rw [if_neg HE1.out] at h; exact h)
    rw [hrv]
    refine bodyPost_ret (v := .tuple #[.agg (mod0 (.slice none 0 0)), .int .i64 e1]) (by simp [results, Tryz.results8, go_sem, z0, z1, z2, z3, z4, z5, z6, z7, z8, z9, z10, zl]) rfl (decPost_bad ?_)
    (repeat (first | with_reducible exact HB5.out | (with_reducible refine bl_set ?_ _ _ _ ?_; rotate_left; omega) | with_reducible refine bl_alloc ?_ _ | with_reducible refine bl_drew ?_))
end Go.Proofs.YtofaiocffifhfaaGreat
end
section
namespace Go.Proofs.YtofaiocffifhfaaGreat
open Go.RowKit Go.Shelf YtofaiocffifhfaaGreatB Go.Proofs.YtofaiocffifhfaaGreatW.PrintWords
theorem Decode_any (W : World) (A : Option Addr) (c : Nat) (B : List Int) (sat : Bool) (hR : RdI W .u8 A B) (hB : Byts B) (hle : B.length ≤ c) :
    Calls Tryz.prog 8 #[.slice A B.length c, .bool sat] W (DecPost W (decM sat B)) := by
  by_cases h : 65536 < B.length ∨ B.length < 8 ∨ ¬ B.take 8 = magicL
  · exact Decode_early W A c B sat hR hB hle h
  · have h1 : B.length ≤ 65536 := Nat.le_of_not_lt (fun g => h (.inl g))
    have h2 : 8 ≤ B.length := Nat.le_of_not_lt (fun g => h (.inr (.inl g)))
    have h3 : B.take 8 = magicL := Classical.byContradiction (fun g => h (.inr (.inr g)))
    obtain ⟨T, rfl⟩ : ∃ T, B = magicL ++ T := ⟨B.drop 8, by rw [← h3, List.take_append_drop]⟩
    have hml : (magicL ++ T).length = 8 + T.length := by simp [magicL]; omega
    exact Decode_late W A c T sat hR hB (by omega) hle
end Go.Proofs.YtofaiocffifhfaaGreat
end
section
namespace Go.Proofs.YtofaiocffifhfaaGreat
open Go.RowKit YtofaiocffifhfaaGreatB
/-- A reader of bytes: from a place and a failure to what is read, the place behind, the failure. -/
abbrev Rr (α : Type) := List Int → Nat → Int → α × Nat × Int
/-- Both lists have the same below n. -/
def Agl (n : Nat) (B B' : List Int) : Prop := ∀ i, i < n → B'[i]? = B[i]?
theorem Agl.mono {n m : Nat} {B B' : List Int} (h : Agl n B B') (hm : m ≤ n) : Agl m B B' := fun i hi => h i (by omega)
theorem Agl.take {B : List Int} {k : Nat} : Agl k B (B.take k) := fun i hi => by rw [List.getElem?_take, if_pos hi]
theorem Agl.len {n : Nat} {B B' : List Int} (h : Agl n B B') (hn : n ≤ B.length) : n ≤ B'.length := by
  rcases Nat.eq_zero_or_pos n with h0 | h0
  · omega
  · have := h (n - 1) (by omega)
    rw [List.getElem?_eq_getElem (show n - 1 < B.length by omega)] at this
    have := (List.getElem?_eq_some_iff.1 this).1
    omega
/-- A reader reads from its place on, says where it ends, and fails at an end that comes too early. -/
structure Good {α : Type} (R : Rr α) : Prop where
  bad : ∀ B a e, e ≠ 0 → (R B a e).2.2 = e
  le : ∀ B a, a ≤ B.length → (R B a 0).2.2 = 0 → a ≤ (R B a 0).2.1 ∧ (R B a 0).2.1 ≤ B.length
  same : ∀ B B' a, a ≤ B.length → (R B a 0).2.2 = 0 → Agl (R B a 0).2.1 B B' → R B' a 0 = R B a 0
  cut : ∀ B a k, a ≤ B.length → (R B a 0).2.2 = 0 → a ≤ k → k < (R B a 0).2.1 → (R (B.take k) a 0).2.2 = 100
  shift : ∀ P B a, a ≤ B.length → (R B a 0).2.2 = 0 → R (P ++ B) (P.length + a) 0 = ((R B a 0).1, P.length + (R B a 0).2.1, 0)
theorem Good.congr {α : Type} {R S : Rr α} (hS : Good S) (h1 : ∀ B a e, (R B a e).2.2 = (S B a e).2.2) (h2 : ∀ B a, (S B a 0).2.2 = 0 → R B a 0 = S B a 0) : Good R where
  bad := fun B a e he => by rw [h1]; exact hS.bad B a e he
  le := fun B a ha h => by rw [h1] at h; rw [h2 B a h]; exact hS.le B a ha h
  same := fun B B' a ha h hA => by
    rw [h1] at h
    rw [h2 B a h] at hA ⊢
    have := hS.same B B' a ha h hA
    rw [h2 B' a (by rw [this]; exact h), this]
  cut := fun B a k ha h hk hk2 => by
    rw [h1] at h
    rw [h2 B a h] at hk2
    rw [h1]
    exact hS.cut B a k ha h hk hk2
  shift := fun P B a ha h => by
    rw [h1] at h
    rw [h2 B a h]
    have := hS.shift P B a ha h
    rw [h2 _ _ (by rw [this]), this]
theorem Good.bind {α β γ : Type} {R : Rr α} {S : α → Rr β} {f : α → β → γ} (hR : Good R) (hS : ∀ v, Good (S v)) :
    Good (fun B a e => (f (R B a e).1 (S (R B a e).1 B (R B a e).2.1 (R B a e).2.2).1, (S (R B a e).1 B (R B a e).2.1 (R B a e).2.2).2) : Rr γ) := by
  have hE : ∀ B a, (S (R B a 0).1 B (R B a 0).2.1 (R B a 0).2.2).2.2 = 0 → (R B a 0).2.2 = 0 := fun B a h => by
    apply Classical.byContradiction
    intro hn
    rw [(hS _).bad _ _ _ hn] at h
    exact hn h
  refine ⟨fun B a e he => ?_, fun B a ha h => ?_, fun B B' a ha h hA => ?_, fun B a k ha h hk hk2 => ?_, fun P B a ha h => ?_⟩
  · have := hR.bad B a e he
    try simp only
    rw [(hS _).bad _ _ _ (by rw [this]; exact he), this]
  · try simp only at h ⊢
    have h0 := hE _ _ h
    have l1 := hR.le B a ha h0
    rw [h0] at h ⊢
    have l2 := (hS _).le _ _ l1.2 h
    omega
  · try simp only at h hA ⊢
    have h0 := hE _ _ h
    have l1 := hR.le B a ha h0
    rw [h0] at h hA ⊢
    have l2 := (hS _).le _ _ l1.2 h
    have s1 := hR.same B B' a ha h0 (hA.mono l2.1)
    rw [s1, h0, (hS _).same B B' _ l1.2 h hA]
  · try simp only at h hk2 ⊢
    have h0 := hE _ _ h
    have l1 := hR.le B a ha h0
    rw [h0] at h hk2
    rcases Nat.lt_or_ge k (R B a 0).2.1 with hlt | hge
    · have c1 := hR.cut B a k ha h0 hk hlt
      rw [c1]
      exact (hS _).bad _ _ _ (by decide)
    · rw [hR.same B (B.take k) a ha h0 (Agl.take.mono hge), h0]
      exact (hS _).cut B _ k l1.2 h hge hk2
  · try simp only at h ⊢
    have h0 := hE _ _ h
    have l1 := hR.le B a ha h0
    rw [h0] at h ⊢
    have s1 := hR.shift P B a ha h0
    have s2 := (hS _).shift P B _ l1.2 h
    rw [s1]
    try simp only
    rw [s2]
theorem Good.map {α β : Type} {R : Rr α} (hR : Good R) (f : α → β) : Good (fun B a e => (f (R B a e).1, (R B a e).2) : Rr β) where
  bad := hR.bad
  le := hR.le
  same := fun B B' a ha h hA => by rw [hR.same B B' a ha h hA]
  cut := hR.cut
  shift := fun P B a ha h => by rw [hR.shift P B a ha h]
theorem Good.pure {α : Type} (v : α) : Good (fun _ a e => (v, a, e)) where
  bad := fun _ _ _ _ => rfl
  le := fun _ _ ha _ => ⟨Nat.le_refl _, ha⟩
  same := fun _ _ _ _ _ _ => rfl
  cut := fun _ _ _ _ _ h1 h2 => by simp only at h2; omega
  shift := fun _ _ _ _ _ => rfl
/-- A reader that fails. -/
theorem Good.fail {α : Type} (v : α) (c : Int) (hc : c ≠ 0) : Good (fun _ a e => (v, a, if e = 0 then c else e)) where
  bad := fun _ _ _ he => by simp [he]
  le := fun _ _ _ h => absurd h (by simpa using hc)
  same := fun _ _ _ _ h => absurd h (by simpa using hc)
  cut := fun _ _ _ _ h => absurd h (by simpa using hc)
  shift := fun _ _ _ _ h => absurd h (by simpa using hc)
/-- What the byte that comes next decides; it is read. -/
def byteR : Rr Int := fun B a e => if e = 0 then (match B[a]? with | some x => (x, a + 1, 0) | none => (0, a, 100)) else (0, a, e)
theorem byteR_some {B : List Int} {a : Nat} {x : Int} (h : B[a]? = some x) : byteR B a 0 = (x, a + 1, 0) := by simp [byteR, h]
theorem byteR_none {B : List Int} {a : Nat} (h : B[a]? = none) : byteR B a 0 = (0, a, 100) := by simp [byteR, h]
theorem good_byte : Good byteR := by
  have key : ∀ B a, (byteR B a 0).2.2 = 0 → ∃ x, B[a]? = some x := fun B a h => by
    cases hx : B[a]? with
    | none => rw [byteR_none hx] at h; exact absurd h (by simp)
    | some x => exact ⟨x, rfl⟩
  refine ⟨fun B a e he => by simp [byteR, he], fun B a ha h => ?_, fun B B' a ha h hA => ?_, fun B a k ha h hk hk2 => ?_, fun P B a ha h => ?_⟩
  · obtain ⟨x, hx⟩ := key B a h
    rw [byteR_some hx]
    have := (List.getElem?_eq_some_iff.1 hx).1
    try simp only
    omega
  · obtain ⟨x, hx⟩ := key B a h
    rw [byteR_some hx] at hA ⊢
    exact byteR_some (by rw [hA a (by simp)]; exact hx)
  · obtain ⟨x, hx⟩ := key B a h
    rw [byteR_some hx] at hk2
    try simp only at hk2
    obtain rfl : k = a := by omega
    rw [byteR_none (by rw [List.getElem?_take, if_neg (by omega)])]
  · obtain ⟨x, hx⟩ := key B a h
    rw [byteR_some hx, byteR_some (x := x) (by rw [List.getElem?_append_right (by omega), Nat.add_sub_cancel_left]; exact hx)]
    rfl
/-- What the byte that comes next decides; it is not read. -/
def lookR {α : Type} [Inhabited α] (T : Int → Rr α) : Rr α := fun B a e => if e = 0 then (match B[a]? with | some b => T b B a 0 | none => (default, a, 100)) else (default, a, e)
theorem Good.look {α : Type} [Inhabited α] (T : Int → Rr α) (hT : ∀ b, Good (T b)) (hp : ∀ b B a, B[a]? = some b → (T b B a 0).2.2 = 0 → a < (T b B a 0).2.1) : Good (lookR T) := by
  have h0 : ∀ B a, B[a]? = none → (lookR T B a 0).2.2 = 100 := fun B a h => by simp [lookR, h]
  have h1 : ∀ B a b, B[a]? = some b → lookR T B a 0 = T b B a 0 := fun B a b h => by simp [lookR, h]
  have key : ∀ B a, (lookR T B a 0).2.2 = 0 → ∃ x, B[a]? = some x := fun B a h => by
    cases hx : B[a]? with
    | none => rw [h0 B a hx] at h; exact absurd h (by simp)
    | some x => exact ⟨x, rfl⟩
  refine ⟨fun B a e he => by simp [lookR, he], fun B a ha h => ?_, fun B B' a ha h hA => ?_, fun B a k ha h hk hk2 => ?_, fun P B a ha h => ?_⟩
  · obtain ⟨x, hx⟩ := key B a h
    rw [h1 B a x hx] at h ⊢
    exact (hT x).le B a ha h
  · obtain ⟨x, hx⟩ := key B a h
    rw [h1 B a x hx] at h hA ⊢
    have hl := hp x B a hx h
    rw [h1 B' a x (by rw [hA a hl]; exact hx)]
    exact (hT x).same B B' a ha h hA
  · obtain ⟨x, hx⟩ := key B a h
    rw [h1 B a x hx] at h hk2
    rcases Nat.lt_or_ge a k with hlt | hge
    · rw [h1 (B.take k) a x (by rw [List.getElem?_take, if_pos hlt]; exact hx)]
      exact (hT x).cut B a k ha h hk hk2
    · exact h0 _ _ (by rw [List.getElem?_take, if_neg (by omega)])
  · obtain ⟨x, hx⟩ := key B a h
    rw [h1 B a x hx] at h ⊢
    rw [h1 (P ++ B) (P.length + a) x (by rw [List.getElem?_append_right (by omega), Nat.add_sub_cancel_left]; exact hx)]
    exact (hT x).shift P B a ha h
theorem Good.ite {α : Type} {R S : Rr α} {c : Prop} [Decidable c] (hR : Good R) (hS : Good S) : Good (fun B a e => if c then R B a e else S B a e) := by
  by_cases h : c
  · simpa [h] using hR
  · simpa [h] using hS
/-- A number read by rdOf: enough is what its reader says of the bytes that are left. -/
theorem good_rdOf {M : List Int → Nat → Except Int (Nat × Nat)} (hle : ∀ B a n nx, a ≤ B.length → M B a = .ok (n, nx) → a ≤ nx ∧ nx ≤ B.length)
    (hs : ∀ B B' a n nx, a ≤ B.length → M B a = .ok (n, nx) → Agl nx B B' → M B' a = .ok (n, nx)) (hc : ∀ B a k n nx, a ≤ B.length → M B a = .ok (n, nx) → a ≤ k → k < nx → M (B.take k) a = .error 100)
    (hh : ∀ P B a n nx, a ≤ B.length → M B a = .ok (n, nx) → M (P ++ B) (P.length + a) = .ok (n, P.length + nx)) (hz : ∀ B a, M B a ≠ .error 0) : Good (fun B a e => rdOf (M B a) a e) := by
  have key : ∀ B a, (rdOf (M B a) a 0).2.2 = 0 → ∃ n nx, M B a = .ok (n, nx) := fun B a h => by
    cases hm : M B a with
    | error e =>
      rw [hm] at h
      simp [rdOf, numE] at h
      exact absurd (h ▸ hm) (hz B a)
    | ok y => exact ⟨y.1, y.2, rfl⟩
  have ok : ∀ B a n nx, M B a = .ok (n, nx) → rdOf (M B a) a 0 = ((n : Int), nx, 0) := fun B a n nx h => by rw [h]; rfl
  refine ⟨fun B a e he => by simp [rdOf, he], fun B a ha h => ?_, fun B B' a ha h hA => ?_, fun B a k ha h hk hk2 => ?_, fun P B a ha h => ?_⟩
  · obtain ⟨n, nx, hm⟩ := key B a h
    try simp only
    rw [ok B a n nx hm]
    exact hle B a n nx ha hm
  · obtain ⟨n, nx, hm⟩ := key B a h
    try simp only at hA ⊢
    rw [ok B a n nx hm] at hA ⊢
    exact ok B' a n nx (hs B B' a n nx ha hm hA)
  · obtain ⟨n, nx, hm⟩ := key B a h
    try simp only at hk2 ⊢
    rw [ok B a n nx hm] at hk2
    rw [hc B a k n nx ha hm hk hk2]
    rfl
  · obtain ⟨n, nx, hm⟩ := key B a h
    try simp only
    rw [ok B a n nx hm, ok _ _ n (P.length + nx) (hh P B a n nx ha hm)]
-- Numbers of groups.
theorem lebG_same {lst : Int → Int → Bool} : ∀ (R R' : List Int) (l m h c : Nat), lebG lst R l = .ok (m, h, c) → (∀ i, i < c → R'[i]? = R[i]?) → lebG lst R' l = .ok (m, h, c)
  | [], R', l, m, h, c, e, _ => by simp [lebG] at e
  | x :: r, R', l, m, h, c, e, hA => by
    have hc := (lebG_c _ _ _ _ _ e).1
    match R', hA 0 (by omega) with
    | y :: r', hy =>
      obtain rfl : y = x := by simpa using hy
      rw [lebG] at e ⊢
      split at e
      next c1 =>
        rw [if_pos c1]
        split at e
        next c2 => rw [if_pos c2]; exact e
        next => cases e
      next c1 =>
        rw [if_neg c1]
        split at e
        next => cases e
        next c2 =>
        rw [if_neg c2]
        cases hr : lebG lst r (l - 7) with
        | error e' => rw [hr] at e; cases e
        | ok z =>
          obtain ⟨m', h', c'⟩ := z
          rw [hr] at e
          simp at e
          rw [lebG_same r r' (l - 7) m' h' c' hr (fun i hi => by simpa using hA (i + 1) (by omega))]
          simp [e]
    | [], hy => simp at hy
theorem lebG_cut {lst : Int → Int → Bool} : ∀ (R : List Int) (l m h c k : Nat), lebG lst R l = .ok (m, h, c) → k < c → lebG lst (R.take k) l = .error 100
  | [], l, m, h, c, k, e, _ => by simp [lebG] at e
  | x :: r, l, m, h, c, 0, e, _ => rfl
  | x :: r, l, m, h, c, k + 1, e, hk => by
    rw [List.take_succ_cons]
    rw [lebG] at e ⊢
    split at e
    next c1 =>
      split at e
      next c2 => simp at e; omega
      next => cases e
    next c1 =>
      rw [if_neg c1]
      split at e
      next => cases e
      next c2 =>
      rw [if_neg c2]
      cases hr : lebG lst r (l - 7) with
      | error e' => rw [hr] at e; cases e
      | ok z =>
        obtain ⟨m', h', c'⟩ := z
        rw [hr] at e
        simp at e
        rw [lebG_cut r (l - 7) m' h' c' k hr (by omega)]
theorem lebG_err {lst : Int → Int → Bool} : ∀ (R : List Int) (l : Nat), lebG lst R l ≠ .error 0
  | [], l => by simp [lebG]
  | x :: r, l => by
    rw [lebG]
    split
    · split <;> simp
    · split
      · simp
      · have := lebG_err (lst := lst) r (l - 7)
        cases hr : lebG lst r (l - 7) with
        | error e' => rw [hr] at this; exact this
        | ok z => simp
/-- A number of groups, whatever is made of its parts. -/
theorem good_leb {M : List Int → Nat → Except Int (Nat × Nat)} (lst : Int → Int → Bool) (l : Nat) (g : Nat → Nat → Except Int Nat) (hg : ∀ m h, g m h ≠ .error 0)
    (hM : ∀ B a, M B a = match lebG lst (B.drop a) l with | .error e => .error e | .ok (m, h, c) => (match g m h with | .error e => .error e | .ok n => .ok (n, a + c))) : Good (fun B a e => rdOf (M B a) a e) := by
  have key : ∀ B a n nx, M B a = .ok (n, nx) → ∃ m h c, lebG lst (B.drop a) l = .ok (m, h, c) ∧ g m h = .ok n ∧ nx = a + c := fun B a n nx hh => by
    rw [hM] at hh
    cases hr : lebG lst (B.drop a) l with
    | error e => rw [hr] at hh; cases hh
    | ok z =>
      obtain ⟨m, h, c⟩ := z
      rw [hr] at hh
      try simp only at hh
      cases hgm : g m h with
      | error e => rw [hgm] at hh; cases hh
      | ok y => rw [hgm] at hh; simp at hh; exact ⟨m, h, c, rfl, by rw [hgm, hh.1], hh.2.symm⟩
  have back : ∀ B a m h c n, lebG lst (B.drop a) l = .ok (m, h, c) → g m h = .ok n → M B a = .ok (n, a + c) := fun B a m h c n h1 h2 => by rw [hM, h1]; simp only [h2]
  refine good_rdOf (fun B a n nx ha hh => ?_) (fun B B' a n nx ha hh hA => ?_) (fun B a k n nx ha hh hk hk2 => ?_) (fun P B a n nx ha hh => ?_) (fun B a hh => ?_)
  · obtain ⟨m, h, c, h1, h2, rfl⟩ := key B a n nx hh
    have := lebG_c _ _ _ _ _ h1
    rw [List.length_drop] at this
    omega
  · obtain ⟨m, h, c, h1, h2, rfl⟩ := key B a n nx hh
    exact back B' a m h c n (lebG_same _ _ _ _ _ _ h1 (fun i hi => by rw [List.getElem?_drop, List.getElem?_drop]; exact hA _ (by omega))) h2
  · obtain ⟨m, h, c, h1, h2, rfl⟩ := key B a n nx hh
    rw [hM, List.drop_take, lebG_cut _ _ _ _ _ (k - a) h1 (by omega)]
  · obtain ⟨m, h, c, h1, h2, rfl⟩ := key B a n nx hh
    have := back (P ++ B) (P.length + a) m h c n (by rw [List.drop_append, List.drop_eq_nil_of_le (by omega), Nat.add_sub_cancel_left, List.nil_append]; exact h1) h2
    rw [this, Nat.add_assoc]
  · rw [hM] at hh
    cases hr : lebG lst (B.drop a) l with
    | error e => rw [hr] at hh; exact lebG_err _ _ (hr.trans (by simpa using hh))
    | ok z =>
      obtain ⟨m, h, c⟩ := z
      rw [hr] at hh
      try simp only at hh
      cases hgm : g m h with
      | error e => rw [hgm] at hh; exact hg m h (hgm.trans (by simpa using hh))
      | ok y => rw [hgm] at hh; cases hh
theorem Good.of0 {α : Type} {R S : Rr α} (hS : Good S) (hb : ∀ B a e, e ≠ 0 → (R B a e).2.2 = e) (h0 : ∀ B a, R B a 0 = S B a 0) : Good R :=
  hS.congr (fun B a e => by by_cases he : e = 0; · rw [he, h0]
                            · rw [hb B a e he, hS.bad B a e he]) (fun B a _ => h0 B a)
theorem good_u32 : Good (fun B a e => rdOf (u32M B a) a e) := good_leb lstU 32 (fun m _ => .ok (m % 18446744073709551616)) (fun _ _ h => by cases h) (fun B a => by
  unfold u32M uintM; cases lebG lstU (B.drop a) 32 <;> rfl)
theorem good_s32 : Good (fun B a e => rdOf (s32M B a) a e) := good_leb lstS 32 (fun m h => .ok (sgnV m h % 4294967296)) (fun _ _ h => by cases h) (fun B a => by
  unfold s32M sintM; cases lebG lstS (B.drop a) 32 <;> rfl)
theorem good_s64 : Good (fun B a e => rdOf (s64M B a) a e) := good_leb lstS 64 (fun m h => .ok (sgnV m h)) (fun _ _ h => by cases h) (fun B a => by
  unfold s64M sintM; cases lebG lstS (B.drop a) 64 <;> rfl)
theorem good_count : Good (fun B a e => rdOf (countM B a) a e) := good_leb lstU 32 (fun m _ => if m % 18446744073709551616 > 4096 then .error 3 else .ok (m % 18446744073709551616)) (fun m _ h => by split at h <;> cases h) (fun B a => by
  unfold countM u32M uintM
  cases lebG lstU (B.drop a) 32 with
  | error e => rfl
  | ok y => simp only; split <;> rfl)
theorem good_fix (n : Nat) : Good (fun B a e => rdOf (fixM B a n) a e) := by
  have key : ∀ B a v nx, fixM B a n = .ok (v, nx) → a + n ≤ B.length ∧ v = leN ((B.drop a).take n) ∧ nx = a + n := fun B a v nx h => by
    unfold fixM at h
    split at h
    next c => cases h; exact ⟨c, rfl, rfl⟩
    next => cases h
  refine good_rdOf (fun B a v nx ha hh => ?_) (fun B B' a v nx ha hh hA => ?_) (fun B a k v nx ha hh hk hk2 => ?_) (fun P B a v nx ha hh => ?_) (fun B a hh => ?_)
  · have := key B a v nx hh; omega
  · obtain ⟨h1, rfl, rfl⟩ := key B a v nx hh
    have hl := hA.len h1
    unfold fixM
    rw [if_pos hl]
    have : (B'.drop a).take n = (B.drop a).take n := by
      apply List.ext_getElem?
      intro i
      simp only [List.getElem?_take, List.getElem?_drop]
      split
      · exact hA _ (by omega)
      · rfl
    rw [this]
  · obtain ⟨h1, rfl, rfl⟩ := key B a v nx hh
    unfold fixM
    rw [if_neg (by rw [List.length_take]; omega)]
  · obtain ⟨h1, rfl, rfl⟩ := key B a v nx hh
    unfold fixM
    rw [if_pos (by rw [List.length_append]; omega), List.drop_append, List.drop_eq_nil_of_le (by omega), Nat.add_sub_cancel_left, List.nil_append, Nat.add_assoc]
  · unfold fixM at hh
    split at hh <;> cases hh
theorem good_res : Good (fun B a e => rdOf (resM B a) a e) := by
  have key : ∀ B a v nx, resM B a = .ok (v, nx) → ∃ x, B[a]? = some x ∧ nx = a + 1 := fun B a v nx h => by
    unfold resM amongM at h
    cases hx : B[a]? with
    | none => rw [hx] at h; cases h
    | some x =>
      rw [hx] at h
      try simp only at h
      split at h
      · cases h
      next h' => split at h' <;> cases h'; cases h; exact ⟨x, rfl, rfl⟩
  have cong : ∀ B B' a, B'[a]? = B[a]? → resM B' a = resM B a := fun B B' a h => by unfold resM amongM; rw [h]
  refine good_rdOf (fun B a v nx ha hh => ?_) (fun B B' a v nx ha hh hA => ?_) (fun B a k v nx ha hh hk hk2 => ?_) (fun P B a v nx ha hh => ?_) (fun B a hh => ?_)
  · obtain ⟨x, hx, rfl⟩ := key B a v nx hh
    have := (List.getElem?_eq_some_iff.1 hx).1
    omega
  · obtain ⟨x, hx, rfl⟩ := key B a v nx hh
    rw [cong B B' a (hA a (by omega))]; exact hh
  · obtain ⟨x, hx, rfl⟩ := key B a v nx hh
    unfold resM amongM
    rw [List.getElem?_take, if_neg (by omega)]
  · obtain ⟨x, hx, rfl⟩ := key B a v nx hh
    have e : (P ++ B)[P.length + a]? = B[a]? := by rw [List.getElem?_append_right (by omega), Nat.add_sub_cancel_left]
    unfold resM amongM at hh ⊢
    rw [e]
    rw [hx] at hh ⊢
    try simp only at hh ⊢
    split at hh
    · cases hh
    next h' =>
      split at h'
      next c => rw [if_pos c]; cases h'; cases hh; rfl
      next => cases h'
  · unfold resM amongM at hh
    cases hx : B[a]? with
    | none => rw [hx] at hh; cases hh
    | some x =>
      rw [hx] at hh
      try simp only at hh
      split at hh
      next h' => split at h' <;> cases h'; cases hh
      next => cases hh
def zeroR : Rr Unit := fun B a e => ((), zeroM B a e)
theorem good_zero : Good zeroR := by
  refine (Good.bind (f := fun _ _ => ()) good_byte (S := fun x => fun B a e => if x = 0 then ((), a, e) else ((), a, if e = 0 then 107 else e)) (fun x => Good.ite (Good.pure ()) (Good.fail () 107 (by decide)))).congr (fun B a e => ?_) (fun B a h => ?_)
  · by_cases he : e = 0
    · subst he
      cases hx : B[a]? with
      | none => rw [byteR_none hx]; simp [zeroR, zeroM, hx]
      | some x => rw [byteR_some hx]; simp only [zeroR, zeroM, hx]; by_cases h : x = 0 <;> simp [h]
    · rw [show byteR B a e = (0, a, e) from by simp [byteR, he]]
      simp [zeroR, zeroM, he]
  · cases hx : B[a]? with
    | none => rw [byteR_none hx] at h; simp at h
    | some x =>
      rw [byteR_some hx] at h ⊢
      by_cases h2 : x = 0
      · simp [zeroR, zeroM, hx, h2]
      · simp [h2] at h
theorem good_lab : ∀ (k : Nat) (acc : List Int), Good (fun B a e => labM B k a e acc)
  | 0, acc => Good.pure acc
  | k + 1, acc => by
    refine (Good.bind (f := fun _ y => y) good_u32 (S := fun v => fun B a e => labM B k a e (acc ++ [v])) (fun v => good_lab k _)).of0 (fun B a e he => ?_) (fun B a => ?_)
    · rw [labM_bad _ _ _ _ _ he]
    · rw [labM, if_pos rfl]
theorem good_labels : Good (fun B a e => labelsM B a e) := Good.bind (f := fun _ y => y) good_count (S := fun (n : Int) => fun B a e => labM B n.toNat a e []) (fun n => good_lab _ _)
def secondR : Rr Int := fun B a e => secondM B a e
theorem good_second : Good secondR := by
  refine (Good.bind (f := fun _ y => y) good_u32 (S := fun n => fun B a e => if n > 7 then (64512 + n, a, if e = 0 then 108 else e) else (64512 + n, a, e)) (fun n => Good.ite (Good.fail _ 108 (by decide)) (Good.pure _))).congr (fun B a e => ?_) (fun B a h => ?_)
  · simp only [secondR, secondM]
    split <;> rfl
  · simp only [secondR, secondM] at h ⊢
    split <;> rfl
def opT (sat : Bool) (deep : Nat) (b : Int) : Rr Int := fun B a e =>
  if (immM b).1 = 1 ∧ 64 ≤ deep then (0, a, if e = 0 then 3 else e) else if b = 252 ∧ sat = true then ((secondR B (byteR B a e).2.1 (byteR B a e).2.2).1, (secondR B (byteR B a e).2.1 (byteR B a e).2.2).2)
  else if (immM b).2 = true then byteR B a e else (0, a, if e = 0 then 108 else e)
theorem good_opT (sat : Bool) (deep : Nat) (b : Int) : Good (opT sat deep b) :=
  Good.ite (Good.fail _ 3 (by decide)) (Good.ite (Good.bind (f := fun _ y => y) good_byte (S := fun _ => secondR) (fun _ => good_second)) (Good.ite good_byte (Good.fail _ 108 (by decide))))
theorem opT_gt (sat : Bool) (deep : Nat) (b : Int) (B : List Int) (a : Nat) (hx : B[a]? = some b) (h : (opT sat deep b B a 0).2.2 = 0) : a < (opT sat deep b B a 0).2.1 := by
  have hl := (List.getElem?_eq_some_iff.1 hx).1
  unfold opT at h ⊢
  rw [byteR_some hx] at h ⊢
  split at h
  next => exact absurd h (by simp)
  next c =>
  rw [if_neg c]
  split at h
  next c1 =>
    rw [if_pos c1]
    have := good_second.le B (a + 1) (by omega) h
    try simp only
    omega
  next c1 =>
  rw [if_neg c1]
  split at h
  next c2 => rw [if_pos c2]; simp
  next => exact absurd h (by simp)
/-- An opcode, unless it lies too deep. -/
def opR (sat : Bool) (deep : Nat) : Rr Int := fun B a e => opM sat B a (deepE B deep a e)
theorem opR_bad (sat : Bool) (deep : Nat) (B : List Int) (a : Nat) (e : Int) (he : e ≠ 0) : opR sat deep B a e = (0, a, e) := by
  simp [opR, opM, deepE, peekM, he]
theorem opR_look (sat : Bool) (deep : Nat) (B : List Int) (a : Nat) : opR sat deep B a 0 = lookR (opT sat deep) B a 0 := by
  cases hx : B[a]? with
  | none => simp [opR, opM, deepE, peekM, hx, lookR]
  | some b =>
    have hp0 : peekM B a 0 = (b, 0) := by simp [peekM, hx]
    have hp3 : peekM B a 3 = (0, 3) := by simp [peekM]
    have hd : deepE B deep a 0 = if (immM b).1 = 1 ∧ 64 ≤ deep then 3 else 0 := by simp only [deepE, hp0]; by_cases c : (immM b).1 = 1 ∧ 64 ≤ deep <;> simp [c]
    rw [show lookR (opT sat deep) B a 0 = opT sat deep b B a 0 from by simp [lookR, hx], show opR sat deep B a 0 = opM sat B a (deepE B deep a 0) from rfl, hd]
    unfold opT
    by_cases c : (immM b).1 = 1 ∧ 64 ≤ deep
    · rw [if_pos c, if_pos c]; simp [opM, hp3]
    · rw [if_neg c, if_neg c, byteR_some hx]; simp only [opM, hp0, if_true]; rfl
theorem good_op (sat : Bool) (deep : Nat) : Good (opR sat deep) :=
  (Good.look (opT sat deep) (good_opT sat deep) (fun b B a => opT_gt sat deep b B a)).of0 (fun B a e he => by rw [opR_bad _ _ _ _ _ he]) (fun B a => opR_look sat deep B a)
theorem op_gt {sat : Bool} {deep : Nat} {B : List Int} {a : Nat} (h : (opR sat deep B a 0).2.2 = 0) : a < (opR sat deep B a 0).2.1 := by
  rw [opR_look] at h ⊢
  cases hx : B[a]? with
  | none => simp [lookR, hx] at h
  | some b =>
    simp only [lookR, hx, if_true] at h ⊢
    exact opT_gt sat deep b B a hx h
/-- A block's reader: what nested blocks are read by. -/
abbrev Bk := List Int → Bool → Nat → Int → List Ins × Int × Nat × Int
def bkR (bk : Bk) (m : Bool) : Rr (List Ins × Int) := fun B a e => (((bk B m a e).1, (bk B m a e).2.1), (bk B m a e).2.2.1, (bk B m a e).2.2.2)
def bodyR (bk : Bk) (op i : Int) : Rr Ins := fun B a e => if e = 0 then bodyM (bk B) B op i a else (leafI op, a, e)
theorem good_body (bk : Bk) (hbk : ∀ m, Good (bkR bk m)) (op i : Int) : Good (bodyR bk op i) := by
  have hb : ∀ (B : List Int) (a : Nat) (e : Int), e ≠ 0 → (bodyR bk op i B a e).2.2 = e := fun B a e he => by simp [bodyR, he]
  by_cases h1 : i = 1
  · refine (Good.bind (f := fun _ y => y) good_res (S := fun t => fun B a e =>
      ((if (bkR bk (op == 4) B a e).1.2 = 5 then ((Ins.mk op t 0 0 0 [] (bkR bk (op == 4) B a e).1.1 (bkR bk false B (bkR bk (op == 4) B a e).2.1 (bkR bk (op == 4) B a e).2.2).1.1 true), (bkR bk false B (bkR bk (op == 4) B a e).2.1 (bkR bk (op == 4) B a e).2.2).2)
        else ((Ins.mk op t 0 0 0 [] (bkR bk (op == 4) B a e).1.1 [] false), (bkR bk (op == 4) B a e).2)) : Ins × Nat × Int))
      (fun t => (Good.bind (f := fun _ y => y) (hbk (op == 4)) (S := fun v => fun B a e => if v.2 = 5 then (Ins.mk op t 0 0 0 [] v.1 (bkR bk false B a e).1.1 true, (bkR bk false B a e).2) else (Ins.mk op t 0 0 0 [] v.1 [] false, a, e))
        (fun v => Good.ite ((hbk false).map (fun y => Ins.mk op t 0 0 0 [] v.1 y.1 true)) (Good.pure (Ins.mk op t 0 0 0 [] v.1 [] false)))).congr (fun B a e => rfl) (fun B a _ => rfl))).of0 hb (fun B a => ?_)
    rw [show bodyR bk op i B a 0 = (if (bkR bk (op == 4) B (rdOf (resM B a) a 0).2.1 (rdOf (resM B a) a 0).2.2).1.2 = 5 then
        ((Ins.mk op (rdOf (resM B a) a 0).1 0 0 0 [] (bkR bk (op == 4) B (rdOf (resM B a) a 0).2.1 (rdOf (resM B a) a 0).2.2).1.1 (bkR bk false B (bkR bk (op == 4) B (rdOf (resM B a) a 0).2.1 (rdOf (resM B a) a 0).2.2).2.1 (bkR bk (op == 4) B (rdOf (resM B a) a 0).2.1 (rdOf (resM B a) a 0).2.2).2.2).1.1 true), (bkR bk false B (bkR bk (op == 4) B (rdOf (resM B a) a 0).2.1 (rdOf (resM B a) a 0).2.2).2.1 (bkR bk (op == 4) B (rdOf (resM B a) a 0).2.1 (rdOf (resM B a) a 0).2.2).2.2).2)
        else ((Ins.mk op (rdOf (resM B a) a 0).1 0 0 0 [] (bkR bk (op == 4) B (rdOf (resM B a) a 0).2.1 (rdOf (resM B a) a 0).2.2).1.1 [] false), (bkR bk (op == 4) B (rdOf (resM B a) a 0).2.1 (rdOf (resM B a) a 0).2.2).2)) from by
      unfold bodyR bodyM
      rw [if_pos rfl, if_pos h1]
      rfl]
  · have hz : ∀ (B : List Int) (a : Nat), bodyR bk op i B a 0 = bodyM (bk B) B op i a := fun B a => by simp [bodyR]
    by_cases c2 : i = 2 ∨ i = 4
    · refine (good_u32.map (fun v => Ins.mk op 0 v 0 0 [] [] [] false)).of0 hb (fun B a => ?_)
      rw [hz]; unfold bodyM; rw [if_neg h1, if_pos c2]
    by_cases c3 : i = 3
    · refine (Good.bind (f := fun _ y => y) good_labels (S := fun l => fun B a e => (Ins.mk op 0 (rdOf (u32M B a) a e).1 0 0 l [] [] false, (rdOf (u32M B a) a e).2)) (fun l => good_u32.map (fun w => Ins.mk op 0 w 0 0 l [] [] false))).of0 hb (fun B a => ?_)
      rw [hz]; unfold bodyM; rw [if_neg h1, if_neg c2, if_pos c3]
    by_cases c5 : i = 5
    · refine (Good.bind (f := fun v _ => Ins.mk op 0 v 0 0 [] [] [] false) good_u32 (S := fun _ => zeroR) (fun _ => good_zero)).of0 hb (fun B a => ?_)
      rw [hz]; unfold bodyM; rw [if_neg h1, if_neg c2, if_neg c3, if_pos c5]; rfl
    by_cases c6 : i = 6
    · refine (Good.bind (f := fun v u => Ins.mk op 0 v u 0 [] [] [] false) good_u32 (S := fun _ => fun B a e => rdOf (u32M B a) a e) (fun _ => good_u32)).of0 hb (fun B a => ?_)
      rw [hz]; unfold bodyM; rw [if_neg h1, if_neg c2, if_neg c3, if_neg c5, if_pos c6]
    by_cases c7 : i = 7
    · refine (good_zero.map (fun _ => leafI op)).of0 hb (fun B a => ?_)
      rw [hz]; unfold bodyM; rw [if_neg h1, if_neg c2, if_neg c3, if_neg c5, if_neg c6, if_pos c7]; rfl
    by_cases c8 : i = 8
    · refine (good_s32.map (fun v => Ins.mk op 0 0 0 v [] [] [] false)).of0 hb (fun B a => ?_)
      rw [hz]; unfold bodyM; rw [if_neg h1, if_neg c2, if_neg c3, if_neg c5, if_neg c6, if_neg c7, if_pos c8]
    by_cases c9 : i = 9
    · refine (good_s64.map (fun v => Ins.mk op 0 0 0 v [] [] [] false)).of0 hb (fun B a => ?_)
      rw [hz]; unfold bodyM; rw [if_neg h1, if_neg c2, if_neg c3, if_neg c5, if_neg c6, if_neg c7, if_neg c8, if_pos c9]
    by_cases c10 : i = 10
    · refine ((good_fix 4).map (fun v => Ins.mk op 0 0 0 v [] [] [] false)).of0 hb (fun B a => ?_)
      rw [hz]; unfold bodyM; rw [if_neg h1, if_neg c2, if_neg c3, if_neg c5, if_neg c6, if_neg c7, if_neg c8, if_neg c9, if_pos c10]
    by_cases c11 : i = 11
    · refine ((good_fix 8).map (fun v => Ins.mk op 0 0 0 v [] [] [] false)).of0 hb (fun B a => ?_)
      rw [hz]; unfold bodyM; rw [if_neg h1, if_neg c2, if_neg c3, if_neg c5, if_neg c6, if_neg c7, if_neg c8, if_neg c9, if_neg c10, if_pos c11]
    · refine (Good.pure (leafI op)).of0 hb (fun B a => ?_)
      rw [hz]; unfold bodyM; rw [if_neg h1, if_neg c2, if_neg c3, if_neg c5, if_neg c6, if_neg c7, if_neg c8, if_neg c9, if_neg c10, if_neg c11]
def insR (bk : Bk) (sat : Bool) (deep : Nat) : Rr Ins := fun B a e => insM (bk B) sat B deep a e
theorem ins_parts (bk : Bk) (sat : Bool) (deep : Nat) (B : List Int) (a : Nat) (e : Int) : (insR bk sat deep B a e).2.2 = (bodyR bk (opR sat deep B a e).1 (immM (opR sat deep B a e).1).1 B (opR sat deep B a e).2.1 (opR sat deep B a e).2.2).2.2 ∧
    ((opR sat deep B a e).2.2 = 0 → insR bk sat deep B a e = bodyR bk (opR sat deep B a e).1 (immM (opR sat deep B a e).1).1 B (opR sat deep B a e).2.1 (opR sat deep B a e).2.2) := by
  rw [show insR bk sat deep B a e = if (opR sat deep B a e).2.2 = 0 then bodyM (bk B) B (opR sat deep B a e).1 (immM (opR sat deep B a e).1).1 (opR sat deep B a e).2.1 else (leafI 0, (opR sat deep B a e).2.1, (opR sat deep B a e).2.2) from rfl]
  generalize opR sat deep B a e = o
  unfold bodyR
  by_cases h : o.2.2 = 0 <;> simp [h]
theorem good_ins (bk : Bk) (hbk : ∀ m, Good (bkR bk m)) (sat : Bool) (deep : Nat) : Good (insR bk sat deep) := by
  refine (Good.bind (f := fun _ y => y) (good_op sat deep) (S := fun op => bodyR bk op (immM op).1) (fun op => good_body bk hbk op _)).congr (fun B a e => (ins_parts bk sat deep B a e).1) (fun B a h => (ins_parts bk sat deep B a 0).2 ?_)
  apply Classical.byContradiction
  intro hn
  rw [(good_body bk hbk _ _).bad _ _ _ hn] at h
  exact hn h
theorem ins_gt (bk : Bk) (hbk : ∀ m, Good (bkR bk m)) {sat : Bool} {deep : Nat} {B : List Int} {a : Nat} (ha : a ≤ B.length) (h : (insR bk sat deep B a 0).2.2 = 0) : a < (insR bk sat deep B a 0).2.1 := by
  have hp := ins_parts bk sat deep B a 0
  have h0 : (opR sat deep B a 0).2.2 = 0 := by
    apply Classical.byContradiction
    intro hn
    rw [hp.1, (good_body bk hbk _ _).bad _ _ _ hn] at h
    exact hn h
  rw [hp.2 h0] at h ⊢
  have g1 := op_gt h0
  have g2 := (good_op sat deep).le B a ha h0
  rw [h0] at h ⊢
  have g3 := (good_body bk hbk _ _).le _ _ g2.2 h
  omega
def bkF (sat : Bool) (f deep : Nat) : Bk := fun B m a e => blkM sat B f deep m a e []
def blkR (sat : Bool) (f deep : Nat) (may : Bool) (acc : List Ins) : Rr (List Ins × Int) := fun B a e => (((blkM sat B f deep may a e acc).1, (blkM sat B f deep may a e acc).2.1), (blkM sat B f deep may a e acc).2.2.1, (blkM sat B f deep may a e acc).2.2.2)
def blkT (sat : Bool) (f deep : Nat) (may : Bool) (acc : List Ins) (b : Int) : Rr (List Ins × Int) := fun B a e =>
  if b = 11 then ((acc, 11), (byteR B a e).2) else if b = 5 then (if may = true then ((acc, 5), (byteR B a e).2) else (([], 0), a, if e = 0 then 108 else e))
  else ((blkR sat f deep may (acc ++ [(insR (bkF sat f (deep + 1)) sat deep B a e).1]) B (insR (bkF sat f (deep + 1)) sat deep B a e).2.1 (insR (bkF sat f (deep + 1)) sat deep B a e).2.2).1,
    (blkR sat f deep may (acc ++ [(insR (bkF sat f (deep + 1)) sat deep B a e).1]) B (insR (bkF sat f (deep + 1)) sat deep B a e).2.1 (insR (bkF sat f (deep + 1)) sat deep B a e).2.2).2)
theorem blkR_bad (sat : Bool) (f deep : Nat) (may : Bool) (acc : List Ins) (B : List Int) (a : Nat) (e : Int) (he : e ≠ 0) : blkR sat f deep may acc B a e = (([], 0), a, e) := by
  cases f with
  | zero => simp [blkR, blkM]
  | succ f => simp [blkR, blkM, he]
theorem blkR_look (sat : Bool) (f deep : Nat) (may : Bool) (acc : List Ins) (B : List Int) (a : Nat) :
    (blkR sat (f + 1) deep may acc B a 0).2.2 = (lookR (blkT sat f deep may acc) B a 0).2.2 ∧ ((lookR (blkT sat f deep may acc) B a 0).2.2 = 0 → blkR sat (f + 1) deep may acc B a 0 = lookR (blkT sat f deep may acc) B a 0) := by
  cases hx : B[a]? with
  | none => simp [blkR, blkM, lookR, hx]
  | some b =>
    simp only [blkR, blkM, lookR, hx, blkT, if_true, byteR_some hx]
    by_cases c : b = 11
    · simp [c]
    by_cases c5 : b = 5
    · subst c5
      rw [if_neg c, if_neg c]
      simp only [if_true]
      split <;> exact ⟨rfl, fun _ => rfl⟩
    · rw [if_neg c, if_neg c, if_neg c5, if_neg c5]
      show (_ ∧ _)
      have hi : insM (fun m a' e' => blkM sat B f (deep + 1) m a' e' []) sat B deep a 0 = insR (bkF sat f (deep + 1)) sat deep B a 0 := rfl
      rw [hi]
      by_cases h0 : (insR (bkF sat f (deep + 1)) sat deep B a 0).2.2 = 0
      · rw [if_pos h0, h0]
        exact ⟨rfl, fun _ => rfl⟩
      · rw [if_neg h0, show blkM sat B f deep may (insR (bkF sat f (deep + 1)) sat deep B a 0).2.1 (insR (bkF sat f (deep + 1)) sat deep B a 0).2.2 (acc ++ [(insR (bkF sat f (deep + 1)) sat deep B a 0).1]) = ([], 0, (insR (bkF sat f (deep + 1)) sat deep B a 0).2.1, (insR (bkF sat f (deep + 1)) sat deep B a 0).2.2) from by
          cases f with
          | zero => rfl
          | succ f => rw [blkM, if_neg h0]]
        exact ⟨rfl, fun h => rfl⟩
theorem good_blk (sat : Bool) : ∀ (f deep : Nat) (may : Bool) (acc : List Ins), Good (blkR sat f deep may acc)
  | 0, deep, may, acc => Good.pure ([], 0)
  | f + 1, deep, may, acc => by
    have hbk : ∀ m, Good (bkR (bkF sat f (deep + 1)) m) := fun m => good_blk sat f (deep + 1) m []
    refine (Good.look (blkT sat f deep may acc) (fun b => ?_) (fun b B a hx h => ?_)).congr (fun B a e => ?_) (fun B a h => (blkR_look sat f deep may acc B a).2 h)
    · exact Good.ite (good_byte.map (fun _ => (acc, 11))) (Good.ite (Good.ite (good_byte.map (fun _ => (acc, 5))) (Good.fail _ 108 (by decide))) (Good.bind (f := fun _ y => y) (good_ins _ hbk sat deep) (S := fun x => blkR sat f deep may (acc ++ [x])) (fun x => good_blk sat f deep may _)))
    · have hl := (List.getElem?_eq_some_iff.1 hx).1
      unfold blkT at h ⊢
      rw [byteR_some hx] at h ⊢
      split at h
      next c => rw [if_pos c]; simp
      next c =>
      rw [if_neg c]
      split at h
      next c5 =>
        rw [if_pos c5]
        split at h
        next c6 => rw [if_pos c6]; simp
        next => exact absurd h (by simp)
      next c5 =>
      rw [if_neg c5]
      have h0 : (insR (bkF sat f (deep + 1)) sat deep B a 0).2.2 = 0 := by
        apply Classical.byContradiction
        intro hn
        rw [(good_blk sat f deep may _).bad _ _ _ hn] at h
        exact hn h
      have g1 := ins_gt _ hbk (by omega) h0
      have g2 := (good_ins _ hbk sat deep).le B a (by omega) h0
      rw [h0] at h ⊢
      have g3 := (good_blk sat f deep may _).le _ _ g2.2 h
      try simp only
      omega
    · by_cases he : e = 0
      · subst he; exact (blkR_look sat f deep may acc B a).1
      · rw [blkR_bad _ _ _ _ _ _ _ _ he]; simp [lookR, he]
end Go.Proofs.YtofaiocffifhfaaGreat
end
section
namespace Go.Proofs.YtofaiocffifhfaaGreat
open Go.RowKit Go.Shelf YtofaiocffifhfaaGreatB Go.Proofs.YtofaiocffifhfaaGreatW.PrintWords
theorem u32M_app {B : List Int} (C : List Int) {a n nx : Nat} (h : u32M B a = .ok (n, nx)) : u32M (B ++ C) a = .ok (n, nx) := by
  unfold u32M uintM at h ⊢
  cases hl : lebG lstU (B.drop a) 32 with
  | error e => rw [hl] at h; cases h
  | ok r =>
    obtain ⟨m, hh, c⟩ := r
    rw [hl] at h
    have hc := (lebG_c _ _ _ _ _ hl).2
    have h2 := lebG_same (B.drop a) ((B ++ C).drop a) 32 m hh c hl (fun i hi => by
      rw [List.getElem?_drop, List.getElem?_drop, List.getElem?_append_left]
      rw [List.length_drop] at hc
      omega)
    rw [h2]
    exact h
theorem take_app {B : List Int} (C : List Int) {a n nx : Nat} {l : List Int} (h : takeM B a n = .ok (l, nx)) : takeM (B ++ C) a n = .ok (l, nx) := by
  unfold takeM at h ⊢
  split at h
  · rename_i hle
    rw [if_pos (by rw [List.length_append]; omega)]
    rw [← h, List.drop_append_of_le_length (by omega), List.take_append_of_le_length (by rw [List.length_drop]; omega)]
  · cases h
theorem take_le {B : List Int} {a n nx : Nat} {l : List Int} (h : takeM B a n = .ok (l, nx)) : nx ≤ B.length := by
  unfold takeM at h
  split at h
  · injection h with h
    injection h with _ h
    omega
  · cases h
theorem piece_ok {B : List Int} {a : Nat} (h : (pieceM B a 0).2.2 = 0) : ∃ n a1 l nx, u32M B a = .ok (n, a1) ∧ takeM B a1 n = .ok (l, nx) ∧ pieceM B a 0 = (l, nx, 0) := by
  unfold pieceM at h ⊢
  cases hu : u32M B a with
  | error e' =>
    have he := err_U32 B a e' hu
    rw [hu] at h
    have h1 : rdOf (.error e' : Except Int (Nat × Nat)) a 0 = (0, a, e') := rfl
    rw [h1] at h
    have h2 : ¬ e' = 0 := by simpa using he
    simp only [rdL, if_neg h2] at h
    exact absurd h h2
  | ok r =>
    obtain ⟨n, a1⟩ := r
    rw [hu] at h
    have h1 : rdOf (.ok (n, a1) : Except Int (Nat × Nat)) a 0 = ((n : Int), a1, 0) := rfl
    rw [h1] at h ⊢
    simp only [Int.toNat_natCast, rdL, if_true] at h ⊢
    cases ht : takeM B a1 n with
    | error e' =>
      rw [ht] at h
      have : e' = 100 := by
        unfold takeM at ht
        split at ht
        · cases ht
        · injection ht with ht; exact ht.symm
      subst this
      exact absurd (show (100 : Int) = 0 from h) (by decide)
    | ok r =>
      obtain ⟨l, nx⟩ := r
      exact ⟨n, a1, l, nx, rfl, ht, rfl⟩
theorem piece_app {B : List Int} (C : List Int) {a : Nat} (h : (pieceM B a 0).2.2 = 0) : pieceM (B ++ C) a 0 = pieceM B a 0 := by
  obtain ⟨n, a1, l, nx, h1, h2, h3⟩ := piece_ok h
  rw [h3]
  unfold pieceM
  rw [u32M_app C h1]
  have h4 : rdOf (.ok (n, a1) : Except Int (Nat × Nat)) a 0 = ((n : Int), a1, 0) := rfl
  rw [h4]
  simp only [Int.toNat_natCast, rdL, if_true]
  rw [take_app C h2]
theorem piece_le {B : List Int} {a : Nat} (h : (pieceM B a 0).2.2 = 0) : (pieceM B a 0).2.1 ≤ B.length := by
  obtain ⟨n, a1, l, nx, h1, h2, h3⟩ := piece_ok h
  rw [h3]
  exact take_le h2
theorem piece_end (B : List Int) : pieceM B B.length 0 = ([], B.length, 100) := by
  have h1 : u32M B B.length = .error 100 := by
    unfold u32M uintM
    rw [lebG_nil]
  unfold pieceM
  rw [h1]
  rfl
/-- With a byte more that begins no section the reading fails. -/
theorem secM_more {T : List Int} (hT : Byts T) (sat : Bool) (x : Int) (hx : 0 ≤ x) : ∀ (f : Nat) (M M' : ModD) (hi : Int) (a a' : Nat), 0 ≤ hi → a ≤ T.length → T.length < a + f → secM (secStep sat T) T f M hi a 0 = (M', a', 0) →
    (secM (secStep sat (T ++ [x])) (T ++ [x]) (f + 1) M hi a 0).2.2 = 104 ∨ ((secM (secStep sat (T ++ [x])) (T ++ [x]) (f + 1) M hi a 0).2.2 = 100 ∧ x ≤ 11)
  | 0, M, M', hi, a, a', h0, h1, h2, h => by omega
  | f + 1, M, M', hi, a, a', h0, h1, h2, h => by
    rw [secM, if_pos rfl] at h
    rw [secM, if_pos rfl]
    cases ha : T[a]? with
    | none =>
      have hal : a = T.length := by
        have := List.getElem?_eq_none_iff.1 ha
        omega
      subst hal
      have hxx : (T ++ [x])[T.length]? = some x := by simp
      rw [hxx]
      dsimp only
      by_cases hb : 11 < x ∨ (0 < x ∧ x ≤ hi)
      · rw [if_pos hb]; exact .inl rfl
      · rw [if_neg hb]
        right
        have hp : pieceM (T ++ [x]) (T.length + 1) 0 = ([], T.length + 1, 100) := by
          have := piece_end (T ++ [x])
          rwa [List.length_append, List.length_singleton] at this
        have hs : secStep sat (T ++ [x]) M x (T.length + 1) = (M, T.length + 1, 100) := by
          unfold secStep
          rw [hp]
          rfl
        rw [hs, secM_bad _ _ _ _ _ _ _ (show ¬ (100 : Int) = 0 by decide)]
        exact ⟨rfl, by omega⟩
    | some n =>
      have hal : a < T.length := (List.getElem?_eq_some_iff.1 ha).1
      have hxx : (T ++ [x])[a]? = some n := by rw [List.getElem?_append_left hal]; exact ha
      rw [hxx]
      rw [ha] at h
      dsimp only at h ⊢
      by_cases hb : 11 < n ∨ (0 < n ∧ n ≤ hi)
      · rw [if_pos hb] at h
        injection h with _ h
        injection h with _ h
        exact absurd h (by decide)
      · rw [if_neg hb] at h
        rw [if_neg hb]
        by_cases hp : (pieceM T (a + 1) 0).2.2 = 0
        · have hs : secStep sat (T ++ [x]) M n (a + 1) = secStep sat T M n (a + 1) := by
            unfold secStep
            rw [piece_app [x] hp]
          rw [hs]
          have hst : secStep sat T M n (a + 1) = ((contM sat (pieceM T (a + 1) 0).1 n M).1, (pieceM T (a + 1) 0).2.1, backP (contM sat (pieceM T (a + 1) 0).1 n M).2 (pieceM T (a + 1) 0).1.length) := if_pos hp
          have hpos := piece_pos hT (a + 1) hp
          have hle := piece_le hp
          rw [hst] at h ⊢
          dsimp only at h ⊢
          generalize backP (contM sat (pieceM T (a + 1) 0).1 n M).2 (pieceM T (a + 1) 0).1.length = e1 at *
          by_cases he : e1 = 0
          · subst he
            have hn := hT.get ha
            exact secM_more hT sat x hx f _ M' _ _ a' (by split <;> omega) hle (by omega) h
          · rw [secM_bad _ _ _ _ _ _ _ he] at h
            injection h with _ h
            injection h with _ h
            exact absurd h he
        · have hst : secStep sat T M n (a + 1) = (M, (pieceM T (a + 1) 0).2.1, (pieceM T (a + 1) 0).2.2) := if_neg hp
          rw [hst, secM_bad _ _ _ _ _ _ _ hp] at h
          injection h with _ h
          injection h with _ h
          exact absurd h hp
theorem dec_more {B : List Int} (hB : Byts B) (sat : Bool) (x : Int) (hx : 0 ≤ x) (hl : B.length ≤ 6000) (h : (decM sat B).2 = 0) :
    (decM sat (B ++ [x])).2 = 104 ∨ ((decM sat (B ++ [x])).2 = 100 ∧ x ≤ 11) := by
  unfold decM at h
  rw [if_neg (by omega)] at h
  by_cases hm : B.length < 8 ∨ ¬ B.take 8 = magicL
  · rw [if_pos hm] at h; exact absurd h (by decide)
  · rw [if_neg hm] at h
    have h8 : 8 ≤ B.length := Nat.le_of_not_lt (fun g => hm (.inl g))
    have ht : B.take 8 = magicL := Classical.byContradiction (fun g => hm (.inr g))
    dsimp only at h
    have hd : (B ++ [x]).drop 8 = B.drop 8 ++ [x] := List.drop_append_of_le_length h8
    have hBT : Byts (B.drop 8) := ⟨by rw [List.length_drop]; have := hB.1; omega, fun y hy => hB.2 y (List.mem_of_mem_drop hy)⟩
    have he : decM sat (B ++ [x]) = (let r := secM (secStep sat (B.drop 8 ++ [x])) (B.drop 8 ++ [x]) ((B.drop 8).length + 1 + 1) {} 0 0 0
        if r.2.2 = 0 then (if r.1.tys.length = r.1.bodies.length then ((r.1, fnsM r.1), 0) else (({}, []), 109)) else (({}, []), r.2.2)) := by
      unfold decM
      rw [if_neg (by rw [List.length_append, List.length_singleton]; omega), if_neg (fun g => by
        rcases g with g | g
        · rw [List.length_append, List.length_singleton] at g; omega
        · exact g (by rw [List.take_append_of_le_length h8, ht]))]
      rw [hd, List.length_append, List.length_singleton]
    rw [he]
    dsimp only
    by_cases hr : (secM (secStep sat (B.drop 8)) (B.drop 8) ((B.drop 8).length + 1) {} 0 0 0).2.2 = 0
    · have key := secM_more hBT sat x hx ((B.drop 8).length + 1) {} (secM (secStep sat (B.drop 8)) (B.drop 8) ((B.drop 8).length + 1) {} 0 0 0).1 0 0 (secM (secStep sat (B.drop 8)) (B.drop 8) ((B.drop 8).length + 1) {} 0 0 0).2.1 (Int.le_refl 0) (Nat.zero_le _) (by omega) (Prod.ext rfl (Prod.ext rfl hr))
      generalize secM (secStep sat (B.drop 8 ++ [x])) (B.drop 8 ++ [x]) ((B.drop 8).length + 1 + 1) {} 0 0 0 = r at *
      rcases key with key | ⟨key, hx11⟩
      · rw [if_neg (by rw [key]; decide)]; exact .inl key
      · rw [if_neg (by rw [key]; decide)]; exact .inr ⟨key, hx11⟩
    · rw [if_neg hr] at h
      exact absurd h hr
theorem dec_short {B : List Int} (sat : Bool) (h : B.length < 8) : (decM sat B).2 = 103 := by
  unfold decM
  rw [if_neg (by omega), if_pos (.inl h)]
end Go.Proofs.YtofaiocffifhfaaGreat
end
section
namespace Go.Proofs.YtofaiocffifhfaaGreat
open Go.RowKit Go.Shelf YtofaiocffifhfaaGreatB Go.Proofs.YtofaiocffifhfaaGreatW.PrintWords
/-- Nothing is read yet: false; the one section is: true. -/
def AwI (W : World) (n1 : Nat) (p m : Nat) (B : List Int) (X : World) (M : Bool) (a : Nat) : Prop :=
  (M = false ∧ a = 0 ∧ Blk X m (bld0 (.slice none 0 0)) 71) ∨ (M = true ∧ B.length ≤ a ∧ ∃ A c, Blk X m (bld0 (.slice A n1 c)) 71)
theorem awI_move {W : World} {n1 p m : Nat} {B : List Int} (hmp : m ≠ p) : ∀ X Y M a, AwI W n1 p m B X M a → X.grownBy Y (some p) → AwI W n1 p m B Y M a := by
  intro X Y M a h hg
  have hn : some m ≠ some p := fun e => hmp (by injection e)
  rcases h with ⟨h1, h2, h3⟩ | ⟨h1, h2, A, c, h3⟩
  · exact .inl ⟨h1, h2, h3.grown hg hn⟩
  · exact .inr ⟨h1, h2, A, c, h3.grown hg hn⟩
def T1 : List Int := [7]
def T2 : List Int := [1, 4, 1, 96, 0, 0]
def st1 : Bool → Int → Nat → Bool × Nat × Int := fun _ _ a => (true, a, 100)
def st2 : Bool → Int → Nat → Bool × Nat × Int := fun _ _ _ => (true, 6, 0)
theorem sec1_eq : secM st1 T1 (T1.length + 1) false 0 0 0 = (true, 1, 100) := by decide
theorem sec2_eq : secM st2 T2 (T2.length + 1) false 0 0 0 = (true, 6, 0) := by decide
theorem byts1 : Byts T1 := ⟨by decide, by decide⟩
theorem byts2 : Byts T2 := ⟨by decide, by decide⟩
theorem piece1 : pieceM T1 1 0 = ([], 1, 100) := by decide
theorem piece2 : pieceM T2 1 0 = ([1, 96, 0, 0], 6, 0) := by decide
theorem fts2 : ftsOf [1, 96, 0, 0] 0 0 = ([([], [])], 4, 0) := by decide
theorem step1 (W : World) (p q m : Nat) (hmp : m ≠ p) : StepOk (AwI W 0 p m T1) st1 W p q m T1 false := by
  intro X M a n bm bn hX hI hC hn h0 h11 hbm hbn h1 h2
  rcases hI with ⟨rfl, rfl, hm⟩ | ⟨_, hl, _⟩
  · have h := whole_bad X p q T1 1 0 false (.func (.func 43) #[] #[.pointer (some ⟨bm, 0, none⟩), .pointer (some ⟨bn, 0, none⟩)]) hC byts1 (by rw [piece1]; rfl)
    rw [piece1] at h
    refine h.mono ?_
    rintro E Y ⟨rfl, hG⟩
    exact ⟨rfl, .inr ⟨rfl, (by show T1.length ≤ 0 + 1; decide), none, 0, hm.grown hG.2 (fun e => hmp (by injection e))⟩, hG.1, G2.of_grown hG.2 (fun k e => by injection e with e; exact .inl e.symm), fun h => absurd (show (100 : Int) = 0 from h) (by decide)⟩
  · have := (List.getElem?_eq_some_iff.1 hn).1
    omega
theorem step2 (W : World) (p q m : Nat) (hmp : m ≠ p) (hmq : m ≠ q) : StepOk (AwI W 1 p m T2) st2 W p q m T2 false := by
  intro X M a n bm bn hX hI hC hn h0 h11 hbm hbn h1 h2
  rcases hI with ⟨rfl, rfl, hm⟩ | ⟨_, hl, _⟩
  · have hn1 : n = 1 := by simpa [T2] using hn.symm
    subst hn1
    have h := whole_one X p q m bm bn T2 1 0 false (bld0 (.slice none 0 0)) (.slice none 0 0) hC byts2 (by rw [piece2]) (by rw [piece2]; exact ⟨by decide, by decide⟩) hm rfl hmp (fun _ => hmq) hbm hbn h1 h2
    rw [piece2] at h
    refine h.mono ?_
    rintro E Y ⟨rfl, ⟨v, hO, hB⟩, hC', hG⟩
    rw [fts2] at hO hC'
    obtain ⟨A, c, rfl, _, _⟩ := hO.reads
    exact ⟨rfl, .inr ⟨rfl, by decide, A, c, hB⟩, hC', hG, fun _ => by decide⟩
  · have := (List.getElem?_eq_some_iff.1 hn).1
    omega
theorem dec1 (W : World) (A : Option Addr) (c : Nat) (hR : RdI W .u8 A (magicL ++ T1)) (hc : (magicL ++ T1).length ≤ c) : Calls Tryz.prog 8 #[.slice A 9 c, .bool false] W (DecSp W 0 100) := by
  refine Decode_sp W A c T1 false 100 0 hR ⟨by decide, by decide⟩ (by decide) hc ?_
  intro X p q m hm hmX hp hmp hmq hC hB
  have h := sections_gen (AwI W 0 p m T1) st1 X p q m T1 false false hC byts1 hmX hmp (.inl ⟨rfl, rfl, hB⟩) (awI_move hmp) (step1 X p q m hmp)
  rw [sec1_eq] at h
  refine h.mono ?_
  rintro E Y ⟨rfl, ⟨a, hI⟩, hC', hG⟩
  rcases hI with ⟨h, _⟩ | ⟨_, _, hA⟩
  · cases h
  · exact ⟨rfl, ⟨_, hC'⟩, hG, hA⟩
theorem dec2 (W : World) (A : Option Addr) (c : Nat) (hR : RdI W .u8 A (magicL ++ T2)) (hc : (magicL ++ T2).length ≤ c) : Calls Tryz.prog 8 #[.slice A 14 c, .bool false] W (DecSp W 1 0) := by
  refine Decode_sp W A c T2 false 0 1 hR ⟨by decide, by decide⟩ (by decide) hc ?_
  intro X p q m hm hmX hp hmp hmq hC hB
  have h := sections_gen (AwI W 1 p m T2) st2 X p q m T2 false false hC byts2 hmX hmp (.inl ⟨rfl, rfl, hB⟩) (awI_move hmp) (step2 X p q m hmp (hmq (by decide)))
  rw [sec2_eq] at h
  refine h.mono ?_
  rintro E Y ⟨rfl, ⟨a, hI⟩, hC', hG⟩
  rcases hI with ⟨h, _⟩ | ⟨_, _, hA⟩
  · cases h
  · exact ⟨rfl, ⟨_, hC'⟩, hG, hA⟩
end Go.Proofs.YtofaiocffifhfaaGreat
end
section
namespace Go.Proofs.YtofaiocffifhfaaGreat
open Go.RowKit Go.Shelf YtofaiocffifhfaaGreatB Go.Proofs.YtofaiocffifhfaaGreatW.PrintWords
/-- A literal of bytes is a row of one's own. -/
theorem own_lit (W : World) (L : List Int) (e base : Nat) (ok : Nat → Prop) (hb : base ≤ W.heap.size) (hl : L.length ≤ 1048576) (hL : ∀ x ∈ L, 0 ≤ x ∧ x ≤ 255) :
    Own (rng .u8) e (W.alloc (.cells (L.map (Value.int .u8)).toArray e)) base ok (.slice (some ⟨W.heap.size, 0, none⟩) L.length L.length) L := by
  refine ⟨L.map (Value.int .u8), ⟨by simp [rng], .inr ⟨W.heap.size, L.length, (L.map (Value.int .u8)).toArray, rfl, hb, Blk.new W _ e, Nat.le_refl _, by simp only [maxLen]; omega, by simp [rng], ?_⟩⟩, by simp [rng], fun j x hj => ?_⟩
  · show ((L.map (Value.int .u8)).toArray.toList.take (L.length * 1)) = _
    rw [Nat.mul_one]
    exact List.take_of_length_le (by simp)
  · have hx := hL x (List.mem_of_getElem? hj)
    have h2 : ((L.map (Value.int .u8)).drop (j * 1)).take 1 = [.int .u8 x] := by
      have hj2 : j < L.length := (List.getElem?_eq_some_iff.1 hj).1
      have hjx := (List.getElem?_eq_some_iff.1 hj).2
      rw [Nat.mul_one, List.drop_eq_getElem_cons (by simpa using hj2)]
      simp [hjx]
    show FK (rng .u8) _ _ x (((L.map (Value.int .u8)).drop (j * 1)).take 1)
    rw [h2]
    exact fun _ _ => ⟨rfl, by simp [Lit.wf, IntKind.min, IntKind.max, IntKind.signed, IntKind.bits]; omega⟩
def AwPost20 (w : World) (e : Ending) (W' : World) : Prop := e = .returned (.bool true) ∧ Below w.heap.size w W'
theorem own_rd {W : World} {base : Nat} {ok : Nat → Prop} {v : Value} {L : List Int} (h : Own (rng .u8) 5 W base ok v L) (hl : L.length ≤ 1048576) : ∃ A c, v = .slice A L.length c ∧ L.length ≤ c ∧ RdI W .u8 A L := by
  obtain ⟨A, c, h1, h2, h3⟩ := h.reads
  exact ⟨A, c, h1, h2, C_rdI h3.now (by omega)⟩
set_option maxRecDepth 100000 in
set_option maxHeartbeats 2000000 in
theorem awake20_any (w : World) : Calls Tryz.prog 7 #[] w (AwPost20 w) := by
  have h8 : ∀ x ∈ magicL, 0 ≤ x ∧ x ≤ 255 := by decide
  have HM := Lib.hid (show Own (rng .u8) 5 (w.alloc (.cells #[.int .u8 0, .int .u8 97, .int .u8 115, .int .u8 109, .int .u8 1, .int .u8 0, .int .u8 0, .int .u8 0] 5)) w.heap.size (fun _ => False) (.slice (some ⟨w.heap.size, 0, none⟩) 8 8) magicL from own_lit w magicL 5 w.heap.size (fun _ => False) (Nat.le_refl _) (by decide) h8)
  have HF := Lib.hid (byQ_FC (lit_ByQ w magicL 5) h8 (by decide) : FC (rng .u8) (w.alloc (.cells #[.int .u8 0, .int .u8 97, .int .u8 115, .int .u8 109, .int .u8 1, .int .u8 0, .int .u8 0, .int .u8 0] 5)) (fun k => k = w.heap.size) (some ⟨w.heap.size, 0, none⟩) magicL)
  have hz : (w.alloc (.cells #[.int .u8 0, .int .u8 97, .int .u8 115, .int .u8 109, .int .u8 1, .int .u8 0, .int .u8 0, .int .u8 0] 5)).heap.size = w.heap.size + 1 := World.size_alloc _ _
  have HB := Lib.hid ((Below.refl w.heap.size w).alloc (Nat.le_refl _) (.cells #[.int .u8 0, .int .u8 97, .int .u8 115, .int .u8 109, .int .u8 1, .int .u8 0, .int .u8 0, .int .u8 0] 5))
  go_enter Tryz.func7, Tryz.ntmps7
  go_upto_region 2 with (fail)
  generalize w.alloc (.cells #[.int .u8 0, .int .u8 97, .int .u8 115, .int .u8 109, .int .u8 1, .int .u8 0, .int .u8 0, .int .u8 0] 5) = w1 at *
  have hy : Own (rng .u8) 5 (w1.alloc (.cells #[] 5)) w1.heap.size (fun _ => False) (.slice (some ⟨w1.heap.size, 0, none⟩) 0 0) [] := Own.made rfl (by decide) (Nat.le_refl _)
  rw [hz] at hy
  have HY := Lib.hid hy
  have hz2 : (w1.alloc (.cells #[] 5)).heap.size = w.heap.size + 2 := by rw [World.size_alloc, hz]
  have HFF := Lib.hid (Ft.mono (Ft.below HF.out ((Below.refl _ w1).alloc (Nat.le_refl _) (.cells #[] 5))) (fun k hk => ⟨trivial, fun e => by subst hk; simp [Value.ownBlock] at e⟩) : FC (rng .u8) (w1.alloc (.cells #[] 5)) (fun k => True ∧ some k ≠ (Value.slice (some ⟨w.heap.size + 1, 0, none⟩) 0 0).ownBlock) (some ⟨w.heap.size, 0, none⟩) magicL)
  clear hy
  go_wp2_with (first
    | (at_builtin; refine Own.append_row (d := rng .u8) w.heap.size rfl (.tmp 8) (.tmp 9) 22 5 (.int .u8 0) 1 rfl Tryz.underlying22 infoB8 rfl (by decide) (by decide) (.slice (some ⟨w.heap.size + 1, 0, none⟩) 0 0) [] magicL (some ⟨w.heap.size, 0, none⟩) 8 (fun _ => True) rfl rfl HFF.out (Own_lower (own_any HY.out) (by omega)) (by omega) (by decide) ?_; intro v1 w3 hown1 hg1 hat1)
    | (at_builtin; refine Own.append (d := rng .u8) w.heap.size rfl (.tmp 10) (.tmp 11) 22 5 _ 1 rfl Tryz.underlying22 infoB8 rfl (by decide) (by decide) v1 ([] ++ magicL) 7 _ (fun _ => True) rfl rfl (show FK (rng .u8) w3 (fun k => True ∧ some k ≠ v1.ownBlock) 7 [.int .u8 7] from fun _ _ => ⟨rfl, by decide⟩) hown1 (by have := hg1.size; omega) (by decide) ?_; intro v2 w4 hown2 hg2 hat2))
  have hg1' : (w1.alloc (.cells #[] 5)).grownBy w3 (some (w.heap.size + 1)) := hg1
  have hs1 := hg1'.size
  have hs2 := hg2.size
  have hv1 : ∀ k, v1.ownBlock = some k → w.heap.size + 1 ≤ k := fun k hk => by
    rcases hat1 with h | h
    · have h : v1.ownBlock = some (w.heap.size + 1) := h; rw [hk] at h; injection h with h; omega
    · rw [hk, hz2] at h; injection h with h; omega
  have hB4 : Below w.heap.size w w4 := ((HB.out.alloc (by omega) (.cells #[] 5)).grown hg1' (by omega) (fun k hk => by injection hk with hk; omega)).grown hg2 (by omega) (fun k hk => by have := hv1 k hk; omega)
  have hM4 : Own (rng .u8) 5 w4 w.heap.size (fun _ => False) (.slice (some ⟨w.heap.size, 0, none⟩) 8 8) magicL :=
    (((HM.out.below ((Below.refl _ _).alloc (Nat.le_refl _) (.cells #[] 5))).grown hg1' (.inr (fun e => by have e : some w.heap.size = some (w.heap.size + 1) := e; injection e with e; omega)) (fun k hk => hk.elim)).grown hg2 (.inr (fun e => by have e : some w.heap.size = v1.ownBlock := e; have := hv1 _ e.symm; omega)) (fun k hk => hk.elim))
  obtain ⟨A2, c2, rfl, hc2, hR2⟩ := own_rd hown2 (by decide)
  have HD1 := Lib.hid (dec1 w4 A2 c2 hR2 hc2)
  have HB4 := Lib.hid hB4
  have HM4 := Lib.hid hM4
  clear hM4 hB4 hg1' hg2 hs1 hat1 hat2 hg1 hown1 hown2 hR2 hc2 HFF HY HF HM HB
  refine HD1.out.mono ?_
  rintro E w5 ⟨hB5, _, h100⟩
  obtain rfl := h100 (by decide)
  have HB5 := Lib.hid (HB4.out.trans (hB5.mono HB4.out.size))
  have HM5 := Lib.hid (HM4.out.below hB5)
  clear h100 hB5 HD1 HB4 HM4
  go_upto_region 3 with (fail)
  have HB6 := Lib.hid (HB5.out.alloc HB5.out.size (.cells (mod0 (.slice none 0 0)) 34))
  have HM6 := Lib.hid (HM5.out.below ((Below.refl _ _).alloc (Nat.le_refl _) (.cells (mod0 (.slice none 0 0)) 34)))
  generalize w5.alloc (.cells (mod0 (.slice none 0 0)) 34) = w6 at *
  have h2 : ∀ x ∈ T2, 0 ≤ x ∧ x ≤ 255 := by decide
  have hL : FC (rng .u8) (w6.alloc (.cells #[.int .u8 1, .int .u8 4, .int .u8 1, .int .u8 96, .int .u8 0, .int .u8 0] 5)) (fun k => k = w6.heap.size) (some ⟨w6.heap.size, 0, none⟩) T2 := byQ_FC (lit_ByQ w6 T2 5) h2 (by decide)
  have hs6 := HB6.out.size
  have hwl : w.heap.size < w6.heap.size := (Own.block HM6.out rfl).2
  have HL := Lib.hid (Ft.mono hL (fun k hk => ⟨trivial, fun e => by have e : some k = some w.heap.size := e; injection e with e; omega⟩) : FC (rng .u8) (w6.alloc (.cells #[.int .u8 1, .int .u8 4, .int .u8 1, .int .u8 96, .int .u8 0, .int .u8 0] 5)) (fun k => True ∧ some k ≠ (Value.slice (some ⟨w.heap.size, 0, none⟩) 8 8).ownBlock) (some ⟨w6.heap.size, 0, none⟩) T2)
  have hz7 : (w6.alloc (.cells #[.int .u8 1, .int .u8 4, .int .u8 1, .int .u8 96, .int .u8 0, .int .u8 0] 5)).heap.size = w6.heap.size + 1 := World.size_alloc _ _
  clear hL
  go_wp2_with (at_builtin; refine Own.append_row (d := rng .u8) w.heap.size rfl (.tmp 17) (.tmp 18) 22 5 (.int .u8 0) 1 rfl Tryz.underlying22 infoB8 rfl (by decide) (by decide) (.slice (some ⟨w.heap.size, 0, none⟩) 8 8) magicL T2 (some ⟨w6.heap.size, 0, none⟩) 6 (fun _ => True) rfl rfl HL.out (own_any (HM6.out.below ((Below.refl _ _).alloc (Nat.le_refl _) _))) (by omega) (by decide) ?_; intro v3 w7 hown3 hg3 hat3)
  have hg3' : (w6.alloc (.cells #[.int .u8 1, .int .u8 4, .int .u8 1, .int .u8 96, .int .u8 0, .int .u8 0] 5)).grownBy w7 (some w.heap.size) := hg3
  have HB7 := Lib.hid ((HB6.out.alloc hs6 (.cells #[.int .u8 1, .int .u8 4, .int .u8 1, .int .u8 96, .int .u8 0, .int .u8 0] 5)).grown hg3' (by omega) (fun k hk => by injection hk with hk; omega))
  obtain ⟨A3, c3, rfl, hc3, hR3⟩ := own_rd hown3 (by decide)
  have HD2 := Lib.hid (dec2 w7 A3 c3 hR3 hc3)
  clear hg3 hg3' hown3 hat3 hR3 hc3 HL HM6 HM5
  refine HD2.out.mono ?_
  rintro E w8 ⟨hB8, h0, _⟩
  obtain ⟨A4, c4, rfl⟩ := h0 rfl
  have HB8 := Lib.hid (HB7.out.trans (hB8.mono HB7.out.size))
  have hb9 := Blk.new w8 (mod0 (.slice A4 1 c4)) 34
  have g0 : (w8.alloc (.cells (mod0 (.slice A4 1 c4)) 34)).cell? ⟨w8.heap.size, 0, none⟩ = some (.slice A4 1 c4) := hb9.cell 0
  clear h0 hB8 HD2 HB7 hb9
  go_wp2_with fail
  go_ret
  exact ⟨rfl, HB8.out.alloc HB8.out.size _⟩
end Go.Proofs.YtofaiocffifhfaaGreat
end
section
namespace Go.Proofs.YtofaiocffifhfaaGreat
open Go.RowKit Go.Shelf YtofaiocffifhfaaGreatB Go.Proofs.YtofaiocffifhfaaGreatW.PrintWords
theorem own_rdv {W : World} {base : Nat} {ok : Nat → Prop} {A : Option Addr} {n c : Nat} {L : List Int} (h : Own (rng .u8) 5 W base ok (.slice A n c) L) (hl : L.length ≤ 1048576) : RdI W .u8 A L := by
  obtain ⟨A', c', h1, h2, h3⟩ := own_rd h hl
  injection h1 with h1 _ _
  rw [h1]
  exact h3
theorem bl_drewN {w : World} (m : Nat) : Below w.heap.size w (w.drewN m) := ⟨rfl, rfl, rfl, Nat.le_refl _, fun _ _ => rfl⟩
theorem bytes_open {W : World} {a0 : List Int} {A : Option Addr} {n c : Nat} (h0 : (Kd.slice 5 (rng .u8)).K W a0 (Value.slice A n c).cells.toList) (hb : a0.length ≤ 1048576) : n = a0.length ∧ RdI W .u8 A a0 ∧ Byts a0 ∧ a0.length ≤ c := by
  obtain ⟨A', c', e, hle, hC⟩ := h0
  simp [Value.cells] at e
  obtain ⟨rfl, rfl, rfl⟩ := e
  exact ⟨rfl, C_rdI hC (by omega), ⟨hb, fun x hx => by have := wf_bounds (C_all hC x hx); simp [IntKind.min, IntKind.max, IntKind.signed, IntKind.bits] at this; omega⟩, hle⟩
theorem opens_U8s (n : Nat) : OpensAt Tryz.prog 22 (Kd.slice 5 (rng .u8)) (fun xs => xs.length) (n + 1) :=
  opens_bk (opens_slice Tryz.underlying22 (by kernel_rfl) (opens_int .u8 Tryz.underlying5 (by kernel_rfl) n)) (fun a => by rw [sum_ones]; omega)
end Go.Proofs.YtofaiocffifhfaaGreat
end
