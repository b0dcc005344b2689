/- Lemmas towards this claim's statement: what the functions named here come to, each under the conditions that it states itself. -/
import Derived.Test.YtofaiocffifhfaaGreatCu9
section
namespace Go.Proofs.YtofaiocffifhfaaGreat
open Go.RowKit Go.Shelf YtofaiocffifhfaaGreatB Go.Proofs.YtofaiocffifhfaaGreatW.PrintWords
def cusM (B : List Int) (a : Nat) (e : Int) : Nat × Int :=
 let s := namM B a e
 (rdL (takeM B s.2.1 (B.length - s.2.1)) s.2.1 s.2.2).2
def Cont0Post (W : World) (p q m : Nat) (B : List Int) (mc : Array Value) (r : Nat × Int) (E : Ending) (w' : World) : Prop :=
 E = .returned (.tuple #[]) ∧ Blk w' m mc 71 ∧ Cur w' p q B r.1 r.2 ∧ G2 W w' p m
set_option maxRecDepth 100000 in
set_option maxHeartbeats 1000000 in
theorem cont_8 (W : World) (p q m : Nat) (B : List Int) (a : Nat) (e : Int) (sat : Bool) (mc : Array Value) (v7 v8 : Value) (hC : Cur W p q B a e) (hB : Byts B) (hm : Blk W m mc 71) (hm7 : mc[7]? = some v7) (hm8 : mc[8]? = some v8) (hmp : m ≠ p) (hmq : 0 < B.length → m ≠ q) :
  Calls Tryz.prog 44 #[.pointer (some ⟨m, 0, none⟩), .int .u8 8, .agg #[.pointer (some ⟨p, 0, none⟩), .bool sat]] W (Cont0Post W p q m B ((mc.setIfInBounds 7 (.bool true)).setIfInBounds 8 (.int .u32 (u32R B a e).1)) (u32R B a e).2) := by
 have hpl := hC.lt
 have hml := hm.lt
 have HP := Lib.hid (Lc.new (p := p) W #[.pointer (some ⟨p, 0, none⟩), .bool sat] 67 hpl)
 have H0 := Lib.hid (U32_any (W.alloc (.cells #[.pointer (some ⟨p, 0, none⟩), .bool sat] 67)) p q B a e (hC.alloc _) hB)
 have HM := Lib.hid (hm.alloc (.cells #[.pointer (some ⟨p, 0, none⟩), .bool sat] 67))
 have HM7 := Lib.hid hm7
 have HM8 := Lib.hid hm8
 have HMP := Lib.hid hmp
 have HMQ := Lib.hid hmq
 unfold u32R
 generalize rdOf (u32M B a) a e = r at *
 obtain ⟨n, a1, e1⟩ := r
 have p0 := HP.out.c0
 clear hC hB hm hm7 hm8 hmp hmq
 go_enter Tryz.func44, Tryz.ntmps44
 go_wp2_with fail
 refine H0.out.mono ?_
 rintro E W1 ⟨rfl, hG⟩
 have hz := hG.2.size
 rw [World.size_alloc] at hz
 have hm1 := HM.out.grown hG.2 (fun e => HMP.out (by injection e))
 have HM1 := Lib.hid hm1
 have c7 : W1.cell? ⟨m, 7, none⟩ = some v7 := by rw [hm1.cell 7]; exact HM7.out
 have c8 : W1.cell? ⟨m, 8, none⟩ = some v8 := by rw [hm1.cell 8]; exact HM8.out
 have f7 := hm1.frozen 7
 have f8 := hm1.frozen 8
 have hml1 := hm1.lt
 have HG := Lib.hid hG
 clear hG hm1 p0
 go_wp2_with fail
 go_end0
 refine ⟨rfl, (HM1.out.set 7 _).set 8 _, (HG.out.1.other _ _ _ HMP.out HMQ.out).other _ _ _ HMP.out HMQ.out, ?_⟩
 exact ((((G2.refl W p m).alloc _).grown HG.out.2 (fun r e => by injection e with e; omega)).set m 7 _ (by omega)).set m 8 _ (by omega)
set_option maxRecDepth 100000 in
set_option maxHeartbeats 1000000 in
theorem cont_0 (W : World) (p q m : Nat) (B : List Int) (a : Nat) (e : Int) (sat : Bool) (mc : Array Value) (hC : Cur W p q B a e) (hB : Byts B) (hm : Blk W m mc 71) (hmp : m ≠ p) (hmq : 0 < B.length → m ≠ q) :
  Calls Tryz.prog 44 #[.pointer (some ⟨m, 0, none⟩), .int .u8 0, .agg #[.pointer (some ⟨p, 0, none⟩), .bool sat]] W (Cont0Post W p q m B mc (cusM B a e)) := by
 have hpl := hC.lt
 have hml := hm.lt
 have HS := Lib.hid ((St.start hC).alloc (.cells #[.pointer (some ⟨p, 0, none⟩), .bool sat] 67))
 have HP := Lib.hid (Lc.new (p := p) W #[.pointer (some ⟨p, 0, none⟩), .bool sat] 67 hpl)
 have H0 := Lib.hid (Name_any (W.alloc (.cells #[.pointer (some ⟨p, 0, none⟩), .bool sat] 67)) p q B a e (hC.alloc _) hB)
 have HM := Lib.hid ((⟨hm, hmp⟩ : Lc p W m mc 71).alloc (.cells #[.pointer (some ⟨p, 0, none⟩), .bool sat] 67))
 have HB := Lib.hid hB
 unfold cusM
 dsimp only
 generalize namM B a e = r at *
 obtain ⟨n, a1, e1⟩ := r
 dsimp only
 have p0 := HP.out.c0
 clear hC hB hm hmp hmq
 go_enter Tryz.func44, Tryz.ntmps44
 go_wp2_with fail
 refine H0.out.mono ?_
 rintro E W1 ⟨rfl, hG⟩
 replace HS := Lib.hid (HS.out.goes hG)
 replace HP := Lib.hid (HP.out.goes hG)
 replace HM := Lib.hid (HM.out.goes hG)
 replace p0 := HP.out.c0
 have hal := HS.out.le
 have hbl := HB.out.1
 have HL := Lib.hid (left_any W1.drew p q B a1 e1 HS.out.drew.cur HB.out)
 have HD := Lib.hid (fun Y (h : Lc p Y W.heap.size #[.pointer (some ⟨p, 0, none⟩), .bool sat] 67) => h.c0)
 have hk : (((B.length - a1 : Nat) : Int)) = IntKind.u32.wrap ((B.length : Int) - (a1 : Int)) := by rw [IntKind.wrap_u32]; omega
 have HT := Lib.hid (fun X (h : Cur X p q B a1 e1) => Take_any X p q B a1 (B.length - a1) e1 h HB.out (by omega))
 rw [hk] at HT
 have hw0 : (0 : Int) ≤ (B.length : Int) - (a1 : Int) := by omega
 have hw1 : (B.length : Int) - (a1 : Int) ≤ 4294967295 := by omega
 clear hG H0
 go_wp2_with fail
 go_region_held3 (fun w' => w'.cell? ⟨W.heap.size, 0, none⟩ = some (.pointer (some ⟨p, 0, none⟩)))
  (first | exact p0 | exact d2 | exact d1)
  (first
   | (go_at_call 71; refine (HT.out _ hS1.cur).mono ?_; rintro E W3 ⟨⟨v, rfl, hO⟩, hG2⟩; have hS2 := hS1.goes hG2; have hP2 := hP1.goes hG2; have hM2 := hM1.goes hG2; have d2 := HD.out _ hP2)
   | (go_at_call 40; refine HL.out.mono ?_; rintro E W2 ⟨rfl, hG1⟩; have hS1 := HS.out.drew.goes hG1; have hP1 := HP.out.drew.goes hG1; have hM1 := HM.out.drew.goes hG1; have d1 := HD.out _ hP1))
 go_wp2_with fail
 go_end0
 exact ⟨rfl, hM2.blk, hS2.cur, G2.of_grown hS2.g (fun k e => by injection e with e; exact .inl e.symm)⟩
end Go.Proofs.YtofaiocffifhfaaGreat
end
section
namespace Go.Proofs.YtofaiocffifhfaaGreatB
open Go.RowKit Go.Proofs.YtofaiocffifhfaaGreatW.PrintWords
structure ModD where
 types : List (List Int × List Int) := []
 imports : List ImpD := []
 tables : List (Int × Int × Bool) := []
 mems : List (Int × Int × Bool) := []
 globals : List CellD := []
 exports : List ExpD := []
 starts : Bool := false
 start : Int := 0
 elems : List ElemD := []
 datas : List DataD := []
 tys : List Int := []
 bodies : List FnD := []
def Row {α : Type} (d : Kd α) (ok : Nat → Prop) (X : World) (v : Value) (xs : List α) : Prop := ∃ A c, v = .slice A xs.length c ∧ xs.length ≤ c ∧ FC d X ok A xs
section
variable {α : Type} {d : Kd α} {ok ok' : Nat → Prop} {X Y : World} {v : Value} {xs : List α}
theorem Row.step (h : Row d ok X v xs) (ha : Agr ok X Y) : Row d ok Y v xs := by
 obtain ⟨A, c, h1, h2, h3⟩ := h
 exact ⟨A, c, h1, h2, Ft.step h3 ha⟩
theorem Row.mono (h : Row d ok X v xs) (hk : ∀ k, ok k → ok' k) : Row d ok' X v xs := by
 obtain ⟨A, c, h1, h2, h3⟩ := h
 exact ⟨A, c, h1, h2, Ft.mono h3 hk⟩
theorem Row.bound (h : Row d ok X v xs) (hk : ∀ k, ok k → k < X.heap.size → ok' k) : Row d ok' X v xs := by
 obtain ⟨A, c, h1, h2, h3⟩ := h
 exact ⟨A, c, h1, h2, Ft.bound h3 hk⟩
theorem Row.nil : Row d ok X (.slice none 0 0) ([] : List α) := ⟨none, 0, rfl, Nat.le_refl _, FC.nil⟩
theorem Row.of_own {t base : Nat} (h : Own d t X base (fun k => base ≤ k) v xs) : Row d (fun k => base ≤ k) X v xs := by
 obtain ⟨A, c, h1, h2, h3⟩ := h.reads
 exact ⟨A, c, h1, h2, Ft.mono h3 (fun k hk => hk.elim id id)⟩
end
theorem agr_g2 {W Y : World} {p m : Nat} {ok : Nat → Prop} (h : G2 W Y p m) (hok : ∀ k, ok k → k ≠ m ∧ k ≠ p) : Agr ok W Y := ⟨h.os, h.tape, h.output, h.size, fun k hk hl => h.block k hl (hok k hk).2 (hok k hk).1⟩
theorem agr_grown {W Y : World} {row : Option Nat} {ok : Nat → Prop} (h : W.grownBy Y row) (hok : ∀ k, ok k → some k ≠ row) : Agr ok W Y := ⟨h.os, h.tape, h.output, h.size, fun k hk hl => h.block k hl (hok k hk)⟩
end Go.Proofs.YtofaiocffifhfaaGreatB
namespace Go.Proofs.YtofaiocffifhfaaGreat
open Go.RowKit Go.Shelf YtofaiocffifhfaaGreatB Go.Proofs.YtofaiocffifhfaaGreatW.PrintWords
structure BRows (ok : Nat → Prop) (X : World) (M : ModD) (v0 v1 v3 v4 v5 v6 v9 v10 v11 v12 : Value) : Prop where
 r0 : Row kFt ok X v0 M.types
 r1 : Row kImp ok X v1 M.imports
 r3 : Row kLim ok X v3 M.tables
 r4 : Row kLim ok X v4 M.mems
 r5 : Row kCell ok X v5 M.globals
 r6 : Row kExp ok X v6 M.exports
 r9 : Row kElem ok X v9 M.elems
 r10 : Row kData ok X v10 M.datas
 r11 : Row (rng .u32) ok X v11 M.tys
 r12 : Row kFn ok X v12 M.bodies
section
variable {ok ok' : Nat → Prop} {X Y : World} {M : ModD} {v0 v1 v3 v4 v5 v6 v9 v10 v11 v12 : Value}
theorem BRows.step (h : BRows ok X M v0 v1 v3 v4 v5 v6 v9 v10 v11 v12) (ha : Agr ok X Y) : BRows ok Y M v0 v1 v3 v4 v5 v6 v9 v10 v11 v12 :=
 ⟨h.r0.step ha, h.r1.step ha, h.r3.step ha, h.r4.step ha, h.r5.step ha, h.r6.step ha, h.r9.step ha, h.r10.step ha, h.r11.step ha, h.r12.step ha⟩
theorem BRows.mono (h : BRows ok X M v0 v1 v3 v4 v5 v6 v9 v10 v11 v12) (hk : ∀ k, ok k → ok' k) : BRows ok' X M v0 v1 v3 v4 v5 v6 v9 v10 v11 v12 :=
 ⟨h.r0.mono hk, h.r1.mono hk, h.r3.mono hk, h.r4.mono hk, h.r5.mono hk, h.r6.mono hk, h.r9.mono hk, h.r10.mono hk, h.r11.mono hk, h.r12.mono hk⟩
theorem BRows.bound (h : BRows ok X M v0 v1 v3 v4 v5 v6 v9 v10 v11 v12) (hk : ∀ k, ok k → k < X.heap.size → ok' k) : BRows ok' X M v0 v1 v3 v4 v5 v6 v9 v10 v11 v12 :=
 ⟨h.r0.bound hk, h.r1.bound hk, h.r3.bound hk, h.r4.bound hk, h.r5.bound hk, h.r6.bound hk, h.r9.bound hk, h.r10.bound hk, h.r11.bound hk, h.r12.bound hk⟩
end
def BI (ok : Nat → Prop) (X : World) (m : Nat) (M : ModD) : Prop := ∃ v0 v1 v3 v4 v5 v6 v9 v10 v11 v12,
 Blk X m #[v0, v1, .slice none 0 0, v3, v4, v5, v6, .bool M.starts, .int .u32 M.start, v9, v10, v11, v12] 71 ∧ BRows ok X M v0 v1 v3 v4 v5 v6 v9 v10 v11 v12
theorem BI.step {ok : Nat → Prop} {X Y : World} {m : Nat} {M : ModD} (h : BI ok X m M) (ha : Agr ok X Y) (hb : Y.heap[m]? = X.heap[m]?) : BI ok Y m M := by
 obtain ⟨v0, v1, v3, v4, v5, v6, v9, v10, v11, v12, h1, h2⟩ := h
 exact ⟨v0, v1, v3, v4, v5, v6, v9, v10, v11, v12, hb.trans h1, h2.step ha⟩
theorem BI.mono {ok ok' : Nat → Prop} {X : World} {m : Nat} {M : ModD} (h : BI ok X m M) (hk : ∀ k, ok k → ok' k) : BI ok' X m M := by
 obtain ⟨v0, v1, v3, v4, v5, v6, v9, v10, v11, v12, h1, h2⟩ := h
 exact ⟨v0, v1, v3, v4, v5, v6, v9, v10, v11, v12, h1, h2.mono hk⟩
theorem BI.bound {ok ok' : Nat → Prop} {X : World} {m : Nat} {M : ModD} (h : BI ok X m M) (hk : ∀ k, ok k → k < X.heap.size → ok' k) : BI ok' X m M := by
 obtain ⟨v0, v1, v3, v4, v5, v6, v9, v10, v11, v12, h1, h2⟩ := h
 exact ⟨v0, v1, v3, v4, v5, v6, v9, v10, v11, v12, h1, h2.bound hk⟩
theorem BI.lt {ok : Nat → Prop} {X : World} {m : Nat} {M : ModD} (h : BI ok X m M) : m < X.heap.size := by
 obtain ⟨v0, v1, v3, v4, v5, v6, v9, v10, v11, v12, h1, h2⟩ := h
 exact h1.lt
def contM (sat : Bool) (B : List Int) (n : Int) (M : ModD) : ModD × Nat × Int := match n.toNat with
 | 0 => (M, cusM B 0 0)
 | 1 => ({ M with types := (lsOf (funM B) B 0 0).1 }, (lsOf (funM B) B 0 0).2)
 | 2 => ({ M with imports := (lsOf (impM B) B 0 0).1 }, (lsOf (impM B) B 0 0).2)
 | 3 => ({ M with tys := (lsOf (u32R B) B 0 0).1 }, (lsOf (u32R B) B 0 0).2)
 | 4 => ({ M with tables := (lsOf (tabM B) B 0 0).1 }, (lsOf (tabM B) B 0 0).2)
 | 5 => ({ M with mems := (lsOf (limM B) B 0 0).1 }, (lsOf (limM B) B 0 0).2)
 | 6 => ({ M with globals := (lsOf (cellM sat B) B 0 0).1 }, (lsOf (cellM sat B) B 0 0).2)
 | 7 => ({ M with exports := (lsOf (expM B) B 0 0).1 }, (lsOf (expM B) B 0 0).2)
 | 8 => ({ M with starts := true, start := (u32R B 0 0).1 }, (u32R B 0 0).2)
 | 9 => ({ M with elems := (lsOf (elemM sat B) B 0 0).1 }, (lsOf (elemM sat B) B 0 0).2)
 | 10 => ({ M with bodies := (lsOf (bodM sat B) B 0 0).1 }, (lsOf (bodM sat B) B 0 0).2)
 | 11 => ({ M with datas := (lsOf (dataM sat B) B 0 0).1 }, (lsOf (dataM sat B) B 0 0).2)
 | _ => (M, 0, 0)
def ContG (ok : Nat → Prop) (W : World) (p q m : Nat) (B : List Int) (r : ModD × Nat × Int) (E : Ending) (Y : World) : Prop :=
 E = .returned (.tuple #[]) ∧ BI (fun k => ok k ∨ W.heap.size ≤ k) Y m r.1 ∧ Cur Y p q B r.2.1 r.2.2 ∧ G2 W Y p m
set_option maxHeartbeats 2000000 in
theorem content_any (ok : Nat → Prop) (W : World) (p q m : Nat) (B : List Int) (n : Int) (sat : Bool) (M : ModD) (hC : Cur W p q B 0 0) (hB : Byts B) (hM : BI ok W m M) (hok : ∀ k, ok k → k ≠ m ∧ k ≠ p) (hmp : m ≠ p) (hmq : 0 < B.length → m ≠ q) (h0 : 0 ≤ n) (h11 : n ≤ 11) :
  Calls Tryz.prog 44 #[.pointer (some ⟨m, 0, none⟩), .int .u8 n, .agg #[.pointer (some ⟨p, 0, none⟩), .bool sat]] W (ContG ok W p q m B (contM sat B n M)) := by
 obtain ⟨v0, v1, v3, v4, v5, v6, v9, v10, v11, v12, hm, hR⟩ := hM
 have hn : n = 0 ∨ n = 1 ∨ n = 2 ∨ n = 3 ∨ n = 4 ∨ n = 5 ∨ n = 6 ∨ n = 7 ∨ n = 8 ∨ n = 9 ∨ n = 10 ∨ n = 11 := by omega
 rcases hn with rfl | rfl | rfl | rfl | rfl | rfl | rfl | rfl | rfl | rfl | rfl | rfl
 ·refine (cont_0 W p q m B 0 0 sat _ hC hB hm hmp hmq).mono ?_
  rintro E Y ⟨rfl, hb, hC', hG⟩
  exact ⟨rfl, ⟨v0, v1, v3, v4, v5, v6, v9, v10, v11, v12, hb, (hR.step (agr_g2 hG hok)).mono (fun k hk => .inl hk)⟩, hC', hG⟩
 ·refine (cont_1 W p q m B 0 0 sat _ v0 hC hB hm rfl hmp hmq).mono ?_
  rintro E Y ⟨rfl, ⟨v, hO, hb⟩, hC', hG⟩
  have hR' := (hR.step (agr_g2 hG hok)).mono (ok' := fun k => ok k ∨ W.heap.size ≤ k) (fun k hk => .inl hk)
  exact ⟨rfl, ⟨v, v1, v3, v4, v5, v6, v9, v10, v11, v12, hb, { hR' with r0 := (Row.of_own hO).mono (fun k hk => .inr hk) }⟩, hC', hG⟩
 ·refine (cont_2 W p q m B 0 0 sat _ v1 hC hB hm rfl hmp hmq).mono ?_
  rintro E Y ⟨rfl, ⟨v, hO, hb⟩, hC', hG⟩
  have hR' := (hR.step (agr_g2 hG hok)).mono (ok' := fun k => ok k ∨ W.heap.size ≤ k) (fun k hk => .inl hk)
  exact ⟨rfl, ⟨v0, v, v3, v4, v5, v6, v9, v10, v11, v12, hb, { hR' with r1 := (Row.of_own hO).mono (fun k hk => .inr hk) }⟩, hC', hG⟩
 ·refine (cont_3 W p q m B 0 0 sat _ v11 hC hB hm rfl hmp hmq).mono ?_
  rintro E Y ⟨rfl, ⟨v, hO, hb⟩, hC', hG⟩
  have hR' := (hR.step (agr_g2 hG hok)).mono (ok' := fun k => ok k ∨ W.heap.size ≤ k) (fun k hk => .inl hk)
  exact ⟨rfl, ⟨v0, v1, v3, v4, v5, v6, v9, v10, v, v12, hb, { hR' with r11 := (Row.of_own hO).mono (fun k hk => .inr hk) }⟩, hC', hG⟩
 ·refine (cont_4 W p q m B 0 0 sat _ v3 hC hB hm rfl hmp hmq).mono ?_
  rintro E Y ⟨rfl, ⟨v, hO, hb⟩, hC', hG⟩
  have hR' := (hR.step (agr_g2 hG hok)).mono (ok' := fun k => ok k ∨ W.heap.size ≤ k) (fun k hk => .inl hk)
  exact ⟨rfl, ⟨v0, v1, v, v4, v5, v6, v9, v10, v11, v12, hb, { hR' with r3 := (Row.of_own hO).mono (fun k hk => .inr hk) }⟩, hC', hG⟩
 ·refine (cont_5 W p q m B 0 0 sat _ v4 hC hB hm rfl hmp hmq).mono ?_
  rintro E Y ⟨rfl, ⟨v, hO, hb⟩, hC', hG⟩
  have hR' := (hR.step (agr_g2 hG hok)).mono (ok' := fun k => ok k ∨ W.heap.size ≤ k) (fun k hk => .inl hk)
  exact ⟨rfl, ⟨v0, v1, v3, v, v5, v6, v9, v10, v11, v12, hb, { hR' with r4 := (Row.of_own hO).mono (fun k hk => .inr hk) }⟩, hC', hG⟩
 ·refine (cont_6 W p q m B 0 0 sat _ v5 hC hB hm rfl hmp hmq).mono ?_
  rintro E Y ⟨rfl, ⟨v, hO, hb⟩, hC', hG⟩
  have hR' := (hR.step (agr_g2 hG hok)).mono (ok' := fun k => ok k ∨ W.heap.size ≤ k) (fun k hk => .inl hk)
  exact ⟨rfl, ⟨v0, v1, v3, v4, v, v6, v9, v10, v11, v12, hb, { hR' with r5 := (Row.of_own hO).mono (fun k hk => .inr hk) }⟩, hC', hG⟩
 ·refine (cont_7 W p q m B 0 0 sat _ v6 hC hB hm rfl hmp hmq).mono ?_
  rintro E Y ⟨rfl, ⟨v, hO, hb⟩, hC', hG⟩
  have hR' := (hR.step (agr_g2 hG hok)).mono (ok' := fun k => ok k ∨ W.heap.size ≤ k) (fun k hk => .inl hk)
  exact ⟨rfl, ⟨v0, v1, v3, v4, v5, v, v9, v10, v11, v12, hb, { hR' with r6 := (Row.of_own hO).mono (fun k hk => .inr hk) }⟩, hC', hG⟩
 ·refine (cont_8 W p q m B 0 0 sat _ (.bool M.starts) (.int .u32 M.start) hC hB hm rfl rfl hmp hmq).mono ?_
  rintro E Y ⟨rfl, hb, hC', hG⟩
  have hR' := (hR.step (agr_g2 hG hok)).mono (ok' := fun k => ok k ∨ W.heap.size ≤ k) (fun k hk => .inl hk)
  exact ⟨rfl, ⟨v0, v1, v3, v4, v5, v6, v9, v10, v11, v12, hb, { hR' with }⟩, hC', hG⟩
 ·refine (cont_9 W p q m B 0 0 sat _ v9 hC hB hm rfl hmp hmq).mono ?_
  rintro E Y ⟨rfl, ⟨v, hO, hb⟩, hC', hG⟩
  have hR' := (hR.step (agr_g2 hG hok)).mono (ok' := fun k => ok k ∨ W.heap.size ≤ k) (fun k hk => .inl hk)
  exact ⟨rfl, ⟨v0, v1, v3, v4, v5, v6, v, v10, v11, v12, hb, { hR' with r9 := (Row.of_own hO).mono (fun k hk => .inr hk) }⟩, hC', hG⟩
 ·refine (cont_10 W p q m B 0 0 sat _ v12 hC hB hm rfl hmp hmq).mono ?_
  rintro E Y ⟨rfl, ⟨v, hO, hb⟩, hC', hG⟩
  have hR' := (hR.step (agr_g2 hG hok)).mono (ok' := fun k => ok k ∨ W.heap.size ≤ k) (fun k hk => .inl hk)
  exact ⟨rfl, ⟨v0, v1, v3, v4, v5, v6, v9, v10, v11, v, hb, { hR' with r12 := (Row.of_own hO).mono (fun k hk => .inr hk) }⟩, hC', hG⟩
 ·refine (cont_11 W p q m B 0 0 sat _ v10 hC hB hm rfl hmp hmq).mono ?_
  rintro E Y ⟨rfl, ⟨v, hO, hb⟩, hC', hG⟩
  have hR' := (hR.step (agr_g2 hG hok)).mono (ok' := fun k => ok k ∨ W.heap.size ≤ k) (fun k hk => .inl hk)
  exact ⟨rfl, ⟨v0, v1, v3, v4, v5, v6, v9, v, v11, v12, hb, { hR' with r10 := (Row.of_own hO).mono (fun k hk => .inr hk) }⟩, hC', hG⟩
end Go.Proofs.YtofaiocffifhfaaGreat
end
section
namespace Go.Proofs.YtofaiocffifhfaaGreat
open Go.RowKit Go.Shelf YtofaiocffifhfaaGreatB Go.Proofs.YtofaiocffifhfaaGreatW.PrintWords
theorem ent_secs1 : Enters Tryz.prog 43 := enters_of Tryz.func43 (by kernel_rfl) rfl
set_option maxRecDepth 100000 in
set_option maxHeartbeats 1000000 in
theorem secs1_any (ok : Nat → Prop) (W : World) (p q m bm bn : Nat) (B : List Int) (n : Int) (sat : Bool) (M : ModD) (hC : Cur W p q B 0 0) (hB : Byts B) (hM : BI ok W m M) (hok : ∀ k, ok k → k ≠ m ∧ k ≠ p) (hmp : m ≠ p) (hmq : 0 < B.length → m ≠ q) (h0 : 0 ≤ n) (h11 : n ≤ 11)
  (h1 : W.cell? ⟨bm, 0, none⟩ = some (.pointer (some ⟨m, 0, none⟩))) (h2 : W.cell? ⟨bn, 0, none⟩ = some (.int .u8 n)) :
  Calls Tryz.prog 43 #[.agg #[.pointer (some ⟨p, 0, none⟩), .bool sat], .pointer (some ⟨bm, 0, none⟩), .pointer (some ⟨bn, 0, none⟩)] W (ContG ok W p q m B (contM sat B n M)) := by
 have hpl := hC.lt
 have hl1 := World.block_lt_of_cell? _ _ h1
 have hl2 := World.block_lt_of_cell? _ _ h2
 have hb0 : Below W.heap.size W (W.alloc (.cells #[.pointer (some ⟨p, 0, none⟩), .bool sat] 67)) := (Below.refl _ _).alloc (Nat.le_refl _) _
 have H0 := Lib.hid (content_any ok (W.alloc (.cells #[.pointer (some ⟨p, 0, none⟩), .bool sat] 67)) p q m B n sat M (hC.alloc _) hB (hM.step (Agr.of_below hb0) (hb0.block m hM.lt)) hok hmp hmq h0 h11)
 generalize contM sat B n M = r at *
 clear hC hB hM hmp hmq hb0
 go_enter Tryz.func43, Tryz.ntmps43
 go_wp2_with fail
 refine H0.out.mono ?_
 rintro E W1 ⟨rfl, hM, hC1, hG⟩
 have HM := Lib.hid (hM.mono (ok' := fun k => ok k ∨ W.heap.size ≤ k) (fun k hk => by rw [World.size_alloc] at hk; rcases hk with h | h; exact .inl h; exact .inr (by omega)))
 have HC := Lib.hid hC1
 have HG := Lib.hid hG
 clear hM hC1 hG H0
 go_wp2_with fail
 go_end0
 exact ⟨rfl, HM.out, HC.out, ((G2.refl W p m).alloc _).trans HG.out⟩
theorem take_pos {B : List Int} {a n nx : Nat} {l : List Int} (h : takeM B a n = .ok (l, nx)) : a ≤ nx := by
 unfold takeM at h
 split at h
 ·injection h with h
  injection h with _ h
  omega
 ·cases h
theorem piece_pos {B : List Int} (hB : Byts B) (a : Nat) (h : (pieceM B a 0).2.2 = 0) : a ≤ (pieceM B a 0).2.1 := by
 have hu0 : a ≤ (rdOf (u32M B a) a 0).2.1 := by
  rw [rdOf, if_pos rfl]
  cases hu : u32M B a with
  | error e' => exact Nat.le_refl _
  | ok r =>
   obtain ⟨n, nx⟩ := r
   have := (u32M_lt hB hu).2.1
   show a ≤ nx
   omega
 unfold pieceM at h ⊢
 generalize rdOf (u32M B a) a 0 = r at *
 obtain ⟨n, a1, e1⟩ := r
 dsimp only at h hu0 ⊢
 unfold rdL at h ⊢
 by_cases h1 : e1 = 0
 ·rw [if_pos h1] at h ⊢
  cases ht : takeM B a1 n.toNat with
  | error e' => exact hu0
  | ok r =>
   obtain ⟨l, nx⟩ := r
   exact Nat.le_trans hu0 (take_pos ht)
 ·rw [if_neg h1]
  exact hu0
def secStep (sat : Bool) (B : List Int) (M : ModD) (n : Int) (a : Nat) : ModD × Nat × Int :=
 let t := pieceM B a 0
 if t.2.2 = 0 then ((contM sat t.1 n M).1, t.2.1, backP (contM sat t.1 n M).2 t.1.length) else (M, t.2.1, t.2.2)
def SecI (n0 m p : Nat) (X : World) (M : ModD) (_ : Nat) : Prop := BI (fun k => n0 ≤ k ∧ k ≠ m ∧ k ≠ p) X m M ∧ p < X.heap.size ∧ n0 ≤ X.heap.size
theorem secI_move {n0 m p : Nat} (hmp : m ≠ p) : ∀ X Y M a, SecI n0 m p X M a → X.grownBy Y (some p) → SecI n0 m p Y M a := by
 rintro X Y M a ⟨h1, h2, h3⟩ hg
 exact ⟨h1.step (agr_grown hg (fun k hk e => by injection e with e; exact hk.2.2 e)) (hg.block m h1.lt (fun e => hmp (by injection e))), by have := hg.size; omega, by have := hg.size; omega⟩
set_option maxHeartbeats 1000000 in
theorem secStep_ok (n0 : Nat) (W : World) (p q m : Nat) (B : List Int) (sat : Bool) (hB : Byts B) (hmp : m ≠ p) (hmq : 0 < B.length → m ≠ q) : StepOk (SecI n0 m p) (secStep sat B) W p q m B sat := by
 intro X M a n bm bn hX hI hC hn h0 h11 hbm hbn h1 h2
 obtain ⟨hM, hpX, hnX⟩ := hI
 have hpb := piece_byts hB (a + 1) 0
 by_cases he : (pieceM B (a + 1) 0).2.2 = 0
 ·have hst : secStep sat B M n (a + 1) = ((contM sat (pieceM B (a + 1) 0).1 n M).1, (pieceM B (a + 1) 0).2.1, backP (contM sat (pieceM B (a + 1) 0).1 n M).2 (pieceM B (a + 1) 0).1.length) := if_pos he
  have hpos := piece_pos hB (a + 1) he
  rw [hst]
  have hmX := hM.lt
  refine (wholeg_two (fun p2 Y => BI (fun k => n0 ≤ k ∧ k ≠ m ∧ k ≠ p ∧ k ≠ p2) Y m (contM sat (pieceM B (a + 1) 0).1 n M).1 ∧ p < Y.heap.size ∧ n0 ≤ Y.heap.size) 43 ent_secs1 X p q m bm bn B (a + 1) 0 sat (contM sat (pieceM B (a + 1) 0).1 n M).2 hC hB he hpb hmX hmp hmq ?_ ?_).mono ?_
  ·rintro p2 Y Z row hp2 ⟨h3, h4, h5⟩ hg hr
   refine ⟨h3.step (agr_grown hg (fun k hk e => by rcases hr _ e.symm with h | h; exact hk.2.2.1 h; exact hk.2.2.2 h)) (hg.block m h3.lt (fun e => by rcases hr _ e.symm with h | h; exact hmp h; omega)), by have := hg.size; omega, by have := hg.size; omega⟩
  ·intro X' p2 q2 hp2 hpX' hq2 hC2 hg
   have hsz := hg.size
   have hb1 : X'.cell? ⟨bm, 0, none⟩ = some (.pointer (some ⟨m, 0, none⟩)) := by
    rw [← hbm]; exact World.cell?_of_block (hg.block bm (World.block_lt_of_cell? _ _ hbm) (fun e => h1 (by injection e)))
   have hb2 : X'.cell? ⟨bn, 0, none⟩ = some (.int .u8 n) := by
    rw [← hbn]; exact World.cell?_of_block (hg.block bn (World.block_lt_of_cell? _ _ hbn) (fun e => h2 (by injection e)))
   have hM' := (hM.bound (ok' := fun k => (n0 ≤ k ∧ k ≠ m ∧ k ≠ p) ∧ k < X.heap.size) (fun k hk hl => ⟨hk, hl⟩)).step (agr_grown hg (fun k hk e => by injection e with e; exact hk.1.2.2 e)) (hg.block m hmX (fun e => hmp (by injection e)))
   refine (secs1_any _ X' p2 q2 m bm bn (pieceM B (a + 1) 0).1 n sat M hC2 hpb hM' (fun k hk => ⟨hk.1.2.1, by omega⟩) (by omega) (fun hl => by have := hq2 hl; omega) h0 h11 hb1 hb2).mono ?_
   rintro E Y ⟨rfl, g1, g2, g3⟩
   have hs3 := g3.size
   refine ⟨rfl, ⟨g1.mono (fun k hk => ?_), by omega, by omega⟩, g2, g3⟩
   rcases hk with h | h
   ·exact ⟨h.1.1, h.1.2.1, h.1.2.2, by omega⟩
   ·exact ⟨by omega, by omega, by omega, by omega⟩
  ·rintro E Y ⟨rfl, ⟨p2, hp2, g1, g2, g3⟩, hC', hG⟩
   exact ⟨rfl, ⟨g1.mono (fun k hk => ⟨hk.1, hk.2.1, hk.2.2.1⟩), g2, g3⟩, hC', hG, fun _ => hpos⟩
 ·have hst : secStep sat B M n (a + 1) = (M, (pieceM B (a + 1) 0).2.1, (pieceM B (a + 1) 0).2.2) := if_neg he
  rw [hst]
  refine (whole_bad X p q B (a + 1) 0 sat _ hC hB (beq_eq_false_iff_ne.2 he)).mono ?_
  rintro E Y ⟨rfl, hG⟩
  exact ⟨rfl, secI_move hmp X Y M 0 ⟨hM, hpX, hnX⟩ hG.2, hG.1, G2.of_grown hG.2 (fun k e => by injection e with e; exact .inl e.symm), fun h => absurd h he⟩
end Go.Proofs.YtofaiocffifhfaaGreat
end
section
namespace Go.Proofs.YtofaiocffifhfaaGreat
open Go.RowKit Go.Shelf YtofaiocffifhfaaGreatB Go.Proofs.YtofaiocffifhfaaGreatW.PrintWords
theorem map_u8_inj : ∀ {a b : List Int}, (∀ x ∈ a, 0 ≤ x ∧ x ≤ 255) → (∀ x ∈ b, 0 ≤ x ∧ x ≤ 255) → a.map (fun n => UInt8.ofNat n.toNat) = b.map (fun n => UInt8.ofNat n.toNat) → a = b
 | [], [], _, _, _ => rfl
 | [], _ :: _, _, _, h => by simp at h
 | _ :: _, [], _, _, h => by simp at h
 | x :: a, y :: b, ha, hb, h => by
  simp only [List.map_cons, List.cons.injEq] at h
  have hx := ha x (by simp)
  have hy := hb y (by simp)
  have h1 := congrArg UInt8.toNat h.1
  simp at h1
  have hxy : x = y := by omega
  rw [hxy, map_u8_inj (fun z hz => ha z (by simp [hz])) (fun z hz => hb z (by simp [hz])) h.2]
theorem strOf_inj {a b : List Int} (ha : ∀ x ∈ a, 0 ≤ x ∧ x ≤ 255) (hb : ∀ x ∈ b, 0 ≤ x ∧ x ≤ 255) (h : strOfNums a = strOfNums b) : a = b :=
 map_u8_inj ha hb (by have := congrArg (fun s : ByteArray => s.data.toList) h; simpa [strOfNums_data] using this)
theorem str_ne_list {a b : ByteArray} (h : a ≠ b) : (a.toList == b.data.toList) = false := by
 rw [ByteArray.toList_eq]
 exact beq_eq_false_iff_ne.2 (fun e => h (ByteArray.ext (Array.toList_inj.1 e)))
def fnsM (M : ModD) : List FnD := List.zipWith (fun t b => ⟨t, b.loc, b.body⟩) M.tys M.bodies
def decM (sat : Bool) (B : List Int) : (ModD × List FnD) × Int :=
 if 65536 < B.length then (({}, []), 3)
 else if B.length < 8 ∨ ¬ B.take 8 = magicL then (({}, []), 103)
 else (let r := secM (secStep sat (B.drop 8)) (B.drop 8) ((B.drop 8).length + 1) {} 0 0 0
  if r.2.2 = 0 then (if r.1.tys.length = r.1.bodies.length then ((r.1, fnsM r.1), 0) else (({}, []), 109)) else (({}, []), r.2.2))
def DecPost (W : World) (r : (ModD × List FnD) × Int) (E : Ending) (W' : World) : Prop :=
 Below W.heap.size W W' ∧ ∃ v0 v1 v2 v3 v4 v5 v6 v9 v10 v11 v12, E = .returned (.tuple #[.agg #[v0, v1, v2, v3, v4, v5, v6, .bool r.1.1.starts, .int .u32 r.1.1.start, v9, v10], .int .i64 r.2]) ∧
  BRows (fun k => W.heap.size ≤ k) W' r.1.1 v0 v1 v3 v4 v5 v6 v9 v10 v11 v12 ∧ Row kFn (fun k => W.heap.size ≤ k) W' v2 r.1.2
theorem bRows_none {ok : Nat → Prop} {X : World} : BRows ok X {} (.slice none 0 0) (.slice none 0 0) (.slice none 0 0) (.slice none 0 0) (.slice none 0 0) (.slice none 0 0) (.slice none 0 0) (.slice none 0 0) (.slice none 0 0) (.slice none 0 0) :=
 ⟨Row.nil, Row.nil, Row.nil, Row.nil, Row.nil, Row.nil, Row.nil, Row.nil, Row.nil, Row.nil⟩
theorem decPost_bad {W W' : World} {e : Int} (hb : Below W.heap.size W W') : DecPost W (({}, []), e) (.returned (.tuple #[.agg (mod0 (.slice none 0 0)), .int .i64 e])) W' :=
 ⟨hb, _, _, _, _, _, _, _, _, _, _, _, rfl, bRows_none, Row.nil⟩
set_option maxRecDepth 100000 in
set_option maxHeartbeats 2000000 in
theorem Decode_early (W : World) (A : Option Addr) (c : Nat) (B : List Int) (sat : Bool) (hR : RdI W .u8 A B) (hB : Byts B) (hle : B.length ≤ c) (h : 65536 < B.length ∨ B.length < 8 ∨ ¬ B.take 8 = magicL) :
  Calls Tryz.prog 8 #[.slice A B.length c, .bool sat] W (DecPost W (decM sat B)) := by
 have hz := Blk.new W (mod0 (.slice none 0 0)) 34
 have hB0 : Below W.heap.size W (W.alloc (.cells (mod0 (.slice none 0 0)) 34)) := (Below.refl _ _).alloc (Nat.le_refl _) _
 have z0 : (W.alloc (.cells (mod0 (.slice none 0 0)) 34)).cell? ⟨W.heap.size, 0, none⟩ = some (.slice none 0 0) := hz.cell 0
 have z1 : (W.alloc (.cells (mod0 (.slice none 0 0)) 34)).cell? ⟨W.heap.size, 1, none⟩ = some (.slice none 0 0) := hz.cell 1
 have z2 : (W.alloc (.cells (mod0 (.slice none 0 0)) 34)).cell? ⟨W.heap.size, 2, none⟩ = some (.slice none 0 0) := hz.cell 2
 have z3 : (W.alloc (.cells (mod0 (.slice none 0 0)) 34)).cell? ⟨W.heap.size, 3, none⟩ = some (.slice none 0 0) := hz.cell 3
 have z4 : (W.alloc (.cells (mod0 (.slice none 0 0)) 34)).cell? ⟨W.heap.size, 4, none⟩ = some (.slice none 0 0) := hz.cell 4
 have z5 : (W.alloc (.cells (mod0 (.slice none 0 0)) 34)).cell? ⟨W.heap.size, 5, none⟩ = some (.slice none 0 0) := hz.cell 5
 have z6 : (W.alloc (.cells (mod0 (.slice none 0 0)) 34)).cell? ⟨W.heap.size, 6, none⟩ = some (.slice none 0 0) := hz.cell 6
 have z7 : (W.alloc (.cells (mod0 (.slice none 0 0)) 34)).cell? ⟨W.heap.size, 7, none⟩ = some (.bool false) := hz.cell 7
 have z8 : (W.alloc (.cells (mod0 (.slice none 0 0)) 34)).cell? ⟨W.heap.size, 8, none⟩ = some (.int .u32 0) := hz.cell 8
 have z9 : (W.alloc (.cells (mod0 (.slice none 0 0)) 34)).cell? ⟨W.heap.size, 9, none⟩ = some (.slice none 0 0) := hz.cell 9
 have z10 : (W.alloc (.cells (mod0 (.slice none 0 0)) 34)).cell? ⟨W.heap.size, 10, none⟩ = some (.slice none 0 0) := hz.cell 10
 have zf0 := hz.frozen 0
 have zf1 := hz.frozen 1
 have zf2 := hz.frozen 2
 have zf3 := hz.frozen 3
 have zf4 := hz.frozen 4
 have zf5 := hz.frozen 5
 have zf6 := hz.frozen 6
 have zf7 := hz.frozen 7
 have zf8 := hz.frozen 8
 have zf9 := hz.frozen 9
 have zf10 := hz.frozen 10
 have zl := hz.lt
 have HB0 := Lib.hid hB0
 clear hz
 by_cases h1 : 65536 < B.length
 ·have hd : decM sat B = (({}, []), 3) := if_pos h1
  rw [hd]
  have h2 : (65536 : Int) < B.length := by omega
  clear hR hB h h1 hd
  go_enter Tryz.func8, Tryz.ntmps8
  go_wp2_with fail
  refine bodyPost_ret (v := .tuple #[.agg (mod0 (.slice none 0 0)), .int .i64 3]) (by simp [results, Tryz.results8, go_sem, z0, z1, z2, z3, z4, z5, z6, z7, z8, z9, z10, zl]) rfl (decPost_bad ?_)
  (repeat (first | with_reducible exact HB0.out | (with_reducible refine bl_set ?_ _ _ _ ?_; rotate_left; omega) | with_reducible refine bl_alloc ?_ _ | with_reducible refine bl_drew ?_))
 ·have h2 : ¬ (65536 : Int) < B.length := by omega
  by_cases h3 : B.length < 8
  ·have hd : decM sat B = (({}, []), 103) := by rw [decM, if_neg h1, if_pos (.inl h3)]
   rw [hd]
   have h4 : (B.length : Int) < 8 := by omega
   clear hR hB h h1 hd h3
   go_enter Tryz.func8, Tryz.ntmps8
   go_wp2_with fail
   refine bodyPost_ret (v := .tuple #[.agg (mod0 (.slice none 0 0)), .int .i64 103]) (by simp [results, Tryz.results8, go_sem, z0, z1, z2, z3, z4, z5, z6, z7, z8, z9, z10, zl]) rfl (decPost_bad ?_)
   (repeat (first | with_reducible exact HB0.out | (with_reducible refine bl_set ?_ _ _ _ ?_; rotate_left; omega) | with_reducible refine bl_alloc ?_ _ | with_reducible refine bl_drew ?_))
  ·have h5 : ¬ B.take 8 = magicL := by rcases h with h | h | h; exact absurd h h1; exact absurd h h3; exact h
   have hd : decM sat B = (({}, []), 103) := by rw [decM, if_neg h1, if_pos (.inr h5)]
   rw [hd]
   have h4 : ¬ (B.length : Int) < 8 := by omega
   have h6 : (8 : Int) ≤ c := by omega
   have hl8 : (B.take 8).length = 8 := by rw [List.length_take]; omega
   have hR8 : RdI W .u8 A (B.take 8) := ⟨by omega, fun _ => by
    obtain ⟨b, o, e, hcc⟩ := hR.2 (by omega)
    refine ⟨b, o, e, fun j x hj => hcc j x ?_⟩
    have := (List.getElem?_eq_some_iff.1 hj).1
    rw [List.getElem?_take] at hj
    split at hj
    ·exact hj
    ·cases hj⟩
   have hk1 := conv_str _ A (B.take 8) c (hR8.below hB0)
   rw [hl8] at hk1
   have hs : strOfNums (B.take 8) ≠ strOfNums magicL := fun e => h5 (strOf_inj (fun x hx => hB.2 x (List.mem_of_mem_take hx)) (by decide) e)
   rw [magic_str] at hs
   have hsb : ((strOfNums (B.take 8)).toList == [0, 97, 115, 109, 1, 0, 0, 0]) = false := str_ne_list hs
   generalize strOfNums (B.take 8) = s at *
   clear hR hB h h1 hd h3 h5 hl8 hR8 hs hB0
   go_enter Tryz.func8, Tryz.ntmps8
   go_wp2_with fail
   refine bodyPost_ret (v := .tuple #[.agg (mod0 (.slice none 0 0)), .int .i64 103]) (by simp [results, Tryz.results8, go_sem, z0, z1, z2, z3, z4, z5, z6, z7, z8, z9, z10, zl]) rfl (decPost_bad ?_)
   (repeat (first | with_reducible exact HB0.out | (with_reducible refine bl_set ?_ _ _ _ ?_; rotate_left; omega) | with_reducible refine bl_alloc ?_ _ | with_reducible refine bl_drew ?_))
end Go.Proofs.YtofaiocffifhfaaGreat
end
section
namespace Go.Proofs.YtofaiocffifhfaaGreat
open Go.RowKit Go.Shelf YtofaiocffifhfaaGreatB Go.Proofs.YtofaiocffifhfaaGreatW.PrintWords
theorem gw_same {W X : World} {b : Nat} (h : W.grownBy X (some b)) (i : Nat) (v : Value) : W.grownBy (X.setCell ⟨b, i, none⟩ v) (some b) := h.trans (gset X b i v)
theorem decPost_ok {W wr Y : World} {M : ModD} {F : List FnD} {v0 v1 vf v3 v4 v5 v6 v9 v10 v11 v12 : Value} (hb : Below W.heap.size W wr) (hg : wr.grownBy Y (some W.heap.size)) (hR : BRows (fun k => W.heap.size + 1 ≤ k) wr M v0 v1 v3 v4 v5 v6 v9 v10 v11 v12) (hF : Row kFn (fun k => W.heap.size + 1 ≤ k) wr vf F) :
  DecPost W ((M, F), 0) (.returned (.tuple #[.agg #[v0, v1, vf, v3, v4, v5, v6, .bool M.starts, .int .u32 M.start, v9, v10], .int .i64 0])) Y := by
 have ha : Agr (fun k => W.heap.size + 1 ≤ k) wr Y := agr_grown hg (fun k hk e => by injection e with e; omega)
 exact ⟨hb.grown hg hb.size (fun k hk => by injection hk with hk; omega), v0, v1, vf, v3, v4, v5, v6, v9, v10, v11, v12, rfl, (hR.step ha).mono (fun k hk => by omega), (hF.step ha).mono (fun k hk => by omega)⟩
theorem fc_bound {α : Type} {d : Kd α} {X : World} {ok ok' : Nat → Prop} {A : Option Addr} {xs : List α} (h : FC d X ok A xs) (hk : ∀ k, ok k → k < X.heap.size → ok' k) : FC d X ok' A xs := Ft.bound h hk
theorem secM_inv {α : Type} (P : α → Prop) (step : α → Int → Nat → α × Nat × Int) (B : List Int) (hs : ∀ M n a, P M → P (step M n a).1) : ∀ (f : Nat) (M : α) (hi : Int) (a : Nat) (e : Int), P M → P (secM step B f M hi a e).1
 | 0, M, hi, a, e, h => h
 | f + 1, M, hi, a, e, h => by
  rw [secM]
  split
  ·split
   ·exact h
   ·split
    ·exact h
    ·exact secM_inv P step B hs f _ _ _ _ (hs _ _ _ h)
  ·exact h
theorem lsM_len {α : Type} (rd : Nat → Int → α × Nat × Int) : ∀ (k a : Nat) (e : Int), (lsM rd k a e).1.length ≤ k
 | 0, a, e => by simp [lsM]
 | k + 1, a, e => by
  rw [lsM]
  split
  ·have := lsM_len rd k (rd a 0).2.1 (rd a 0).2.2
   simp only [List.length_cons]
   omega
  ·simp
theorem lsOf_len {α : Type} (rd : Nat → Int → α × Nat × Int) {B : List Int} (hB : Byts B) (a : Nat) (e : Int) : (lsOf rd B a e).1.length ≤ 4096 := by
 have h1 := lsM_len rd (rdOf (countM B a) a e).1.toNat (rdOf (countM B a) a e).2.1 (rdOf (countM B a) a e).2.2
 have h2 := countM_rd (a := a) (e := e) hB
 unfold lsOf
 omega
theorem secStep_bodies {sat : Bool} {B : List Int} (hB : Byts B) (M : ModD) (n : Int) (a : Nat) (h : M.bodies.length ≤ 4096) : (secStep sat B M n a).1.bodies.length ≤ 4096 := by
 unfold secStep
 dsimp only
 split
 ·unfold contM
  split <;> first | exact h | exact lsOf_len _ (piece_byts hB a 0) 0 0
 ·exact h
set_option maxRecDepth 100000 in
set_option maxHeartbeats 4000000 in
theorem Decode_late (W : World) (A : Option Addr) (c : Nat) (T : List Int) (sat : Bool) (hR : RdI W .u8 A (magicL ++ T)) (hB : Byts (magicL ++ T)) (hl : T.length ≤ 65528) (hc : (magicL ++ T).length ≤ c) :
  Calls Tryz.prog 8 #[.slice A (magicL ++ T).length c, .bool sat] W (DecPost W (decM sat (magicL ++ T))) := by
 have hml : (magicL ++ T).length = 8 + T.length := by simp [magicL]; omega
 have hd : decM sat (magicL ++ T) = (let r := secM (secStep sat T) T (T.length + 1) {} 0 0 0; if r.2.2 = 0 then (if r.1.tys.length = r.1.bodies.length then ((r.1, fnsM r.1), 0) else (({}, []), 109)) else (({}, []), r.2.2)) := by
  unfold decM
  rw [if_neg (by omega), if_neg (fun h => by rcases h with h | h; omega; exact h (by simp [magicL]))]
  rfl
 obtain ⟨RR, hRR⟩ : ∃ RR, RR = decM sat (magicL ++ T) := ⟨_, rfl⟩
 rw [← hRR]
 rw [hd] at hRR
 dsimp only at hRR
 have HRR := Lib.hid hRR
 clear hd hRR
 obtain ⟨A2, hr2, hA2⟩ := cut_lo (P := Tryz.prog) 22 5 .i64 1 Tryz.underlying22 infoB A (magicL ++ T).length c 8 (by omega)
 have hR8 : RdI W .u8 A magicL := ⟨by decide, fun _ => by
  obtain ⟨b, o, e, hcc⟩ := hR.2 (by omega)
  refine ⟨b, o, e, fun j x hj => hcc j x ?_⟩
  have := (List.getElem?_eq_some_iff.1 hj).1
  rw [List.getElem?_append_left this]; exact hj⟩
 have hRT : RdI W .u8 A2 T := ⟨by omega, fun hp => by
  obtain ⟨b, o, e, hcc⟩ := hR.2 (by omega)
  refine ⟨b, o + 8, by rw [hA2 (by omega), e]; simp [Addr.add], fun j x hj => ?_⟩
  rw [Nat.add_assoc]
  refine hcc (8 + j) x ?_
  rw [List.getElem?_append_right (by simp [magicL])]
  simpa [magicL] using hj⟩
 have hk1 := fun X (h : Below W.heap.size W X) => conv_str X A magicL c (hR8.below h)
 rw [magic_str] at hk1
 have HK := Lib.hid hk1
 have HR := Lib.hid hRT
 have hBT : Byts T := ⟨by have := hB.1; omega, fun x hx => hB.2 x (List.mem_append_right _ hx)⟩
 have HB := Lib.hid hBT
 rw [hml] at hc ⊢
 have hr3 : ∀ X : World, (Instr.slice 22 (.slice A (8 + T.length) c) (some (.int .i64 8)) none none).run Tryz.prog X = .ok (.slice A2 T.length (c - 8)) X := fun X => by
  have h := hr2 X
  rw [hml, Nat.add_sub_cancel_left] at h
  exact h
 clear hr2
 have hk0 : ∀ X : World, Below W.heap.size W X → (convert 22 9 (.slice A 8 c)).run Tryz.prog X = .ok (.string ⟨#[0, 97, 115, 109, 1, 0, 0, 0]⟩) X := HK.out
 have hk2 := hk0 _ ((Below.refl _ _).alloc (Nat.le_refl _) (.cells (mod0 (.slice none 0 0)) 34))
 clear hR hB hA2 hR8 hRT hk1 hBT hml hk0
 go_enter Tryz.func8, Tryz.ntmps8
 go_wp2_with fail
 have hW1 : Below W.heap.size W (W.alloc (.cells (mod0 (.slice none 0 0)) 34)) := (Below.refl _ _).alloc (Nat.le_refl _) _
 have hz1 : (W.alloc (.cells (mod0 (.slice none 0 0)) 34)).heap.size = W.heap.size + 1 := World.size_alloc _ _
 have hx := Blk.new W (mod0 (.slice none 0 0)) 34
 have HN := Lib.hid (New_own _ A2 (c - 8) T (HR.out.below hW1) HB.out)
 have HW1 := Lib.hid hW1
 have HX := Lib.hid hx
 clear hx hW1
 refine HN.out.mono ?_
 rintro E W2 ⟨p, q, hp, hq, rfl, hC2, hB2⟩
 have HX2 := Lib.hid (HX.out.below hB2 (by omega))
 have hz2 := hB2.size
 have HW2 := Lib.hid (HW1.out.trans (hB2.mono (by omega)))
 have HC2 := Lib.hid hC2
 have hpl := hC2.lt
 have HQ := Lib.hid (fun hl => hC2.qlt' hl : 0 < T.length → q < W2.heap.size)
 clear hC2 hB2 hq HN HX HW1 hk2
 have hb6 := (Blk.new W2 #[.pointer (some ⟨p, 0, none⟩), .bool sat] 67).alloc (.cells (bld0 (.slice none 0 0)) 71)
 have hbm := Blk.new (W2.alloc (.cells #[.pointer (some ⟨p, 0, none⟩), .bool sat] 67)) (bld0 (.slice none 0 0)) 71
 have hx3 := (HX2.out.alloc (.cells #[.pointer (some ⟨p, 0, none⟩), .bool sat] 67)).alloc (.cells (bld0 (.slice none 0 0)) 71)
 have hC3 := (HC2.out.alloc (.cells #[.pointer (some ⟨p, 0, none⟩), .bool sat] 67)).alloc (.cells (bld0 (.slice none 0 0)) 71)
 have hz3 : ((W2.alloc (.cells #[.pointer (some ⟨p, 0, none⟩), .bool sat] 67)).alloc (.cells (bld0 (.slice none 0 0)) 71)).heap.size = W2.heap.size + 2 := by rw [World.size_alloc, World.size_alloc]
 rw [World.size_alloc] at hbm
 have hmp : W2.heap.size + 1 ≠ p := by omega
 have hs3 := sections_gen (SecI (W.heap.size + 1) (W2.heap.size + 1) p) (secStep sat T) _ p q (W2.heap.size + 1) T sat {} hC3 HB.out (by omega) hmp ⟨⟨_, _, _, _, _, _, _, _, _, _, hbm, bRows_none⟩, by omega, by omega⟩ (secI_move hmp) (secStep_ok (W.heap.size + 1) _ p q (W2.heap.size + 1) T sat HB.out hmp (fun hl => by have := HQ.out hl; omega))
 have hbod := secM_inv (fun M : ModD => M.bodies.length ≤ 4096) (secStep sat T) T (fun M n a h => secStep_bodies HB.out M n a h) (T.length + 1) {} 0 0 0 (Nat.zero_le _)
 generalize secM (secStep sat T) T (T.length + 1) {} 0 0 0 = r at *
 have HB3 := Lib.hid ((HW2.out.alloc HW2.out.size (.cells #[.pointer (some ⟨p, 0, none⟩), .bool sat] 67)).alloc (by rw [World.size_alloc]; have := HW2.out.size; omega) (.cells (bld0 (.slice none 0 0)) 71))
 have HX3 := Lib.hid hx3
 have HX6 := Lib.hid hb6
 have HS3 := Lib.hid hs3
 have HXM := Lib.hid (show W2.heap.size + 1 < ((W2.alloc (.cells #[.pointer (some ⟨p, 0, none⟩), .bool sat] 67)).alloc (.cells (bld0 (.slice none 0 0)) 71)).heap.size by omega)
 clear hb6 hbm hx3 hC3 hs3
 go_wp2_with fail
 refine HS3.out.mono ?_
 rintro E W4 ⟨rfl, ⟨a5, ⟨v0, v1, v3, v4, v5, v6, v9, v10, v11, v12, hm4, hR4⟩, _, _⟩, hC4, hG4⟩
 obtain ⟨M, a4, e1⟩ := r
 dsimp only at hm4 hR4 hC4 hbod ⊢
 have HR4 := Lib.hid hR4
 have hz4 := hG4.size
 rw [hz3] at hz4
 have hpw : W.heap.size ≠ p := by omega
 have hmw : W.heap.size ≠ W2.heap.size + 1 := by omega
 have hx4 : Blk W4 W.heap.size (mod0 (.slice none 0 0)) 34 := HX3.out.g2 hG4 hpw hmw
 have hx6 : Blk W4 W2.heap.size #[.pointer (some ⟨p, 0, none⟩), .bool sat] 67 := HX6.out.g2 hG4 (by omega) (by omega)
 have HB4 := Lib.hid (below_ge W.heap.size HB3.out p (W2.heap.size + 1) hG4 (by omega) (by omega) (by omega))
 have HC4 := Lib.hid hC4
 have HX4 := Lib.hid hx4
 have HX5 := Lib.hid hx6
 have HM4 := Lib.hid hm4
 have x0 : W4.cell? ⟨W2.heap.size, 0, none⟩ = some (.pointer (some ⟨p, 0, none⟩)) := hx6.cell 0
 have x1 : W4.cell? ⟨W2.heap.size, 1, none⟩ = some (.bool sat) := hx6.cell 1
 have xl := hx6.lt
 clear hG4 hC4 hx4 hx6 hm4 hR4 HS3 HB3 HX3 HX6 HX2 HW2 HC2 HQ HXM hz3
 by_cases he : e1 = 0
 ·subst he
  have HPG := Lib.hid (pgood_any W4 p q T a4 0 sat true HC4.out rfl)
  obtain ⟨A11, c11, h11v, hc11, hF11⟩ := HR4.out.r11
  obtain ⟨A12, c12, h12v, hc12, hF12⟩ := HR4.out.r12
  subst h11v h12v
  have HF11 := Lib.hid hF11
  have HF12 := Lib.hid hF12
  have HL11 := Lib.hid hc11
  have HL12 := Lib.hid hc12
  clear hc11 hF11 hc12 hF12
  go_wp2_with fail
  refine HPG.out.mono ?_
  rintro E w' ⟨rfl, rfl⟩
  have hal : Below W4.heap.size W4 (W4.alloc (.cells #[.pointer (some ⟨p, 0, none⟩), .bool sat] 67)) := (Below.refl _ _).alloc (Nat.le_refl _) _
  have hm5 := HM4.out.alloc (.cells #[.pointer (some ⟨p, 0, none⟩), .bool sat] 67)
  have hx5 := HX4.out.alloc (.cells #[.pointer (some ⟨p, 0, none⟩), .bool sat] 67)
  have hB5 := HB4.out.alloc HB4.out.size (.cells #[.pointer (some ⟨p, 0, none⟩), .bool sat] 67)
  have HR5 := Lib.hid (HR4.out.step (Agr.of_below hal))
  have HG11 := Lib.hid (fc_bound (Ft.step HF11.out (Agr.of_below hal)) (ok' := fun k => (W.heap.size + 1 ≤ k ∧ k ≠ W2.heap.size + 1 ∧ k ≠ p) ∧ k < (W4.alloc (.cells #[.pointer (some ⟨p, 0, none⟩), .bool sat] 67)).heap.size) (fun k hk hl => ⟨hk, hl⟩))
  have HG12 := Lib.hid (fc_bound (Ft.step HF12.out (Agr.of_below hal)) (ok' := fun k => (W.heap.size + 1 ≤ k ∧ k ≠ W2.heap.size + 1 ∧ k ≠ p) ∧ k < (W4.alloc (.cells #[.pointer (some ⟨p, 0, none⟩), .bool sat] 67)).heap.size) (fun k hk hl => ⟨hk, hl⟩))
  clear HX5 HX4 HM4 HC4 HB4 x0 x1 HR4 HF11 HF12 hal
  generalize W4.alloc (.cells #[.pointer (some ⟨p, 0, none⟩), .bool sat] 67) = W5 at *
  have m0 : W5.cell? ⟨W2.heap.size + 1, 0, none⟩ = some (v0) := hm5.cell 0
  have m1 : W5.cell? ⟨W2.heap.size + 1, 1, none⟩ = some (v1) := hm5.cell 1
  have m2 : W5.cell? ⟨W2.heap.size + 1, 2, none⟩ = some (.slice none 0 0) := hm5.cell 2
  have m3 : W5.cell? ⟨W2.heap.size + 1, 3, none⟩ = some (v3) := hm5.cell 3
  have m4 : W5.cell? ⟨W2.heap.size + 1, 4, none⟩ = some (v4) := hm5.cell 4
  have m5 : W5.cell? ⟨W2.heap.size + 1, 5, none⟩ = some (v5) := hm5.cell 5
  have m6 : W5.cell? ⟨W2.heap.size + 1, 6, none⟩ = some (v6) := hm5.cell 6
  have m7 : W5.cell? ⟨W2.heap.size + 1, 7, none⟩ = some (.bool M.starts) := hm5.cell 7
  have m8 : W5.cell? ⟨W2.heap.size + 1, 8, none⟩ = some (.int .u32 M.start) := hm5.cell 8
  have m9 : W5.cell? ⟨W2.heap.size + 1, 9, none⟩ = some (v9) := hm5.cell 9
  have m10 : W5.cell? ⟨W2.heap.size + 1, 10, none⟩ = some (v10) := hm5.cell 10
  have m11 : W5.cell? ⟨W2.heap.size + 1, 11, none⟩ = some (.slice A11 M.tys.length c11) := hm5.cell 11
  have m12 : W5.cell? ⟨W2.heap.size + 1, 12, none⟩ = some (.slice A12 M.bodies.length c12) := hm5.cell 12
  have z0 : W5.cell? ⟨W.heap.size, 0, none⟩ = some (.slice none 0 0) := hx5.cell 0
  have z1 : W5.cell? ⟨W.heap.size, 1, none⟩ = some (.slice none 0 0) := hx5.cell 1
  have z2 : W5.cell? ⟨W.heap.size, 2, none⟩ = some (.slice none 0 0) := hx5.cell 2
  have z3 : W5.cell? ⟨W.heap.size, 3, none⟩ = some (.slice none 0 0) := hx5.cell 3
  have z4 : W5.cell? ⟨W.heap.size, 4, none⟩ = some (.slice none 0 0) := hx5.cell 4
  have z5 : W5.cell? ⟨W.heap.size, 5, none⟩ = some (.slice none 0 0) := hx5.cell 5
  have z6 : W5.cell? ⟨W.heap.size, 6, none⟩ = some (.slice none 0 0) := hx5.cell 6
  have z7 : W5.cell? ⟨W.heap.size, 7, none⟩ = some (.bool false) := hx5.cell 7
  have z8 : W5.cell? ⟨W.heap.size, 8, none⟩ = some (.int .u32 0) := hx5.cell 8
  have z9 : W5.cell? ⟨W.heap.size, 9, none⟩ = some (.slice none 0 0) := hx5.cell 9
  have z10 : W5.cell? ⟨W.heap.size, 10, none⟩ = some (.slice none 0 0) := hx5.cell 10
  have zf0 := hx5.frozen 0
  have zf1 := hx5.frozen 1
  have zf2 := hx5.frozen 2
  have zf3 := hx5.frozen 3
  have zf4 := hx5.frozen 4
  have zf5 := hx5.frozen 5
  have zf6 := hx5.frozen 6
  have zf7 := hx5.frozen 7
  have zf8 := hx5.frozen 8
  have zf9 := hx5.frozen 9
  have zf10 := hx5.frozen 10
  have ml := hm5.lt
  have zl := hx5.lt
  have HM5 := Lib.hid hm5
  have HX5 := Lib.hid hx5
  have HB5 := Lib.hid hB5
  clear hm5 hx5 hB5
  by_cases hlen : M.tys.length = M.bodies.length
  ·have HRV := Lib.hid (show RR = ((M, fnsM M), 0) from by have h := HRR.out; simpa [hlen] using h)
   clear HRR
   have hlen2 : (M.tys.length : Int) = (M.bodies.length : Int) := by omega
   have HLE := Lib.hid hlen
   clear hlen
   go_wp2_with fail
   go_region
   go_wp2_with fail
   obtain ⟨m, hmm⟩ : ∃ m, W2.heap.size + 1 = m := ⟨_, rfl⟩
   obtain ⟨n5, hn5⟩ : ∃ n5, W5.heap.size = n5 := ⟨_, rfl⟩
   have hfl : (fnsM M).length = M.bodies.length := by simp [fnsM, HLE.out]
   rw [hmm] at HM5 hmp hmw ml
   rw [hmm]
   have hmn : m < n5 := by omega
   have hnw : W.heap.size ≤ n5 := by have := HB5.out.size; omega
   have HMW := Lib.hid (show W.heap.size < m from by omega)
   clear m0 m1 m2 m3 m4 m5 m6 m7 m8 m9 m10 m11 m12 z0 z1 z2 z3 z4 z5 z6 z7 z8 z9 z10 zf0 zf1 zf2 zf3 zf4 zf5 zf6 zf7 zf8 zf9 zf10
   go_loopw [62] (fun i wr => ∃ (j : Nat) (vf : Value), j ≤ M.bodies.length ∧ i = .int .i64 j ∧ Hid (Own kFn 75 wr n5 (fun k => W.heap.size + 1 ≤ k ∧ k < n5 ∧ k ≠ m) vf ((fnsM M).take j)) ∧ Hid (Blk wr m #[v0, v1, vf, v3, v4, v5, v6, .bool M.starts, .int .u32 M.start, v9, v10, .slice A11 M.tys.length c11, .slice A12 M.bodies.length c12] 71) ∧ Hid (W5.grownBy wr (some m))) (fun i _ => M.bodies.length - (intOf i).toNat)
   case atStart => exact ⟨0, .slice none 0 0, Nat.zero_le _, rfl, Own.nil, HM5.out, (by first | exact World.grownBy.refl _ _ | exact grown_below (bl_drew (Below.refl _ W5)) _)⟩
   case round =>
    obtain ⟨j, vf, hj, rfl, HO, HMb, HG⟩ := hrel
    have hzr := HG.out.size
    rw [hn5] at hzr
    have hbm : W.heap.size < W5.heap.size := zl
    have HX6 := Lib.hid (HX5.out.grown HG.out (fun e => by injection e with e; have := HMW.out; omega))
    have H11 := Lib.hid (Ft.step HG11.out (agr_grown HG.out (fun k hk e => by injection e with e; exact hk.1.2.1 (by rw [hmm]; exact e))))
    have H12 := Lib.hid (Ft.step HG12.out (agr_grown HG.out (fun k hk e => by injection e with e; exact hk.1.2.1 (by rw [hmm]; exact e))))
    by_cases hlt : j < M.bodies.length
    ·have hlt2 : (j : Int) < (M.bodies.length : Int) := by omega
     have hjt : j < M.tys.length := by have := HLE.out; omega
     have hlt3 : (j : Int) < (M.tys.length : Int) := by omega
     obtain ⟨b, o, x, cs, hA12, hx, hk, hc⟩ := FC.at_ H12.out (show 0 < 3 by decide) j hlt
     obtain ⟨b', o', x', cs', hA11, hx', hk', hc'⟩ := FC.at_ H11.out (show 0 < 1 by decide) j hjt
     obtain ⟨rfl, hw'⟩ := (hk'.now : cs' = [.int .u32 x'] ∧ (Lit.int .u32 x').wf = true)
     obtain ⟨AL, cL, AB, cB, rfl, hlL, hFL, hlB, hFB⟩ := fn_open hk
     have hsz3 : kFn.sz = 3 := rfl
     have hsz1 : (rng .u32).sz = 1 := rfl
     have d0 := hc 0 _ rfl
     have d1 := hc 1 _ rfl
     have d2 := hc 2 _ rfl
     have d3 := hc' 0 _ rfl
     simp only [hsz3, hsz1, Nat.add_zero, Nat.mul_one] at d0 d1 d2 d3
     have hbl := World.block_lt_of_cell? _ _ d0
     have hbl' := World.block_lt_of_cell? _ _ d3
     have hmb := HMb.out
     have k2 := hmb.cell 2
     have k11 := hmb.cell 11
     have k12 := hmb.cell 12
     have HX := Lib.hid hx.out
     have HX' := Lib.hid hx'.out
     have HFL := Lib.hid hFL
     have HFB := Lib.hid hFB
     have HLL := Lib.hid hlL
     have HLB := Lib.hid hlB
     have HW' := Lib.hid hw'
     have kl := hmb.lt
     clear hx hx' hk hk' hc hc' hFL hFB hlL hlB hw' hmb
     simp only at hbl hbl'
     go_wp2_with fail
     have hzw : (wr.alloc (.cells #[.int .u32 x', .slice AL x.loc.length cL, .slice AB x.body.length cB] 75)).heap.size = wr.heap.size + 1 := World.size_alloc _ _
     have hal : Below wr.heap.size wr (wr.alloc (.cells #[.int .u32 x', .slice AL x.loc.length cL, .slice AB x.body.length cB] 75)) := (Below.refl _ _).alloc (Nat.le_refl _) _
     have HF9 := Lib.hid (Blk.new wr #[.int .u32 x', .slice AL x.loc.length cL, .slice AB x.body.length cB] 75)
     have HM9 := Lib.hid (HMb.out.alloc (.cells #[.int .u32 x', .slice AL x.loc.length cL, .slice AB x.body.length cB] 75))
     have HO9 := Lib.hid (HO.out.below hal)
     have HG9 := Lib.hid (gw_alloc HG.out (.cells #[.int .u32 x', .slice AL x.loc.length cL, .slice AB x.body.length cB] 75))
     have HFL9 := Lib.hid (fc_alloc HFL.out (.cells #[.int .u32 x', .slice AL x.loc.length cL, .slice AB x.body.length cB] 75))
     have HFB9 := Lib.hid (fc_alloc HFB.out (.cells #[.int .u32 x', .slice AL x.loc.length cL, .slice AB x.body.length cB] 75))
     clear hal d0 d1 d2 d3 k2 k11 k12 hbl hbl' kl HFL HFB H11 H12 HX6
     generalize wr.alloc (.cells #[.int .u32 x', .slice AL x.loc.length cL, .slice AB x.body.length cB] 75) = X at *
     have hne : ∀ k, vf.ownBlock = some k → n5 ≤ k := fun k hk => (Own.block HO9.out hk).1
     have hwx := HW'.out
     have hx0 : 0 ≤ x' ∧ x' ≤ 4294967295 := by have := wf_bounds hwx; simp [IntKind.min, IntKind.max, IntKind.signed, IntKind.bits] at this; omega
     have HFK := Lib.hid (show FK kFn X.drew (fun k => (W.heap.size + 1 ≤ k ∧ k < n5 ∧ k ≠ m) ∧ some k ≠ vf.ownBlock) ⟨x', x.loc, x.body⟩ [.int .u32 x', .slice AL x.loc.length cL, .slice AB x.body.length cB] from
      fn_mk (x := ⟨x', x.loc, x.body⟩) hx0
       (fc_mono (fc_drew HFL9.out) (fun k hk => ⟨⟨hk.1.1, by rw [← hn5]; exact hk.2, by rw [← hmm]; exact hk.1.2.1⟩, fun e => by have h1 := hne k e.symm; have h2 := hk.2; omega⟩)) HLL.out
       (fc_mono (fc_drew HFB9.out) (fun k hk => ⟨⟨hk.1.1, by rw [← hn5]; exact hk.2, by rw [← hmm]; exact hk.1.2.1⟩, fun e => by have h1 := hne k e.symm; have h2 := hk.2; omega⟩)) HLB.out)
     have HOD := Lib.hid (HO9.out.below (bl_drew (Below.refl X.heap.size X)))
     have hmx := HM9.out
     have k2 := hmx.cell 2
     have kl := hmx.lt
     have hfx := HF9.out
     have g0 := hfx.cell 0
     have g1 := hfx.cell 1
     have g2 := hfx.cell 2
     have gl := hfx.lt
     have HNE := Lib.hid (fun e => by have := hne m e.symm; omega : some m ≠ vf.ownBlock)
     have HMD := Lib.hid (fun Y (h : X.drew.grownBy Y vf.ownBlock) => (by
      have hb : Blk Y m #[v0, v1, vf, v3, v4, v5, v6, .bool M.starts, .int .u32 M.start, v9, v10, .slice A11 M.tys.length c11, .slice A12 M.bodies.length c12] 71 := Blk.grown (show Blk X.drew m _ _ from HM9.out) h HNE.out
      exact ⟨hb.cell 2, hb.frozen 2, hb.lt⟩ : Y.cell? ⟨m, 2, none⟩ = some vf ∧ Y.frozen? ⟨m, 2, none⟩ = false ∧ m < Y.heap.size))
     have hb9 := hbod
     have HL9 := Lib.hid (show (((fnsM M).take j).length + 1) * 56 ≤ 140737488355328 from by rw [List.length_take]; omega)
     have hbs : n5 ≤ X.drew.heap.size := by show n5 ≤ X.heap.size; omega
     have HZW := Lib.hid hzw
     clear hmx hfx hwx hzw
     go_region_law (first
      | (refine Own.append_step (d := kFn) n5 rfl (.tmp 80) (.tmp 82) 26 75 _ 56 rfl Tryz.underlying26 info_fn rfl (by decide) (by decide) vf ((fnsM M).take j) ⟨x', x.loc, x.body⟩ _ (fun k => W.heap.size + 1 ≤ k ∧ k < n5 ∧ k ≠ m) rfl rfl HFK.out HOD.out hbs HL9.out ?_; intro v1 w1 hown1 hg1 hat1; obtain ⟨A9, c9, rfl, hl9, hF9⟩ := Own.reads hown1; obtain ⟨q2, qf, ql⟩ := HMD.out _ hg1))
     all_goals
      have hfj : (fnsM M)[j]? = some ⟨x', x.loc, x.body⟩ := by
       unfold fnsM
       rw [List.getElem?_zipWith, HX'.out, HX.out]
      have htk : (fnsM M).take (j + 1) = (fnsM M).take j ++ [(⟨x', x.loc, x.body⟩ : FnD)] := by rw [List.take_add_one, hfj]; rfl
      have hlen9 : ((fnsM M).take j ++ [(⟨x', x.loc, x.body⟩ : FnD)]).length = j + 1 := by
       rw [List.length_append, List.length_take, hfl]
       simp only [List.length_cons, List.length_nil]
       omega
      rw [hlen9] at hown1
      have hbk : ∀ k, (Value.slice A9 (j + 1) c9).ownBlock = some k → n5 ≤ k := fun k hk => (Own.block hown1 hk).1
      have hoz := hown1.grown (gset w1 m 2 (.slice A9 (j + 1) c9)) (.inr (fun e => by have := hbk m e; omega)) (fun k hk e => by injection e with e; exact hk.2.2 e)
      have HOZ := Lib.hid (show Own kFn 75 (w1.setCell ⟨m, 2, none⟩ (.slice A9 (j + 1) c9)) n5 (fun k => W.heap.size + 1 ≤ k ∧ k < n5 ∧ k ≠ m) (.slice A9 (j + 1) c9) ((fnsM M).take (j + 1)) from by rw [htk]; exact hoz)
      have HMZ := Lib.hid ((Blk.grown (show Blk X.drew m _ _ from HM9.out) hg1 HNE.out).set 2 (.slice A9 (j + 1) c9))
      have HGZ := Lib.hid ((grown_jj (gw_drew HG9.out) hg1 (fun k hk => .inr (by rw [hn5]; exact hne k hk))).trans (gset w1 m 2 (.slice A9 (j + 1) c9)))
      clear hown1 hg1 hat1 hl9 hF9 q2 qf ql hfj htk hbk hoz hlen9
      go_wp2_with fail
      subst hA11 hA12
      refine ⟨?_, ?_⟩
      ·(repeat apply Exists.intro)
       refine ⟨?_, rfl⟩
       exact ⟨j + 1, _, by omega, by go_num, HOZ, HMZ, HGZ⟩
      ·simp [intOf]; omega
    ·obtain rfl : j = M.bodies.length := by omega
     have hmx := HMb.out
     have hzx := HX6.out
     have m0 : wr.cell? ⟨m, 0, none⟩ = some (v0) := hmx.cell 0
     have m1 : wr.cell? ⟨m, 1, none⟩ = some (v1) := hmx.cell 1
     have m2 : wr.cell? ⟨m, 2, none⟩ = some (vf) := hmx.cell 2
     have m3 : wr.cell? ⟨m, 3, none⟩ = some (v3) := hmx.cell 3
     have m4 : wr.cell? ⟨m, 4, none⟩ = some (v4) := hmx.cell 4
     have m5 : wr.cell? ⟨m, 5, none⟩ = some (v5) := hmx.cell 5
     have m6 : wr.cell? ⟨m, 6, none⟩ = some (v6) := hmx.cell 6
     have m7 : wr.cell? ⟨m, 7, none⟩ = some (.bool M.starts) := hmx.cell 7
     have m8 : wr.cell? ⟨m, 8, none⟩ = some (.int .u32 M.start) := hmx.cell 8
     have m9 : wr.cell? ⟨m, 9, none⟩ = some (v9) := hmx.cell 9
     have m10 : wr.cell? ⟨m, 10, none⟩ = some (v10) := hmx.cell 10
     have z0 : wr.cell? ⟨W.heap.size, 0, none⟩ = some (.slice none 0 0) := hzx.cell 0
     have z1 : wr.cell? ⟨W.heap.size, 1, none⟩ = some (.slice none 0 0) := hzx.cell 1
     have z2 : wr.cell? ⟨W.heap.size, 2, none⟩ = some (.slice none 0 0) := hzx.cell 2
     have z3 : wr.cell? ⟨W.heap.size, 3, none⟩ = some (.slice none 0 0) := hzx.cell 3
     have z4 : wr.cell? ⟨W.heap.size, 4, none⟩ = some (.slice none 0 0) := hzx.cell 4
     have z5 : wr.cell? ⟨W.heap.size, 5, none⟩ = some (.slice none 0 0) := hzx.cell 5
     have z6 : wr.cell? ⟨W.heap.size, 6, none⟩ = some (.slice none 0 0) := hzx.cell 6
     have z7 : wr.cell? ⟨W.heap.size, 7, none⟩ = some (.bool false) := hzx.cell 7
     have z8 : wr.cell? ⟨W.heap.size, 8, none⟩ = some (.int .u32 0) := hzx.cell 8
     have z9 : wr.cell? ⟨W.heap.size, 9, none⟩ = some (.slice none 0 0) := hzx.cell 9
     have z10 : wr.cell? ⟨W.heap.size, 10, none⟩ = some (.slice none 0 0) := hzx.cell 10
     have zf0 := hzx.frozen 0
     have zf1 := hzx.frozen 1
     have zf2 := hzx.frozen 2
     have zf3 := hzx.frozen 3
     have zf4 := hzx.frozen 4
     have zf5 := hzx.frozen 5
     have zf6 := hzx.frozen 6
     have zf7 := hzx.frozen 7
     have zf8 := hzx.frozen 8
     have zf9 := hzx.frozen 9
     have zf10 := hzx.frozen 10
     have ml6 := hmx.lt
     have zl6 := hzx.lt
     rw [← hfl, List.take_length] at HO
     have HRW := Lib.hid (HR5.out.step (agr_grown HG.out (fun k hk e => by injection e with e; exact hk.2.1 (by rw [hmm]; exact e))))
     have HBW := Lib.hid (HB5.out.grown HG.out HB5.out.size (fun k hk => by injection hk with hk; have := HMW.out; omega))
     clear hmx hzx H11 H12
     obtain ⟨B0, b0, e0, _, _⟩ := HRW.out.r0
     subst e0
     obtain ⟨B1, b1, e1, _, _⟩ := HRW.out.r1
     subst e1
     obtain ⟨B3, b3, e3, _, _⟩ := HRW.out.r3
     subst e3
     obtain ⟨B4, b4, e4, _, _⟩ := HRW.out.r4
     subst e4
     obtain ⟨B5, b5, e5, _, _⟩ := HRW.out.r5
     subst e5
     obtain ⟨B6, b6, e6, _, _⟩ := HRW.out.r6
     subst e6
     obtain ⟨B9, b9, e9, _, _⟩ := HRW.out.r9
     subst e9
     obtain ⟨B10, b10, e10, _, _⟩ := HRW.out.r10
     subst e10
     obtain ⟨Bf, bf, ef, _, _⟩ := HO.out.reads
     subst ef
     go_wp2_with fail
     rw [HRV.out]
     refine bodyPost_ret (v := .tuple #[.agg #[.slice B0 M.types.length b0, .slice B1 M.imports.length b1, .slice Bf M.bodies.length bf, .slice B3 M.tables.length b3, .slice B4 M.mems.length b4, .slice B5 M.globals.length b5, .slice B6 M.exports.length b6, .bool M.starts, .int .u32 M.start, .slice B9 M.elems.length b9, .slice B10 M.datas.length b10], .int .i64 0]) (by simp [results, Tryz.results8, go_sem, z0, z1, z2, z3, z4, z5, z6, z7, z8, z9, z10, zl6]) rfl ?_
     refine decPost_ok HBW.out ?_ (HRW.out.mono (fun k hk => hk.1)) (by
      obtain ⟨A9, c9, h1, h2, h3⟩ := HO.out.reads
      rw [hfl] at h1
      exact ⟨A9, c9, h1.trans (by rw [hfl]), h2, fc_mono h3 (fun k hk => by rcases hk with h | h; exact h.1; have := HMW.out; omega)⟩)
     (repeat (first | with_reducible exact World.grownBy.refl _ _ | with_reducible refine gw_same ?_ _ _))
  ·have HRV := Lib.hid (show RR = (({}, []), 109) from by have h := HRR.out; simpa [hlen] using h)
   have hlen2 : ¬ (M.tys.length : Int) = (M.bodies.length : Int) := by omega
   clear hlen
   go_wp2_with fail
   go_region
   go_wp2_with fail
   rw [HRV.out]
   refine bodyPost_ret (v := .tuple #[.agg (mod0 (.slice none 0 0)), .int .i64 109]) (by simp [results, Tryz.results8, go_sem, z0, z1, z2, z3, z4, z5, z6, z7, z8, z9, z10, zl]) rfl (decPost_bad ?_)
   (repeat (first | with_reducible exact HB5.out | (with_reducible refine bl_set ?_ _ _ _ ?_; rotate_left; omega) | with_reducible refine bl_alloc ?_ _ | with_reducible refine bl_drew ?_))
 ·have HPG := Lib.hid (pgood_any W4 p q T a4 e1 sat false HC4.out (by simp [he]))
  have hx5 := HX4.out.alloc (.cells #[.pointer (some ⟨p, 0, none⟩), .bool sat] 67)
  have hx6 := HX5.out.alloc (.cells #[.pointer (some ⟨p, 0, none⟩), .bool sat] 67)
  have HE := Lib.hid (err_any _ p q T a4 e1 (HC4.out.alloc (.cells #[.pointer (some ⟨p, 0, none⟩), .bool sat] 67)))
  have y0 : (W4.alloc (.cells #[.pointer (some ⟨p, 0, none⟩), .bool sat] 67)).cell? ⟨W2.heap.size, 0, none⟩ = some (.pointer (some ⟨p, 0, none⟩)) := hx6.cell 0
  have HX6 := Lib.hid hx5
  have HB5 := Lib.hid (HB4.out.alloc HB4.out.size (.cells #[.pointer (some ⟨p, 0, none⟩), .bool sat] 67))
  have HE1 := Lib.hid he
  clear he hx6
  have z0 : (W4.alloc (.cells #[.pointer (some ⟨p, 0, none⟩), .bool sat] 67)).cell? ⟨W.heap.size, 0, none⟩ = some (.slice none 0 0) := hx5.cell 0
  have z1 : (W4.alloc (.cells #[.pointer (some ⟨p, 0, none⟩), .bool sat] 67)).cell? ⟨W.heap.size, 1, none⟩ = some (.slice none 0 0) := hx5.cell 1
  have z2 : (W4.alloc (.cells #[.pointer (some ⟨p, 0, none⟩), .bool sat] 67)).cell? ⟨W.heap.size, 2, none⟩ = some (.slice none 0 0) := hx5.cell 2
  have z3 : (W4.alloc (.cells #[.pointer (some ⟨p, 0, none⟩), .bool sat] 67)).cell? ⟨W.heap.size, 3, none⟩ = some (.slice none 0 0) := hx5.cell 3
  have z4 : (W4.alloc (.cells #[.pointer (some ⟨p, 0, none⟩), .bool sat] 67)).cell? ⟨W.heap.size, 4, none⟩ = some (.slice none 0 0) := hx5.cell 4
  have z5 : (W4.alloc (.cells #[.pointer (some ⟨p, 0, none⟩), .bool sat] 67)).cell? ⟨W.heap.size, 5, none⟩ = some (.slice none 0 0) := hx5.cell 5
  have z6 : (W4.alloc (.cells #[.pointer (some ⟨p, 0, none⟩), .bool sat] 67)).cell? ⟨W.heap.size, 6, none⟩ = some (.slice none 0 0) := hx5.cell 6
  have z7 : (W4.alloc (.cells #[.pointer (some ⟨p, 0, none⟩), .bool sat] 67)).cell? ⟨W.heap.size, 7, none⟩ = some (.bool false) := hx5.cell 7
  have z8 : (W4.alloc (.cells #[.pointer (some ⟨p, 0, none⟩), .bool sat] 67)).cell? ⟨W.heap.size, 8, none⟩ = some (.int .u32 0) := hx5.cell 8
  have z9 : (W4.alloc (.cells #[.pointer (some ⟨p, 0, none⟩), .bool sat] 67)).cell? ⟨W.heap.size, 9, none⟩ = some (.slice none 0 0) := hx5.cell 9
  have z10 : (W4.alloc (.cells #[.pointer (some ⟨p, 0, none⟩), .bool sat] 67)).cell? ⟨W.heap.size, 10, none⟩ = some (.slice none 0 0) := hx5.cell 10
  have zf0 := hx5.frozen 0
  have zf1 := hx5.frozen 1
  have zf2 := hx5.frozen 2
  have zf3 := hx5.frozen 3
  have zf4 := hx5.frozen 4
  have zf5 := hx5.frozen 5
  have zf6 := hx5.frozen 6
  have zf7 := hx5.frozen 7
  have zf8 := hx5.frozen 8
  have zf9 := hx5.frozen 9
  have zf10 := hx5.frozen 10
  have zl := hx5.lt
  clear hx5
  go_wp2_with fail
  refine HPG.out.mono ?_
  rintro E w' ⟨rfl, rfl⟩
  go_wp2_with fail
  refine HE.out.mono ?_
  rintro E w' ⟨rfl, rfl⟩
  go_wp2_with fail
  have hrv : RR = (({}, []), e1) := (by have h := HRR.out; rw [if_neg HE1.out] at h; exact h)
  rw [hrv]
  refine bodyPost_ret (v := .tuple #[.agg (mod0 (.slice none 0 0)), .int .i64 e1]) (by simp [results, Tryz.results8, go_sem, z0, z1, z2, z3, z4, z5, z6, z7, z8, z9, z10, zl]) rfl (decPost_bad ?_)
  (repeat (first | with_reducible exact HB5.out | (with_reducible refine bl_set ?_ _ _ _ ?_; rotate_left; omega) | with_reducible refine bl_alloc ?_ _ | with_reducible refine bl_drew ?_))
end Go.Proofs.YtofaiocffifhfaaGreat
end
section
namespace Go.Proofs.YtofaiocffifhfaaGreat
open Go.RowKit Go.Shelf YtofaiocffifhfaaGreatB Go.Proofs.YtofaiocffifhfaaGreatW.PrintWords
theorem Decode_any (W : World) (A : Option Addr) (c : Nat) (B : List Int) (sat : Bool) (hR : RdI W .u8 A B) (hB : Byts B) (hle : B.length ≤ c) :
  Calls Tryz.prog 8 #[.slice A B.length c, .bool sat] W (DecPost W (decM sat B)) := by
 by_cases h : 65536 < B.length ∨ B.length < 8 ∨ ¬ B.take 8 = magicL
 ·exact Decode_early W A c B sat hR hB hle h
 ·have h1 : B.length ≤ 65536 := Nat.le_of_not_lt (fun g => h (.inl g))
  have h2 : 8 ≤ B.length := Nat.le_of_not_lt (fun g => h (.inr (.inl g)))
  have h3 : B.take 8 = magicL := Classical.byContradiction (fun g => h (.inr (.inr g)))
  obtain ⟨T, rfl⟩ : ∃ T, B = magicL ++ T := ⟨B.drop 8, by rw [← h3, List.take_append_drop]⟩
  have hml : (magicL ++ T).length = 8 + T.length := by simp [magicL]; omega
  exact Decode_late W A c T sat hR hB (by omega) hle
end Go.Proofs.YtofaiocffifhfaaGreat
end
section
namespace Go.Proofs.YtofaiocffifhfaaGreat
open Go.RowKit Go.Shelf YtofaiocffifhfaaGreatB Go.Proofs.YtofaiocffifhfaaGreatW.PrintWords
-- The document's kinds: as the program's, with the document's instructions.
def kRCell : Kd CellD := Kd.iso (Kd.pair (rng .u8) (Kd.pair Kd.bool (Kd.pair (Kd.slice 151 kR) knil))) (fun x => (x.ty.1, x.ty.2, x.init, ()))
def kRElem : Kd ElemD := Kd.iso (Kd.pair (rng .u32) (Kd.pair (Kd.slice 151 kR) (Kd.pair (Kd.slice 30 (rng .u32)) knil))) (fun x => (x.tab, x.off, x.fns, ()))
def kRData : Kd DataD := Kd.iso (Kd.pair (rng .u32) (Kd.pair (Kd.slice 151 kR) (Kd.pair (Kd.slice 5 (rng .u8)) knil))) (fun x => (x.mem, x.off, x.bts, ()))
def kRFn : Kd FnD := Kd.iso (Kd.pair (rng .u32) (Kd.pair (Kd.slice 5 (rng .u8)) (Kd.pair (Kd.slice 151 kR) knil))) (fun x => (x.ty, x.loc, x.body, ()))
theorem info_rlim : (Tryz.prog.info? 106).map (fun i => (i.zero, i.size, i.bytes)) = some (some (.agg #[.int .u32 0, .int .u32 0, .bool false]), 3, 12) := by kernel_rfl
def LimPost (W : World) (xs : List (Int × Int × Bool)) (E : Ending) (W' : World) : Prop :=
 (∃ v, E = .returned v ∧ Own kLim 106 W' W.heap.size (fun _ => False) v xs) ∧ Below W.heap.size W W'
set_option maxRecDepth 100000 in
set_option maxHeartbeats 1000000 in
theorem limits20_any (W : World) (A : Option Addr) (c : Nat) (xs : List (Int × Int × Bool)) (ok : Nat → Prop) (hF : FC kLim W ok A xs) (hl : xs.length ≤ 1048576) :
  Calls Tryz.prog 30 #[.slice A xs.length c] W (LimPost W xs) := by
 have HF := Lib.hid (show FC kLim W (fun k => k < W.heap.size) A xs from FC.of_old hF.now)
 clear hF
 go_enter Tryz.func30, Tryz.ntmps30
 go_wp2_with fail
 go_loopw [3, 8] (fun v i wr => ∃ (j : Nat), j ≤ xs.length ∧ i = .int .i64 j ∧ Hid (Own kLim 106 wr W.heap.size (fun _ => False) v (xs.take j)) ∧ Hid (Below W.heap.size W wr)) (fun _ i _ => xs.length - (intOf i).toNat)
 case atStart => exact ⟨0, Nat.zero_le _, rfl, Own.nil, Below.refl _ _⟩
 case round =>
  obtain ⟨j, hj, rfl, HO, HBw⟩ := hrel
  by_cases hlt : j < xs.length
  ·have hlt2 : (j : Int) < (xs.length : Int) := by omega
   obtain ⟨b, o, x, cs, rfl, hx, hk, hc⟩ := FC.at_ (Ft.below HF.out HBw.out) (show 0 < 3 by decide) j hlt
   obtain rfl := lim_open hk
   have hz : kLim.sz = 3 := rfl
   have d0 := hc 0 _ rfl
   have d1 := hc 1 _ rfl
   have d2 := hc 2 _ rfl
   simp only [hz, Nat.add_zero] at d0 d1 d2
   have hbl := World.block_lt_of_cell? _ _ d0
   simp only at hbl
   have HX := Lib.hid hx.out
   have HKK := Lib.hid hk
   have hwz := HBw.out.size
   have HO1 := Lib.hid (HO.out.below ((Below.refl _ _).alloc (Nat.le_refl _) (.cells #[.int .u32 x.1, .int .u32 x.2.1, .bool x.2.2] 101)))
   have HB1 := Lib.hid (HBw.out.alloc hwz (.cells #[.int .u32 x.1, .int .u32 x.2.1, .bool x.2.2] 101))
   have hk2 : ∀ (X : World), FK kLim X (fun q => False ∧ some q ≠ u3.ownBlock) x [.int .u32 x.1, .int .u32 x.2.1, .bool x.2.2] := fun X _ _ => HKK.out.now
   have HK2 := Lib.hid hk2
   have hn : W.heap.size ≤ (wr.alloc (.cells #[.int .u32 x.1, .int .u32 x.2.1, .bool x.2.2] 101)).heap.size := by rw [World.size_alloc]; omega
   have hL9 : ((xs.take j).length + 1) * 12 ≤ 140737488355328 := by rw [List.length_take]; omega
   have HN := Lib.hid hn
   have HL9 := Lib.hid hL9
   clear hx hk hc hk2 hn hL9
   go_wp2_with (at_builtin; refine Own.append (d := kLim) W.heap.size rfl (.tmp 12) (.tmp 14) 41 106 _ 12 rfl Tryz.underlying41 info_rlim rfl (by decide) (by decide) u3 (xs.take j) x _ (fun _ => False) rfl (by rw [World.size_alloc]; rfl) (HK2.out _) HO1.out HN.out HL9.out ?_; intro v1 w1 hown1 hg1 hat1)
   have hown : ∀ q, u3.ownBlock = some q → W.heap.size ≤ q := fun q hq => (Own.block HO1.out hq).1
   have HO3 := Lib.hid hown1
   have HB3 := Lib.hid (HB1.out.grown hg1 HN.out hown)
   clear hown1 hg1 hat1
   go_wp2_with fail
   go_roundw
   case rel =>
    refine ⟨j + 1, by omega, by go_num, ?_, HB3⟩
    rw [List.take_add_one, HX.out]
    exact HO3.out
   case measure => simp [intOf]; omega
  ·obtain rfl : j = xs.length := by omega
   go_wp2_with fail
   go_ret
   rw [List.take_length] at HO
   exact ⟨⟨_, rfl, HO.out⟩, HBw.out⟩
end Go.Proofs.YtofaiocffifhfaaGreat
end
section
namespace Go.Proofs.YtofaiocffifhfaaGreat
open Go.RowKit Go.Shelf YtofaiocffifhfaaGreatB Go.Proofs.YtofaiocffifhfaaGreatW.PrintWords
structure PRows (ok : Nat → Prop) (X : World) (M : ModD) (fns : List FnD) (v0 v1 v2 v3 v4 v5 v6 v9 v10 : Value) : Prop where
 r0 : Row kFt ok X v0 M.types
 r1 : Row kImp ok X v1 M.imports
 r2 : Row kRFn ok X v2 fns
 r3 : Row kLim ok X v3 M.tables
 r4 : Row kLim ok X v4 M.mems
 r5 : Row kRCell ok X v5 M.globals
 r6 : Row kExp ok X v6 M.exports
 r9 : Row kRElem ok X v9 M.elems
 r10 : Row kRData ok X v10 M.datas
def PlainPost20 (W : World) (ok : Nat → Prop) (M : ModD) (fns : List FnD) (E : Ending) (W' : World) : Prop :=
 Below W.heap.size W W' ∧ ∃ v0 v1 v2 v3 v4 v5 v6 v9 v10, E = .returned (.agg #[v0, v1, v2, v3, v4, v5, v6, .bool M.starts, .int .u32 M.start, v9, v10]) ∧
  PRows (fun k => ok k ∨ W.heap.size ≤ k) W' M fns v0 v1 v2 v3 v4 v5 v6 v9 v10
section
variable {ok ok' : Nat → Prop} {X Y : World} {M : ModD} {fns : List FnD} {v0 v1 v2 v3 v4 v5 v6 v9 v10 : Value}
theorem PRows.step (h : PRows ok X M fns v0 v1 v2 v3 v4 v5 v6 v9 v10) (ha : Agr ok X Y) : PRows ok Y M fns v0 v1 v2 v3 v4 v5 v6 v9 v10 :=
 ⟨h.r0.step ha, h.r1.step ha, h.r2.step ha, h.r3.step ha, h.r4.step ha, h.r5.step ha, h.r6.step ha, h.r9.step ha, h.r10.step ha⟩
theorem PRows.mono (h : PRows ok X M fns v0 v1 v2 v3 v4 v5 v6 v9 v10) (hk : ∀ k, ok k → ok' k) : PRows ok' X M fns v0 v1 v2 v3 v4 v5 v6 v9 v10 :=
 ⟨h.r0.mono hk, h.r1.mono hk, h.r2.mono hk, h.r3.mono hk, h.r4.mono hk, h.r5.mono hk, h.r6.mono hk, h.r9.mono hk, h.r10.mono hk⟩
theorem PRows.full (h : PRows ok X (⟨M.types, M.imports, M.tables, M.mems, M.globals, M.exports, M.starts, M.start, M.elems, M.datas, [], []⟩ : ModD) fns v0 v1 v2 v3 v4 v5 v6 v9 v10) : PRows ok X M fns v0 v1 v2 v3 v4 v5 v6 v9 v10 :=
 ⟨h.r0, h.r1, h.r2, h.r3, h.r4, h.r5, h.r6, h.r9, h.r10⟩
end
def okA (okS : Nat → Prop) (n1 g : Nat) (k : Nat) : Prop := okS k ∨ (n1 ≤ k ∧ k ≠ g)
structure Nils (i : Nat) (v0 v1 v2 v5 v6 v9 v10 : Value) : Prop where
 n0 : i < 1 → v0 = .slice none 0 0
 n1 : i < 2 → v1 = .slice none 0 0
 n6 : i < 3 → v6 = .slice none 0 0
 n2 : i < 4 → v2 = .slice none 0 0
 n5 : i < 5 → v5 = .slice none 0 0
 n9 : i < 6 → v9 = .slice none 0 0
 n10 : i < 7 → v10 = .slice none 0 0
theorem Nils.up {i : Nat} {v0 v1 v2 v5 v6 v9 v10 : Value} (h : Nils i v0 v1 v2 v5 v6 v9 v10) : Nils (i + 1) v0 v1 v2 v5 v6 v9 v10 :=
 ⟨fun k => h.n0 (by omega), fun k => h.n1 (by omega), fun k => h.n6 (by omega), fun k => h.n2 (by omega), fun k => h.n5 (by omega), fun k => h.n9 (by omega), fun k => h.n10 (by omega)⟩
def PSt (i : Nat) (okS : Nat → Prop) (W1 : World) (g : Nat) (X : World) (M : ModD) (fns : List FnD) : Prop :=
 Below W1.heap.size W1 X ∧ ∃ v0 v1 v2 v3 v4 v5 v6 v9 v10, Nils i v0 v1 v2 v5 v6 v9 v10 ∧ Blk X g #[v0, v1, v2, v3, v4, v5, v6, .bool M.starts, .int .u32 M.start, v9, v10] 47 ∧ PRows (okA okS W1.heap.size g) X M fns v0 v1 v2 v3 v4 v5 v6 v9 v10
theorem okA_own {α : Type} {d : Kd α} {t : Nat} {Y : World} {okS : Nat → Prop} {n n1 g : Nat} {v : Value} {xs : List α} (h : Own d t Y n (fun k => okS k ∨ n ≤ k) v xs) (h1 : n1 ≤ n) (hg : g < n) : Row d (okA okS n1 g) Y v xs := by
 obtain ⟨A, c, e, hl, hF⟩ := h.reads
 exact ⟨A, c, e, hl, Ft.mono hF (fun k hk => by
  rcases hk with (hk | hk) | hk
  ·exact .inl hk
  ·exact .inr ⟨by omega, by omega⟩
  ·exact .inr ⟨by omega, by omega⟩)⟩
theorem okA_agr {okS : Nat → Prop} {n1 g : Nat} {X Y : World} (h : X.grownBy Y (some g)) (hs : ∀ k, okS k → k ≠ g) : Agr (okA okS n1 g) X Y :=
 agr_grown h (fun k hk e => by
  injection e with e
  rcases hk with hk | hk
  ·exact hs k hk e
  ·exact hk.2 e)
theorem ft_openF {W : World} {ok : Nat → Prop} {x : List Int × List Int} {cs : List Value} (h : FK kFt W ok x cs) : ∃ A c A' c', cs = [.slice A x.1.length c, .slice A' x.2.length c'] := by
 obtain ⟨A, c, A', c', e, _⟩ := ft_open h
 exact ⟨A, c, A', c', e⟩
theorem infoR_imp : (Tryz.prog.info? 108).map (fun i => (i.zero, i.size, i.bytes)) = some (some (.agg #[.string ⟨#[]⟩, .string ⟨#[]⟩, .int .i64 0, .int .u32 0, .int .u32 0, .int .u32 0, .bool false, .int .u8 0, .bool false]), 9, 64) := by kernel_rfl
theorem infoR_exp : (Tryz.prog.info? 111).map (fun i => (i.zero, i.size, i.bytes)) = some (some (.agg #[.string ⟨#[]⟩, .int .i64 0, .int .u32 0]), 3, 32) := by kernel_rfl
theorem infoR_fn : (Tryz.prog.info? 87).map (fun i => (i.zero, i.size, i.bytes)) = some (some (.agg #[.int .u32 0, .slice none 0 0, .slice none 0 0]), 3, 56) := by kernel_rfl
theorem infoR_cell : (Tryz.prog.info? 116).map (fun i => (i.zero, i.size, i.bytes)) = some (some (.agg #[.int .u8 0, .bool false, .slice none 0 0]), 3, 32) := by kernel_rfl
theorem infoR_elem : (Tryz.prog.info? 92).map (fun i => (i.zero, i.size, i.bytes)) = some (some (.agg #[.int .u32 0, .slice none 0 0, .slice none 0 0]), 3, 56) := by kernel_rfl
theorem infoR_data : (Tryz.prog.info? 95).map (fun i => (i.zero, i.size, i.bytes)) = some (some (.agg #[.int .u32 0, .slice none 0 0, .slice none 0 0]), 3, 56) := by kernel_rfl
theorem infoR_fty : (Tryz.prog.info? 99).map (fun i => (i.zero, i.size, i.bytes)) = some (some (.agg #[.slice none 0 0, .slice none 0 0]), 2, 48) := by kernel_rfl
section
variable {W : World} {ok : Nat → Prop} {cs : List Value}
theorem elem_wf {x : ElemD} (h : FK kElem W ok x cs) : (Lit.int .u32 x.tab).wf = true := by
 obtain ⟨_, _, _, h1, _⟩ := fk_pair_inv (fk_iso_inv h)
 exact (fk_int_inv h1).2
theorem data_wf {x : DataD} (h : FK kData W ok x cs) : (Lit.int .u32 x.mem).wf = true := by
 obtain ⟨_, _, _, h1, _⟩ := fk_pair_inv (fk_iso_inv h)
 exact (fk_int_inv h1).2
theorem fn_wf {x : FnD} (h : FK kFn W ok x cs) : (Lit.int .u32 x.ty).wf = true := by
 obtain ⟨_, _, _, h1, _⟩ := fk_pair_inv (fk_iso_inv h)
 exact (fk_int_inv h1).2
theorem cell_wf {x : CellD} (h : FK kCell W ok x cs) : (Lit.int .u8 x.ty.1).wf = true := by
 obtain ⟨_, _, _, h1, _⟩ := fk_pair_inv (fk_iso_inv h)
 exact (fk_int_inv h1).2
theorem rcell_mk {x : CellD} {A : Option Addr} {c : Nat} (h0 : (Lit.int .u8 x.ty.1).wf = true) (h : FC kR W ok A x.init) (hl : x.init.length ≤ c) : FK kRCell W ok x [.int .u8 x.ty.1, .bool x.ty.2, .slice A x.init.length c] :=
 fk_iso (fk_pair (fk_int h0) (fk_pair (fk_bool _) (fk_pair (fk_sl h hl) fk_nil)))
theorem relem_mk {x : ElemD} {A A' : Option Addr} {c c' : Nat} (h0 : (Lit.int .u32 x.tab).wf = true) (h : FC kR W ok A x.off) (hl : x.off.length ≤ c) (h' : FC (rng .u32) W ok A' x.fns) (hl' : x.fns.length ≤ c') :
  FK kRElem W ok x [.int .u32 x.tab, .slice A x.off.length c, .slice A' x.fns.length c'] :=
 fk_iso (fk_pair (fk_int h0) (fk_pair (fk_sl h hl) (fk_pair (fk_sl h' hl') fk_nil)))
theorem rdata_mk {x : DataD} {A A' : Option Addr} {c c' : Nat} (h0 : (Lit.int .u32 x.mem).wf = true) (h : FC kR W ok A x.off) (hl : x.off.length ≤ c) (h' : FC (rng .u8) W ok A' x.bts) (hl' : x.bts.length ≤ c') :
  FK kRData W ok x [.int .u32 x.mem, .slice A x.off.length c, .slice A' x.bts.length c'] :=
 fk_iso (fk_pair (fk_int h0) (fk_pair (fk_sl h hl) (fk_pair (fk_sl h' hl') fk_nil)))
theorem rfn_mk {x : FnD} {A A' : Option Addr} {c c' : Nat} (h0 : (Lit.int .u32 x.ty).wf = true) (h' : FC (rng .u8) W ok A' x.loc) (hl' : x.loc.length ≤ c') (h : FC kR W ok A x.body) (hl : x.body.length ≤ c) :
  FK kRFn W ok x [.int .u32 x.ty, .slice A' x.loc.length c', .slice A x.body.length c] :=
 fk_iso (fk_pair (fk_int h0) (fk_pair (fk_sl h' hl') (fk_pair (fk_sl h hl) fk_nil)))
end
end Go.Proofs.YtofaiocffifhfaaGreat
end
section
namespace Go.Proofs.YtofaiocffifhfaaGreat
open Go.RowKit Go.Shelf YtofaiocffifhfaaGreatB Go.Proofs.YtofaiocffifhfaaGreatW.PrintWords
def AwI (W : World) (n1 : Nat) (p m : Nat) (B : List Int) (X : World) (M : Bool) (a : Nat) : Prop :=
 (M = false ∧ a = 0 ∧ Blk X m (bld0 (.slice none 0 0)) 71) ∨ (M = true ∧ B.length ≤ a ∧ ∃ A c, Blk X m (bld0 (.slice A n1 c)) 71)
theorem awI_move {W : World} {n1 p m : Nat} {B : List Int} (hmp : m ≠ p) : ∀ X Y M a, AwI W n1 p m B X M a → X.grownBy Y (some p) → AwI W n1 p m B Y M a := by
 intro X Y M a h hg
 have hn : some m ≠ some p := fun e => hmp (by injection e)
 rcases h with ⟨h1, h2, h3⟩ | ⟨h1, h2, A, c, h3⟩
 ·exact .inl ⟨h1, h2, h3.grown hg hn⟩
 ·exact .inr ⟨h1, h2, A, c, h3.grown hg hn⟩
def T1 : List Int := [7]
def T2 : List Int := [1, 4, 1, 96, 0, 0]
def st1 : Bool → Int → Nat → Bool × Nat × Int := fun _ _ a => (true, a, 100)
def st2 : Bool → Int → Nat → Bool × Nat × Int := fun _ _ _ => (true, 6, 0)
theorem sec1_eq : secM st1 T1 (T1.length + 1) false 0 0 0 = (true, 1, 100) := by decide
theorem sec2_eq : secM st2 T2 (T2.length + 1) false 0 0 0 = (true, 6, 0) := by decide
theorem byts1 : Byts T1 := ⟨by decide, by decide⟩
theorem byts2 : Byts T2 := ⟨by decide, by decide⟩
theorem piece1 : pieceM T1 1 0 = ([], 1, 100) := by decide
theorem piece2 : pieceM T2 1 0 = ([1, 96, 0, 0], 6, 0) := by decide
theorem fts2 : ftsOf [1, 96, 0, 0] 0 0 = ([([], [])], 4, 0) := by decide
theorem step1 (W : World) (p q m : Nat) (hmp : m ≠ p) : StepOk (AwI W 0 p m T1) st1 W p q m T1 false := by
 intro X M a n bm bn hX hI hC hn h0 h11 hbm hbn h1 h2
 rcases hI with ⟨rfl, rfl, hm⟩ | ⟨_, hl, _⟩
 ·have h := whole_bad X p q T1 1 0 false (.func (.func 43) #[] #[.pointer (some ⟨bm, 0, none⟩), .pointer (some ⟨bn, 0, none⟩)]) hC byts1 (by rw [piece1]; rfl)
  rw [piece1] at h
  refine h.mono ?_
  rintro E Y ⟨rfl, hG⟩
  exact ⟨rfl, .inr ⟨rfl, (by show T1.length ≤ 0 + 1; decide), none, 0, hm.grown hG.2 (fun e => hmp (by injection e))⟩, hG.1, G2.of_grown hG.2 (fun k e => by injection e with e; exact .inl e.symm), fun h => absurd (show (100 : Int) = 0 from h) (by decide)⟩
 ·have := (List.getElem?_eq_some_iff.1 hn).1
  omega
theorem step2 (W : World) (p q m : Nat) (hmp : m ≠ p) (hmq : m ≠ q) : StepOk (AwI W 1 p m T2) st2 W p q m T2 false := by
 intro X M a n bm bn hX hI hC hn h0 h11 hbm hbn h1 h2
 rcases hI with ⟨rfl, rfl, hm⟩ | ⟨_, hl, _⟩
 ·have hn1 : n = 1 := by simpa [T2] using hn.symm
  subst hn1
  have h := whole_one X p q m bm bn T2 1 0 false (bld0 (.slice none 0 0)) (.slice none 0 0) hC byts2 (by rw [piece2]) (by rw [piece2]; exact ⟨by decide, by decide⟩) hm rfl hmp (fun _ => hmq) hbm hbn h1 h2
  rw [piece2] at h
  refine h.mono ?_
  rintro E Y ⟨rfl, ⟨v, hO, hB⟩, hC', hG⟩
  rw [fts2] at hO hC'
  obtain ⟨A, c, rfl, _, _⟩ := hO.reads
  exact ⟨rfl, .inr ⟨rfl, by decide, A, c, hB⟩, hC', hG, fun _ => by decide⟩
 ·have := (List.getElem?_eq_some_iff.1 hn).1
  omega
theorem dec1 (W : World) (A : Option Addr) (c : Nat) (hR : RdI W .u8 A (magicL ++ T1)) (hc : (magicL ++ T1).length ≤ c) : Calls Tryz.prog 8 #[.slice A 9 c, .bool false] W (DecSp W 0 100) := by
 refine Decode_sp W A c T1 false 100 0 hR ⟨by decide, by decide⟩ (by decide) hc ?_
 intro X p q m hm hmX hp hmp hmq hC hB
 have h := sections_gen (AwI W 0 p m T1) st1 X p q m T1 false false hC byts1 hmX hmp (.inl ⟨rfl, rfl, hB⟩) (awI_move hmp) (step1 X p q m hmp)
 rw [sec1_eq] at h
 refine h.mono ?_
 rintro E Y ⟨rfl, ⟨a, hI⟩, hC', hG⟩
 rcases hI with ⟨h, _⟩ | ⟨_, _, hA⟩
 ·cases h
 ·exact ⟨rfl, ⟨_, hC'⟩, hG, hA⟩
theorem dec2 (W : World) (A : Option Addr) (c : Nat) (hR : RdI W .u8 A (magicL ++ T2)) (hc : (magicL ++ T2).length ≤ c) : Calls Tryz.prog 8 #[.slice A 14 c, .bool false] W (DecSp W 1 0) := by
 refine Decode_sp W A c T2 false 0 1 hR ⟨by decide, by decide⟩ (by decide) hc ?_
 intro X p q m hm hmX hp hmp hmq hC hB
 have h := sections_gen (AwI W 1 p m T2) st2 X p q m T2 false false hC byts2 hmX hmp (.inl ⟨rfl, rfl, hB⟩) (awI_move hmp) (step2 X p q m hmp (hmq (by decide)))
 rw [sec2_eq] at h
 refine h.mono ?_
 rintro E Y ⟨rfl, ⟨a, hI⟩, hC', hG⟩
 rcases hI with ⟨h, _⟩ | ⟨_, _, hA⟩
 ·cases h
 ·exact ⟨rfl, ⟨_, hC'⟩, hG, hA⟩
end Go.Proofs.YtofaiocffifhfaaGreat
end
section
namespace Go.Proofs.YtofaiocffifhfaaGreat
open Go.RowKit Go.Shelf YtofaiocffifhfaaGreatB Go.Proofs.YtofaiocffifhfaaGreatW.PrintWords
theorem own_lit (W : World) (L : List Int) (e base : Nat) (ok : Nat → Prop) (hb : base ≤ W.heap.size) (hl : L.length ≤ 1048576) (hL : ∀ x ∈ L, 0 ≤ x ∧ x ≤ 255) :
  Own (rng .u8) e (W.alloc (.cells (L.map (Value.int .u8)).toArray e)) base ok (.slice (some ⟨W.heap.size, 0, none⟩) L.length L.length) L := by
 refine ⟨L.map (Value.int .u8), ⟨by simp [rng], .inr ⟨W.heap.size, L.length, (L.map (Value.int .u8)).toArray, rfl, hb, Blk.new W _ e, Nat.le_refl _, by simp only [maxLen]; omega, by simp [rng], ?_⟩⟩, by simp [rng], fun j x hj => ?_⟩
 ·show ((L.map (Value.int .u8)).toArray.toList.take (L.length * 1)) = _
  rw [Nat.mul_one]
  exact List.take_of_length_le (by simp)
 ·have hx := hL x (List.mem_of_getElem? hj)
  have h2 : ((L.map (Value.int .u8)).drop (j * 1)).take 1 = [.int .u8 x] := by
   have hj2 : j < L.length := (List.getElem?_eq_some_iff.1 hj).1
   have hjx := (List.getElem?_eq_some_iff.1 hj).2
   rw [Nat.mul_one, List.drop_eq_getElem_cons (by simpa using hj2)]
   simp [hjx]
  show FK (rng .u8) _ _ x (((L.map (Value.int .u8)).drop (j * 1)).take 1)
  rw [h2]
  exact fun _ _ => ⟨rfl, by simp [Lit.wf, IntKind.min, IntKind.max, IntKind.signed, IntKind.bits]; omega⟩
def AwPost20 (w : World) (e : Ending) (W' : World) : Prop := e = .returned (.bool true) ∧ Below w.heap.size w W'
theorem own_rd {W : World} {base : Nat} {ok : Nat → Prop} {v : Value} {L : List Int} (h : Own (rng .u8) 5 W base ok v L) (hl : L.length ≤ 1048576) : ∃ A c, v = .slice A L.length c ∧ L.length ≤ c ∧ RdI W .u8 A L := by
 obtain ⟨A, c, h1, h2, h3⟩ := h.reads
 exact ⟨A, c, h1, h2, C_rdI h3.now (by omega)⟩
set_option maxRecDepth 100000 in
set_option maxHeartbeats 2000000 in
theorem awake20_any (w : World) : Calls Tryz.prog 7 #[] w (AwPost20 w) := by
 have h8 : ∀ x ∈ magicL, 0 ≤ x ∧ x ≤ 255 := by decide
 have HM := Lib.hid (show Own (rng .u8) 5 (w.alloc (.cells #[.int .u8 0, .int .u8 97, .int .u8 115, .int .u8 109, .int .u8 1, .int .u8 0, .int .u8 0, .int .u8 0] 5)) w.heap.size (fun _ => False) (.slice (some ⟨w.heap.size, 0, none⟩) 8 8) magicL from own_lit w magicL 5 w.heap.size (fun _ => False) (Nat.le_refl _) (by decide) h8)
 have HF := Lib.hid (byQ_FC (lit_ByQ w magicL 5) h8 (by decide) : FC (rng .u8) (w.alloc (.cells #[.int .u8 0, .int .u8 97, .int .u8 115, .int .u8 109, .int .u8 1, .int .u8 0, .int .u8 0, .int .u8 0] 5)) (fun k => k = w.heap.size) (some ⟨w.heap.size, 0, none⟩) magicL)
 have hz : (w.alloc (.cells #[.int .u8 0, .int .u8 97, .int .u8 115, .int .u8 109, .int .u8 1, .int .u8 0, .int .u8 0, .int .u8 0] 5)).heap.size = w.heap.size + 1 := World.size_alloc _ _
 have HB := Lib.hid ((Below.refl w.heap.size w).alloc (Nat.le_refl _) (.cells #[.int .u8 0, .int .u8 97, .int .u8 115, .int .u8 109, .int .u8 1, .int .u8 0, .int .u8 0, .int .u8 0] 5))
 go_enter Tryz.func7, Tryz.ntmps7
 go_upto_region 2 with (fail)
 generalize w.alloc (.cells #[.int .u8 0, .int .u8 97, .int .u8 115, .int .u8 109, .int .u8 1, .int .u8 0, .int .u8 0, .int .u8 0] 5) = w1 at *
 have hy : Own (rng .u8) 5 (w1.alloc (.cells #[] 5)) w1.heap.size (fun _ => False) (.slice (some ⟨w1.heap.size, 0, none⟩) 0 0) [] := Own.made rfl (by decide) (Nat.le_refl _)
 rw [hz] at hy
 have HY := Lib.hid hy
 have hz2 : (w1.alloc (.cells #[] 5)).heap.size = w.heap.size + 2 := by rw [World.size_alloc, hz]
 have HFF := Lib.hid (Ft.mono (Ft.below HF.out ((Below.refl _ w1).alloc (Nat.le_refl _) (.cells #[] 5))) (fun k hk => ⟨trivial, fun e => by subst hk; simp [Value.ownBlock] at e⟩) : FC (rng .u8) (w1.alloc (.cells #[] 5)) (fun k => True ∧ some k ≠ (Value.slice (some ⟨w.heap.size + 1, 0, none⟩) 0 0).ownBlock) (some ⟨w.heap.size, 0, none⟩) magicL)
 clear hy
 go_wp2_with (first
  | (at_builtin; refine Own.append_row (d := rng .u8) w.heap.size rfl (.tmp 8) (.tmp 9) 22 5 (.int .u8 0) 1 rfl Tryz.underlying22 infoB8 rfl (by decide) (by decide) (.slice (some ⟨w.heap.size + 1, 0, none⟩) 0 0) [] magicL (some ⟨w.heap.size, 0, none⟩) 8 (fun _ => True) rfl rfl HFF.out (Own_lower (own_any HY.out) (by omega)) (by omega) (by decide) ?_; intro v1 w3 hown1 hg1 hat1)
  | (at_builtin; refine Own.append (d := rng .u8) w.heap.size rfl (.tmp 10) (.tmp 11) 22 5 _ 1 rfl Tryz.underlying22 infoB8 rfl (by decide) (by decide) v1 ([] ++ magicL) 7 _ (fun _ => True) rfl rfl (show FK (rng .u8) w3 (fun k => True ∧ some k ≠ v1.ownBlock) 7 [.int .u8 7] from fun _ _ => ⟨rfl, by decide⟩) hown1 (by have := hg1.size; omega) (by decide) ?_; intro v2 w4 hown2 hg2 hat2))
 have hg1' : (w1.alloc (.cells #[] 5)).grownBy w3 (some (w.heap.size + 1)) := hg1
 have hs1 := hg1'.size
 have hs2 := hg2.size
 have hv1 : ∀ k, v1.ownBlock = some k → w.heap.size + 1 ≤ k := fun k hk => by
  rcases hat1 with h | h
  ·have h : v1.ownBlock = some (w.heap.size + 1) := h; rw [hk] at h; injection h with h; omega
  ·rw [hk, hz2] at h; injection h with h; omega
 have hB4 : Below w.heap.size w w4 := ((HB.out.alloc (by omega) (.cells #[] 5)).grown hg1' (by omega) (fun k hk => by injection hk with hk; omega)).grown hg2 (by omega) (fun k hk => by have := hv1 k hk; omega)
 have hM4 : Own (rng .u8) 5 w4 w.heap.size (fun _ => False) (.slice (some ⟨w.heap.size, 0, none⟩) 8 8) magicL :=
  (((HM.out.below ((Below.refl _ _).alloc (Nat.le_refl _) (.cells #[] 5))).grown hg1' (.inr (fun e => by have e : some w.heap.size = some (w.heap.size + 1) := e; injection e with e; omega)) (fun k hk => hk.elim)).grown hg2 (.inr (fun e => by have e : some w.heap.size = v1.ownBlock := e; have := hv1 _ e.symm; omega)) (fun k hk => hk.elim))
 obtain ⟨A2, c2, rfl, hc2, hR2⟩ := own_rd hown2 (by decide)
 have HD1 := Lib.hid (dec1 w4 A2 c2 hR2 hc2)
 have HB4 := Lib.hid hB4
 have HM4 := Lib.hid hM4
 clear hM4 hB4 hg1' hg2 hs1 hat1 hat2 hg1 hown1 hown2 hR2 hc2 HFF HY HF HM HB
 refine HD1.out.mono ?_
 rintro E w5 ⟨hB5, _, h100⟩
 obtain rfl := h100 (by decide)
 have HB5 := Lib.hid (HB4.out.trans (hB5.mono HB4.out.size))
 have HM5 := Lib.hid (HM4.out.below hB5)
 clear h100 hB5 HD1 HB4 HM4
 go_upto_region 3 with (fail)
 have HB6 := Lib.hid (HB5.out.alloc HB5.out.size (.cells (mod0 (.slice none 0 0)) 34))
 have HM6 := Lib.hid (HM5.out.below ((Below.refl _ _).alloc (Nat.le_refl _) (.cells (mod0 (.slice none 0 0)) 34)))
 generalize w5.alloc (.cells (mod0 (.slice none 0 0)) 34) = w6 at *
 have h2 : ∀ x ∈ T2, 0 ≤ x ∧ x ≤ 255 := by decide
 have hL : FC (rng .u8) (w6.alloc (.cells #[.int .u8 1, .int .u8 4, .int .u8 1, .int .u8 96, .int .u8 0, .int .u8 0] 5)) (fun k => k = w6.heap.size) (some ⟨w6.heap.size, 0, none⟩) T2 := byQ_FC (lit_ByQ w6 T2 5) h2 (by decide)
 have hs6 := HB6.out.size
 have hwl : w.heap.size < w6.heap.size := (Own.block HM6.out rfl).2
 have HL := Lib.hid (Ft.mono hL (fun k hk => ⟨trivial, fun e => by have e : some k = some w.heap.size := e; injection e with e; omega⟩) : FC (rng .u8) (w6.alloc (.cells #[.int .u8 1, .int .u8 4, .int .u8 1, .int .u8 96, .int .u8 0, .int .u8 0] 5)) (fun k => True ∧ some k ≠ (Value.slice (some ⟨w.heap.size, 0, none⟩) 8 8).ownBlock) (some ⟨w6.heap.size, 0, none⟩) T2)
 have hz7 : (w6.alloc (.cells #[.int .u8 1, .int .u8 4, .int .u8 1, .int .u8 96, .int .u8 0, .int .u8 0] 5)).heap.size = w6.heap.size + 1 := World.size_alloc _ _
 clear hL
 go_wp2_with (at_builtin; refine Own.append_row (d := rng .u8) w.heap.size rfl (.tmp 17) (.tmp 18) 22 5 (.int .u8 0) 1 rfl Tryz.underlying22 infoB8 rfl (by decide) (by decide) (.slice (some ⟨w.heap.size, 0, none⟩) 8 8) magicL T2 (some ⟨w6.heap.size, 0, none⟩) 6 (fun _ => True) rfl rfl HL.out (own_any (HM6.out.below ((Below.refl _ _).alloc (Nat.le_refl _) _))) (by omega) (by decide) ?_; intro v3 w7 hown3 hg3 hat3)
 have hg3' : (w6.alloc (.cells #[.int .u8 1, .int .u8 4, .int .u8 1, .int .u8 96, .int .u8 0, .int .u8 0] 5)).grownBy w7 (some w.heap.size) := hg3
 have HB7 := Lib.hid ((HB6.out.alloc hs6 (.cells #[.int .u8 1, .int .u8 4, .int .u8 1, .int .u8 96, .int .u8 0, .int .u8 0] 5)).grown hg3' (by omega) (fun k hk => by injection hk with hk; omega))
 obtain ⟨A3, c3, rfl, hc3, hR3⟩ := own_rd hown3 (by decide)
 have HD2 := Lib.hid (dec2 w7 A3 c3 hR3 hc3)
 clear hg3 hg3' hown3 hat3 hR3 hc3 HL HM6 HM5
 refine HD2.out.mono ?_
 rintro E w8 ⟨hB8, h0, _⟩
 obtain ⟨A4, c4, rfl⟩ := h0 rfl
 have HB8 := Lib.hid (HB7.out.trans (hB8.mono HB7.out.size))
 have hb9 := Blk.new w8 (mod0 (.slice A4 1 c4)) 34
 have g0 : (w8.alloc (.cells (mod0 (.slice A4 1 c4)) 34)).cell? ⟨w8.heap.size, 0, none⟩ = some (.slice A4 1 c4) := hb9.cell 0
 clear h0 hB8 HD2 HB7 hb9
 go_wp2_with fail
 go_ret
 exact ⟨rfl, HB8.out.alloc HB8.out.size _⟩
end Go.Proofs.YtofaiocffifhfaaGreat
end
section
namespace Go.Proofs.YtofaiocffifhfaaGreat
open Go.RowKit Go.Shelf YtofaiocffifhfaaGreatB Go.Proofs.YtofaiocffifhfaaGreatW.PrintWords
theorem own_rdv {W : World} {base : Nat} {ok : Nat → Prop} {A : Option Addr} {n c : Nat} {L : List Int} (h : Own (rng .u8) 5 W base ok (.slice A n c) L) (hl : L.length ≤ 1048576) : RdI W .u8 A L := by
 obtain ⟨A', c', h1, h2, h3⟩ := own_rd h hl
 injection h1 with h1 _ _
 rw [h1]
 exact h3
theorem bl_drewN {w : World} (m : Nat) : Below w.heap.size w (w.drewN m) := ⟨rfl, rfl, rfl, Nat.le_refl _, fun _ _ => rfl⟩
theorem bytes_open {W : World} {a0 : List Int} {A : Option Addr} {n c : Nat} (h0 : (Kd.slice 5 (rng .u8)).K W a0 (Value.slice A n c).cells.toList) (hb : a0.length ≤ 1048576) : n = a0.length ∧ RdI W .u8 A a0 ∧ Byts a0 ∧ a0.length ≤ c := by
 obtain ⟨A', c', e, hle, hC⟩ := h0
 simp [Value.cells] at e
 obtain ⟨rfl, rfl, rfl⟩ := e
 exact ⟨rfl, C_rdI hC (by omega), ⟨hb, fun x hx => by have := wf_bounds (C_all hC x hx); simp [IntKind.min, IntKind.max, IntKind.signed, IntKind.bits] at this; omega⟩, hle⟩
theorem opens_U8s (n : Nat) : OpensAt Tryz.prog 22 (Kd.slice 5 (rng .u8)) (fun xs => xs.length) (n + 1) :=
 opens_bk (opens_slice Tryz.underlying22 (by kernel_rfl) (opens_int .u8 Tryz.underlying5 (by kernel_rfl) n)) (fun a => by rw [sum_ones]; omega)
end Go.Proofs.YtofaiocffifhfaaGreat
end
section
namespace Go.Proofs.YtofaiocffifhfaaGreat
open Go.RowKit Go.Shelf YtofaiocffifhfaaGreatB Go.Proofs.YtofaiocffifhfaaGreatW.PrintWords
theorem rdI_drewN {w : World} {k : IntKind} {A : Option Addr} {xs : List Int} (h : RdI w k A xs) (m : Nat) : RdI (w.drewN m) k A xs := h
set_option maxRecDepth 100000 in
set_option maxHeartbeats 1000000 in
theorem sameList_eq (W : World) (A1 A2 : Option Addr) (c1 c2 : Nat) (xs : List Int) (h1 : RdI W .u32 A1 xs) (h2 : RdI W .u32 A2 xs) :
  Calls Tryz.prog 57 #[.slice A1 xs.length c1, .slice A2 xs.length c2] W fun E w' => E = .returned (.bool true) ∧ ∃ m, w' = W.drewN m := by
 have H1 := Lib.hid h1
 have H2 := Lib.hid h2
 have hl := h1.1
 clear h1 h2
 go_enter Tryz.func57, Tryz.ntmps57
 go_wp2_with fail
 go_loopw [5] (fun i wr => ∃ (j m : Nat), j ≤ xs.length ∧ i = .int .i64 j ∧ wr = W.drewN m) (fun i _ => xs.length - (intOf i).toNat)
 case atStart => exact ⟨0, 0, Nat.zero_le _, rfl, rfl⟩
 case round =>
  obtain ⟨j, m, hj, rfl, rfl⟩ := hrel
  by_cases hlt : j < xs.length
  ·have hlt2 : (j : Int) < (xs.length : Int) := by omega
   obtain ⟨b1, o1, x, rfl, hc1, hx1⟩ := H1.out.get j hlt
   obtain ⟨b2, o2, y, rfl, hc2, hx2⟩ := H2.out.get j hlt
   obtain rfl : x = y := by have := hx1.out.symm.trans hx2.out; injection this
   have hb1 := World.block_lt_of_cell? _ _ hc1
   have hb2 := World.block_lt_of_cell? _ _ hc2
   clear hx1 hx2
   go_wp2_with fail
   go_quiet (fail)
   go_wp2_with fail
   go_roundw
   case rel => exact ⟨j + 1, _, by omega, by go_num, rfl⟩
   case measure => simp [intOf]; omega
  ·have hlt2 : ¬ (j : Int) < (xs.length : Int) := by omega
   clear hlt
   go_wp2_with fail
   go_ret
   exact ⟨rfl, m, rfl⟩
theorem below_from {W0 W W' : World} (h : Below W0.heap.size W0 W) (h' : Below W.heap.size W W') : Below W0.heap.size W0 W' := h.trans (h'.mono h.size)
theorem C_le {W : World} {k : IntKind} {A : Option Addr} {xs : List Int} (h : (rng k).C W A xs.length xs) (hl : xs.length ≤ 1048576) : RdI W k A xs := C_rdI h (by omega)
theorem C_two {tU tE : Nat} {W : World} {A1 A2 : Option Addr} {l : List Ins} (h1 : (kIns tU tE).C W A1 l.length l) (h2 : (kIns tU tE).C W A2 l.length l) (j : Nat) (hj : j < l.length) :
  ∃ (x : Ins) (b1 o1 b2 o2 : Nat) (AL AT AE BL BT BE : Option Addr) (cL cT cE dL dT dE : Nat), A1 = some ⟨b1, o1, none⟩ ∧ A2 = some ⟨b2, o2, none⟩ ∧ Hid (l[j]? = some x) ∧
   (∀ i u, (insCells x AL AT AE cL cT cE).toList[i]? = some u → W.cell? ⟨b1, o1 + j * 9 + i, none⟩ = some u) ∧ (∀ i u, (insCells x BL BT BE dL dT dE).toList[i]? = some u → W.cell? ⟨b2, o2 + j * 9 + i, none⟩ = some u) ∧
   (rng .u32).C W AL x.list.length x.list ∧ (rng .u32).C W BL x.list.length x.list ∧ (kIns tU tE).C W AT x.th.length x.th ∧ (kIns tU tE).C W BT x.th.length x.th ∧ (kIns tU tE).C W AE x.el.length x.el ∧ (kIns tU tE).C W BE x.el.length x.el := by
 obtain ⟨b1, o1, x, cs, rfl, hx, hk, hc⟩ := C_at h1 (Nat.succ_pos 8) j hj
 obtain ⟨b2, o2, y, ds, rfl, hy, hk2, hc2⟩ := C_at h2 (Nat.succ_pos 8) j hj
 obtain rfl : x = y := by have := hx.out.symm.trans hy.out; injection this
 obtain ⟨AL, cL, AT, cT, AE, cE, rfl, _, _, _, _, _, hL, hT, hE, _⟩ := ins_openC hk
 obtain ⟨BL, dL, BT, dT, BE, dE, rfl, _, _, _, _, _, kL, kT, kE, _⟩ := ins_openC hk2
 exact ⟨x, b1, o1, b2, o2, AL, AT, AE, BL, BT, BE, cL, cT, cE, dL, dT, dE, rfl, rfl, hx, hc, hc2, hL, kL, hT, kT, hE, kE⟩
set_option maxRecDepth 100000 in
set_option maxHeartbeats 4000000 in
theorem same_eq : ∀ (n : Nat) (l : List Ins), bkL l ≤ n → n ≤ 1048576 → ∀ (w : World) (A1 A2 : Option Addr) (c1 c2 : Nat), kR.C w A1 l.length l → kR.C w A2 l.length l →
  Calls Tryz.prog 28 #[.slice A1 l.length c1, .slice A2 l.length c2] w (AwPost20 w) := by
 intro n
 induction n using Nat.strongRecOn with
 | ind n ih =>
 intro l hbk hn w A1 A2 c1 c2 h1 h2
 have hlen := bkL_len l
 have IH := Lib.hid ih
 have H1 := Lib.hid (show ∀ X, Below w.heap.size w X → kR.C X A1 l.length l from fun X h => (Ft.below (FC.of_old h1) h).now)
 have H2 := Lib.hid (show ∀ X, Below w.heap.size w X → kR.C X A2 l.length l from fun X h => (Ft.below (FC.of_old h2) h).now)
 clear ih h1 h2
 go_enter Tryz.func28, Tryz.ntmps28
 go_wp2_with fail
 go_loopw [5] (fun k wr => ∃ j : Nat, j ≤ l.length ∧ k = .int .i64 j ∧ Below w.heap.size w wr) (fun k _ => l.length - (intOf k).toNat)
 case atStart => exact ⟨0, Nat.zero_le _, rfl, Below.refl _ _⟩
 case round =>
  obtain ⟨j, hj, rfl, hB⟩ := hrel
  by_cases hlt : j < l.length
  ·have hlt2 : (j : Int) < (l.length : Int) := by omega
   obtain ⟨x, b1, o1, b2, o2, AL, AT, AE, BL, BT, BE, cL, cT, cE, dL, dT, dE, rfl, rfl, hx, hc, hd, hL, kL, hT, kT, hE, kE⟩ := C_two (H1.out wr hB) (H2.out wr hB) j hlt
   have p0 := hc 0 _ rfl
   have p1 := hc 1 _ rfl
   have p2 := hc 2 _ rfl
   have p3 := hc 3 _ rfl
   have p4 := hc 4 _ rfl
   have p5 := hc 5 _ rfl
   have p6 := hc 6 _ rfl
   have p7 := hc 7 _ rfl
   have p8 := hc 8 _ rfl
   have q0 := hd 0 _ rfl
   have q1 := hd 1 _ rfl
   have q2 := hd 2 _ rfl
   have q3 := hd 3 _ rfl
   have q4 := hd 4 _ rfl
   have q5 := hd 5 _ rfl
   have q6 := hd 6 _ rfl
   have q7 := hd 7 _ rfl
   have q8 := hd 8 _ rfl
   simp only [Nat.add_zero] at p0 p1 p2 p3 p4 p5 p6 p7 p8 q0 q1 q2 q3 q4 q5 q6 q7 q8
   have hb1 : b1 < wr.heap.size := World.block_lt_of_cell? _ _ p0
   have hb2 : b2 < wr.heap.size := World.block_lt_of_cell? _ _ q0
   have hbx := bkL_get hx.out
   have hbt := bkL_th x
   have hbe := bkL_el x
   have hbl := bkL_list x
   have HSL := Lib.hid (show ∀ X, Below wr.heap.size wr X → Calls Tryz.prog 57 #[.slice AL x.list.length cL, .slice BL x.list.length dL] X fun E w' => E = .returned (.bool true) ∧ ∃ m, w' = X.drewN m from
    fun X h => sameList_eq X AL BL cL dL x.list (C_le (Ft.below (FC.of_old hL) h).now (by omega)) (C_le (Ft.below (FC.of_old kL) h).now (by omega)))
   have HST := Lib.hid (show ∀ X, Below wr.heap.size wr X → Calls Tryz.prog 28 #[.slice AT x.th.length cT, .slice BT x.th.length dT] X (AwPost20 X) from
    fun X h => IH.out (bkL x.th) (by omega) x.th (Nat.le_refl _) (by omega) X AT BT cT dT (Ft.below (FC.of_old hT) h).now (Ft.below (FC.of_old kT) h).now)
   have HSE := Lib.hid (show ∀ X, Below wr.heap.size wr X → Calls Tryz.prog 28 #[.slice AE x.el.length cE, .slice BE x.el.length dE] X (AwPost20 X) from
    fun X h => IH.out (bkL x.el) (by omega) x.el (Nat.le_refl _) (by omega) X AE BE cE dE (Ft.below (FC.of_old hE) h).now (Ft.below (FC.of_old kE) h).now)
   have hX := Blk.alloc (Blk.new wr (insCells x AL AT AE cL cT cE) 151) (.cells (insCells x BL BT BE dL dT dE) 151)
   have hY := Blk.new (wr.alloc (.cells (insCells x AL AT AE cL cT cE) 151)) (insCells x BL BT BE dL dT dE) 151
   have hBW : Below wr.heap.size wr ((wr.alloc (.cells (insCells x AL AT AE cL cT cE) 151)).alloc (.cells (insCells x BL BT BE dL dT dE) 151)) := ((Below.refl _ wr).alloc (Nat.le_refl _) _).alloc (by simp) _
   have hsW : ((wr.alloc (.cells (insCells x AL AT AE cL cT cE) 151)).alloc (.cells (insCells x BL BT BE dL dT dE) 151)).heap.size = wr.heap.size + 2 := by simp
   rw [World.size_alloc] at hY
   clear hc hd hL kL hT kT hE kE
   simp only [insCells] at hX hY hBW hsW
   go_wp2_with fail
   generalize hWe : (wr.alloc (.cells #[.int .i64 x.op, .int .u8 x.ty, .int .u32 x.a, .int .u32 x.b, .int .u64 x.bits, .slice AL x.list.length cL, .slice AT x.th.length cT, .slice AE x.el.length cE, .bool x.has] 151)).alloc (.cells #[.int .i64 x.op, .int .u8 x.ty, .int .u32 x.a, .int .u32 x.b, .int .u64 x.bits, .slice BL x.list.length dL, .slice BT x.th.length dT, .slice BE x.el.length dE, .bool x.has] 151) = W at *
   have hBl := Lib.hid (hB.trans (hBW.mono hB.size))
   clear hWe p0 p1 p2 p3 p4 p5 p6 p7 p8 q0 q1 q2 q3 q4 q5 q6 q7 q8 H1 H2 hB
   have e00 : ∀ Z, Below W.heap.size W Z → Z.cell? ⟨wr.heap.size, 0, none⟩ = some (.int .i64 x.op) := fun Z h => by rw [(hX.below h (by rw [hsW]; omega)).cell]; rfl
   have e01 : ∀ Z, Below W.heap.size W Z → Z.cell? ⟨wr.heap.size, 1, none⟩ = some (.int .u8 x.ty) := fun Z h => by rw [(hX.below h (by rw [hsW]; omega)).cell]; rfl
   have e02 : ∀ Z, Below W.heap.size W Z → Z.cell? ⟨wr.heap.size, 2, none⟩ = some (.int .u32 x.a) := fun Z h => by rw [(hX.below h (by rw [hsW]; omega)).cell]; rfl
   have e03 : ∀ Z, Below W.heap.size W Z → Z.cell? ⟨wr.heap.size, 3, none⟩ = some (.int .u32 x.b) := fun Z h => by rw [(hX.below h (by rw [hsW]; omega)).cell]; rfl
   have e04 : ∀ Z, Below W.heap.size W Z → Z.cell? ⟨wr.heap.size, 4, none⟩ = some (.int .u64 x.bits) := fun Z h => by rw [(hX.below h (by rw [hsW]; omega)).cell]; rfl
   have e05 : ∀ Z, Below W.heap.size W Z → Z.cell? ⟨wr.heap.size, 5, none⟩ = some (.slice AL x.list.length cL) := fun Z h => by rw [(hX.below h (by rw [hsW]; omega)).cell]; rfl
   have e06 : ∀ Z, Below W.heap.size W Z → Z.cell? ⟨wr.heap.size, 6, none⟩ = some (.slice AT x.th.length cT) := fun Z h => by rw [(hX.below h (by rw [hsW]; omega)).cell]; rfl
   have e07 : ∀ Z, Below W.heap.size W Z → Z.cell? ⟨wr.heap.size, 7, none⟩ = some (.slice AE x.el.length cE) := fun Z h => by rw [(hX.below h (by rw [hsW]; omega)).cell]; rfl
   have e08 : ∀ Z, Below W.heap.size W Z → Z.cell? ⟨wr.heap.size, 8, none⟩ = some (.bool x.has) := fun Z h => by rw [(hX.below h (by rw [hsW]; omega)).cell]; rfl
   have e10 : ∀ Z, Below W.heap.size W Z → Z.cell? ⟨wr.heap.size + 1, 0, none⟩ = some (.int .i64 x.op) := fun Z h => by rw [(hY.below h (by rw [hsW]; omega)).cell]; rfl
   have e11 : ∀ Z, Below W.heap.size W Z → Z.cell? ⟨wr.heap.size + 1, 1, none⟩ = some (.int .u8 x.ty) := fun Z h => by rw [(hY.below h (by rw [hsW]; omega)).cell]; rfl
   have e12 : ∀ Z, Below W.heap.size W Z → Z.cell? ⟨wr.heap.size + 1, 2, none⟩ = some (.int .u32 x.a) := fun Z h => by rw [(hY.below h (by rw [hsW]; omega)).cell]; rfl
   have e13 : ∀ Z, Below W.heap.size W Z → Z.cell? ⟨wr.heap.size + 1, 3, none⟩ = some (.int .u32 x.b) := fun Z h => by rw [(hY.below h (by rw [hsW]; omega)).cell]; rfl
   have e14 : ∀ Z, Below W.heap.size W Z → Z.cell? ⟨wr.heap.size + 1, 4, none⟩ = some (.int .u64 x.bits) := fun Z h => by rw [(hY.below h (by rw [hsW]; omega)).cell]; rfl
   have e15 : ∀ Z, Below W.heap.size W Z → Z.cell? ⟨wr.heap.size + 1, 5, none⟩ = some (.slice BL x.list.length dL) := fun Z h => by rw [(hY.below h (by rw [hsW]; omega)).cell]; rfl
   have e16 : ∀ Z, Below W.heap.size W Z → Z.cell? ⟨wr.heap.size + 1, 6, none⟩ = some (.slice BT x.th.length dT) := fun Z h => by rw [(hY.below h (by rw [hsW]; omega)).cell]; rfl
   have e17 : ∀ Z, Below W.heap.size W Z → Z.cell? ⟨wr.heap.size + 1, 7, none⟩ = some (.slice BE x.el.length dE) := fun Z h => by rw [(hY.below h (by rw [hsW]; omega)).cell]; rfl
   have e18 : ∀ Z, Below W.heap.size W Z → Z.cell? ⟨wr.heap.size + 1, 8, none⟩ = some (.bool x.has) := fun Z h => by rw [(hY.below h (by rw [hsW]; omega)).cell]; rfl
   refine (HSL.out _ hBW).mono ?_
   rintro E1 W1 ⟨rfl, m, rfl⟩
   have c6 := e06 _ (bl_drewN m)
   have d6 := e16 _ (bl_drewN m)
   clear e00 e01 e02 e03 e04 e05 e06 e08 e10 e11 e12 e13 e14 e15 e16 e18
   go_wp2_with fail
   refine (HST.out _ (by exact below_from hBW (bl_drewN m))).mono ?_
   rintro E2 W2 ⟨rfl, hB2⟩
   have hB2' := below_from (bl_drewN (w := W) m) hB2
   have c7 := e07 _ hB2'
   have d7 := e17 _ hB2'
   clear e07 e17
   go_wp2_with fail
   refine (HSE.out _ (by exact below_from hBW hB2')).mono ?_
   rintro E3 W3 ⟨rfl, hB3⟩
   have hB3' := Lib.hid (below_from hBl.out (below_from hB2' hB3))
   clear c7 d7 hB2' hB2 hB3
   go_wp2_with fail
   go_roundw
   case rel => exact ⟨j + 1, by omega, by go_num, hB3'.out⟩
   case measure => simp [intOf]; omega
  ·have hlt2 : ¬ (j : Int) < (l.length : Int) := by omega
   clear hlt
   go_wp2_with fail
   go_ret
   exact ⟨rfl, hB⟩
end Go.Proofs.YtofaiocffifhfaaGreat
end
