/- Lemmas towards this claim's statement: what the functions named here come to, each under the conditions that it states itself. -/
import Derived.Test.YtofaiocffifhfaaGreatMC4
section
namespace Go.Proofs.YtofaiocffifhfaaGreat
open Go.RowKit Go.Shelf YtofaiocffifhfaaGreatB Go.Proofs.YtofaiocffifhfaaGreatW.PrintWords
def BlkPost (W : World) (p q : Nat) (B : List Int) (r : List Ins × Int × Nat × Int) (E : Ending) (w' : World) : Prop :=
  (∃ A c, E = .returned (.tuple #[.slice A r.1.length c, .int .u8 r.2.1]) ∧ r.1.length ≤ c ∧ FC kI w' (fun k => W.heap.size ≤ k) A r.1) ∧ Goes W w' p q B r.2.2.1 r.2.2.2
/-- What a reading call does to the world that writes at X too. -/
def GoesX (W W' : World) (p q X : Nat) (B : List Int) (a : Nat) (e : Int) : Prop :=
  Cur W' p q B a e ∧ W'.os = W.os ∧ W'.tape = W.tape ∧ W'.output = W.output ∧ W.heap.size ≤ W'.heap.size ∧ ∀ k, k < W.heap.size → k ≠ p → k ≠ X → W'.heap[k]? = W.heap[k]?
theorem GoesX.of {W W' : World} {p q X : Nat} {B : List Int} {a : Nat} {e : Int} (h : Goes W W' p q B a e) : GoesX W W' p q X B a e :=
  ⟨h.1, h.2.os, h.2.tape, h.2.output, h.2.size, fun k hk hp _ => h.2.block k hk (by simpa using hp)⟩
theorem GoesX.trans {W W1 W2 : World} {p q X : Nat} {B : List Int} {a a' : Nat} {e e' : Int} (h : GoesX W W1 p q X B a e) (h' : GoesX W1 W2 p q X B a' e') : GoesX W W2 p q X B a' e' := by
  obtain ⟨_, h1, h2, h3, h4, h5⟩ := h
  obtain ⟨g0, g1, g2, g3, g4, g5⟩ := h'
  exact ⟨g0, g1.trans h1, g2.trans h2, g3.trans h3, Nat.le_trans h4 g4, fun k hk hp hX => (g5 k (Nat.lt_of_lt_of_le hk h4) hp hX).trans (h5 k hk hp hX)⟩
theorem GoesX.set {W W1 : World} {p q X : Nat} {B : List Int} {a : Nat} {e : Int} (h : GoesX W W1 p q X B a e) (hX : X ≠ p) (hq : X ≠ q) (j : Nat) (v : Value) : GoesX W (W1.setCell ⟨X, j, none⟩ v) p q X B a e := by
  obtain ⟨h0, h1, h2, h3, h4, h5⟩ := h
  have hg := gset W1 X j v
  exact ⟨h0.grown hg (by simpa using hX.symm) (by simpa using hq.symm), h1, h2, h3, Nat.le_trans h4 hg.size, fun k hk hp hx => (hg.block k (Nat.lt_of_lt_of_le hk h4) (by simpa using hx)).trans (h5 k hk hp hx)⟩
/-- The same, where the reader's block is written too. -/
structure Goes3 (W W' : World) (p q X R : Nat) (B : List Int) (a : Nat) (e : Int) : Prop where
  cur : Cur W' p q B a e
  os : W'.os = W.os
  tape : W'.tape = W.tape
  output : W'.output = W.output
  size : W.heap.size ≤ W'.heap.size
  block : ∀ k, k < W.heap.size → k ≠ p → k ≠ X → k ≠ R → W'.heap[k]? = W.heap[k]?
theorem Goes3.of {W W' : World} {p q X R : Nat} {B : List Int} {a : Nat} {e : Int} (h : Goes W W' p q B a e) : Goes3 W W' p q X R B a e :=
  ⟨h.1, h.2.os, h.2.tape, h.2.output, h.2.size, fun k hk hp _ _ => h.2.block k hk (by simpa using hp)⟩
theorem Goes3.goes {W W1 W2 : World} {p q X R : Nat} {B : List Int} {a a' : Nat} {e e' : Int} (h : Goes3 W W1 p q X R B a e) (h' : Goes W1 W2 p q B a' e') : Goes3 W W2 p q X R B a' e' :=
  ⟨h'.1, h'.2.os.trans h.os, h'.2.tape.trans h.tape, h'.2.output.trans h.output, Nat.le_trans h.size h'.2.size, fun k hk hp hX hR => (h'.2.block k (Nat.lt_of_lt_of_le hk h.size) (by simpa using hp)).trans (h.block k hk hp hX hR)⟩
theorem Goes3.set {W W1 : World} {p q X R : Nat} {B : List Int} {a : Nat} {e : Int} (h : Goes3 W W1 p q X R B a e) (g : Nat) (hg : g = X ∨ g = R) (hp : g ≠ p) (hq : g ≠ q) (j : Nat) (v : Value) : Goes3 W (W1.setCell ⟨g, j, none⟩ v) p q X R B a e := by
  have hs := gset W1 g j v
  refine ⟨h.cur.grown hs (by simpa using hp.symm) (by simpa using hq.symm), h.os, h.tape, h.output, Nat.le_trans h.size hs.size, fun k hk hkp hkX hkR => (hs.block k (Nat.lt_of_lt_of_le hk h.size) ?_).trans (h.block k hk hkp hkX hkR)⟩
  rcases hg with rfl | rfl
  · simpa using hkX
  · simpa using hkR
theorem Goes3.fin {W W' : World} {p q X R : Nat} {B : List Int} {a : Nat} {e : Int} {sat : Bool} {deep : Int} (h : Goes3 W W' p q X R B a e) (hR : Rp W R p sat deep) (hR' : Rp W' R p sat deep) : GoesX W W' p q X B a e :=
  ⟨h.cur, h.os, h.tape, h.output, h.size, fun k hk hp hX => by
    by_cases hkR : k = R
    · subst hkR; exact (show W'.heap[k]? = _ from hR').trans (show W.heap[k]? = _ from hR).symm
    · exact h.block k hk hp hX hkR⟩
theorem Rp.set {W : World} {R p : Nat} {sat : Bool} {deep : Int} (h : Rp W R p sat deep) (d' : Int) : Rp (W.setCell ⟨R, 2, none⟩ (.int .i64 d')) R p sat d' := by
  have := Blk.set h 2 (.int .i64 d')
  simp at this
  exact this
theorem Rp.other {W : World} {R p : Nat} {sat : Bool} {deep : Int} (h : Rp W R p sat deep) (g : Nat) (hg : R ≠ g) (j : Nat) (v : Value) : Rp (W.setCell ⟨g, j, none⟩ v) R p sat deep := Blk.set_other h _ _ hg
theorem FC.set {α : Type} {d : Kd α} {W : World} {ok : Nat → Prop} {A : Option Addr} {xs : List α} (h : FC d W ok A xs) (g j : Nat) (v : Value) (hg : ¬ ok g) : FC d (W.setCell ⟨g, j, none⟩ v) ok A xs := Ft.grown h (gset W g j v) (fun k hk e => by injection e with e; exact hg (e ▸ hk))
theorem FC.goes {α : Type} {d : Kd α} {W W1 : World} {ok : Nat → Prop} {A : Option Addr} {xs : List α} {p q : Nat} {B : List Int} {a : Nat} {e : Int} (h : FC d W ok A xs) (hG : Goes W W1 p q B a e) (hg : ¬ ok p) : FC d W1 ok A xs := Ft.grown h hG.2 (fun k hk e => by injection e with e; exact hg (e ▸ hk))
/-- The reader's block is written and written back. -/
def insC (op ty a b bits : Int) (vL vT vE : Value) (has : Bool) : Array Value := #[.int .i64 op, .int .u8 ty, .int .u32 a, .int .u32 b, .int .u64 bits, vL, vT, vE, .bool has]
def NestPost (W : World) (p q X R : Nat) (sat : Bool) (deep : Int) (B : List Int) (r : Ins × Nat × Int) (E : Ending) (w' : World) : Prop :=
  E = .returned (.tuple #[]) ∧ (∃ cs : Array Value, ∃ x', Blk w' X cs 153 ∧ FK kI w' (fun k => W.heap.size ≤ k) x' cs.toList ∧ (r.2.2 = 0 → x' = r.1)) ∧ GoesX W w' p q X B r.2.1 r.2.2 ∧ Rp w' R p sat deep
theorem Cur.qlt {W : World} {p q : Nat} {B : List Int} {a : Nat} {e : Int} (h : Cur W p q B a e) : B = [] ∨ q < W.heap.size := by
  rcases Nat.eq_zero_or_pos B.length with hz | hz
  · exact .inl (List.eq_nil_of_length_eq_zero hz)
  · obtain ⟨_, _, A, c, _, _, h4⟩ := h
    obtain ⟨o, _, hcell⟩ := h4 hz
    exact .inr (World.block_lt_of_cell? _ _ (hcell 0 _ (List.getElem?_eq_getElem hz)))
theorem nest_wf {op : Int} (h0 : 0 ≤ op) (h1 : op ≤ 5000000000) : (Lit.int .i64 op).wf = true := by simp [Lit.wf, IntKind.min, IntKind.max, IntKind.signed, IntKind.bits]; omega
theorem nest_ty {ty : Int} (h : ty = 0 ∨ ty = 127 ∨ ty = 126 ∨ ty = 125 ∨ ty = 124) : (Lit.int .u8 ty).wf = true := by rcases h with rfl | rfl | rfl | rfl | rfl <;> rfl
theorem res_bound (B : List Int) (a : Nat) (e : Int) : (rdOf (resM B a) a e).1 = 0 ∨ (rdOf (resM B a) a e).1 = 127 ∨ (rdOf (resM B a) a e).1 = 126 ∨ (rdOf (resM B a) a e).1 = 125 ∨ (rdOf (resM B a) a e).1 = 124 := by
  unfold rdOf
  by_cases he : e = 0
  · rw [if_pos he]
    unfold resM amongM
    cases hx : B[a]? with
    | none => exact .inl rfl
    | some x =>
      simp only
      by_cases hm : x ∈ ([127, 126, 125, 124, 64] : List Int)
      · rw [if_pos hm]
        simp only [List.mem_cons, List.mem_nil_iff, or_false] at hm
        rcases hm with rfl | rfl | rfl | rfl | rfl <;> simp [numV]
      · rw [if_neg hm]; exact .inl rfl
  · rw [if_neg he]; exact .inl rfl
set_option maxRecDepth 100000 in
set_option maxHeartbeats 4000000 in
theorem nested_any (bk : Bool → Nat → Int → List Ins × Int × Nat × Int) (W : World) (R p q X : Nat) (sat : Bool) (deep : Nat) (B : List Int) (a : Nat) (op : Int) (hR : Rp W R p sat deep) (hRp : R ≠ p) (hRX : R ≠ X) (hXp : X ≠ p) (hRq : R ≠ q) (hXq : X ≠ q) (hC : Cur W p q B a 0) (hB : Byts B) (hd : deep ≤ 64) (hop : 0 ≤ op ∧ op ≤ 5000000000)
    (hX : Blk W X (insC op 0 0 0 0 (.slice none 0 0) (.slice none 0 0) (.slice none 0 0) false) 153)
    (hbk : ∀ (W' : World) (m : Bool) (a' : Nat) (e' : Int), a ≤ a' ∨ ¬ e' = 0 → Rp W' R p sat (deep + 1 : Nat) → Cur W' p q B a' e' → Calls Tryz.prog 133 #[.pointer (some ⟨R, 0, none⟩), .bool m] W' (BlkPost W' p q B (bk m a' e')))
    (hge : BkGe bk) :
    Calls Tryz.prog 146 #[.pointer (some ⟨R, 0, none⟩), .pointer (some ⟨X, 0, none⟩)] W (NestPost W p q X R sat deep B (bodyM bk B op 1 a)) := by
  obtain ⟨r0, r1, r2, rf, rlt⟩ := hR.cells
  have hplt := hC.lt
  have hXlt := hX.lt
  have H := Lib.hid (Results_any W p q B a 0 hC hB)
  have HG1 := Lib.hid (res_ge (B := B) (a := a) (e := 0))
  have HV := Lib.hid (show bodyM bk B op 1 a = (let t := rdOf (resM B a) a 0; let r := bk (op == 4) t.2.1 t.2.2; if r.2.1 = 5 then let s := bk false r.2.2.1 r.2.2.2; (.mk op t.1 0 0 0 [] r.1 s.1 true, s.2.2.1, s.2.2.2) else (.mk op t.1 0 0 0 [] r.1 [] false, r.2.2.1, r.2.2.2)) from if_pos rfl)
  have hty := res_bound B a 0
  generalize rdOf (resM B a) a 0 = t at *
  obtain ⟨ty, a1, e1⟩ := t
  simp only at HV HG1 hty H
  have HBK := Lib.hid hbk
  have HGE := Lib.hid hge
  have HR := Lib.hid hR
  have HX := Lib.hid hX
  have hdi : (deep : Int) ≤ 64 := by omega
  clear hC hB hbk hge hR hX
  go_enter Tryz.func146, Tryz.ntmps146
  go_wp2_with fail
  refine H.out.mono ?_
  rintro E W1 ⟨rfl, hG⟩
  have HRa := Lib.hid (HR.out.goes hRp hG)
  have HXa := Lib.hid (HX.out.grown hG.2 (by simpa using hXp))
  obtain ⟨s0, s1, s2, sf, slt⟩ := HRa.out.cells
  have x0 : W1.cell? ⟨X, 0, none⟩ = some (.int .i64 op) := by rw [HXa.out.cell]; rfl
  have x1 : W1.cell? ⟨X, 1, none⟩ = some (.int .u8 0) := by rw [HXa.out.cell]; rfl
  have xf1 := HXa.out.frozen 1
  have HG := Lib.hid hG
  clear hG H
  go_wp2_with fail
  have XB : Blk ((W1.setCell ⟨X, 1, none⟩ (.int .u8 ty)).setCell ⟨R, 2, none⟩ (.int .i64 ((deep : Int) + 1))) X (insC op ty 0 0 0 (.slice none 0 0) (.slice none 0 0) (.slice none 0 0) false) 153 := by
    have := (HXa.out.set 1 (.int .u8 ty)).set_other ⟨R, 2, none⟩ (.int .i64 ((deep : Int) + 1)) (by simpa using hRX.symm)
    simpa [insC] using this
  have RB : Rp ((W1.setCell ⟨X, 1, none⟩ (.int .u8 ty)).setCell ⟨R, 2, none⟩ (.int .i64 ((deep : Int) + 1))) R p sat (deep + 1 : Nat) := by
    have := (HRa.out.other X hRX 1 (.int .u8 ty)).set ((deep : Int) + 1)
    exact this
  have G3 : Goes3 W ((W1.setCell ⟨X, 1, none⟩ (.int .u8 ty)).setCell ⟨R, 2, none⟩ (.int .i64 ((deep : Int) + 1))) p q X R B a1 e1 :=
    ((Goes3.of HG.out).set X (.inl rfl) hXp hXq 1 _).set R (.inr rfl) hRp hRq 2 _
  generalize (W1.setCell ⟨X, 1, none⟩ (.int .u8 ty)).setCell ⟨R, 2, none⟩ (.int .i64 ((deep : Int) + 1)) = Wb at *
  have HBC := Lib.hid (HBK.out Wb (op == 4) a1 e1 (by by_cases h : e1 = 0; exact .inl (HG1.out h).1; exact .inr h) RB G3.cur)
  have HGE1 := Lib.hid (HGE.out (op == 4) a1 e1)
  have HBK2 := Lib.hid (fun X' a' e' => HBK.out X' false a' e')
  have HVV := Lib.hid (fun a' e' => HGE.out false a' e')
  generalize bk (op == 4) a1 e1 = r at *
  obtain ⟨th, en, a2, e2⟩ := r
  simp only at HV HGE1
  have HXb := Lib.hid XB
  have HRb := Lib.hid RB
  have HG3 := Lib.hid G3
  clear XB RB G3 HXa HRa s0 s1 s2 sf slt x0 x1 xf1 HBK
  refine HBC.out.mono ?_
  rintro E W2 ⟨⟨A6, c6, rfl, hl6, hF6⟩, hG2⟩
  have hG2' : Goes Wb W2 p q B a2 e2 := hG2
  have HX2 := Lib.hid (HXb.out.grown hG2'.2 (by simpa using hXp))
  have HR2 := Lib.hid (HRb.out.goes hRp hG2')
  have HG4 := Lib.hid (HG3.out.goes hG2')
  have HF6 := Lib.hid (hF6.mono (ok' := fun k => W.heap.size ≤ k) (fun k hk => Nat.le_trans HG3.out.size hk))
  have x6 : (W2.cell? ⟨X, 6, none⟩) = some (.slice none 0 0) := by rw [HX2.out.cell]; rfl
  have x8 : (W2.cell? ⟨X, 8, none⟩) = some (.bool false) := by rw [HX2.out.cell]; rfl
  have xf6 := HX2.out.frozen 6
  have xf7 := HX2.out.frozen 7
  have xf8 := HX2.out.frozen 8
  have hXlt2 := HX2.out.lt
  obtain ⟨s0, s1, s2, sf, slt⟩ := HR2.out.cells
  have hdc : (((deep + 1 : Nat) : Nat) : Int) = (deep : Int) + 1 := by omega
  rw [hdc] at s2
  clear hF6 hG2 hG2' HBC hdc
  by_cases h5 : en = 5
  · subst h5
    rw [if_pos rfl] at HV
    have hd2 : (((deep + 1 : Nat) : Nat) : Int) = (deep : Int) + 1 := by omega
    go_wp2_with fail
    have X3 : Blk ((W2.setCell ⟨X, 6, none⟩ (.slice A6 th.length c6)).setCell ⟨X, 8, none⟩ (.bool true)) X (insC op ty 0 0 0 (.slice none 0 0) (.slice A6 th.length c6) (.slice none 0 0) true) 153 := by
      have := (HX2.out.set 6 (.slice A6 th.length c6)).set 8 (.bool true)
      simpa [insC] using this
    have R3 : Rp ((W2.setCell ⟨X, 6, none⟩ (.slice A6 th.length c6)).setCell ⟨X, 8, none⟩ (.bool true)) R p sat (deep + 1 : Nat) := (HR2.out.other X hRX 6 _).other X hRX 8 _
    have G5 : Goes3 W ((W2.setCell ⟨X, 6, none⟩ (.slice A6 th.length c6)).setCell ⟨X, 8, none⟩ (.bool true)) p q X R B a2 e2 := (HG4.out.set X (.inl rfl) hXp hXq 6 _).set X (.inl rfl) hXp hXq 8 _
    have F3 : FC kI ((W2.setCell ⟨X, 6, none⟩ (.slice A6 th.length c6)).setCell ⟨X, 8, none⟩ (.bool true)) (fun k => W.heap.size ≤ k) A6 th := FC.set (FC.set HF6.out X 6 _ (by omega)) X 8 _ (by omega)
    generalize (W2.setCell ⟨X, 6, none⟩ (.slice A6 th.length c6)).setCell ⟨X, 8, none⟩ (.bool true) = Wc at *
    have HBC := Lib.hid (HBK2.out Wc a2 e2 (by
      by_cases h : e2 = 0
      · have h1 := HGE1.out h
        have h2 := HG1.out h1.2
        exact .inl (by omega)
      · exact .inr h) R3 G5.cur)
    generalize bk false a2 e2 = r2 at *
    obtain ⟨el, en2, a3, e3⟩ := r2
    simp only at HV
    have HX3 := Lib.hid X3
    have HR3 := Lib.hid R3
    have HG5 := Lib.hid G5
    have HF3 := Lib.hid F3
    clear X3 R3 G5 F3 s0 s1 s2 sf slt x6 x8 xf6 xf7 xf8
    refine HBC.out.mono ?_
    rintro E W3 ⟨⟨A7, c7, rfl, hl7, hF7⟩, hG3⟩
    have hG3' : Goes Wc W3 p q B a3 e3 := hG3
    have HX4 := Lib.hid (HX3.out.grown hG3'.2 (by simpa using hXp))
    have HR4 := Lib.hid (HR3.out.goes hRp hG3')
    have HG6 := Lib.hid (HG5.out.goes hG3')
    have HF7 := Lib.hid (hF7.mono (ok' := fun k => W.heap.size ≤ k) (fun k hk => Nat.le_trans HG5.out.size hk))
    have HF4 := Lib.hid (FC.goes HF3.out hG3' (by omega))
    have x7 : (W3.cell? ⟨X, 7, none⟩) = some (.slice none 0 0) := by rw [HX4.out.cell]; rfl
    have xf7 := HX4.out.frozen 7
    have hXlt3 := HX4.out.lt
    obtain ⟨s0, s1, s2, sf, slt⟩ := HR4.out.cells
    rw [hd2] at s2
    clear hF7 hG3 hG3' HBC hd2
    go_wp2_with fail
    go_end0
    have X5 : Blk ((W3.setCell ⟨X, 7, none⟩ (.slice A7 el.length c7)).setCell ⟨R, 2, none⟩ (.int .i64 deep)) X (insC op ty 0 0 0 (.slice none 0 0) (.slice A6 th.length c6) (.slice A7 el.length c7) true) 153 := by
      have := (HX4.out.set 7 (.slice A7 el.length c7)).set_other ⟨R, 2, none⟩ (.int .i64 deep) (by simpa using hRX.symm)
      simpa [insC] using this
    have R5 : Rp ((W3.setCell ⟨X, 7, none⟩ (.slice A7 el.length c7)).setCell ⟨R, 2, none⟩ (.int .i64 deep)) R p sat deep := (HR4.out.other X hRX 7 _).set deep
    have G7 := ((HG6.out.set X (.inl rfl) hXp hXq 7 (.slice A7 el.length c7)).set R (.inr rfl) hRp hRq 2 (.int .i64 deep)).fin HR.out R5
    rw [HV.out]
    refine ⟨rfl, ⟨_, .mk op ty 0 0 0 [] th el true, X5, ?_, fun _ => rfl⟩, G7, R5⟩
    exact ins_mkF (x := .mk op ty 0 0 0 [] th el true) (nest_wf hop.1 hop.2) (nest_ty hty) rfl rfl rfl FC.nil (FC.set (FC.set HF4.out X 7 _ (by omega)) R 2 _ (by omega)) (FC.set (FC.set HF7.out X 7 _ (by omega)) R 2 _ (by omega)) (Nat.le_refl _) hl6 hl7
  · have h5b : (en == 5) = false := by simpa using h5
    rw [if_neg h5] at HV
    clear h5
    go_wp2_with fail
    go_end0
    have X5 : Blk ((W2.setCell ⟨X, 6, none⟩ (.slice A6 th.length c6)).setCell ⟨R, 2, none⟩ (.int .i64 deep)) X (insC op ty 0 0 0 (.slice none 0 0) (.slice A6 th.length c6) (.slice none 0 0) false) 153 := by
      have := (HX2.out.set 6 (.slice A6 th.length c6)).set_other ⟨R, 2, none⟩ (.int .i64 deep) (by simpa using hRX.symm)
      simpa [insC] using this
    have R5 : Rp ((W2.setCell ⟨X, 6, none⟩ (.slice A6 th.length c6)).setCell ⟨R, 2, none⟩ (.int .i64 deep)) R p sat deep := (HR2.out.other X hRX 6 _).set deep
    have G7 := ((HG4.out.set X (.inl rfl) hXp hXq 6 (.slice A6 th.length c6)).set R (.inr rfl) hRp hRq 2 (.int .i64 deep)).fin HR.out R5
    rw [HV.out]
    refine ⟨rfl, ⟨_, .mk op ty 0 0 0 [] th [] false, X5, ?_, fun _ => rfl⟩, G7, R5⟩
    exact ins_mkF (x := .mk op ty 0 0 0 [] th [] false) (nest_wf hop.1 hop.2) (nest_ty hty) rfl rfl rfl FC.nil (FC.set (FC.set HF6.out X 6 _ (by omega)) R 2 _ (by omega)) FC.nil (Nat.le_refl _) hl6 (Nat.le_refl _)
end Go.Proofs.YtofaiocffifhfaaGreat
end
section
namespace Go.Proofs.YtofaiocffifhfaaGreat
open Go.RowKit Go.Shelf YtofaiocffifhfaaGreatB Go.Proofs.YtofaiocffifhfaaGreatW.PrintWords
def zeroC : Array Value := insC 0 0 0 0 0 (.slice none 0 0) (.slice none 0 0) (.slice none 0 0) false
def InsPost (W : World) (p q : Nat) (B : List Int) (r : Ins × Nat × Int) (E : Ending) (w' : World) : Prop :=
  ∃ x' : Ins, ∃ AL AT AE cL cT cE, E = .returned (.agg (insC x'.op x'.ty x'.a x'.b x'.bits (.slice AL x'.list.length cL) (.slice AT x'.th.length cT) (.slice AE x'.el.length cE) x'.has)) ∧
    FK kI w' (fun k => W.heap.size ≤ k) x' (insC x'.op x'.ty x'.a x'.b x'.bits (.slice AL x'.list.length cL) (.slice AT x'.th.length cT) (.slice AE x'.el.length cE) x'.has).toList ∧ (r.2.2 = 0 → x' = r.1) ∧ Goes W w' p q B r.2.1 r.2.2
theorem insC_cells {W : World} {X : Nat} {op ty a b bits : Int} {vL vT vE : Value} {has : Bool} (h : Blk W X (insC op ty a b bits vL vT vE has) 153) :
    W.cell? ⟨X, 0, none⟩ = some (.int .i64 op) ∧ W.cell? ⟨X, 1, none⟩ = some (.int .u8 ty) ∧ W.cell? ⟨X, 2, none⟩ = some (.int .u32 a) ∧ W.cell? ⟨X, 3, none⟩ = some (.int .u32 b) ∧ W.cell? ⟨X, 4, none⟩ = some (.int .u64 bits) ∧ W.cell? ⟨X, 5, none⟩ = some vL ∧ W.cell? ⟨X, 6, none⟩ = some vT ∧ W.cell? ⟨X, 7, none⟩ = some vE ∧ W.cell? ⟨X, 8, none⟩ = some (.bool has) :=
  ⟨by rw [h.cell]; rfl, by rw [h.cell]; rfl, by rw [h.cell]; rfl, by rw [h.cell]; rfl, by rw [h.cell]; rfl, by rw [h.cell]; rfl, by rw [h.cell]; rfl, by rw [h.cell]; rfl, by rw [h.cell]; rfl⟩
theorem insC_frozen {W : World} {X : Nat} {cs : Array Value} {t : TypeId} (h : Blk W X cs t) :
    W.frozen? ⟨X, 0, none⟩ = false ∧ W.frozen? ⟨X, 1, none⟩ = false ∧ W.frozen? ⟨X, 2, none⟩ = false ∧ W.frozen? ⟨X, 3, none⟩ = false ∧ W.frozen? ⟨X, 4, none⟩ = false ∧ W.frozen? ⟨X, 5, none⟩ = false ∧ W.frozen? ⟨X, 6, none⟩ = false ∧ W.frozen? ⟨X, 7, none⟩ = false ∧ W.frozen? ⟨X, 8, none⟩ = false ∧ X < W.heap.size :=
  ⟨h.frozen 0, h.frozen 1, h.frozen 2, h.frozen 3, h.frozen 4, h.frozen 5, h.frozen 6, h.frozen 7, h.frozen 8, h.lt⟩
theorem Goes.setNew {W V : World} {p q : Nat} {B : List Int} {a a0 : Nat} {e e0 : Int} (hC : Cur W p q B a0 e0) (h : Goes W V p q B a e) (X : Nat) (hX : W.heap.size ≤ X) (j : Nat) (v : Value) : Goes W (V.setCell ⟨X, j, none⟩ v) p q B a e :=
  lab_goes hC h (gset V X j v) (fun k e => by cases e; exact hX)
def put9 (V : World) (Z : Nat) (n0 n1 n2 n3 n4 n5 n6 n7 n8 : Value) : World := (((((((((V.setCell ⟨Z, 0, none⟩ n0).setCell ⟨Z, 1, none⟩ n1).setCell ⟨Z, 2, none⟩ n2).setCell ⟨Z, 3, none⟩ n3).setCell ⟨Z, 4, none⟩ n4).setCell ⟨Z, 5, none⟩ n5).setCell ⟨Z, 6, none⟩ n6).setCell ⟨Z, 7, none⟩ n7).setCell ⟨Z, 8, none⟩ n8)
theorem put9_blk {V : World} {Z : Nat} {t : TypeId} {o0 o1 o2 o3 o4 o5 o6 o7 o8 : Value} (h : Blk V Z #[o0, o1, o2, o3, o4, o5, o6, o7, o8] t) (n0 n1 n2 n3 n4 n5 n6 n7 n8 : Value) : Blk (put9 V Z n0 n1 n2 n3 n4 n5 n6 n7 n8) Z #[n0, n1, n2, n3, n4, n5, n6, n7, n8] t := by
  have := ((((((((h.set 0 n0).set 1 n1).set 2 n2).set 3 n3).set 4 n4).set 5 n5).set 6 n6).set 7 n7).set 8 n8
  simpa [put9] using this
theorem put9_goes {W V : World} {p q : Nat} {B : List Int} {a a0 : Nat} {e e0 : Int} (hC : Cur W p q B a0 e0) (h : Goes W V p q B a e) (Z : Nat) (hZ : W.heap.size ≤ Z) (n0 n1 n2 n3 n4 n5 n6 n7 n8 : Value) : Goes W (put9 V Z n0 n1 n2 n3 n4 n5 n6 n7 n8) p q B a e :=
  ((((((((h.setNew hC Z hZ 0 n0).setNew hC Z hZ 1 n1).setNew hC Z hZ 2 n2).setNew hC Z hZ 3 n3).setNew hC Z hZ 4 n4).setNew hC Z hZ 5 n5).setNew hC Z hZ 6 n6).setNew hC Z hZ 7 n7).setNew hC Z hZ 8 n8
theorem put9_FC {α : Type} {d : Kd α} {V : World} {ok : Nat → Prop} {A : Option Addr} {xs : List α} (h : FC d V ok A xs) (Z : Nat) (hZ : ¬ ok Z) (n0 n1 n2 n3 n4 n5 n6 n7 n8 : Value) : FC d (put9 V Z n0 n1 n2 n3 n4 n5 n6 n7 n8) ok A xs :=
  FC.set (FC.set (FC.set (FC.set (FC.set (FC.set (FC.set (FC.set (FC.set h Z 0 n0 hZ) Z 1 n1 hZ) Z 2 n2 hZ) Z 3 n3 hZ) Z 4 n4 hZ) Z 5 n5 hZ) Z 6 n6 hZ) Z 7 n7 hZ) Z 8 n8 hZ
theorem fk_flat {W : World} {ok : Nat → Prop} {op ty a b bits : Int} (h1 : 0 ≤ op ∧ op ≤ 5000000000) (h2 : 0 ≤ ty ∧ ty ≤ 255) (h3 : 0 ≤ a ∧ a ≤ 4294967295) (h4 : 0 ≤ b ∧ b ≤ 4294967295) (h5 : 0 ≤ bits ∧ bits < 18446744073709551616) :
    FK kI W ok (.mk op ty a b bits [] [] [] false) (insC op ty a b bits (.slice none 0 0) (.slice none 0 0) (.slice none 0 0) false).toList :=
  ins_mkF (x := .mk op ty a b bits [] [] [] false) (nest_wf h1.1 h1.2) (show (Lit.int .u8 ty).wf = true from by simp [Lit.wf, IntKind.min, IntKind.max, IntKind.signed, IntKind.bits]; omega) (show (Lit.int .u32 a).wf = true from by simp [Lit.wf, IntKind.min, IntKind.max, IntKind.signed, IntKind.bits]; omega) (show (Lit.int .u32 b).wf = true from by simp [Lit.wf, IntKind.min, IntKind.max, IntKind.signed, IntKind.bits]; omega) (show (Lit.int .u64 bits).wf = true from by simp [Lit.wf, IntKind.min, IntKind.max, IntKind.signed, IntKind.bits]; omega) FC.nil FC.nil FC.nil (Nat.le_refl _) (Nat.le_refl _) (Nat.le_refl _)
theorem s32_bound (B : List Int) (a : Nat) (e : Int) : 0 ≤ (rdOf (s32M B a) a e).1 ∧ (rdOf (s32M B a) a e).1 ≤ 4294967295 := by
  unfold rdOf
  by_cases he : e = 0
  · rw [if_pos he]
    unfold s32M
    cases sintM B a 32 with
    | error e' => simp [numV]
    | ok y => obtain ⟨n, nx⟩ := y; simp only [numV]; omega
  · rw [if_neg he]; simp
theorem s64_bound (B : List Int) (a : Nat) (e : Int) (hB : Byts B) : 0 ≤ (rdOf (s64M B a) a e).1 ∧ (rdOf (s64M B a) a e).1 < 18446744073709551616 := by
  unfold rdOf
  by_cases he : e = 0
  · rw [if_pos he]
    unfold s64M
    cases hs : sintM B a 64 with
    | error e' => simp [numV]
    | ok y => obtain ⟨n, nx⟩ := y; have := sintM_lt hB (by omega) hs; simp only [numV]; omega
  · rw [if_neg he]; simp
theorem fix_bound (B : List Int) (a n : Nat) (e : Int) (hn : n ≤ 8) (hB : Byts B) : 0 ≤ (rdOf (fixM B a n) a e).1 ∧ (rdOf (fixM B a n) a e).1 < 18446744073709551616 := by
  unfold rdOf
  by_cases he : e = 0
  · rw [if_pos he]
    unfold fixM
    by_cases h : a + n ≤ B.length
    · rw [if_pos h]
      have h1 := leN_lt ((B.drop a).take n) (fun x hx => hB.2 x (List.mem_of_mem_drop (List.mem_of_mem_take hx)))
      have h2 : 2 ^ (8 * ((B.drop a).take n).length) ≤ 2 ^ 64 := Nat.pow_le_pow_right (by omega) (by simp; omega)
      simp only [numV]
      omega
    · rw [if_neg h]; simp [numV]
  · rw [if_neg he]; simp
/-- A body's fields in the instruction's order: what the final copy leaves. -/
theorem GoesX.goes {W V V' : World} {p q X a a' : Nat} {B : List Int} {e e' : Int} (h : Goes W V p q B a e) (h' : GoesX V V' p q X B a' e') (hX : W.heap.size ≤ X) : Goes W V' p q B a' e' := by
  obtain ⟨g0, g1, g2, g3, g4, g5⟩ := h'
  refine ⟨g0, ⟨g1.trans h.2.os, g2.trans h.2.tape, g3.trans h.2.output, Nat.le_trans h.2.size g4, fun k hk hp => ?_⟩⟩
  exact (g5 k (Nat.lt_of_lt_of_le hk h.2.size) (by simpa using hp) (by omega)).trans (h.2.block k hk hp)
theorem hB_in {B : List Int} (hB : Byts B) : ∀ x ∈ B, 0 ≤ x ∧ x ≤ 255 := hB.2
end Go.Proofs.YtofaiocffifhfaaGreat
end
section
namespace Go.Proofs.YtofaiocffifhfaaGreat
open Go.RowKit Go.Shelf YtofaiocffifhfaaGreatB Go.Proofs.YtofaiocffifhfaaGreatW.PrintWords
set_option maxRecDepth 100000 in
set_option maxHeartbeats 16000000 in
theorem instr_n (bk : Bool → Nat → Int → List Ins × Int × Nat × Int) (W : World) (R p q : Nat) (sat : Bool) (deep : Nat) (B : List Int) (a a1 : Nat) (b opc iv i : Int) (ib ib2 : Bool) (hR : Rp W R p sat deep) (hRp : R ≠ p) (hC : Cur W p q B a 0) (hB : Byts B) (hx : B[a]? = some b)
    (hi : immM b = (iv, ib)) (hi1 : (iv == 1) = false) (ho : opM sat B a 0 = (opc, a1, 0)) (hopc : 0 ≤ opc ∧ opc ≤ 5000000000) (hi2 : immM opc = (i, ib2)) (c1 : ¬ i = 1) :
    Calls Tryz.prog 141 #[.pointer (some ⟨R, 0, none⟩)] W (InsPost W p q B (bodyM bk B opc i a1)) := by
  have hxb := hB.get hx
  have hplt := hC.lt
  have hRlt := hR.lt
  have hqlt : q < W.heap.size := by
    rcases hC.qlt with h | h
    · rw [h] at hx; simp at hx
    · exact h
  have HP := Lib.hid (peek_any (W.alloc (.cells zeroC 153)) R p q sat deep B a 0 (Blk.alloc hR _) hRp (hC.alloc _) hB)
  rw [show peekM B a 0 = (b, 0) from by simp [peekM, hx]] at HP
  have HI1 := Lib.hid (fun X => Imm_any X b hxb.1 (by omega))
  have HI2 := Lib.hid (fun X => Imm_any X opc hopc.1 hopc.2)
  rw [hi] at HI1
  rw [hi2] at HI2
  have HOP := Lib.hid (fun X h1 h2 => op_any X R p q sat deep B a 0 h1 hRp h2 hB)
  rw [ho] at HOP
  have HR := Lib.hid (show Rp (W.alloc (.cells zeroC 153)) R p sat deep from Blk.alloc hR _)
  have HZ := Lib.hid (Blk.new W zeroC 153)
  have HB := Lib.hid hB
  have hb0 := hxb.1
  have hb1 := hxb.2
  have HW := Lib.hid hC
  have HC1 := Lib.hid c1
  clear hR hC hB hx hi ho hi2 hxb c1
  go_enter Tryz.func141, Tryz.ntmps141
  go_wp2_with fail
  refine HP.out.mono ?_
  rintro E W1 ⟨rfl, hG1⟩
  have HR1 := Lib.hid (HR.out.goes hRp hG1)
  have HZ1 := Lib.hid (HZ.out.grown hG1.2 (by simp; omega))
  have HG1 := Lib.hid hG1.of_alloc
  clear hG1 HP HR HZ
  go_wp2_with fail
  refine (HI1.out _).mono ?_
  rintro E W2 ⟨rfl, hB2⟩
  have hg2 : Goes W1 W2 p q B a 0 := ⟨HG1.out.1.below hB2, grown_below hB2 _⟩
  have HR2 := Lib.hid (HR1.out.goes hRp hg2)
  have HZ2 := Lib.hid (HZ1.out.grown hg2.2 (by simp; omega))
  have HG2 := Lib.hid (HG1.out.trans hg2)
  clear hg2 hB2 HR1 HZ1 HG1
  go_wp2_with fail
  refine (HOP.out _ HR2.out HG2.out.1).mono ?_
  rintro E W3 ⟨rfl, hG3⟩
  have HR3 := Lib.hid (HR2.out.goes hRp hG3)
  have HZ3 := Lib.hid (HZ2.out.grown hG3.2 (by simp; omega))
  have HG3 := Lib.hid (HG2.out.trans hG3)
  clear hG3 HR2 HZ2 HG2 HOP
  go_wp2_with fail
  refine (HI2.out _).mono ?_
  rintro E W4 ⟨rfl, hB4⟩
  have XB4 : Blk W4 W3.heap.size (insC opc 0 0 0 0 (.slice none 0 0) (.slice none 0 0) (.slice none 0 0) false) 153 := (Blk.new W3 (insC opc 0 0 0 0 (.slice none 0 0) (.slice none 0 0) (.slice none 0 0) false) 153).below hB4 (by simp)
  have hg4 : Goes W3 W4 p q B a1 0 := Goes.of_alloc (o := .cells (insC opc 0 0 0 0 (.slice none 0 0) (.slice none 0 0) (.slice none 0 0) false) 153) ⟨(HG3.out.1.alloc _).below hB4, grown_below hB4 _⟩
  have HR4 := Lib.hid (HR3.out.goes hRp hg4)
  have HZ4 := Lib.hid (HZ3.out.grown hg4.2 (by simp; omega))
  have HG4 := Lib.hid (HG3.out.trans hg4)
  have HX4 := Lib.hid XB4
  have hXp : p < W3.heap.size := Nat.lt_of_lt_of_le hplt HG3.out.2.size
  have hXR : R < W3.heap.size := Nat.lt_of_lt_of_le hRlt HG3.out.2.size
  have hXZ : W.heap.size < W3.heap.size := HZ3.out.lt
  obtain ⟨X, hXe⟩ : ∃ X, X = W3.heap.size := ⟨_, rfl⟩
  rw [← hXe] at HX4 hXp hXR hXZ ⊢
  clear hB4 XB4 hg4 HR3 HZ3 HG3 hXe
  go_wp2_with fail
  refine (rgood_any _ _ _ _ _ _ _ _ _ true HR4.out HG4.out.1 rfl).mono ?_
  rintro E w' ⟨rfl, rfl⟩
  clear HI1 HI2 hi1
  by_cases c2 : i = 2
  · obtain rfl : i = 2 := c2
    have HV := Lib.hid (show bodyM bk B opc 2 a1 = (.mk opc 0 (rdOf (u32M B a1) a1 0).1 0 0 [] [] [] false, (rdOf (u32M B a1) a1 0).2.1, (rdOf (u32M B a1) a1 0).2.2) from rfl)
    obtain ⟨s0, s1, s2, sf, slt⟩ := HR4.out.cells
    obtain ⟨x0, x1, x2, x3, x4, x5, x6, x7, x8⟩ := insC_cells HX4.out
    obtain ⟨xf0, xf1, xf2, xf3, xf4, xf5, xf6, xf7, xf8, xlt⟩ := insC_frozen HX4.out
    obtain ⟨z0, z1, z2, z3, z4, z5, z6, z7, z8⟩ := insC_cells HZ4.out
    obtain ⟨zf0, zf1, zf2, zf3, zf4, zf5, zf6, zf7, zf8, zlt⟩ := insC_frozen HZ4.out
    go_wp2_with fail
    have hvb := u32_bound B a1 0 HB.out
    have H := Lib.hid (U32_any W4 p q B a1 0 HG4.out.1 HB.out)
    generalize rdOf (u32M B a1) a1 0 = t at *
    obtain ⟨v14, a14, e14⟩ := t
    simp only at HV
    obtain ⟨hv14, hw14⟩ := hvb
    refine H.out.mono ?_
    rintro E W14 ⟨rfl, hG⟩
    have hG0 : Goes W4 W14 p q B a14 e14 := hG
    have HR14 := Lib.hid (HR4.out.goes hRp hG0)
    have HX14 := Lib.hid (HX4.out.grown hG0.2 (by simp; omega))
    have HZ14 := Lib.hid (HZ4.out.grown hG0.2 (by simp; omega))
    have HG14 := Lib.hid (HG4.out.trans hG0)
    clear hG hG0 H HR4 HX4 HZ4 HG4
    clear s0 s1 s2 sf slt x0 x1 x2 x3 x4 x5 x6 x7 x8 xf0 xf1 xf2 xf3 xf4 xf5 xf6 xf7 xf8 xlt z0 z1 z2 z3 z4 z5 z6 z7 z8 zf0 zf1 zf2 zf3 zf4 zf5 zf6 zf7 zf8 zlt
    obtain ⟨s0, s1, s2, sf, slt⟩ := HR14.out.cells
    obtain ⟨x0, x1, x2, x3, x4, x5, x6, x7, x8⟩ := insC_cells HX14.out
    obtain ⟨xf0, xf1, xf2, xf3, xf4, xf5, xf6, xf7, xf8, xlt⟩ := insC_frozen HX14.out
    obtain ⟨z0, z1, z2, z3, z4, z5, z6, z7, z8⟩ := insC_cells HZ14.out
    obtain ⟨zf0, zf1, zf2, zf3, zf4, zf5, zf6, zf7, zf8, zlt⟩ := insC_frozen HZ14.out
    go_wp2_with fail
    have HX15 := Lib.hid (show Blk (W14.setCell ⟨X, 2, none⟩ (.int .u32 v14)) X (insC opc 0 v14 0 0 (.slice none 0 0) (.slice none 0 0) (.slice none 0 0) false) 153 from by have := HX14.out.set 2 (.int .u32 v14); simpa [insC] using this)
    have HZ15 := Lib.hid (show Blk (W14.setCell ⟨X, 2, none⟩ (.int .u32 v14)) W.heap.size zeroC 153 from HZ14.out.set_other ⟨X, 2, none⟩ (.int .u32 v14) (by simp; omega))
    have HR15 := Lib.hid (show Rp (W14.setCell ⟨X, 2, none⟩ (.int .u32 v14)) R p sat deep from HR14.out.other X (by omega) 2 (.int .u32 v14))
    have HG15 := Lib.hid (show Goes W (W14.setCell ⟨X, 2, none⟩ (.int .u32 v14)) p q B a14 e14 from HG14.out.setNew HW.out X (by omega) 2 (.int .u32 v14))
    clear HX14 HZ14 HR14 HG14
    clear s0 s1 s2 sf slt x0 x1 x2 x3 x4 x5 x6 x7 x8 xf0 xf1 xf2 xf3 xf4 xf5 xf6 xf7 xf8 xlt z0 z1 z2 z3 z4 z5 z6 z7 z8 zf0 zf1 zf2 zf3 zf4 zf5 zf6 zf7 zf8 zlt
    change bodyPost _ _ _ Exit.ret _ (put9 (W14.setCell ⟨X, 2, none⟩ (.int .u32 v14)) W.heap.size (.int .i64 opc) (.int .u8 0) (.int .u32 v14) (.int .u32 0) (.int .u64 0) (.slice none 0 0) (.slice none 0 0) (.slice none 0 0) (.bool false))
    have hgF : Goes W (put9 (W14.setCell ⟨X, 2, none⟩ (.int .u32 v14)) W.heap.size (.int .i64 opc) (.int .u8 0) (.int .u32 v14) (.int .u32 0) (.int .u64 0) (.slice none 0 0) (.slice none 0 0) (.slice none 0 0) (.bool false)) p q B a14 e14 := put9_goes HW.out HG15.out _ (Nat.le_refl _) _ _ _ _ _ _ _ _ _
    have hbF := put9_blk HZ15.out (.int .i64 opc) (.int .u8 0) (.int .u32 v14) (.int .u32 0) (.int .u64 0) (.slice none 0 0) (.slice none 0 0) (.slice none 0 0) (.bool false)
    generalize put9 (W14.setCell ⟨X, 2, none⟩ (.int .u32 v14)) W.heap.size (.int .i64 opc) (.int .u8 0) (.int .u32 v14) (.int .u32 0) (.int .u64 0) (.slice none 0 0) (.slice none 0 0) (.slice none 0 0) (.bool false) = V9 at *
    obtain ⟨y0, y1, y2, y3, y4, y5, y6, y7, y8⟩ := insC_cells hbF
    rw [HV.out]
    have HGF := Lib.hid hgF
    refine bodyPost_ret (v := .agg (insC opc 0 v14 0 0 (.slice none 0 0) (.slice none 0 0) (.slice none 0 0) false)) (by simp [results, Tryz.results141, go_sem, y0, y1, y2, y3, y4, y5, y6, y7, y8, insC]) rfl ⟨.mk opc 0 v14 0 0 [] [] [] false, none, none, none, 0, 0, 0, rfl, ?_, fun _ => rfl, HGF.out⟩
    exact fk_flat hopc (by omega) (by omega) (by omega) (by omega)
  by_cases c4 : i = 4
  · obtain rfl : i = 4 := c4
    have HV := Lib.hid (show bodyM bk B opc 4 a1 = (.mk opc 0 (rdOf (u32M B a1) a1 0).1 0 0 [] [] [] false, (rdOf (u32M B a1) a1 0).2.1, (rdOf (u32M B a1) a1 0).2.2) from rfl)
    obtain ⟨s0, s1, s2, sf, slt⟩ := HR4.out.cells
    obtain ⟨x0, x1, x2, x3, x4, x5, x6, x7, x8⟩ := insC_cells HX4.out
    obtain ⟨xf0, xf1, xf2, xf3, xf4, xf5, xf6, xf7, xf8, xlt⟩ := insC_frozen HX4.out
    obtain ⟨z0, z1, z2, z3, z4, z5, z6, z7, z8⟩ := insC_cells HZ4.out
    obtain ⟨zf0, zf1, zf2, zf3, zf4, zf5, zf6, zf7, zf8, zlt⟩ := insC_frozen HZ4.out
    go_wp2_with fail
    have hvb := u32_bound B a1 0 HB.out
    have H := Lib.hid (U32_any W4 p q B a1 0 HG4.out.1 HB.out)
    generalize rdOf (u32M B a1) a1 0 = t at *
    obtain ⟨v14, a14, e14⟩ := t
    simp only at HV
    obtain ⟨hv14, hw14⟩ := hvb
    refine H.out.mono ?_
    rintro E W14 ⟨rfl, hG⟩
    have hG0 : Goes W4 W14 p q B a14 e14 := hG
    have HR14 := Lib.hid (HR4.out.goes hRp hG0)
    have HX14 := Lib.hid (HX4.out.grown hG0.2 (by simp; omega))
    have HZ14 := Lib.hid (HZ4.out.grown hG0.2 (by simp; omega))
    have HG14 := Lib.hid (HG4.out.trans hG0)
    clear hG hG0 H HR4 HX4 HZ4 HG4
    clear s0 s1 s2 sf slt x0 x1 x2 x3 x4 x5 x6 x7 x8 xf0 xf1 xf2 xf3 xf4 xf5 xf6 xf7 xf8 xlt z0 z1 z2 z3 z4 z5 z6 z7 z8 zf0 zf1 zf2 zf3 zf4 zf5 zf6 zf7 zf8 zlt
    obtain ⟨s0, s1, s2, sf, slt⟩ := HR14.out.cells
    obtain ⟨x0, x1, x2, x3, x4, x5, x6, x7, x8⟩ := insC_cells HX14.out
    obtain ⟨xf0, xf1, xf2, xf3, xf4, xf5, xf6, xf7, xf8, xlt⟩ := insC_frozen HX14.out
    obtain ⟨z0, z1, z2, z3, z4, z5, z6, z7, z8⟩ := insC_cells HZ14.out
    obtain ⟨zf0, zf1, zf2, zf3, zf4, zf5, zf6, zf7, zf8, zlt⟩ := insC_frozen HZ14.out
    go_wp2_with fail
    have HX15 := Lib.hid (show Blk (W14.setCell ⟨X, 2, none⟩ (.int .u32 v14)) X (insC opc 0 v14 0 0 (.slice none 0 0) (.slice none 0 0) (.slice none 0 0) false) 153 from by have := HX14.out.set 2 (.int .u32 v14); simpa [insC] using this)
    have HZ15 := Lib.hid (show Blk (W14.setCell ⟨X, 2, none⟩ (.int .u32 v14)) W.heap.size zeroC 153 from HZ14.out.set_other ⟨X, 2, none⟩ (.int .u32 v14) (by simp; omega))
    have HR15 := Lib.hid (show Rp (W14.setCell ⟨X, 2, none⟩ (.int .u32 v14)) R p sat deep from HR14.out.other X (by omega) 2 (.int .u32 v14))
    have HG15 := Lib.hid (show Goes W (W14.setCell ⟨X, 2, none⟩ (.int .u32 v14)) p q B a14 e14 from HG14.out.setNew HW.out X (by omega) 2 (.int .u32 v14))
    clear HX14 HZ14 HR14 HG14
    clear s0 s1 s2 sf slt x0 x1 x2 x3 x4 x5 x6 x7 x8 xf0 xf1 xf2 xf3 xf4 xf5 xf6 xf7 xf8 xlt z0 z1 z2 z3 z4 z5 z6 z7 z8 zf0 zf1 zf2 zf3 zf4 zf5 zf6 zf7 zf8 zlt
    change bodyPost _ _ _ Exit.ret _ (put9 (W14.setCell ⟨X, 2, none⟩ (.int .u32 v14)) W.heap.size (.int .i64 opc) (.int .u8 0) (.int .u32 v14) (.int .u32 0) (.int .u64 0) (.slice none 0 0) (.slice none 0 0) (.slice none 0 0) (.bool false))
    have hgF : Goes W (put9 (W14.setCell ⟨X, 2, none⟩ (.int .u32 v14)) W.heap.size (.int .i64 opc) (.int .u8 0) (.int .u32 v14) (.int .u32 0) (.int .u64 0) (.slice none 0 0) (.slice none 0 0) (.slice none 0 0) (.bool false)) p q B a14 e14 := put9_goes HW.out HG15.out _ (Nat.le_refl _) _ _ _ _ _ _ _ _ _
    have hbF := put9_blk HZ15.out (.int .i64 opc) (.int .u8 0) (.int .u32 v14) (.int .u32 0) (.int .u64 0) (.slice none 0 0) (.slice none 0 0) (.slice none 0 0) (.bool false)
    generalize put9 (W14.setCell ⟨X, 2, none⟩ (.int .u32 v14)) W.heap.size (.int .i64 opc) (.int .u8 0) (.int .u32 v14) (.int .u32 0) (.int .u64 0) (.slice none 0 0) (.slice none 0 0) (.slice none 0 0) (.bool false) = V9 at *
    obtain ⟨y0, y1, y2, y3, y4, y5, y6, y7, y8⟩ := insC_cells hbF
    rw [HV.out]
    have HGF := Lib.hid hgF
    refine bodyPost_ret (v := .agg (insC opc 0 v14 0 0 (.slice none 0 0) (.slice none 0 0) (.slice none 0 0) false)) (by simp [results, Tryz.results141, go_sem, y0, y1, y2, y3, y4, y5, y6, y7, y8, insC]) rfl ⟨.mk opc 0 v14 0 0 [] [] [] false, none, none, none, 0, 0, 0, rfl, ?_, fun _ => rfl, HGF.out⟩
    exact fk_flat hopc (by omega) (by omega) (by omega) (by omega)
  by_cases c3 : i = 3
  · obtain rfl : i = 3 := c3
    have HV := Lib.hid (show bodyM bk B opc 3 a1 = (.mk opc 0 (rdOf (u32M B (labelsM B a1 0).2.1) (labelsM B a1 0).2.1 (labelsM B a1 0).2.2).1 0 0 (labelsM B a1 0).1 [] [] false, (rdOf (u32M B (labelsM B a1 0).2.1) (labelsM B a1 0).2.1 (labelsM B a1 0).2.2).2.1, (rdOf (u32M B (labelsM B a1 0).2.1) (labelsM B a1 0).2.1 (labelsM B a1 0).2.2).2.2) from rfl)
    obtain ⟨s0, s1, s2, sf, slt⟩ := HR4.out.cells
    obtain ⟨x0, x1, x2, x3, x4, x5, x6, x7, x8⟩ := insC_cells HX4.out
    obtain ⟨xf0, xf1, xf2, xf3, xf4, xf5, xf6, xf7, xf8, xlt⟩ := insC_frozen HX4.out
    obtain ⟨z0, z1, z2, z3, z4, z5, z6, z7, z8⟩ := insC_cells HZ4.out
    obtain ⟨zf0, zf1, zf2, zf3, zf4, zf5, zf6, zf7, zf8, zlt⟩ := insC_frozen HZ4.out
    go_wp2_with fail
    have H := Lib.hid (labels_any W4 R p q sat deep B a1 0 HR4.out hRp HG4.out.1 HB.out)
    generalize labelsM B a1 0 = t at *
    obtain ⟨v14, a14, e14⟩ := t
    simp only at HV
    refine H.out.mono ?_
    rintro E W14 ⟨⟨A5, c5, rfl, hl5, hF5⟩, hG⟩
    have hG0 : Goes W4 W14 p q B a14 e14 := hG
    have HR14 := Lib.hid (HR4.out.goes hRp hG0)
    have HX14 := Lib.hid (HX4.out.grown hG0.2 (by simp; omega))
    have HZ14 := Lib.hid (HZ4.out.grown hG0.2 (by simp; omega))
    have HG14 := Lib.hid (HG4.out.trans hG0)
    have HF14 := Lib.hid hF5
    clear hF5
    have hZF := HZ4.out.lt
    have hXF := HX4.out.lt
    clear hG hG0 H HR4 HX4 HZ4 HG4
    clear s0 s1 s2 sf slt x0 x1 x2 x3 x4 x5 x6 x7 x8 xf0 xf1 xf2 xf3 xf4 xf5 xf6 xf7 xf8 xlt z0 z1 z2 z3 z4 z5 z6 z7 z8 zf0 zf1 zf2 zf3 zf4 zf5 zf6 zf7 zf8 zlt
    obtain ⟨s0, s1, s2, sf, slt⟩ := HR14.out.cells
    obtain ⟨x0, x1, x2, x3, x4, x5, x6, x7, x8⟩ := insC_cells HX14.out
    obtain ⟨xf0, xf1, xf2, xf3, xf4, xf5, xf6, xf7, xf8, xlt⟩ := insC_frozen HX14.out
    obtain ⟨z0, z1, z2, z3, z4, z5, z6, z7, z8⟩ := insC_cells HZ14.out
    obtain ⟨zf0, zf1, zf2, zf3, zf4, zf5, zf6, zf7, zf8, zlt⟩ := insC_frozen HZ14.out
    go_wp2_with fail
    have HX15 := Lib.hid (show Blk (W14.setCell ⟨X, 5, none⟩ (.slice A5 v14.length c5)) X (insC opc 0 0 0 0 (.slice A5 v14.length c5) (.slice none 0 0) (.slice none 0 0) false) 153 from by have := HX14.out.set 5 (.slice A5 v14.length c5); simpa [insC] using this)
    have HZ15 := Lib.hid (show Blk (W14.setCell ⟨X, 5, none⟩ (.slice A5 v14.length c5)) W.heap.size zeroC 153 from HZ14.out.set_other ⟨X, 5, none⟩ (.slice A5 v14.length c5) (by simp; omega))
    have HR15 := Lib.hid (show Rp (W14.setCell ⟨X, 5, none⟩ (.slice A5 v14.length c5)) R p sat deep from HR14.out.other X (by omega) 5 (.slice A5 v14.length c5))
    have HG15 := Lib.hid (show Goes W (W14.setCell ⟨X, 5, none⟩ (.slice A5 v14.length c5)) p q B a14 e14 from HG14.out.setNew HW.out X (by omega) 5 (.slice A5 v14.length c5))
    have HF15 := Lib.hid (FC.set HF14.out X 5 (.slice A5 v14.length c5) (by simp; omega))
    generalize W14.setCell ⟨X, 5, none⟩ (.slice A5 v14.length c5) = W15 at *
    clear HX14 HZ14 HR14 HG14 HF14
    clear s0 s1 s2 sf slt x0 x1 x2 x3 x4 x5 x6 x7 x8 xf0 xf1 xf2 xf3 xf4 xf5 xf6 xf7 xf8 xlt z0 z1 z2 z3 z4 z5 z6 z7 z8 zf0 zf1 zf2 zf3 zf4 zf5 zf6 zf7 zf8 zlt
    obtain ⟨s0, s1, s2, sf, slt⟩ := HR15.out.cells
    obtain ⟨x0, x1, x2, x3, x4, x5, x6, x7, x8⟩ := insC_cells HX15.out
    obtain ⟨xf0, xf1, xf2, xf3, xf4, xf5, xf6, xf7, xf8, xlt⟩ := insC_frozen HX15.out
    obtain ⟨z0, z1, z2, z3, z4, z5, z6, z7, z8⟩ := insC_cells HZ15.out
    obtain ⟨zf0, zf1, zf2, zf3, zf4, zf5, zf6, zf7, zf8, zlt⟩ := insC_frozen HZ15.out
    have hvb := u32_bound B a14 e14 HB.out
    have H := Lib.hid (U32_any W15 p q B a14 e14 HG15.out.1 HB.out)
    generalize rdOf (u32M B a14) a14 e14 = t at *
    obtain ⟨v25, a25, e25⟩ := t
    simp only at HV
    obtain ⟨hv25, hw25⟩ := hvb
    refine H.out.mono ?_
    rintro E W25 ⟨rfl, hG⟩
    have hG0 : Goes W15 W25 p q B a25 e25 := hG
    have HR25 := Lib.hid (HR15.out.goes hRp hG0)
    have HX25 := Lib.hid (HX15.out.grown hG0.2 (by simp; omega))
    have HZ25 := Lib.hid (HZ15.out.grown hG0.2 (by simp; omega))
    have HG25 := Lib.hid (HG15.out.trans hG0)
    have HF25 := Lib.hid (FC.goes HF15.out hG0 (by simp; omega))
    clear hG hG0 H HR15 HX15 HZ15 HG15 HF15
    clear s0 s1 s2 sf slt x0 x1 x2 x3 x4 x5 x6 x7 x8 xf0 xf1 xf2 xf3 xf4 xf5 xf6 xf7 xf8 xlt z0 z1 z2 z3 z4 z5 z6 z7 z8 zf0 zf1 zf2 zf3 zf4 zf5 zf6 zf7 zf8 zlt
    obtain ⟨s0, s1, s2, sf, slt⟩ := HR25.out.cells
    obtain ⟨x0, x1, x2, x3, x4, x5, x6, x7, x8⟩ := insC_cells HX25.out
    obtain ⟨xf0, xf1, xf2, xf3, xf4, xf5, xf6, xf7, xf8, xlt⟩ := insC_frozen HX25.out
    obtain ⟨z0, z1, z2, z3, z4, z5, z6, z7, z8⟩ := insC_cells HZ25.out
    obtain ⟨zf0, zf1, zf2, zf3, zf4, zf5, zf6, zf7, zf8, zlt⟩ := insC_frozen HZ25.out
    go_wp2_with fail
    have HX26 := Lib.hid (show Blk (W25.setCell ⟨X, 2, none⟩ (.int .u32 v25)) X (insC opc 0 v25 0 0 (.slice A5 v14.length c5) (.slice none 0 0) (.slice none 0 0) false) 153 from by have := HX25.out.set 2 (.int .u32 v25); simpa [insC] using this)
    have HZ26 := Lib.hid (show Blk (W25.setCell ⟨X, 2, none⟩ (.int .u32 v25)) W.heap.size zeroC 153 from HZ25.out.set_other ⟨X, 2, none⟩ (.int .u32 v25) (by simp; omega))
    have HR26 := Lib.hid (show Rp (W25.setCell ⟨X, 2, none⟩ (.int .u32 v25)) R p sat deep from HR25.out.other X (by omega) 2 (.int .u32 v25))
    have HG26 := Lib.hid (show Goes W (W25.setCell ⟨X, 2, none⟩ (.int .u32 v25)) p q B a25 e25 from HG25.out.setNew HW.out X (by omega) 2 (.int .u32 v25))
    have HF26 := Lib.hid (FC.set HF25.out X 2 (.int .u32 v25) (by simp; omega))
    clear HX25 HZ25 HR25 HG25 HF25
    clear s0 s1 s2 sf slt x0 x1 x2 x3 x4 x5 x6 x7 x8 xf0 xf1 xf2 xf3 xf4 xf5 xf6 xf7 xf8 xlt z0 z1 z2 z3 z4 z5 z6 z7 z8 zf0 zf1 zf2 zf3 zf4 zf5 zf6 zf7 zf8 zlt
    change bodyPost _ _ _ Exit.ret _ (put9 (W25.setCell ⟨X, 2, none⟩ (.int .u32 v25)) W.heap.size (.int .i64 opc) (.int .u8 0) (.int .u32 v25) (.int .u32 0) (.int .u64 0) (.slice A5 v14.length c5) (.slice none 0 0) (.slice none 0 0) (.bool false))
    have hgF : Goes W (put9 (W25.setCell ⟨X, 2, none⟩ (.int .u32 v25)) W.heap.size (.int .i64 opc) (.int .u8 0) (.int .u32 v25) (.int .u32 0) (.int .u64 0) (.slice A5 v14.length c5) (.slice none 0 0) (.slice none 0 0) (.bool false)) p q B a25 e25 := put9_goes HW.out HG26.out _ (Nat.le_refl _) _ _ _ _ _ _ _ _ _
    have hbF := put9_blk HZ26.out (.int .i64 opc) (.int .u8 0) (.int .u32 v25) (.int .u32 0) (.int .u64 0) (.slice A5 v14.length c5) (.slice none 0 0) (.slice none 0 0) (.bool false)
    have hFF := put9_FC HF26.out W.heap.size (by simp; omega) (.int .i64 opc) (.int .u8 0) (.int .u32 v25) (.int .u32 0) (.int .u64 0) (.slice A5 v14.length c5) (.slice none 0 0) (.slice none 0 0) (.bool false)
    generalize put9 (W25.setCell ⟨X, 2, none⟩ (.int .u32 v25)) W.heap.size (.int .i64 opc) (.int .u8 0) (.int .u32 v25) (.int .u32 0) (.int .u64 0) (.slice A5 v14.length c5) (.slice none 0 0) (.slice none 0 0) (.bool false) = V9 at *
    obtain ⟨y0, y1, y2, y3, y4, y5, y6, y7, y8⟩ := insC_cells hbF
    rw [HV.out]
    have HGF := Lib.hid hgF
    have HFF := Lib.hid hFF
    refine bodyPost_ret (v := .agg (insC opc 0 v25 0 0 (.slice A5 v14.length c5) (.slice none 0 0) (.slice none 0 0) false)) (by simp [results, Tryz.results141, go_sem, y0, y1, y2, y3, y4, y5, y6, y7, y8, insC]) rfl ⟨.mk opc 0 v25 0 0 v14 [] [] false, A5, none, none, c5, 0, 0, rfl, ?_, fun _ => rfl, HGF.out⟩
    refine ins_mkF (x := .mk opc 0 v25 0 0 v14 [] [] false) (nest_wf hopc.1 hopc.2) rfl (show (Lit.int .u32 v25).wf = true from by simp [Lit.wf, IntKind.min, IntKind.max, IntKind.signed, IntKind.bits]; omega) rfl rfl (HFF.out.mono ?_) FC.nil FC.nil hl5 (Nat.le_refl _) (Nat.le_refl _)
    intro k hk; exact Nat.le_trans (Nat.le_of_lt hZF) hk
  by_cases c5 : i = 5
  · obtain rfl : i = 5 := c5
    have HV := Lib.hid (show bodyM bk B opc 5 a1 = (.mk opc 0 (rdOf (u32M B a1) a1 0).1 0 0 [] [] [] false, (zeroM B (rdOf (u32M B a1) a1 0).2.1 (rdOf (u32M B a1) a1 0).2.2).1, (zeroM B (rdOf (u32M B a1) a1 0).2.1 (rdOf (u32M B a1) a1 0).2.2).2) from rfl)
    obtain ⟨s0, s1, s2, sf, slt⟩ := HR4.out.cells
    obtain ⟨x0, x1, x2, x3, x4, x5, x6, x7, x8⟩ := insC_cells HX4.out
    obtain ⟨xf0, xf1, xf2, xf3, xf4, xf5, xf6, xf7, xf8, xlt⟩ := insC_frozen HX4.out
    obtain ⟨z0, z1, z2, z3, z4, z5, z6, z7, z8⟩ := insC_cells HZ4.out
    obtain ⟨zf0, zf1, zf2, zf3, zf4, zf5, zf6, zf7, zf8, zlt⟩ := insC_frozen HZ4.out
    go_wp2_with fail
    have hvb := u32_bound B a1 0 HB.out
    have H := Lib.hid (U32_any W4 p q B a1 0 HG4.out.1 HB.out)
    generalize rdOf (u32M B a1) a1 0 = t at *
    obtain ⟨v14, a14, e14⟩ := t
    simp only at HV
    obtain ⟨hv14, hw14⟩ := hvb
    refine H.out.mono ?_
    rintro E W14 ⟨rfl, hG⟩
    have hG0 : Goes W4 W14 p q B a14 e14 := hG
    have HR14 := Lib.hid (HR4.out.goes hRp hG0)
    have HX14 := Lib.hid (HX4.out.grown hG0.2 (by simp; omega))
    have HZ14 := Lib.hid (HZ4.out.grown hG0.2 (by simp; omega))
    have HG14 := Lib.hid (HG4.out.trans hG0)
    clear hG hG0 H HR4 HX4 HZ4 HG4
    clear s0 s1 s2 sf slt x0 x1 x2 x3 x4 x5 x6 x7 x8 xf0 xf1 xf2 xf3 xf4 xf5 xf6 xf7 xf8 xlt z0 z1 z2 z3 z4 z5 z6 z7 z8 zf0 zf1 zf2 zf3 zf4 zf5 zf6 zf7 zf8 zlt
    obtain ⟨s0, s1, s2, sf, slt⟩ := HR14.out.cells
    obtain ⟨x0, x1, x2, x3, x4, x5, x6, x7, x8⟩ := insC_cells HX14.out
    obtain ⟨xf0, xf1, xf2, xf3, xf4, xf5, xf6, xf7, xf8, xlt⟩ := insC_frozen HX14.out
    obtain ⟨z0, z1, z2, z3, z4, z5, z6, z7, z8⟩ := insC_cells HZ14.out
    obtain ⟨zf0, zf1, zf2, zf3, zf4, zf5, zf6, zf7, zf8, zlt⟩ := insC_frozen HZ14.out
    go_wp2_with fail
    have HX15 := Lib.hid (show Blk (W14.setCell ⟨X, 2, none⟩ (.int .u32 v14)) X (insC opc 0 v14 0 0 (.slice none 0 0) (.slice none 0 0) (.slice none 0 0) false) 153 from by have := HX14.out.set 2 (.int .u32 v14); simpa [insC] using this)
    have HZ15 := Lib.hid (show Blk (W14.setCell ⟨X, 2, none⟩ (.int .u32 v14)) W.heap.size zeroC 153 from HZ14.out.set_other ⟨X, 2, none⟩ (.int .u32 v14) (by simp; omega))
    have HR15 := Lib.hid (show Rp (W14.setCell ⟨X, 2, none⟩ (.int .u32 v14)) R p sat deep from HR14.out.other X (by omega) 2 (.int .u32 v14))
    have HG15 := Lib.hid (show Goes W (W14.setCell ⟨X, 2, none⟩ (.int .u32 v14)) p q B a14 e14 from HG14.out.setNew HW.out X (by omega) 2 (.int .u32 v14))
    generalize W14.setCell ⟨X, 2, none⟩ (.int .u32 v14) = W15 at *
    clear HX14 HZ14 HR14 HG14
    clear s0 s1 s2 sf slt x0 x1 x2 x3 x4 x5 x6 x7 x8 xf0 xf1 xf2 xf3 xf4 xf5 xf6 xf7 xf8 xlt z0 z1 z2 z3 z4 z5 z6 z7 z8 zf0 zf1 zf2 zf3 zf4 zf5 zf6 zf7 zf8 zlt
    obtain ⟨s0, s1, s2, sf, slt⟩ := HR15.out.cells
    obtain ⟨x0, x1, x2, x3, x4, x5, x6, x7, x8⟩ := insC_cells HX15.out
    obtain ⟨xf0, xf1, xf2, xf3, xf4, xf5, xf6, xf7, xf8, xlt⟩ := insC_frozen HX15.out
    obtain ⟨z0, z1, z2, z3, z4, z5, z6, z7, z8⟩ := insC_cells HZ15.out
    obtain ⟨zf0, zf1, zf2, zf3, zf4, zf5, zf6, zf7, zf8, zlt⟩ := insC_frozen HZ15.out
    have H := Lib.hid (zero_any W15 R p q sat deep B a14 e14 HR15.out hRp HG15.out.1 HB.out)
    generalize zeroM B a14 e14 = t at *
    obtain ⟨a25, e25⟩ := t
    simp only at HV
    refine H.out.mono ?_
    rintro E W25 ⟨rfl, hG⟩
    have hG0 : Goes W15 W25 p q B a25 e25 := hG
    have HR25 := Lib.hid (HR15.out.goes hRp hG0)
    have HX25 := Lib.hid (HX15.out.grown hG0.2 (by simp; omega))
    have HZ25 := Lib.hid (HZ15.out.grown hG0.2 (by simp; omega))
    have HG25 := Lib.hid (HG15.out.trans hG0)
    clear hG hG0 H HR15 HX15 HZ15 HG15
    clear s0 s1 s2 sf slt x0 x1 x2 x3 x4 x5 x6 x7 x8 xf0 xf1 xf2 xf3 xf4 xf5 xf6 xf7 xf8 xlt z0 z1 z2 z3 z4 z5 z6 z7 z8 zf0 zf1 zf2 zf3 zf4 zf5 zf6 zf7 zf8 zlt
    obtain ⟨s0, s1, s2, sf, slt⟩ := HR25.out.cells
    obtain ⟨x0, x1, x2, x3, x4, x5, x6, x7, x8⟩ := insC_cells HX25.out
    obtain ⟨xf0, xf1, xf2, xf3, xf4, xf5, xf6, xf7, xf8, xlt⟩ := insC_frozen HX25.out
    obtain ⟨z0, z1, z2, z3, z4, z5, z6, z7, z8⟩ := insC_cells HZ25.out
    obtain ⟨zf0, zf1, zf2, zf3, zf4, zf5, zf6, zf7, zf8, zlt⟩ := insC_frozen HZ25.out
    go_wp2_with fail
    clear s0 s1 s2 sf slt x0 x1 x2 x3 x4 x5 x6 x7 x8 xf0 xf1 xf2 xf3 xf4 xf5 xf6 xf7 xf8 xlt z0 z1 z2 z3 z4 z5 z6 z7 z8 zf0 zf1 zf2 zf3 zf4 zf5 zf6 zf7 zf8 zlt
    change bodyPost _ _ _ Exit.ret _ (put9 W25 W.heap.size (.int .i64 opc) (.int .u8 0) (.int .u32 v14) (.int .u32 0) (.int .u64 0) (.slice none 0 0) (.slice none 0 0) (.slice none 0 0) (.bool false))
    have hgF : Goes W (put9 W25 W.heap.size (.int .i64 opc) (.int .u8 0) (.int .u32 v14) (.int .u32 0) (.int .u64 0) (.slice none 0 0) (.slice none 0 0) (.slice none 0 0) (.bool false)) p q B a25 e25 := put9_goes HW.out HG25.out _ (Nat.le_refl _) _ _ _ _ _ _ _ _ _
    have hbF := put9_blk HZ25.out (.int .i64 opc) (.int .u8 0) (.int .u32 v14) (.int .u32 0) (.int .u64 0) (.slice none 0 0) (.slice none 0 0) (.slice none 0 0) (.bool false)
    generalize put9 W25 W.heap.size (.int .i64 opc) (.int .u8 0) (.int .u32 v14) (.int .u32 0) (.int .u64 0) (.slice none 0 0) (.slice none 0 0) (.slice none 0 0) (.bool false) = V9 at *
    obtain ⟨y0, y1, y2, y3, y4, y5, y6, y7, y8⟩ := insC_cells hbF
    rw [HV.out]
    have HGF := Lib.hid hgF
    refine bodyPost_ret (v := .agg (insC opc 0 v14 0 0 (.slice none 0 0) (.slice none 0 0) (.slice none 0 0) false)) (by simp [results, Tryz.results141, go_sem, y0, y1, y2, y3, y4, y5, y6, y7, y8, insC]) rfl ⟨.mk opc 0 v14 0 0 [] [] [] false, none, none, none, 0, 0, 0, rfl, ?_, fun _ => rfl, HGF.out⟩
    exact fk_flat hopc (by omega) (by omega) (by omega) (by omega)
  by_cases c6 : i = 6
  · obtain rfl : i = 6 := c6
    have HV := Lib.hid (show bodyM bk B opc 6 a1 = (.mk opc 0 (rdOf (u32M B a1) a1 0).1 (rdOf (u32M B (rdOf (u32M B a1) a1 0).2.1) (rdOf (u32M B a1) a1 0).2.1 (rdOf (u32M B a1) a1 0).2.2).1 0 [] [] [] false, (rdOf (u32M B (rdOf (u32M B a1) a1 0).2.1) (rdOf (u32M B a1) a1 0).2.1 (rdOf (u32M B a1) a1 0).2.2).2.1, (rdOf (u32M B (rdOf (u32M B a1) a1 0).2.1) (rdOf (u32M B a1) a1 0).2.1 (rdOf (u32M B a1) a1 0).2.2).2.2) from rfl)
    obtain ⟨s0, s1, s2, sf, slt⟩ := HR4.out.cells
    obtain ⟨x0, x1, x2, x3, x4, x5, x6, x7, x8⟩ := insC_cells HX4.out
    obtain ⟨xf0, xf1, xf2, xf3, xf4, xf5, xf6, xf7, xf8, xlt⟩ := insC_frozen HX4.out
    obtain ⟨z0, z1, z2, z3, z4, z5, z6, z7, z8⟩ := insC_cells HZ4.out
    obtain ⟨zf0, zf1, zf2, zf3, zf4, zf5, zf6, zf7, zf8, zlt⟩ := insC_frozen HZ4.out
    go_wp2_with fail
    have hvb := u32_bound B a1 0 HB.out
    have H := Lib.hid (U32_any W4 p q B a1 0 HG4.out.1 HB.out)
    generalize rdOf (u32M B a1) a1 0 = t at *
    obtain ⟨v14, a14, e14⟩ := t
    simp only at HV
    obtain ⟨hv14, hw14⟩ := hvb
    refine H.out.mono ?_
    rintro E W14 ⟨rfl, hG⟩
    have hG0 : Goes W4 W14 p q B a14 e14 := hG
    have HR14 := Lib.hid (HR4.out.goes hRp hG0)
    have HX14 := Lib.hid (HX4.out.grown hG0.2 (by simp; omega))
    have HZ14 := Lib.hid (HZ4.out.grown hG0.2 (by simp; omega))
    have HG14 := Lib.hid (HG4.out.trans hG0)
    clear hG hG0 H HR4 HX4 HZ4 HG4
    clear s0 s1 s2 sf slt x0 x1 x2 x3 x4 x5 x6 x7 x8 xf0 xf1 xf2 xf3 xf4 xf5 xf6 xf7 xf8 xlt z0 z1 z2 z3 z4 z5 z6 z7 z8 zf0 zf1 zf2 zf3 zf4 zf5 zf6 zf7 zf8 zlt
    obtain ⟨s0, s1, s2, sf, slt⟩ := HR14.out.cells
    obtain ⟨x0, x1, x2, x3, x4, x5, x6, x7, x8⟩ := insC_cells HX14.out
    obtain ⟨xf0, xf1, xf2, xf3, xf4, xf5, xf6, xf7, xf8, xlt⟩ := insC_frozen HX14.out
    obtain ⟨z0, z1, z2, z3, z4, z5, z6, z7, z8⟩ := insC_cells HZ14.out
    obtain ⟨zf0, zf1, zf2, zf3, zf4, zf5, zf6, zf7, zf8, zlt⟩ := insC_frozen HZ14.out
    go_wp2_with fail
    have HX15 := Lib.hid (show Blk (W14.setCell ⟨X, 2, none⟩ (.int .u32 v14)) X (insC opc 0 v14 0 0 (.slice none 0 0) (.slice none 0 0) (.slice none 0 0) false) 153 from by have := HX14.out.set 2 (.int .u32 v14); simpa [insC] using this)
    have HZ15 := Lib.hid (show Blk (W14.setCell ⟨X, 2, none⟩ (.int .u32 v14)) W.heap.size zeroC 153 from HZ14.out.set_other ⟨X, 2, none⟩ (.int .u32 v14) (by simp; omega))
    have HR15 := Lib.hid (show Rp (W14.setCell ⟨X, 2, none⟩ (.int .u32 v14)) R p sat deep from HR14.out.other X (by omega) 2 (.int .u32 v14))
    have HG15 := Lib.hid (show Goes W (W14.setCell ⟨X, 2, none⟩ (.int .u32 v14)) p q B a14 e14 from HG14.out.setNew HW.out X (by omega) 2 (.int .u32 v14))
    generalize W14.setCell ⟨X, 2, none⟩ (.int .u32 v14) = W15 at *
    clear HX14 HZ14 HR14 HG14
    clear s0 s1 s2 sf slt x0 x1 x2 x3 x4 x5 x6 x7 x8 xf0 xf1 xf2 xf3 xf4 xf5 xf6 xf7 xf8 xlt z0 z1 z2 z3 z4 z5 z6 z7 z8 zf0 zf1 zf2 zf3 zf4 zf5 zf6 zf7 zf8 zlt
    obtain ⟨s0, s1, s2, sf, slt⟩ := HR15.out.cells
    obtain ⟨x0, x1, x2, x3, x4, x5, x6, x7, x8⟩ := insC_cells HX15.out
    obtain ⟨xf0, xf1, xf2, xf3, xf4, xf5, xf6, xf7, xf8, xlt⟩ := insC_frozen HX15.out
    obtain ⟨z0, z1, z2, z3, z4, z5, z6, z7, z8⟩ := insC_cells HZ15.out
    obtain ⟨zf0, zf1, zf2, zf3, zf4, zf5, zf6, zf7, zf8, zlt⟩ := insC_frozen HZ15.out
    have hvb := u32_bound B a14 e14 HB.out
    have H := Lib.hid (U32_any W15 p q B a14 e14 HG15.out.1 HB.out)
    generalize rdOf (u32M B a14) a14 e14 = t at *
    obtain ⟨v25, a25, e25⟩ := t
    simp only at HV
    obtain ⟨hv25, hw25⟩ := hvb
    refine H.out.mono ?_
    rintro E W25 ⟨rfl, hG⟩
    have hG0 : Goes W15 W25 p q B a25 e25 := hG
    have HR25 := Lib.hid (HR15.out.goes hRp hG0)
    have HX25 := Lib.hid (HX15.out.grown hG0.2 (by simp; omega))
    have HZ25 := Lib.hid (HZ15.out.grown hG0.2 (by simp; omega))
    have HG25 := Lib.hid (HG15.out.trans hG0)
    clear hG hG0 H HR15 HX15 HZ15 HG15
    clear s0 s1 s2 sf slt x0 x1 x2 x3 x4 x5 x6 x7 x8 xf0 xf1 xf2 xf3 xf4 xf5 xf6 xf7 xf8 xlt z0 z1 z2 z3 z4 z5 z6 z7 z8 zf0 zf1 zf2 zf3 zf4 zf5 zf6 zf7 zf8 zlt
    obtain ⟨s0, s1, s2, sf, slt⟩ := HR25.out.cells
    obtain ⟨x0, x1, x2, x3, x4, x5, x6, x7, x8⟩ := insC_cells HX25.out
    obtain ⟨xf0, xf1, xf2, xf3, xf4, xf5, xf6, xf7, xf8, xlt⟩ := insC_frozen HX25.out
    obtain ⟨z0, z1, z2, z3, z4, z5, z6, z7, z8⟩ := insC_cells HZ25.out
    obtain ⟨zf0, zf1, zf2, zf3, zf4, zf5, zf6, zf7, zf8, zlt⟩ := insC_frozen HZ25.out
    go_wp2_with fail
    have HX26 := Lib.hid (show Blk (W25.setCell ⟨X, 3, none⟩ (.int .u32 v25)) X (insC opc 0 v14 v25 0 (.slice none 0 0) (.slice none 0 0) (.slice none 0 0) false) 153 from by have := HX25.out.set 3 (.int .u32 v25); simpa [insC] using this)
    have HZ26 := Lib.hid (show Blk (W25.setCell ⟨X, 3, none⟩ (.int .u32 v25)) W.heap.size zeroC 153 from HZ25.out.set_other ⟨X, 3, none⟩ (.int .u32 v25) (by simp; omega))
    have HR26 := Lib.hid (show Rp (W25.setCell ⟨X, 3, none⟩ (.int .u32 v25)) R p sat deep from HR25.out.other X (by omega) 3 (.int .u32 v25))
    have HG26 := Lib.hid (show Goes W (W25.setCell ⟨X, 3, none⟩ (.int .u32 v25)) p q B a25 e25 from HG25.out.setNew HW.out X (by omega) 3 (.int .u32 v25))
    clear HX25 HZ25 HR25 HG25
    clear s0 s1 s2 sf slt x0 x1 x2 x3 x4 x5 x6 x7 x8 xf0 xf1 xf2 xf3 xf4 xf5 xf6 xf7 xf8 xlt z0 z1 z2 z3 z4 z5 z6 z7 z8 zf0 zf1 zf2 zf3 zf4 zf5 zf6 zf7 zf8 zlt
    change bodyPost _ _ _ Exit.ret _ (put9 (W25.setCell ⟨X, 3, none⟩ (.int .u32 v25)) W.heap.size (.int .i64 opc) (.int .u8 0) (.int .u32 v14) (.int .u32 v25) (.int .u64 0) (.slice none 0 0) (.slice none 0 0) (.slice none 0 0) (.bool false))
    have hgF : Goes W (put9 (W25.setCell ⟨X, 3, none⟩ (.int .u32 v25)) W.heap.size (.int .i64 opc) (.int .u8 0) (.int .u32 v14) (.int .u32 v25) (.int .u64 0) (.slice none 0 0) (.slice none 0 0) (.slice none 0 0) (.bool false)) p q B a25 e25 := put9_goes HW.out HG26.out _ (Nat.le_refl _) _ _ _ _ _ _ _ _ _
    have hbF := put9_blk HZ26.out (.int .i64 opc) (.int .u8 0) (.int .u32 v14) (.int .u32 v25) (.int .u64 0) (.slice none 0 0) (.slice none 0 0) (.slice none 0 0) (.bool false)
    generalize put9 (W25.setCell ⟨X, 3, none⟩ (.int .u32 v25)) W.heap.size (.int .i64 opc) (.int .u8 0) (.int .u32 v14) (.int .u32 v25) (.int .u64 0) (.slice none 0 0) (.slice none 0 0) (.slice none 0 0) (.bool false) = V9 at *
    obtain ⟨y0, y1, y2, y3, y4, y5, y6, y7, y8⟩ := insC_cells hbF
    rw [HV.out]
    have HGF := Lib.hid hgF
    refine bodyPost_ret (v := .agg (insC opc 0 v14 v25 0 (.slice none 0 0) (.slice none 0 0) (.slice none 0 0) false)) (by simp [results, Tryz.results141, go_sem, y0, y1, y2, y3, y4, y5, y6, y7, y8, insC]) rfl ⟨.mk opc 0 v14 v25 0 [] [] [] false, none, none, none, 0, 0, 0, rfl, ?_, fun _ => rfl, HGF.out⟩
    exact fk_flat hopc (by omega) (by omega) (by omega) (by omega)
  by_cases c7 : i = 7
  · obtain rfl : i = 7 := c7
    have HV := Lib.hid (show bodyM bk B opc 7 a1 = (.mk opc 0 0 0 0 [] [] [] false, (zeroM B a1 0).1, (zeroM B a1 0).2) from rfl)
    obtain ⟨s0, s1, s2, sf, slt⟩ := HR4.out.cells
    obtain ⟨x0, x1, x2, x3, x4, x5, x6, x7, x8⟩ := insC_cells HX4.out
    obtain ⟨xf0, xf1, xf2, xf3, xf4, xf5, xf6, xf7, xf8, xlt⟩ := insC_frozen HX4.out
    obtain ⟨z0, z1, z2, z3, z4, z5, z6, z7, z8⟩ := insC_cells HZ4.out
    obtain ⟨zf0, zf1, zf2, zf3, zf4, zf5, zf6, zf7, zf8, zlt⟩ := insC_frozen HZ4.out
    go_wp2_with fail
    have H := Lib.hid (zero_any W4 R p q sat deep B a1 0 HR4.out hRp HG4.out.1 HB.out)
    generalize zeroM B a1 0 = t at *
    obtain ⟨a14, e14⟩ := t
    simp only at HV
    refine H.out.mono ?_
    rintro E W14 ⟨rfl, hG⟩
    have hG0 : Goes W4 W14 p q B a14 e14 := hG
    have HR14 := Lib.hid (HR4.out.goes hRp hG0)
    have HX14 := Lib.hid (HX4.out.grown hG0.2 (by simp; omega))
    have HZ14 := Lib.hid (HZ4.out.grown hG0.2 (by simp; omega))
    have HG14 := Lib.hid (HG4.out.trans hG0)
    clear hG hG0 H HR4 HX4 HZ4 HG4
    clear s0 s1 s2 sf slt x0 x1 x2 x3 x4 x5 x6 x7 x8 xf0 xf1 xf2 xf3 xf4 xf5 xf6 xf7 xf8 xlt z0 z1 z2 z3 z4 z5 z6 z7 z8 zf0 zf1 zf2 zf3 zf4 zf5 zf6 zf7 zf8 zlt
    obtain ⟨s0, s1, s2, sf, slt⟩ := HR14.out.cells
    obtain ⟨x0, x1, x2, x3, x4, x5, x6, x7, x8⟩ := insC_cells HX14.out
    obtain ⟨xf0, xf1, xf2, xf3, xf4, xf5, xf6, xf7, xf8, xlt⟩ := insC_frozen HX14.out
    obtain ⟨z0, z1, z2, z3, z4, z5, z6, z7, z8⟩ := insC_cells HZ14.out
    obtain ⟨zf0, zf1, zf2, zf3, zf4, zf5, zf6, zf7, zf8, zlt⟩ := insC_frozen HZ14.out
    go_wp2_with fail
    clear s0 s1 s2 sf slt x0 x1 x2 x3 x4 x5 x6 x7 x8 xf0 xf1 xf2 xf3 xf4 xf5 xf6 xf7 xf8 xlt z0 z1 z2 z3 z4 z5 z6 z7 z8 zf0 zf1 zf2 zf3 zf4 zf5 zf6 zf7 zf8 zlt
    change bodyPost _ _ _ Exit.ret _ (put9 W14 W.heap.size (.int .i64 opc) (.int .u8 0) (.int .u32 0) (.int .u32 0) (.int .u64 0) (.slice none 0 0) (.slice none 0 0) (.slice none 0 0) (.bool false))
    have hgF : Goes W (put9 W14 W.heap.size (.int .i64 opc) (.int .u8 0) (.int .u32 0) (.int .u32 0) (.int .u64 0) (.slice none 0 0) (.slice none 0 0) (.slice none 0 0) (.bool false)) p q B a14 e14 := put9_goes HW.out HG14.out _ (Nat.le_refl _) _ _ _ _ _ _ _ _ _
    have hbF := put9_blk HZ14.out (.int .i64 opc) (.int .u8 0) (.int .u32 0) (.int .u32 0) (.int .u64 0) (.slice none 0 0) (.slice none 0 0) (.slice none 0 0) (.bool false)
    generalize put9 W14 W.heap.size (.int .i64 opc) (.int .u8 0) (.int .u32 0) (.int .u32 0) (.int .u64 0) (.slice none 0 0) (.slice none 0 0) (.slice none 0 0) (.bool false) = V9 at *
    obtain ⟨y0, y1, y2, y3, y4, y5, y6, y7, y8⟩ := insC_cells hbF
    rw [HV.out]
    have HGF := Lib.hid hgF
    refine bodyPost_ret (v := .agg (insC opc 0 0 0 0 (.slice none 0 0) (.slice none 0 0) (.slice none 0 0) false)) (by simp [results, Tryz.results141, go_sem, y0, y1, y2, y3, y4, y5, y6, y7, y8, insC]) rfl ⟨.mk opc 0 0 0 0 [] [] [] false, none, none, none, 0, 0, 0, rfl, ?_, fun _ => rfl, HGF.out⟩
    exact fk_flat hopc (by omega) (by omega) (by omega) (by omega)
  by_cases c8 : i = 8
  · obtain rfl : i = 8 := c8
    have HV := Lib.hid (show bodyM bk B opc 8 a1 = (.mk opc 0 0 0 (rdOf (s32M B a1) a1 0).1 [] [] [] false, (rdOf (s32M B a1) a1 0).2.1, (rdOf (s32M B a1) a1 0).2.2) from rfl)
    obtain ⟨s0, s1, s2, sf, slt⟩ := HR4.out.cells
    obtain ⟨x0, x1, x2, x3, x4, x5, x6, x7, x8⟩ := insC_cells HX4.out
    obtain ⟨xf0, xf1, xf2, xf3, xf4, xf5, xf6, xf7, xf8, xlt⟩ := insC_frozen HX4.out
    obtain ⟨z0, z1, z2, z3, z4, z5, z6, z7, z8⟩ := insC_cells HZ4.out
    obtain ⟨zf0, zf1, zf2, zf3, zf4, zf5, zf6, zf7, zf8, zlt⟩ := insC_frozen HZ4.out
    go_wp2_with fail
    have hvb := s32_bound B a1 0
    have H := Lib.hid (S32_any W4 p q B a1 0 HG4.out.1 HB.out)
    generalize rdOf (s32M B a1) a1 0 = t at *
    obtain ⟨v14, a14, e14⟩ := t
    simp only at HV
    obtain ⟨hv14, hw14⟩ := hvb
    refine H.out.mono ?_
    rintro E W14 ⟨rfl, hG⟩
    have hG0 : Goes W4 W14 p q B a14 e14 := hG
    have HR14 := Lib.hid (HR4.out.goes hRp hG0)
    have HX14 := Lib.hid (HX4.out.grown hG0.2 (by simp; omega))
    have HZ14 := Lib.hid (HZ4.out.grown hG0.2 (by simp; omega))
    have HG14 := Lib.hid (HG4.out.trans hG0)
    clear hG hG0 H HR4 HX4 HZ4 HG4
    clear s0 s1 s2 sf slt x0 x1 x2 x3 x4 x5 x6 x7 x8 xf0 xf1 xf2 xf3 xf4 xf5 xf6 xf7 xf8 xlt z0 z1 z2 z3 z4 z5 z6 z7 z8 zf0 zf1 zf2 zf3 zf4 zf5 zf6 zf7 zf8 zlt
    obtain ⟨s0, s1, s2, sf, slt⟩ := HR14.out.cells
    obtain ⟨x0, x1, x2, x3, x4, x5, x6, x7, x8⟩ := insC_cells HX14.out
    obtain ⟨xf0, xf1, xf2, xf3, xf4, xf5, xf6, xf7, xf8, xlt⟩ := insC_frozen HX14.out
    obtain ⟨z0, z1, z2, z3, z4, z5, z6, z7, z8⟩ := insC_cells HZ14.out
    obtain ⟨zf0, zf1, zf2, zf3, zf4, zf5, zf6, zf7, zf8, zlt⟩ := insC_frozen HZ14.out
    go_wp2_with fail
    have HX15 := Lib.hid (show Blk (W14.setCell ⟨X, 4, none⟩ (.int .u64 v14)) X (insC opc 0 0 0 v14 (.slice none 0 0) (.slice none 0 0) (.slice none 0 0) false) 153 from by have := HX14.out.set 4 (.int .u64 v14); simpa [insC] using this)
    have HZ15 := Lib.hid (show Blk (W14.setCell ⟨X, 4, none⟩ (.int .u64 v14)) W.heap.size zeroC 153 from HZ14.out.set_other ⟨X, 4, none⟩ (.int .u64 v14) (by simp; omega))
    have HR15 := Lib.hid (show Rp (W14.setCell ⟨X, 4, none⟩ (.int .u64 v14)) R p sat deep from HR14.out.other X (by omega) 4 (.int .u64 v14))
    have HG15 := Lib.hid (show Goes W (W14.setCell ⟨X, 4, none⟩ (.int .u64 v14)) p q B a14 e14 from HG14.out.setNew HW.out X (by omega) 4 (.int .u64 v14))
    clear HX14 HZ14 HR14 HG14
    clear s0 s1 s2 sf slt x0 x1 x2 x3 x4 x5 x6 x7 x8 xf0 xf1 xf2 xf3 xf4 xf5 xf6 xf7 xf8 xlt z0 z1 z2 z3 z4 z5 z6 z7 z8 zf0 zf1 zf2 zf3 zf4 zf5 zf6 zf7 zf8 zlt
    change bodyPost _ _ _ Exit.ret _ (put9 (W14.setCell ⟨X, 4, none⟩ (.int .u64 v14)) W.heap.size (.int .i64 opc) (.int .u8 0) (.int .u32 0) (.int .u32 0) (.int .u64 v14) (.slice none 0 0) (.slice none 0 0) (.slice none 0 0) (.bool false))
    have hgF : Goes W (put9 (W14.setCell ⟨X, 4, none⟩ (.int .u64 v14)) W.heap.size (.int .i64 opc) (.int .u8 0) (.int .u32 0) (.int .u32 0) (.int .u64 v14) (.slice none 0 0) (.slice none 0 0) (.slice none 0 0) (.bool false)) p q B a14 e14 := put9_goes HW.out HG15.out _ (Nat.le_refl _) _ _ _ _ _ _ _ _ _
    have hbF := put9_blk HZ15.out (.int .i64 opc) (.int .u8 0) (.int .u32 0) (.int .u32 0) (.int .u64 v14) (.slice none 0 0) (.slice none 0 0) (.slice none 0 0) (.bool false)
    generalize put9 (W14.setCell ⟨X, 4, none⟩ (.int .u64 v14)) W.heap.size (.int .i64 opc) (.int .u8 0) (.int .u32 0) (.int .u32 0) (.int .u64 v14) (.slice none 0 0) (.slice none 0 0) (.slice none 0 0) (.bool false) = V9 at *
    obtain ⟨y0, y1, y2, y3, y4, y5, y6, y7, y8⟩ := insC_cells hbF
    rw [HV.out]
    have HGF := Lib.hid hgF
    refine bodyPost_ret (v := .agg (insC opc 0 0 0 v14 (.slice none 0 0) (.slice none 0 0) (.slice none 0 0) false)) (by simp [results, Tryz.results141, go_sem, y0, y1, y2, y3, y4, y5, y6, y7, y8, insC]) rfl ⟨.mk opc 0 0 0 v14 [] [] [] false, none, none, none, 0, 0, 0, rfl, ?_, fun _ => rfl, HGF.out⟩
    exact fk_flat hopc (by omega) (by omega) (by omega) (by omega)
  by_cases c9 : i = 9
  · obtain rfl : i = 9 := c9
    have HV := Lib.hid (show bodyM bk B opc 9 a1 = (.mk opc 0 0 0 (rdOf (s64M B a1) a1 0).1 [] [] [] false, (rdOf (s64M B a1) a1 0).2.1, (rdOf (s64M B a1) a1 0).2.2) from rfl)
    obtain ⟨s0, s1, s2, sf, slt⟩ := HR4.out.cells
    obtain ⟨x0, x1, x2, x3, x4, x5, x6, x7, x8⟩ := insC_cells HX4.out
    obtain ⟨xf0, xf1, xf2, xf3, xf4, xf5, xf6, xf7, xf8, xlt⟩ := insC_frozen HX4.out
    obtain ⟨z0, z1, z2, z3, z4, z5, z6, z7, z8⟩ := insC_cells HZ4.out
    obtain ⟨zf0, zf1, zf2, zf3, zf4, zf5, zf6, zf7, zf8, zlt⟩ := insC_frozen HZ4.out
    go_wp2_with fail
    have hvb := s64_bound B a1 0 HB.out
    have H := Lib.hid (S64_any W4 p q B a1 0 HG4.out.1 HB.out)
    generalize rdOf (s64M B a1) a1 0 = t at *
    obtain ⟨v14, a14, e14⟩ := t
    simp only at HV
    obtain ⟨hv14, hw14⟩ := hvb
    refine H.out.mono ?_
    rintro E W14 ⟨rfl, hG⟩
    have hG0 : Goes W4 W14 p q B a14 e14 := hG
    have HR14 := Lib.hid (HR4.out.goes hRp hG0)
    have HX14 := Lib.hid (HX4.out.grown hG0.2 (by simp; omega))
    have HZ14 := Lib.hid (HZ4.out.grown hG0.2 (by simp; omega))
    have HG14 := Lib.hid (HG4.out.trans hG0)
    clear hG hG0 H HR4 HX4 HZ4 HG4
    clear s0 s1 s2 sf slt x0 x1 x2 x3 x4 x5 x6 x7 x8 xf0 xf1 xf2 xf3 xf4 xf5 xf6 xf7 xf8 xlt z0 z1 z2 z3 z4 z5 z6 z7 z8 zf0 zf1 zf2 zf3 zf4 zf5 zf6 zf7 zf8 zlt
    obtain ⟨s0, s1, s2, sf, slt⟩ := HR14.out.cells
    obtain ⟨x0, x1, x2, x3, x4, x5, x6, x7, x8⟩ := insC_cells HX14.out
    obtain ⟨xf0, xf1, xf2, xf3, xf4, xf5, xf6, xf7, xf8, xlt⟩ := insC_frozen HX14.out
    obtain ⟨z0, z1, z2, z3, z4, z5, z6, z7, z8⟩ := insC_cells HZ14.out
    obtain ⟨zf0, zf1, zf2, zf3, zf4, zf5, zf6, zf7, zf8, zlt⟩ := insC_frozen HZ14.out
    go_wp2_with fail
    have HX15 := Lib.hid (show Blk (W14.setCell ⟨X, 4, none⟩ (.int .u64 v14)) X (insC opc 0 0 0 v14 (.slice none 0 0) (.slice none 0 0) (.slice none 0 0) false) 153 from by have := HX14.out.set 4 (.int .u64 v14); simpa [insC] using this)
    have HZ15 := Lib.hid (show Blk (W14.setCell ⟨X, 4, none⟩ (.int .u64 v14)) W.heap.size zeroC 153 from HZ14.out.set_other ⟨X, 4, none⟩ (.int .u64 v14) (by simp; omega))
    have HR15 := Lib.hid (show Rp (W14.setCell ⟨X, 4, none⟩ (.int .u64 v14)) R p sat deep from HR14.out.other X (by omega) 4 (.int .u64 v14))
    have HG15 := Lib.hid (show Goes W (W14.setCell ⟨X, 4, none⟩ (.int .u64 v14)) p q B a14 e14 from HG14.out.setNew HW.out X (by omega) 4 (.int .u64 v14))
    clear HX14 HZ14 HR14 HG14
    clear s0 s1 s2 sf slt x0 x1 x2 x3 x4 x5 x6 x7 x8 xf0 xf1 xf2 xf3 xf4 xf5 xf6 xf7 xf8 xlt z0 z1 z2 z3 z4 z5 z6 z7 z8 zf0 zf1 zf2 zf3 zf4 zf5 zf6 zf7 zf8 zlt
    change bodyPost _ _ _ Exit.ret _ (put9 (W14.setCell ⟨X, 4, none⟩ (.int .u64 v14)) W.heap.size (.int .i64 opc) (.int .u8 0) (.int .u32 0) (.int .u32 0) (.int .u64 v14) (.slice none 0 0) (.slice none 0 0) (.slice none 0 0) (.bool false))
    have hgF : Goes W (put9 (W14.setCell ⟨X, 4, none⟩ (.int .u64 v14)) W.heap.size (.int .i64 opc) (.int .u8 0) (.int .u32 0) (.int .u32 0) (.int .u64 v14) (.slice none 0 0) (.slice none 0 0) (.slice none 0 0) (.bool false)) p q B a14 e14 := put9_goes HW.out HG15.out _ (Nat.le_refl _) _ _ _ _ _ _ _ _ _
    have hbF := put9_blk HZ15.out (.int .i64 opc) (.int .u8 0) (.int .u32 0) (.int .u32 0) (.int .u64 v14) (.slice none 0 0) (.slice none 0 0) (.slice none 0 0) (.bool false)
    generalize put9 (W14.setCell ⟨X, 4, none⟩ (.int .u64 v14)) W.heap.size (.int .i64 opc) (.int .u8 0) (.int .u32 0) (.int .u32 0) (.int .u64 v14) (.slice none 0 0) (.slice none 0 0) (.slice none 0 0) (.bool false) = V9 at *
    obtain ⟨y0, y1, y2, y3, y4, y5, y6, y7, y8⟩ := insC_cells hbF
    rw [HV.out]
    have HGF := Lib.hid hgF
    refine bodyPost_ret (v := .agg (insC opc 0 0 0 v14 (.slice none 0 0) (.slice none 0 0) (.slice none 0 0) false)) (by simp [results, Tryz.results141, go_sem, y0, y1, y2, y3, y4, y5, y6, y7, y8, insC]) rfl ⟨.mk opc 0 0 0 v14 [] [] [] false, none, none, none, 0, 0, 0, rfl, ?_, fun _ => rfl, HGF.out⟩
    exact fk_flat hopc (by omega) (by omega) (by omega) (by omega)
  by_cases c10 : i = 10
  · obtain rfl : i = 10 := c10
    have HV := Lib.hid (show bodyM bk B opc 10 a1 = (.mk opc 0 0 0 (rdOf (fixM B a1 4) a1 0).1 [] [] [] false, (rdOf (fixM B a1 4) a1 0).2.1, (rdOf (fixM B a1 4) a1 0).2.2) from rfl)
    obtain ⟨s0, s1, s2, sf, slt⟩ := HR4.out.cells
    obtain ⟨x0, x1, x2, x3, x4, x5, x6, x7, x8⟩ := insC_cells HX4.out
    obtain ⟨xf0, xf1, xf2, xf3, xf4, xf5, xf6, xf7, xf8, xlt⟩ := insC_frozen HX4.out
    obtain ⟨z0, z1, z2, z3, z4, z5, z6, z7, z8⟩ := insC_cells HZ4.out
    obtain ⟨zf0, zf1, zf2, zf3, zf4, zf5, zf6, zf7, zf8, zlt⟩ := insC_frozen HZ4.out
    go_wp2_with fail
    have hvb := fix_bound B a1 4 0 (by omega) HB.out
    have H := Lib.hid (Fixed_any W4 p q B a1 4 0 (.inl rfl) HG4.out.1 HB.out)
    generalize rdOf (fixM B a1 4) a1 0 = t at *
    obtain ⟨v14, a14, e14⟩ := t
    simp only at HV
    obtain ⟨hv14, hw14⟩ := hvb
    refine H.out.mono ?_
    rintro E W14 ⟨rfl, hG⟩
    have hG0 : Goes W4 W14 p q B a14 e14 := hG
    have HR14 := Lib.hid (HR4.out.goes hRp hG0)
    have HX14 := Lib.hid (HX4.out.grown hG0.2 (by simp; omega))
    have HZ14 := Lib.hid (HZ4.out.grown hG0.2 (by simp; omega))
    have HG14 := Lib.hid (HG4.out.trans hG0)
    clear hG hG0 H HR4 HX4 HZ4 HG4
    clear s0 s1 s2 sf slt x0 x1 x2 x3 x4 x5 x6 x7 x8 xf0 xf1 xf2 xf3 xf4 xf5 xf6 xf7 xf8 xlt z0 z1 z2 z3 z4 z5 z6 z7 z8 zf0 zf1 zf2 zf3 zf4 zf5 zf6 zf7 zf8 zlt
    obtain ⟨s0, s1, s2, sf, slt⟩ := HR14.out.cells
    obtain ⟨x0, x1, x2, x3, x4, x5, x6, x7, x8⟩ := insC_cells HX14.out
    obtain ⟨xf0, xf1, xf2, xf3, xf4, xf5, xf6, xf7, xf8, xlt⟩ := insC_frozen HX14.out
    obtain ⟨z0, z1, z2, z3, z4, z5, z6, z7, z8⟩ := insC_cells HZ14.out
    obtain ⟨zf0, zf1, zf2, zf3, zf4, zf5, zf6, zf7, zf8, zlt⟩ := insC_frozen HZ14.out
    go_wp2_with fail
    have HX15 := Lib.hid (show Blk (W14.setCell ⟨X, 4, none⟩ (.int .u64 v14)) X (insC opc 0 0 0 v14 (.slice none 0 0) (.slice none 0 0) (.slice none 0 0) false) 153 from by have := HX14.out.set 4 (.int .u64 v14); simpa [insC] using this)
    have HZ15 := Lib.hid (show Blk (W14.setCell ⟨X, 4, none⟩ (.int .u64 v14)) W.heap.size zeroC 153 from HZ14.out.set_other ⟨X, 4, none⟩ (.int .u64 v14) (by simp; omega))
    have HR15 := Lib.hid (show Rp (W14.setCell ⟨X, 4, none⟩ (.int .u64 v14)) R p sat deep from HR14.out.other X (by omega) 4 (.int .u64 v14))
    have HG15 := Lib.hid (show Goes W (W14.setCell ⟨X, 4, none⟩ (.int .u64 v14)) p q B a14 e14 from HG14.out.setNew HW.out X (by omega) 4 (.int .u64 v14))
    clear HX14 HZ14 HR14 HG14
    clear s0 s1 s2 sf slt x0 x1 x2 x3 x4 x5 x6 x7 x8 xf0 xf1 xf2 xf3 xf4 xf5 xf6 xf7 xf8 xlt z0 z1 z2 z3 z4 z5 z6 z7 z8 zf0 zf1 zf2 zf3 zf4 zf5 zf6 zf7 zf8 zlt
    change bodyPost _ _ _ Exit.ret _ (put9 (W14.setCell ⟨X, 4, none⟩ (.int .u64 v14)) W.heap.size (.int .i64 opc) (.int .u8 0) (.int .u32 0) (.int .u32 0) (.int .u64 v14) (.slice none 0 0) (.slice none 0 0) (.slice none 0 0) (.bool false))
    have hgF : Goes W (put9 (W14.setCell ⟨X, 4, none⟩ (.int .u64 v14)) W.heap.size (.int .i64 opc) (.int .u8 0) (.int .u32 0) (.int .u32 0) (.int .u64 v14) (.slice none 0 0) (.slice none 0 0) (.slice none 0 0) (.bool false)) p q B a14 e14 := put9_goes HW.out HG15.out _ (Nat.le_refl _) _ _ _ _ _ _ _ _ _
    have hbF := put9_blk HZ15.out (.int .i64 opc) (.int .u8 0) (.int .u32 0) (.int .u32 0) (.int .u64 v14) (.slice none 0 0) (.slice none 0 0) (.slice none 0 0) (.bool false)
    generalize put9 (W14.setCell ⟨X, 4, none⟩ (.int .u64 v14)) W.heap.size (.int .i64 opc) (.int .u8 0) (.int .u32 0) (.int .u32 0) (.int .u64 v14) (.slice none 0 0) (.slice none 0 0) (.slice none 0 0) (.bool false) = V9 at *
    obtain ⟨y0, y1, y2, y3, y4, y5, y6, y7, y8⟩ := insC_cells hbF
    rw [HV.out]
    have HGF := Lib.hid hgF
    refine bodyPost_ret (v := .agg (insC opc 0 0 0 v14 (.slice none 0 0) (.slice none 0 0) (.slice none 0 0) false)) (by simp [results, Tryz.results141, go_sem, y0, y1, y2, y3, y4, y5, y6, y7, y8, insC]) rfl ⟨.mk opc 0 0 0 v14 [] [] [] false, none, none, none, 0, 0, 0, rfl, ?_, fun _ => rfl, HGF.out⟩
    exact fk_flat hopc (by omega) (by omega) (by omega) (by omega)
  by_cases c11 : i = 11
  · obtain rfl : i = 11 := c11
    have HV := Lib.hid (show bodyM bk B opc 11 a1 = (.mk opc 0 0 0 (rdOf (fixM B a1 8) a1 0).1 [] [] [] false, (rdOf (fixM B a1 8) a1 0).2.1, (rdOf (fixM B a1 8) a1 0).2.2) from rfl)
    obtain ⟨s0, s1, s2, sf, slt⟩ := HR4.out.cells
    obtain ⟨x0, x1, x2, x3, x4, x5, x6, x7, x8⟩ := insC_cells HX4.out
    obtain ⟨xf0, xf1, xf2, xf3, xf4, xf5, xf6, xf7, xf8, xlt⟩ := insC_frozen HX4.out
    obtain ⟨z0, z1, z2, z3, z4, z5, z6, z7, z8⟩ := insC_cells HZ4.out
    obtain ⟨zf0, zf1, zf2, zf3, zf4, zf5, zf6, zf7, zf8, zlt⟩ := insC_frozen HZ4.out
    go_wp2_with fail
    have hvb := fix_bound B a1 8 0 (by omega) HB.out
    have H := Lib.hid (Fixed_any W4 p q B a1 8 0 (.inr rfl) HG4.out.1 HB.out)
    generalize rdOf (fixM B a1 8) a1 0 = t at *
    obtain ⟨v14, a14, e14⟩ := t
    simp only at HV
    obtain ⟨hv14, hw14⟩ := hvb
    refine H.out.mono ?_
    rintro E W14 ⟨rfl, hG⟩
    have hG0 : Goes W4 W14 p q B a14 e14 := hG
    have HR14 := Lib.hid (HR4.out.goes hRp hG0)
    have HX14 := Lib.hid (HX4.out.grown hG0.2 (by simp; omega))
    have HZ14 := Lib.hid (HZ4.out.grown hG0.2 (by simp; omega))
    have HG14 := Lib.hid (HG4.out.trans hG0)
    clear hG hG0 H HR4 HX4 HZ4 HG4
    clear s0 s1 s2 sf slt x0 x1 x2 x3 x4 x5 x6 x7 x8 xf0 xf1 xf2 xf3 xf4 xf5 xf6 xf7 xf8 xlt z0 z1 z2 z3 z4 z5 z6 z7 z8 zf0 zf1 zf2 zf3 zf4 zf5 zf6 zf7 zf8 zlt
    obtain ⟨s0, s1, s2, sf, slt⟩ := HR14.out.cells
    obtain ⟨x0, x1, x2, x3, x4, x5, x6, x7, x8⟩ := insC_cells HX14.out
    obtain ⟨xf0, xf1, xf2, xf3, xf4, xf5, xf6, xf7, xf8, xlt⟩ := insC_frozen HX14.out
    obtain ⟨z0, z1, z2, z3, z4, z5, z6, z7, z8⟩ := insC_cells HZ14.out
    obtain ⟨zf0, zf1, zf2, zf3, zf4, zf5, zf6, zf7, zf8, zlt⟩ := insC_frozen HZ14.out
    go_wp2_with fail
    have HX15 := Lib.hid (show Blk (W14.setCell ⟨X, 4, none⟩ (.int .u64 v14)) X (insC opc 0 0 0 v14 (.slice none 0 0) (.slice none 0 0) (.slice none 0 0) false) 153 from by have := HX14.out.set 4 (.int .u64 v14); simpa [insC] using this)
    have HZ15 := Lib.hid (show Blk (W14.setCell ⟨X, 4, none⟩ (.int .u64 v14)) W.heap.size zeroC 153 from HZ14.out.set_other ⟨X, 4, none⟩ (.int .u64 v14) (by simp; omega))
    have HR15 := Lib.hid (show Rp (W14.setCell ⟨X, 4, none⟩ (.int .u64 v14)) R p sat deep from HR14.out.other X (by omega) 4 (.int .u64 v14))
    have HG15 := Lib.hid (show Goes W (W14.setCell ⟨X, 4, none⟩ (.int .u64 v14)) p q B a14 e14 from HG14.out.setNew HW.out X (by omega) 4 (.int .u64 v14))
    clear HX14 HZ14 HR14 HG14
    clear s0 s1 s2 sf slt x0 x1 x2 x3 x4 x5 x6 x7 x8 xf0 xf1 xf2 xf3 xf4 xf5 xf6 xf7 xf8 xlt z0 z1 z2 z3 z4 z5 z6 z7 z8 zf0 zf1 zf2 zf3 zf4 zf5 zf6 zf7 zf8 zlt
    change bodyPost _ _ _ Exit.ret _ (put9 (W14.setCell ⟨X, 4, none⟩ (.int .u64 v14)) W.heap.size (.int .i64 opc) (.int .u8 0) (.int .u32 0) (.int .u32 0) (.int .u64 v14) (.slice none 0 0) (.slice none 0 0) (.slice none 0 0) (.bool false))
    have hgF : Goes W (put9 (W14.setCell ⟨X, 4, none⟩ (.int .u64 v14)) W.heap.size (.int .i64 opc) (.int .u8 0) (.int .u32 0) (.int .u32 0) (.int .u64 v14) (.slice none 0 0) (.slice none 0 0) (.slice none 0 0) (.bool false)) p q B a14 e14 := put9_goes HW.out HG15.out _ (Nat.le_refl _) _ _ _ _ _ _ _ _ _
    have hbF := put9_blk HZ15.out (.int .i64 opc) (.int .u8 0) (.int .u32 0) (.int .u32 0) (.int .u64 v14) (.slice none 0 0) (.slice none 0 0) (.slice none 0 0) (.bool false)
    generalize put9 (W14.setCell ⟨X, 4, none⟩ (.int .u64 v14)) W.heap.size (.int .i64 opc) (.int .u8 0) (.int .u32 0) (.int .u32 0) (.int .u64 v14) (.slice none 0 0) (.slice none 0 0) (.slice none 0 0) (.bool false) = V9 at *
    obtain ⟨y0, y1, y2, y3, y4, y5, y6, y7, y8⟩ := insC_cells hbF
    rw [HV.out]
    have HGF := Lib.hid hgF
    refine bodyPost_ret (v := .agg (insC opc 0 0 0 v14 (.slice none 0 0) (.slice none 0 0) (.slice none 0 0) false)) (by simp [results, Tryz.results141, go_sem, y0, y1, y2, y3, y4, y5, y6, y7, y8, insC]) rfl ⟨.mk opc 0 0 0 v14 [] [] [] false, none, none, none, 0, 0, 0, rfl, ?_, fun _ => rfl, HGF.out⟩
    exact fk_flat hopc (by omega) (by omega) (by omega) (by omega)
  have HC24 := Lib.hid (show ¬ (i = 2 ∨ i = 4) from fun h => h.elim c2 c4)
  have HC3 := Lib.hid c3
  have HC5 := Lib.hid c5
  have HC6 := Lib.hid c6
  have HC7 := Lib.hid c7
  have HC8 := Lib.hid c8
  have HC9 := Lib.hid c9
  have HC10 := Lib.hid c10
  have HC11 := Lib.hid c11
  have b1 : (i == 1) = false := beq_eq_false_iff_ne.mpr HC1.out
  have b2 : (i == 2) = false := beq_eq_false_iff_ne.mpr c2
  have b3 : (i == 3) = false := beq_eq_false_iff_ne.mpr c3
  have b4 : (i == 4) = false := beq_eq_false_iff_ne.mpr c4
  have b5 : (i == 5) = false := beq_eq_false_iff_ne.mpr c5
  have b6 : (i == 6) = false := beq_eq_false_iff_ne.mpr c6
  have b7 : (i == 7) = false := beq_eq_false_iff_ne.mpr c7
  have b8 : (i == 8) = false := beq_eq_false_iff_ne.mpr c8
  have b9 : (i == 9) = false := beq_eq_false_iff_ne.mpr c9
  have b10 : (i == 10) = false := beq_eq_false_iff_ne.mpr c10
  have b11 : (i == 11) = false := beq_eq_false_iff_ne.mpr c11
  clear c2 c3 c4 c5 c6 c7 c8 c9 c10 c11
  have HV := Lib.hid (show bodyM bk B opc i a1 = (.mk opc 0 0 0 0 [] [] [] false, a1, 0) from by unfold bodyM; rw [if_neg HC1.out, if_neg HC24.out, if_neg HC3.out, if_neg HC5.out, if_neg HC6.out, if_neg HC7.out, if_neg HC8.out, if_neg HC9.out, if_neg HC10.out, if_neg HC11.out]; rfl)
  obtain ⟨s0, s1, s2, sf, slt⟩ := HR4.out.cells
  obtain ⟨x0, x1, x2, x3, x4, x5, x6, x7, x8⟩ := insC_cells HX4.out
  obtain ⟨xf0, xf1, xf2, xf3, xf4, xf5, xf6, xf7, xf8, xlt⟩ := insC_frozen HX4.out
  obtain ⟨z0, z1, z2, z3, z4, z5, z6, z7, z8⟩ := insC_cells HZ4.out
  obtain ⟨zf0, zf1, zf2, zf3, zf4, zf5, zf6, zf7, zf8, zlt⟩ := insC_frozen HZ4.out
  go_wp2_with fail
  clear s0 s1 s2 sf slt x0 x1 x2 x3 x4 x5 x6 x7 x8 xf0 xf1 xf2 xf3 xf4 xf5 xf6 xf7 xf8 xlt z0 z1 z2 z3 z4 z5 z6 z7 z8 zf0 zf1 zf2 zf3 zf4 zf5 zf6 zf7 zf8 zlt
  change bodyPost _ _ _ Exit.ret _ (put9 W4 W.heap.size (.int .i64 opc) (.int .u8 0) (.int .u32 0) (.int .u32 0) (.int .u64 0) (.slice none 0 0) (.slice none 0 0) (.slice none 0 0) (.bool false))
  have hgF : Goes W (put9 W4 W.heap.size (.int .i64 opc) (.int .u8 0) (.int .u32 0) (.int .u32 0) (.int .u64 0) (.slice none 0 0) (.slice none 0 0) (.slice none 0 0) (.bool false)) p q B a1 0 := put9_goes HW.out HG4.out _ (Nat.le_refl _) _ _ _ _ _ _ _ _ _
  have hbF := put9_blk HZ4.out (.int .i64 opc) (.int .u8 0) (.int .u32 0) (.int .u32 0) (.int .u64 0) (.slice none 0 0) (.slice none 0 0) (.slice none 0 0) (.bool false)
  generalize put9 W4 W.heap.size (.int .i64 opc) (.int .u8 0) (.int .u32 0) (.int .u32 0) (.int .u64 0) (.slice none 0 0) (.slice none 0 0) (.slice none 0 0) (.bool false) = V9 at *
  obtain ⟨y0, y1, y2, y3, y4, y5, y6, y7, y8⟩ := insC_cells hbF
  rw [HV.out]
  have HGF := Lib.hid hgF
  refine bodyPost_ret (v := .agg (insC opc 0 0 0 0 (.slice none 0 0) (.slice none 0 0) (.slice none 0 0) false)) (by simp [results, Tryz.results141, go_sem, y0, y1, y2, y3, y4, y5, y6, y7, y8, insC]) rfl ⟨.mk opc 0 0 0 0 [] [] [] false, none, none, none, 0, 0, 0, rfl, ?_, fun _ => rfl, HGF.out⟩
  exact fk_flat hopc (by omega) (by omega) (by omega) (by omega)
end Go.Proofs.YtofaiocffifhfaaGreat
end
section
namespace Go.Proofs.YtofaiocffifhfaaGreat
open Go.RowKit Go.Shelf YtofaiocffifhfaaGreatB Go.Proofs.YtofaiocffifhfaaGreatW.PrintWords
set_option maxRecDepth 100000 in
set_option maxHeartbeats 4000000 in
theorem instr_bad (W : World) (R p q : Nat) (sat : Bool) (deep : Nat) (B : List Int) (a a1 : Nat) (e b pe opc e1 iv i : Int) (ib ib2 : Bool) (hR : Rp W R p sat deep) (hRp : R ≠ p) (hC : Cur W p q B a e) (hB : Byts B) (hx : peekM B a e = (b, pe)) (hb : 0 ≤ b ∧ b ≤ 255)
    (hi : immM b = (iv, ib)) (hi1 : (iv == 1) = false) (ho : opM sat B a pe = (opc, a1, e1)) (he1 : (e1 == 0) = false) (hopc : 0 ≤ opc ∧ opc ≤ 5000000000) (hi2 : immM opc = (i, ib2)) (r : Ins) :
    Calls Tryz.prog 141 #[.pointer (some ⟨R, 0, none⟩)] W (InsPost W p q B (leafI 0, a1, e1)) := by
  have hplt := hC.lt
  have hRlt := hR.lt
  have HP := Lib.hid (peek_any (W.alloc (.cells zeroC 153)) R p q sat deep B a e (Blk.alloc hR _) hRp (hC.alloc _) hB)
  rw [hx] at HP
  have HI1 := Lib.hid (fun X => Imm_any X b hb.1 (by omega))
  have HI2 := Lib.hid (fun X => Imm_any X opc hopc.1 hopc.2)
  rw [hi] at HI1
  rw [hi2] at HI2
  have HOP := Lib.hid (fun X h1 h2 => op_any X R p q sat deep B a pe h1 hRp h2 hB)
  rw [ho] at HOP
  have HE1 := Lib.hid he1
  have HR := Lib.hid (show Rp (W.alloc (.cells zeroC 153)) R p sat deep from Blk.alloc hR _)
  have HZ := Lib.hid (Blk.new W zeroC 153)
  have HW := Lib.hid hC
  have hb0 := hb.1
  have hb1 := hb.2
  clear hR hC hB hx hi ho hi2 hb he1
  go_enter Tryz.func141, Tryz.ntmps141
  go_wp2_with fail
  refine HP.out.mono ?_
  rintro E W1 ⟨rfl, hG1⟩
  have HR1 := Lib.hid (HR.out.goes hRp hG1)
  have HZ1 := Lib.hid (HZ.out.grown hG1.2 (by simp; omega))
  have HG1 := Lib.hid hG1.of_alloc
  clear hG1 HP HR HZ
  go_wp2_with fail
  refine (HI1.out _).mono ?_
  rintro E W2 ⟨rfl, hB2⟩
  have hg2 : Goes W1 W2 p q B a pe := ⟨HG1.out.1.below hB2, grown_below hB2 _⟩
  have HR2 := Lib.hid (HR1.out.goes hRp hg2)
  have HZ2 := Lib.hid (HZ1.out.grown hg2.2 (by simp; omega))
  have HG2 := Lib.hid (HG1.out.trans hg2)
  clear hg2 hB2 HR1 HZ1 HG1
  go_wp2_with fail
  refine (HOP.out _ HR2.out HG2.out.1).mono ?_
  rintro E W3 ⟨rfl, hG3⟩
  have HR3 := Lib.hid (HR2.out.goes hRp hG3)
  have HZ3 := Lib.hid (HZ2.out.grown hG3.2 (by simp; omega))
  have HG3 := Lib.hid (HG2.out.trans hG3)
  clear hG3 HR2 HZ2 HG2 HOP
  go_wp2_with fail
  refine (HI2.out _).mono ?_
  rintro E W4 ⟨rfl, hB4⟩
  have hg4 : Goes W3 W4 p q B a1 e1 := Goes.of_alloc (o := .cells (insC opc 0 0 0 0 (.slice none 0 0) (.slice none 0 0) (.slice none 0 0) false) 153) ⟨(HG3.out.1.alloc _).below hB4, grown_below hB4 _⟩
  have HR4 := Lib.hid (HR3.out.goes hRp hg4)
  have HZ4 := Lib.hid (HZ3.out.grown hg4.2 (by simp; omega))
  have HG4 := Lib.hid (HG3.out.trans hg4)
  clear hB4 hg4 HR3 HZ3 HG3
  go_wp2_with fail
  refine (rgood_any _ _ _ _ _ _ _ _ _ false HR4.out HG4.out.1 HE1.out).mono ?_
  rintro E w' ⟨rfl, rfl⟩
  clear HI1 HI2 HR4
  obtain ⟨z0, z1, z2, z3, z4, z5, z6, z7, z8⟩ := insC_cells HZ4.out
  obtain ⟨zf0, zf1, zf2, zf3, zf4, zf5, zf6, zf7, zf8, zlt⟩ := insC_frozen HZ4.out
  go_wp2_with fail
  change bodyPost _ _ _ Exit.ret _ (put9 W4 W.heap.size (.int .i64 0) (.int .u8 0) (.int .u32 0) (.int .u32 0) (.int .u64 0) (.slice none 0 0) (.slice none 0 0) (.slice none 0 0) (.bool false))
  have hgF : Goes W (put9 W4 W.heap.size (.int .i64 0) (.int .u8 0) (.int .u32 0) (.int .u32 0) (.int .u64 0) (.slice none 0 0) (.slice none 0 0) (.slice none 0 0) (.bool false)) p q B a1 e1 := put9_goes HW.out HG4.out _ (Nat.le_refl _) _ _ _ _ _ _ _ _ _
  have hbF := put9_blk HZ4.out (.int .i64 0) (.int .u8 0) (.int .u32 0) (.int .u32 0) (.int .u64 0) (.slice none 0 0) (.slice none 0 0) (.slice none 0 0) (.bool false)
  generalize put9 W4 W.heap.size (.int .i64 0) (.int .u8 0) (.int .u32 0) (.int .u32 0) (.int .u64 0) (.slice none 0 0) (.slice none 0 0) (.slice none 0 0) (.bool false) = V9 at *
  clear z0 z1 z2 z3 z4 z5 z6 z7 z8 zf0 zf1 zf2 zf3 zf4 zf5 zf6 zf7 zf8 zlt
  obtain ⟨y0, y1, y2, y3, y4, y5, y6, y7, y8⟩ := insC_cells hbF
  have HGF := Lib.hid hgF
  refine bodyPost_ret (v := .agg (insC 0 0 0 0 0 (.slice none 0 0) (.slice none 0 0) (.slice none 0 0) false)) (by simp [results, Tryz.results141, go_sem, y0, y1, y2, y3, y4, y5, y6, y7, y8, insC]) rfl ⟨leafI 0, none, none, none, 0, 0, 0, rfl, ?_, fun _ => rfl, HGF.out⟩
  exact fk_flat (by omega) (by omega) (by omega) (by omega) (by omega)
theorem imm_one {b : Int} {ib : Bool} (h : immM b = (1, ib)) : (b = 2 ∨ b = 3 ∨ b = 4) ∧ ib = true := by
  unfold immM at h
  by_cases c0 : b = 0 ∨ b = 1 ∨ b = 15 ∨ b = 26 ∨ b = 27
  · rw [if_pos c0] at h; exact absurd (Prod.mk.inj h).1 (by decide)
  rw [if_neg c0] at h
  by_cases c1 : b = 2 ∨ b = 3 ∨ b = 4
  · rw [if_pos c1] at h; exact ⟨c1, (Prod.mk.inj h).2.symm⟩
  rw [if_neg c1] at h
  by_cases c2 : b = 5 ∨ b = 11
  · rw [if_pos c2] at h; exact absurd (Prod.mk.inj h).1 (by decide)
  rw [if_neg c2] at h
  by_cases c3 : b = 12 ∨ b = 13
  · rw [if_pos c3] at h; exact absurd (Prod.mk.inj h).1 (by decide)
  rw [if_neg c3] at h
  by_cases c4 : b = 14
  · rw [if_pos c4] at h; exact absurd (Prod.mk.inj h).1 (by decide)
  rw [if_neg c4] at h
  by_cases c5 : b = 16 ∨ b = 32 ∨ b = 33 ∨ b = 34 ∨ b = 35 ∨ b = 36
  · rw [if_pos c5] at h; exact absurd (Prod.mk.inj h).1 (by decide)
  rw [if_neg c5] at h
  by_cases c6 : b = 17
  · rw [if_pos c6] at h; exact absurd (Prod.mk.inj h).1 (by decide)
  rw [if_neg c6] at h
  by_cases c7 : b = 63 ∨ b = 64
  · rw [if_pos c7] at h; exact absurd (Prod.mk.inj h).1 (by decide)
  rw [if_neg c7] at h
  by_cases c8 : b = 65
  · rw [if_pos c8] at h; exact absurd (Prod.mk.inj h).1 (by decide)
  rw [if_neg c8] at h
  by_cases c9 : b = 66
  · rw [if_pos c9] at h; exact absurd (Prod.mk.inj h).1 (by decide)
  rw [if_neg c9] at h
  by_cases c10 : b = 67
  · rw [if_pos c10] at h; exact absurd (Prod.mk.inj h).1 (by decide)
  rw [if_neg c10] at h
  by_cases c11 : b = 68
  · rw [if_pos c11] at h; exact absurd (Prod.mk.inj h).1 (by decide)
  rw [if_neg c11] at h
  by_cases c12 : 40 ≤ b ∧ b ≤ 62
  · rw [if_pos c12] at h; exact absurd (Prod.mk.inj h).1 (by decide)
  rw [if_neg c12] at h
  exact absurd (Prod.mk.inj h).1 (by decide)
theorem op_one {sat : Bool} {B : List Int} {a : Nat} {b : Int} {ib : Bool} (hx : B[a]? = some b) (h : immM b = (1, ib)) : opM sat B a 0 = (b, a + 1, 0) := by
  have h2 := imm_one h
  unfold opM
  rw [show peekM B a 0 = (b, 0) from by simp [peekM, hx], if_pos rfl, if_neg (by simp only; omega), h, if_pos h2.2]
theorem op_three {sat : Bool} {B : List Int} {a : Nat} : opM sat B a 3 = (0, a, 3) := by
  unfold opM
  rw [show peekM B a 3 = (0, 3) from rfl, if_neg (by decide)]
set_option maxRecDepth 100000 in
set_option maxHeartbeats 4000000 in
theorem instr_deep (W : World) (R p q : Nat) (sat : Bool) (deep : Nat) (B : List Int) (a : Nat) (b : Int) (ib : Bool) (hR : Rp W R p sat deep) (hRp : R ≠ p) (hC : Cur W p q B a 0) (hB : Byts B) (hx : B[a]? = some b)
    (hi : immM b = (1, ib)) (hd : 64 ≤ deep) :
    Calls Tryz.prog 141 #[.pointer (some ⟨R, 0, none⟩)] W (InsPost W p q B (leafI 0, a, 3)) := by
  have hplt := hC.lt
  have hRlt := hR.lt
  have hb := hB.get hx
  obtain ⟨a1, ha1⟩ : ∃ a1, a1 = a := ⟨_, rfl⟩
  obtain ⟨e1, he1⟩ : ∃ e1 : Int, e1 = 3 := ⟨_, rfl⟩
  obtain ⟨opc, hopc⟩ : ∃ opc : Int, opc = 0 := ⟨_, rfl⟩
  obtain ⟨i, hii⟩ : ∃ i : Int, i = 0 := ⟨_, rfl⟩
  have HP := Lib.hid (peek_any (W.alloc (.cells zeroC 153)) R p q sat deep B a 0 (Blk.alloc hR _) hRp (hC.alloc _) hB)
  rw [show peekM B a 0 = (b, 0) from by simp [peekM, hx]] at HP
  have HI1 := Lib.hid (fun X => Imm_any X b hb.1 (by omega))
  have HI2 := Lib.hid (fun X => Imm_any X opc (by omega) (by omega))
  rw [hi] at HI1
  rw [show immM opc = (i, true) from by rw [hopc, hii]; rfl] at HI2
  have HOP := Lib.hid (fun X h1 h2 => op_any X R p q sat deep B a e1 h1 hRp h2 hB)
  rw [show opM sat B a e1 = (opc, a1, e1) from by rw [he1, hopc, ha1]; exact op_three] at HOP
  have HE1 := Lib.hid (show (e1 == 0) = false from by rw [he1]; rfl)
  have HR := Lib.hid (show Rp (W.alloc (.cells zeroC 153)) R p sat deep from Blk.alloc hR _)
  have HZ := Lib.hid (Blk.new W zeroC 153)
  have HW := Lib.hid hC
  have hdb : decide ((64 : Int) ≤ (deep : Int)) = true := decide_eq_true (by omega)
  have HF := Lib.hid (fun X h => Fail_any X p q B a 0 3 h rfl)
  rw [show failE 0 3 = e1 from by rw [he1]; rfl] at HF
  rw [← ha1, ← he1]
  have HA := Lib.hid ha1
  have hb0 := hb.1
  have hb1 := hb.2
  clear hR hC hB hx hi hb he1 hopc hii ha1 hd
  go_enter Tryz.func141, Tryz.ntmps141
  go_wp2_with fail
  refine HP.out.mono ?_
  rintro E W1 ⟨rfl, hG1⟩
  have HR1 := Lib.hid (HR.out.goes hRp hG1)
  have HZ1 := Lib.hid (HZ.out.grown hG1.2 (by simp; omega))
  have HG1 := Lib.hid hG1.of_alloc
  clear hG1 HP HR HZ
  go_wp2_with fail
  refine (HI1.out _).mono ?_
  rintro E W2 ⟨rfl, hB2⟩
  have hg2 : Goes W1 W2 p q B a 0 := ⟨HG1.out.1.below hB2, grown_below hB2 _⟩
  have HR2 := Lib.hid (HR1.out.goes hRp hg2)
  have HZ2 := Lib.hid (HZ1.out.grown hg2.2 (by simp; omega))
  have HG2 := Lib.hid (HG1.out.trans hg2)
  clear hg2 hB2 HR1 HZ1 HG1
  obtain ⟨s0, s1, s2, sf, slt⟩ := HR2.out.cells
  go_wp2_with fail
  refine (rgood_any _ _ _ _ _ _ _ _ _ true HR2.out HG2.out.1 rfl).mono ?_
  rintro E w' ⟨rfl, rfl⟩
  go_wp2_with fail
  refine (HF.out _ HG2.out.1).mono ?_
  rintro E W9 ⟨rfl, hG9⟩
  have HR9 := Lib.hid (HR2.out.goes hRp hG9)
  have HZ9 := Lib.hid (HZ2.out.grown hG9.2 (by simp; omega))
  have HG9 := Lib.hid (HG2.out.trans hG9)
  clear hG9 HR2 HZ2 HG2 HF s0 s1 s2 sf slt
  go_wp2_with fail
  refine (HOP.out _ HR9.out HG9.out.1).mono ?_
  rintro E W3 ⟨rfl, hG3⟩
  have HR3 := Lib.hid (HR9.out.goes hRp hG3)
  have HZ3 := Lib.hid (HZ9.out.grown hG3.2 (by simp; omega))
  have HG3 := Lib.hid (HG9.out.trans hG3)
  clear hG3 HR9 HZ9 HG9 HOP
  go_wp2_with fail
  refine (HI2.out _).mono ?_
  rintro E W4 ⟨rfl, hB4⟩
  have hg4 : Goes W3 W4 p q B a1 e1 := Goes.of_alloc (o := .cells (insC opc 0 0 0 0 (.slice none 0 0) (.slice none 0 0) (.slice none 0 0) false) 153) ⟨(HG3.out.1.alloc _).below hB4, grown_below hB4 _⟩
  have HR4 := Lib.hid (HR3.out.goes hRp hg4)
  have HZ4 := Lib.hid (HZ3.out.grown hg4.2 (by simp; omega))
  have HG4 := Lib.hid (HG3.out.trans hg4)
  clear hB4 hg4 HR3 HZ3 HG3
  go_wp2_with fail
  refine (rgood_any _ _ _ _ _ _ _ _ _ false HR4.out HG4.out.1 HE1.out).mono ?_
  rintro E w' ⟨rfl, rfl⟩
  clear HI1 HI2 HR4
  obtain ⟨z0, z1, z2, z3, z4, z5, z6, z7, z8⟩ := insC_cells HZ4.out
  obtain ⟨zf0, zf1, zf2, zf3, zf4, zf5, zf6, zf7, zf8, zlt⟩ := insC_frozen HZ4.out
  go_wp2_with fail
  change bodyPost _ _ _ Exit.ret _ (put9 W4 W.heap.size (.int .i64 0) (.int .u8 0) (.int .u32 0) (.int .u32 0) (.int .u64 0) (.slice none 0 0) (.slice none 0 0) (.slice none 0 0) (.bool false))
  have hgF : Goes W (put9 W4 W.heap.size (.int .i64 0) (.int .u8 0) (.int .u32 0) (.int .u32 0) (.int .u64 0) (.slice none 0 0) (.slice none 0 0) (.slice none 0 0) (.bool false)) p q B a1 e1 := put9_goes HW.out HG4.out _ (Nat.le_refl _) _ _ _ _ _ _ _ _ _
  have hbF := put9_blk HZ4.out (.int .i64 0) (.int .u8 0) (.int .u32 0) (.int .u32 0) (.int .u64 0) (.slice none 0 0) (.slice none 0 0) (.slice none 0 0) (.bool false)
  generalize put9 W4 W.heap.size (.int .i64 0) (.int .u8 0) (.int .u32 0) (.int .u32 0) (.int .u64 0) (.slice none 0 0) (.slice none 0 0) (.slice none 0 0) (.bool false) = V9 at *
  clear z0 z1 z2 z3 z4 z5 z6 z7 z8 zf0 zf1 zf2 zf3 zf4 zf5 zf6 zf7 zf8 zlt
  obtain ⟨y0, y1, y2, y3, y4, y5, y6, y7, y8⟩ := insC_cells hbF
  have HGF := Lib.hid hgF
  refine bodyPost_ret (v := .agg (insC 0 0 0 0 0 (.slice none 0 0) (.slice none 0 0) (.slice none 0 0) false)) (by simp [results, Tryz.results141, go_sem, y0, y1, y2, y3, y4, y5, y6, y7, y8, insC]) rfl ⟨leafI 0, none, none, none, 0, 0, 0, rfl, ?_, fun _ => rfl, HGF.out⟩
  exact fk_flat (by omega) (by omega) (by omega) (by omega) (by omega)
set_option maxRecDepth 100000 in
set_option maxHeartbeats 4000000 in
theorem instr_1 (bk : Bool → Nat → Int → List Ins × Int × Nat × Int) (W : World) (R p q : Nat) (sat : Bool) (deep : Nat) (B : List Int) (a : Nat) (b : Int) (ib : Bool) (hR : Rp W R p sat deep) (hRp : R ≠ p) (hRq : R ≠ q) (hC : Cur W p q B a 0) (hB : Byts B) (hx : B[a]? = some b)
    (hi : immM b = (1, ib)) (hd : deep < 64)
    (hbk : ∀ (W' : World) (m : Bool) (a' : Nat) (e' : Int), a + 1 ≤ a' ∨ ¬ e' = 0 → Rp W' R p sat (deep + 1 : Nat) → Cur W' p q B a' e' → Calls Tryz.prog 133 #[.pointer (some ⟨R, 0, none⟩), .bool m] W' (BlkPost W' p q B (bk m a' e')))
    (hge : BkGe bk) :
    Calls Tryz.prog 141 #[.pointer (some ⟨R, 0, none⟩)] W (InsPost W p q B (bodyM bk B b 1 (a + 1))) := by
  have hplt := hC.lt
  have hRlt := hR.lt
  have hb := hB.get hx
  have hqlt : q < W.heap.size := by
    rcases hC.qlt with h | h
    · rw [h] at hx; simp at hx
    · exact h
  obtain ⟨a1, ha1⟩ : ∃ a1, a1 = a + 1 := ⟨_, rfl⟩
  obtain ⟨opc, hopc⟩ : ∃ opc : Int, opc = b := ⟨_, rfl⟩
  have HP := Lib.hid (peek_any (W.alloc (.cells zeroC 153)) R p q sat deep B a 0 (Blk.alloc hR _) hRp (hC.alloc _) hB)
  rw [show peekM B a 0 = (b, 0) from by simp [peekM, hx]] at HP
  have HI1 := Lib.hid (fun X => Imm_any X b hb.1 (by omega))
  have HI2 := Lib.hid (fun X => Imm_any X opc (by omega) (by omega))
  rw [hi] at HI1
  rw [show immM opc = (1, ib) from by rw [hopc]; exact hi] at HI2
  have HOP := Lib.hid (fun X h1 h2 => op_any X R p q sat deep B a 0 h1 hRp h2 hB)
  rw [show opM sat B a 0 = (opc, a1, 0) from by rw [hopc, ha1]; exact op_one hx hi] at HOP
  have HR := Lib.hid (show Rp (W.alloc (.cells zeroC 153)) R p sat deep from Blk.alloc hR _)
  have HZ := Lib.hid (Blk.new W zeroC 153)
  have HW := Lib.hid hC
  have hdb : decide ((64 : Int) ≤ (deep : Int)) = false := decide_eq_false (by omega)
  have HN := Lib.hid (fun X Y h1 h2 h3 h4 h5 h6 => nested_any bk X R p q Y sat deep B a1 opc h1 hRp h2 h3 hRq h4 h5 hB (by omega) (by omega) h6 (by rw [ha1]; exact hbk) hge)
  rw [← ha1, show bodyM bk B b 1 a1 = bodyM bk B opc 1 a1 from by rw [hopc]]
  generalize bodyM bk B opc 1 a1 = r at *
  obtain ⟨rx, ra, re⟩ := r
  have hopc2 : 0 ≤ opc ∧ opc ≤ 5000000000 := by omega
  have hb0 := hb.1
  have hb1 := hb.2
  clear hR hC hB hx hi hb hopc ha1 hd hbk hge
  go_enter Tryz.func141, Tryz.ntmps141
  go_wp2_with fail
  refine HP.out.mono ?_
  rintro E W1 ⟨rfl, hG1⟩
  have HR1 := Lib.hid (HR.out.goes hRp hG1)
  have HZ1 := Lib.hid (HZ.out.grown hG1.2 (by simp; omega))
  have HG1 := Lib.hid hG1.of_alloc
  clear hG1 HP HR HZ
  go_wp2_with fail
  refine (HI1.out _).mono ?_
  rintro E W2 ⟨rfl, hB2⟩
  have hg2 : Goes W1 W2 p q B a 0 := ⟨HG1.out.1.below hB2, grown_below hB2 _⟩
  have HR2 := Lib.hid (HR1.out.goes hRp hg2)
  have HZ2 := Lib.hid (HZ1.out.grown hg2.2 (by simp; omega))
  have HG2 := Lib.hid (HG1.out.trans hg2)
  clear hg2 hB2 HR1 HZ1 HG1
  obtain ⟨s0, s1, s2, sf, slt⟩ := HR2.out.cells
  go_wp2_with fail
  refine (HOP.out _ HR2.out HG2.out.1).mono ?_
  rintro E W3 ⟨rfl, hG3⟩
  have HR3 := Lib.hid (HR2.out.goes hRp hG3)
  have HZ3 := Lib.hid (HZ2.out.grown hG3.2 (by simp; omega))
  have HG3 := Lib.hid (HG2.out.trans hG3)
  clear hG3 HR2 HZ2 HG2 HOP s0 s1 s2 sf slt
  go_wp2_with fail
  refine (HI2.out _).mono ?_
  rintro E W4 ⟨rfl, hB4⟩
  have XB4 : Blk W4 W3.heap.size (insC opc 0 0 0 0 (.slice none 0 0) (.slice none 0 0) (.slice none 0 0) false) 153 := (Blk.new W3 (insC opc 0 0 0 0 (.slice none 0 0) (.slice none 0 0) (.slice none 0 0) false) 153).below hB4 (by simp)
  have hg4 : Goes W3 W4 p q B a1 0 := Goes.of_alloc (o := .cells (insC opc 0 0 0 0 (.slice none 0 0) (.slice none 0 0) (.slice none 0 0) false) 153) ⟨(HG3.out.1.alloc _).below hB4, grown_below hB4 _⟩
  have HR4 := Lib.hid (HR3.out.goes hRp hg4)
  have HZ4 := Lib.hid (HZ3.out.grown hg4.2 (by simp; omega))
  have HG4 := Lib.hid (HG3.out.trans hg4)
  have HX4 := Lib.hid XB4
  have hXp : p < W3.heap.size := Nat.lt_of_lt_of_le hplt HG3.out.2.size
  have hXR : R < W3.heap.size := Nat.lt_of_lt_of_le hRlt HG3.out.2.size
  have hXZ : W.heap.size < W3.heap.size := HZ3.out.lt
  obtain ⟨X, hXe⟩ : ∃ X, X = W3.heap.size := ⟨_, rfl⟩
  rw [← hXe] at HX4 hXp hXR hXZ ⊢
  clear hB4 XB4 hg4 HR3 HZ3 HG3 hXe
  go_wp2_with fail
  refine (rgood_any _ _ _ _ _ _ _ _ _ true HR4.out HG4.out.1 rfl).mono ?_
  rintro E w' ⟨rfl, rfl⟩
  clear HI1 HI2
  have hW4 := HZ4.out.lt
  go_wp2_with fail
  refine (HN.out W4 X HR4.out (by omega) (by omega) (by omega) HG4.out.1 HX4.out).mono ?_
  rintro E W5 ⟨rfl, ⟨cs, x', hcs, hF, hxr⟩, hGX, hR5⟩
  have HG5 := Lib.hid (GoesX.goes HG4.out hGX (by omega))
  obtain ⟨AL, cL, AT, cT, AE, cE, hce, w1, w2, w3, w4, w5, fL, fT, fE, l1, l2, l3⟩ := ins_openF hF
  have hce : cs = insC x'.op x'.ty x'.a x'.b x'.bits (.slice AL x'.list.length cL) (.slice AT x'.th.length cT) (.slice AE x'.el.length cE) x'.has := by
    obtain ⟨l⟩ := cs; exact congrArg Array.mk hce
  subst hce
  have HX5 := Lib.hid hcs
  have HZ5 := Lib.hid (show Blk W5 W.heap.size zeroC 153 from (hGX.2.2.2.2.2 W.heap.size hW4 (by omega) (by omega)).trans HZ4.out)
  have HL := Lib.hid (show FC (rng .u32) W5 (fun k => W4.heap.size ≤ k) AL x'.list from fL)
  have HT := Lib.hid fT
  have HE := Lib.hid fE
  have HXR := Lib.hid hxr
  have HW1 := Lib.hid w1
  have HW2 := Lib.hid w2
  have HW3 := Lib.hid w3
  have HW4 := Lib.hid w4
  have HW5 := Lib.hid w5
  have HL1 := Lib.hid l1
  have HL2 := Lib.hid l2
  have HL3 := Lib.hid l3
  clear hGX hR5 hF hcs fL fT fE hxr w1 w2 w3 w4 w5 l1 l2 l3 HN HR4 HX4 HZ4
  obtain ⟨x0, x1, x2, x3, x4, x5, x6, x7, x8⟩ := insC_cells HX5.out
  obtain ⟨z0, z1, z2, z3, z4, z5, z6, z7, z8⟩ := insC_cells HZ5.out
  obtain ⟨zf0, zf1, zf2, zf3, zf4, zf5, zf6, zf7, zf8, zlt⟩ := insC_frozen HZ5.out
  have xlt := HX5.out.lt
  go_wp2_with fail
  change bodyPost _ _ _ Exit.ret _ (put9 W5 W.heap.size (.int .i64 x'.op) (.int .u8 x'.ty) (.int .u32 x'.a) (.int .u32 x'.b) (.int .u64 x'.bits) (.slice AL x'.list.length cL) (.slice AT x'.th.length cT) (.slice AE x'.el.length cE) (.bool x'.has))
  have hgF : Goes W (put9 W5 W.heap.size (.int .i64 x'.op) (.int .u8 x'.ty) (.int .u32 x'.a) (.int .u32 x'.b) (.int .u64 x'.bits) (.slice AL x'.list.length cL) (.slice AT x'.th.length cT) (.slice AE x'.el.length cE) (.bool x'.has)) p q B ra re := put9_goes HW.out HG5.out _ (Nat.le_refl _) _ _ _ _ _ _ _ _ _
  have hbF := put9_blk HZ5.out (.int .i64 x'.op) (.int .u8 x'.ty) (.int .u32 x'.a) (.int .u32 x'.b) (.int .u64 x'.bits) (.slice AL x'.list.length cL) (.slice AT x'.th.length cT) (.slice AE x'.el.length cE) (.bool x'.has)
  have HFL := Lib.hid (put9_FC HL.out W.heap.size (by simp; omega) (.int .i64 x'.op) (.int .u8 x'.ty) (.int .u32 x'.a) (.int .u32 x'.b) (.int .u64 x'.bits) (.slice AL x'.list.length cL) (.slice AT x'.th.length cT) (.slice AE x'.el.length cE) (.bool x'.has))
  have HFT := Lib.hid (put9_FC HT.out W.heap.size (by simp; omega) (.int .i64 x'.op) (.int .u8 x'.ty) (.int .u32 x'.a) (.int .u32 x'.b) (.int .u64 x'.bits) (.slice AL x'.list.length cL) (.slice AT x'.th.length cT) (.slice AE x'.el.length cE) (.bool x'.has))
  have HFE := Lib.hid (put9_FC HE.out W.heap.size (by simp; omega) (.int .i64 x'.op) (.int .u8 x'.ty) (.int .u32 x'.a) (.int .u32 x'.b) (.int .u64 x'.bits) (.slice AL x'.list.length cL) (.slice AT x'.th.length cT) (.slice AE x'.el.length cE) (.bool x'.has))
  generalize put9 W5 W.heap.size (.int .i64 x'.op) (.int .u8 x'.ty) (.int .u32 x'.a) (.int .u32 x'.b) (.int .u64 x'.bits) (.slice AL x'.list.length cL) (.slice AT x'.th.length cT) (.slice AE x'.el.length cE) (.bool x'.has) = V9 at *
  clear x0 x1 x2 x3 x4 x5 x6 x7 x8 z0 z1 z2 z3 z4 z5 z6 z7 z8 zf0 zf1 zf2 zf3 zf4 zf5 zf6 zf7 zf8 zlt
  obtain ⟨y0, y1, y2, y3, y4, y5, y6, y7, y8⟩ := insC_cells hbF
  have HGF := Lib.hid hgF
  refine bodyPost_ret (v := .agg (insC x'.op x'.ty x'.a x'.b x'.bits (.slice AL x'.list.length cL) (.slice AT x'.th.length cT) (.slice AE x'.el.length cE) x'.has)) (by simp [results, Tryz.results141, go_sem, y0, y1, y2, y3, y4, y5, y6, y7, y8, insC]) rfl ⟨x', AL, AT, AE, cL, cT, cE, rfl, ?_, HXR.out, HGF.out⟩
  exact ins_mkF HW1.out HW2.out HW3.out HW4.out HW5.out (HFL.out.mono fun k hk => Nat.le_trans (Nat.le_of_lt hW4) hk) (HFT.out.mono fun k hk => Nat.le_trans (Nat.le_of_lt hW4) hk) (HFE.out.mono fun k hk => Nat.le_trans (Nat.le_of_lt hW4) hk) HL1.out HL2.out HL3.out
theorem imm_big (n : Int) (h : 64512 ≤ n) : (immM n).1 = 0 := by
  unfold immM
  rw [if_neg (by omega), if_neg (by omega), if_neg (by omega), if_neg (by omega), if_neg (by omega), if_neg (by omega), if_neg (by omega), if_neg (by omega), if_neg (by omega), if_neg (by omega), if_neg (by omega), if_neg (by omega), if_neg (by omega)]
theorem op_imm {sat : Bool} {B : List Int} {a : Nat} {e : Int} (hB : Byts B) (h : ¬ (immM (peekM B a e).1).1 = 1) : ¬ (immM (opM sat B a e).1).1 = 1 ∧ 0 ≤ (opM sat B a e).1 ∧ (opM sat B a e).1 ≤ 5000000000 := by
  unfold opM
  split
  next hp =>
    split
    next h2 =>
      have hb := u32_bound B (a + 1) 0 hB
      have : (secondM B (a + 1) 0).1 = 64512 + (rdOf (u32M B (a + 1)) (a + 1) 0).1 := rfl
      rw [this]
      refine ⟨?_, by omega, by omega⟩
      rw [imm_big _ (by omega)]
      decide
    next h2 =>
      split
      next h3 =>
        refine ⟨h, ?_⟩
        obtain ⟨x, hx⟩ : ∃ x, peekM B a e = (x, 0) := ⟨(peekM B a e).1, by rw [← hp]⟩
        rw [hx]
        have := hB.get (peek_good hx).2
        simp only
        omega
      next h3 => exact ⟨by simp only; decide, by simp only; omega, by simp only; omega⟩
  next hp => exact ⟨by simp only; decide, by simp only; omega, by simp only; omega⟩
theorem instr_any (bk : Bool → Nat → Int → List Ins × Int × Nat × Int) (W : World) (R p q : Nat) (sat : Bool) (deep : Nat) (B : List Int) (a : Nat) (e : Int) (hR : Rp W R p sat deep) (hRp : R ≠ p) (hRq : R ≠ q) (hC : Cur W p q B a e) (hB : Byts B)
    (hbk : ∀ (W' : World) (m : Bool) (a' : Nat) (e' : Int), a + 1 ≤ a' ∨ ¬ e' = 0 → Rp W' R p sat (deep + 1 : Nat) → Cur W' p q B a' e' → Calls Tryz.prog 133 #[.pointer (some ⟨R, 0, none⟩), .bool m] W' (BlkPost W' p q B (bk m a' e')))
    (hge : BkGe bk) :
    Calls Tryz.prog 141 #[.pointer (some ⟨R, 0, none⟩)] W (InsPost W p q B (insM bk sat B deep a e)) := by
  obtain ⟨b, pe, hx⟩ : ∃ b pe, peekM B a e = (b, pe) := ⟨_, _, rfl⟩
  have hb : 0 ≤ b ∧ b ≤ 255 := by
    by_cases hp : pe = 0
    · rw [hp] at hx
      exact hB.get (peek_good hx).2
    · unfold peekM at hx
      by_cases he : e = 0
      · rw [if_pos he] at hx
        cases hy : B[a]? with
        | none => rw [hy] at hx; simp at hx; omega
        | some y => rw [hy] at hx; simp at hx; exact absurd hx.2.symm hp
      · rw [if_neg he] at hx; simp at hx; omega
  obtain ⟨iv, ib, hi⟩ : ∃ iv ib, immM b = (iv, ib) := ⟨_, _, rfl⟩
  by_cases h1 : iv = 1
  · subst h1
    have hp : pe = 0 := by
      by_cases hp : pe = 0
      · exact hp
      · unfold peekM at hx
        by_cases he : e = 0
        · rw [if_pos he] at hx
          cases hy : B[a]? with
          | none => rw [hy] at hx; simp at hx; rw [← hx.1] at hi; exact absurd (imm_one hi).1 (by omega)
          | some y => rw [hy] at hx; simp at hx; exact absurd hx.2.symm hp
        · rw [if_neg he] at hx; simp at hx; rw [← hx.1] at hi; exact absurd (imm_one hi).1 (by omega)
    subst hp
    obtain ⟨rfl, hxx⟩ := peek_good hx
    have hdE : deepE B deep a 0 = if 64 ≤ deep then 3 else 0 := by
      unfold deepE
      rw [hx]
      simp only [hi]
      by_cases hd : 64 ≤ deep
      · rw [if_pos ⟨trivial, hd, trivial⟩, if_pos hd]
      · rw [if_neg (fun h => hd h.2.1), if_neg hd]
    by_cases hd : 64 ≤ deep
    · rw [if_pos hd] at hdE
      have : insM bk sat B deep a 0 = (leafI 0, a, 3) := by
        unfold insM
        rw [hdE, op_three]
        rfl
      rw [this]
      exact instr_deep W R p q sat deep B a b ib hR hRp hC hB hxx hi hd
    · rw [if_neg hd] at hdE
      have : insM bk sat B deep a 0 = bodyM bk B b 1 (a + 1) := by
        unfold insM
        rw [hdE, op_one hxx hi]
        simp only [hi]
        rfl
      rw [this]
      exact instr_1 bk W R p q sat deep B a b ib hR hRp hRq hC hB hxx hi (by omega) hbk hge
  · have hdE : deepE B deep a e = pe := by
      unfold deepE
      rw [hx]
      simp only [hi]
      exact if_neg (fun h => h1 h.1)
    have hop := op_imm (sat := sat) (a := a) (e := pe) hB (by
      by_cases hp : pe = 0
      · subst hp
        have := peek_good hx
        have hx0 : peekM B a 0 = (b, 0) := by rw [this.1] at hx; exact hx
        rw [hx0, hi]
        exact h1
      · rw [show peekM B a pe = (0, pe) from by simp [peekM, hp]]
        rw [show (immM (0, pe).1).1 = 0 from rfl]
        decide)
    obtain ⟨opc, a1, e1, ho⟩ : ∃ opc a1 e1, opM sat B a pe = (opc, a1, e1) := ⟨_, _, _, rfl⟩
    obtain ⟨i, ib2, hi2⟩ : ∃ i ib2, immM opc = (i, ib2) := ⟨_, _, rfl⟩
    rw [ho] at hop
    simp only [hi2] at hop
    by_cases he1 : e1 = 0
    · subst he1
      have hg := op_ge hB (show (opM sat B a pe).2.2 = 0 from by rw [ho])
      have hp := hg.2.1
      subst hp
      obtain ⟨rfl, hxx⟩ := peek_good hx
      have : insM bk sat B deep a 0 = bodyM bk B opc i a1 := by
        unfold insM
        rw [hdE, ho]
        simp only [hi2]
        rfl
      rw [this]
      exact instr_n bk W R p q sat deep B a a1 b opc iv i ib ib2 hR hRp hC hB hxx hi (beq_eq_false_iff_ne.2 h1) ho hop.2 hi2 hop.1
    · have : insM bk sat B deep a e = (leafI 0, a1, e1) := by
        unfold insM
        rw [hdE, ho]
        exact if_neg he1
      rw [this]
      exact instr_bad W R p q sat deep B a a1 e b pe opc e1 iv i ib ib2 hR hRp hC hB hx hb hi (beq_eq_false_iff_ne.2 h1) ho (beq_eq_false_iff_ne.2 he1) hop.2 hi2 (leafI 0)
end Go.Proofs.YtofaiocffifhfaaGreat
end
