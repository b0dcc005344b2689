/- Lemmas towards this claim's statement: what the functions named here come to, each under the conditions that it states itself. -/
import Derived.Test.YtofaiocffifhfaaGreatML8
import Derived.Laws.BytesArg
import Derived.BigQuiet
section
namespace Go.Proofs.YtofaiocffifhfaaGreat
open Go.RowKit Go.Shelf YtofaiocffifhfaaGreatB Go.Proofs.YtofaiocffifhfaaGreatW.PrintWords
/-- What stands behind a piece whose content is read: the failure. -/
def backE (r : List (List Int × List Int) × Nat × Int) (n : Nat) : Int := if r.2.2 = 0 then (if r.2.1 < n then 105 else 0) else r.2.2
def Whole1Post (W : World) (p q m : Nat) (B : List Int) (mc : Array Value) (t : List Int × Nat × Int) (E : Ending) (w' : World) : Prop :=
  E = .returned (.tuple #[]) ∧ (∃ v, Own kFt 98 w' W.heap.size (fun k => W.heap.size ≤ k) v (ftsOf t.1 0 0).1 ∧ Blk w' m (mc.setIfInBounds 0 v) 71) ∧ Cur w' p q B t.2.1 (backE (ftsOf t.1 0 0) t.1.length) ∧ G2 W w' p m
theorem ByQ_g2 {W W' : World} {q p' s : Nat} {A : Option Addr} {B : List Int} (h : ByQ W q A B) (hg : G2 W W' p' s) (hq : 0 < B.length → q ≠ p' ∧ q ≠ s) : ByQ W' q A B := fun hp => by
  obtain ⟨o, e, hc⟩ := h hp
  exact ⟨o, e, fun j x hj => by
    have hx := hc j x hj
    have hlt := World.block_lt_of_cell? _ _ hx
    rw [← hx]
    exact World.cell?_of_block (hg.block q hlt (hq hp).1 (hq hp).2)⟩
theorem Cur_g2 {W W' : World} {p q p' s : Nat} {B : List Int} {a : Nat} {e : Int} (h : Cur W p q B a e) (hg : G2 W W' p' s) (h1 : p ≠ p') (h2 : p ≠ s) (hq : 0 < B.length → q ≠ p' ∧ q ≠ s) : Cur W' p q B a e := by
  obtain ⟨h0, h5, A, c, h6, h3, h4⟩ := h
  exact ⟨h0, h5, A, c, h6, h3.g2 hg h1 h2, ByQ_g2 h4 hg hq⟩
theorem ownUp {W4 W6 : World} {t b k : Nat} {v : Value} {xs : List (List Int × List Int)} (h : Own kFt t W4 b (fun k => b ≤ k) v xs) (hg : W4.grownBy W6 (some k)) (hk : k < b) : Own kFt t W6 b (fun k => b ≤ k) v xs :=
  h.grown hg (by right; intro e; have := (Own.block h e).1; omega) (fun j hj e => by injection e with e; omega)
theorem ownEnd {W6 : World} {t a b : Nat} {v : Value} {xs : List (List Int × List Int)} (h : Own kFt t W6 b (fun k => b ≤ k) v xs) (hb : a ≤ b) : Own kFt t W6 a (fun k => a ≤ k) v xs :=
  (Own_lower h hb).mono (ok' := fun k => a ≤ k) (fun k hk => by omega)
theorem G2_up {W wc W4 : World} {p m p2 : Nat} (h : G2 W wc p m) (h' : G2 wc W4 p2 m) (hp2 : W.heap.size ≤ p2) : G2 W W4 p m :=
  ⟨h'.os.trans h.os, h'.tape.trans h.tape, h'.output.trans h.output, Nat.le_trans h.size h'.size, fun k hk h1 h2 => (h'.block k (Nat.lt_of_lt_of_le hk h.size) (by omega) h2).trans (h.block k hk h1 h2)⟩
set_option maxRecDepth 100000 in
set_option maxHeartbeats 1000000 in
theorem whole_one (W : World) (p q m bm bn : Nat) (B : List Int) (a : Nat) (e : Int) (sat : Bool) (mc : Array Value) (v0 : Value) (hC : Cur W p q B a e) (hB : Byts B) (he : (pieceM B a e).2.2 = 0) (hbs : Byts (pieceM B a e).1)
    (hm : Blk W m mc 71) (hm0 : mc[0]? = some v0) (hmp : m ≠ p) (hmq : 0 < B.length → m ≠ q) (h1 : W.cell? ⟨bm, 0, none⟩ = some (.pointer (some ⟨m, 0, none⟩))) (h2 : W.cell? ⟨bn, 0, none⟩ = some (.int .u8 1)) (h3 : bm ≠ p) (h4 : bn ≠ p) :
    Calls Tryz.prog 42 #[.agg #[.pointer (some ⟨p, 0, none⟩), .bool sat], .func (.func 43) #[] #[.pointer (some ⟨bm, 0, none⟩), .pointer (some ⟨bn, 0, none⟩)]] W (Whole1Post W p q m B mc (pieceM B a e)) := by
  have hpl := hC.lt
  have hu := rdOf_u32' (a := a) (e := e) hB
  have hin : ∀ args w, Sem.run Tryz.prog (callFunc 43 args) w = .ok (.enter 43 args) w := enters_of Tryz.func43 (by kernel_rfl) rfl
  have hC1 := hC.alloc (.cells #[.pointer (some ⟨p, 0, none⟩), .bool sat] 67)
  have HU := Lib.hid (fun X (h : Cur X p q B a e) => U32_any X p q B a e h hB)
  have hpm : pieceM B a e = rdL (takeM B (rdOf (u32M B a) a e).2.1 (rdOf (u32M B a) a e).1.toNat) (rdOf (u32M B a) a e).2.1 (rdOf (u32M B a) a e).2.2 := rfl
  rw [hpm] at he hbs ⊢
  clear hpm
  generalize rdOf (u32M B a) a e = r at *
  obtain ⟨n, a1, e1⟩ := r
  dsimp only at hu he hbs ⊢
  obtain ⟨k, rfl⟩ := Int.eq_ofNat_of_zero_le hu.1
  rw [Int.toNat_natCast] at he hbs ⊢
  have HT := Lib.hid (fun X (h : Cur X p q B a1 e1) => Take_any X p q B a1 k e1 h hB (by omega))
  generalize rdL (takeM B a1 k) a1 e1 = t at *
  obtain ⟨bs, a2, e2⟩ := t
  dsimp only at he hbs ⊢
  subst he
  have HBS := Lib.hid hbs
  have HC := Lib.hid hC1
  have hx := Blk.new W #[.pointer (some ⟨p, 0, none⟩), .bool sat] 67
  obtain ⟨X, hX⟩ : ∃ X, W.alloc (.cells #[.pointer (some ⟨p, 0, none⟩), .bool sat] 67) = X := ⟨_, rfl⟩
  rw [hX] at hx HC
  have HX := Lib.hid hx
  have hsX : W.heap.size < X.heap.size := hx.lt
  have HXE := Lib.hid hX
  have HGX := Lib.hid (hX ▸ World.grownBy_alloc W (.cells #[.pointer (some ⟨p, 0, none⟩), .bool sat] 67) (some p))
  have c0 : X.cell? ⟨W.heap.size, 0, none⟩ = some (.pointer (some ⟨p, 0, none⟩)) := hx.cell 0
  have c1 : X.cell? ⟨W.heap.size, 1, none⟩ = some (.bool sat) := hx.cell 1
  have hpx : p < X.heap.size := by omega
  have HNP := Lib.hid (show some W.heap.size ≠ some p from fun e => by injection e with e; omega)
  have HMW := Lib.hid hm
  have HW1 := Lib.hid h1
  have HW2 := Lib.hid h2
  have HD := Lib.hid (fun Y (h : Blk Y W.heap.size #[.pointer (some ⟨p, 0, none⟩), .bool sat] 67) => h.cell 0 : ∀ Y, Blk Y W.heap.size #[.pointer (some ⟨p, 0, none⟩), .bool sat] 67 → Y.cell? ⟨W.heap.size, 0, none⟩ = some (.pointer (some ⟨p, 0, none⟩)))
  have HXG := Lib.hid (fun Y (h : X.drew.grownBy Y (some p)) => Blk.grown (Blk.drew hx) h HNP.out)
  have HM := Lib.hid (hX ▸ hm.alloc (.cells #[.pointer (some ⟨p, 0, none⟩), .bool sat] 67) : Blk X m mc 71)
  have HM0 := Lib.hid hm0
  have HMP := Lib.hid hmp
  have HMQ := Lib.hid hmq
  have HQL := Lib.hid (fun hl => hC.qlt' hl : 0 < B.length → q < W.heap.size)
  have HML := Lib.hid hm.lt
  have HH1 := Lib.hid (by rw [← hX]; exact pw_cell_below ((Below.refl _ _).alloc (Nat.le_refl _) _) h1 : X.cell? ⟨bm, 0, none⟩ = some (.pointer (some ⟨m, 0, none⟩)))
  have HH2 := Lib.hid (by rw [← hX]; exact pw_cell_below ((Below.refl _ _).alloc (Nat.le_refl _) _) h2 : X.cell? ⟨bn, 0, none⟩ = some (.int .u8 1))
  have HH3 := Lib.hid h3
  have HH4 := Lib.hid h4
  clear hC hC1 hB hu hX hx hbs hm hm0 hmp hmq h1 h2 h3 h4
  go_enter Tryz.func42, Tryz.ntmps42
  go_wp2_with fail
  rw [HXE.out]
  go_region_held3 (fun w' => w'.cell? ⟨W.heap.size, 0, none⟩ = some (.pointer (some ⟨p, 0, none⟩)))
    (first
      | exact c0
      | exact d2
      | exact d1)
    (first
      | (go_at_call 71; refine (HT.out _ hG1.1).mono ?_; rintro E W2 ⟨⟨v, rfl, hO⟩, hG2⟩; have hB2 := Blk.grown hB1 hG2.2 HNP.out; have d2 := HD.out _ hB2)
      | (go_at_call 34; refine (HU.out _ (HC.out.below ((Below.refl _ _).drew))).mono ?_; rintro E W1 ⟨rfl, hG1⟩; have hB1 := HXG.out _ hG1.2; have d1 := HD.out _ hB1))
  have x1 : W2.cell? ⟨W.heap.size, 1, none⟩ = some (.bool sat) := hB2.cell 1
  have hwl := hB2.lt
  have HPG := Lib.hid (pgood_any W2 p q B a2 0 sat true hG2.1 rfl)
  have HG := Lib.hid ((HGX.out.trans (⟨hG1.2.os, hG1.2.tape, hG1.2.output, hG1.2.size, hG1.2.block⟩ : X.grownBy W1 (some p))).trans hG2.2)
  have HGW := Lib.hid (show W.grownBy W2 (some p) from HG.out)
  have HC2 := Lib.hid hG2.1
  have HB2 := Lib.hid hB2
  obtain ⟨AV, kV, rfl, lV, FV⟩ := hO.reads
  have HFV := Lib.hid FV
  clear hG1 hB1 d1 hG2 hO hB2 FV
  go_wp2_with fail
  refine HPG.out.mono ?_
  rintro E w' ⟨rfl, rfl⟩
  go_wp2_with fail
  obtain ⟨W3, hW3⟩ : ∃ W3, W2.alloc (.cells #[.pointer (some ⟨p, 0, none⟩), .bool sat] 67) = W3 := ⟨_, rfl⟩
  have hB23 : Below W2.heap.size W2 W3 := hW3 ▸ (Below.refl _ _).alloc (Nat.le_refl _) _
  have HB23 := Lib.hid hB23
  have HRD := Lib.hid (fun Y (h : Below W3.heap.size W3 Y) => C_rdI (Kd.C_below HFV.out.now (hB23.trans (h.mono hB23.size))) (by have := HBS.out.1; omega))
  have HZ := Lib.hid (fun Y (h : Below (W3.alloc (.cells #[.pointer none, .bool false] 67)).drew.heap.size (W3.alloc (.cells #[.pointer none, .bool false] 67)).drew Y) => (by
    have hb := (Blk.drew (Blk.new W3 #[.pointer none, .bool false] 67)).below h (by show W3.heap.size < (W3.alloc _).heap.size; rw [World.size_alloc]; omega)
    exact ⟨hb.cell 0, hb.cell 1, hb.frozen 0, hb.frozen 1, hb.lt⟩ : Y.cell? ⟨W3.heap.size, 0, none⟩ = some (.pointer none) ∧ Y.cell? ⟨W3.heap.size, 1, none⟩ = some (.bool false) ∧ Y.frozen? ⟨W3.heap.size, 0, none⟩ = false ∧ Y.frozen? ⟨W3.heap.size, 1, none⟩ = false ∧ W3.heap.size < Y.heap.size))
  have HZ2 := Lib.hid (fun Y (h : Below (W3.alloc (.cells #[.pointer none, .bool false] 67)).drew.heap.size (W3.alloc (.cells #[.pointer none, .bool false] 67)).drew Y) => (Blk.drew (Blk.new W3 #[.pointer none, .bool false] 67)).below h (by show W3.heap.size < (W3.alloc _).heap.size; rw [World.size_alloc]; omega))
  have HS1 := Lib.hid (fun Y (h : Below W3.heap.size W3 Y) => pw_cell_below h (show W3.cell? ⟨W.heap.size, 1, none⟩ = some (.bool sat) from pw_cell_below hB23 x1))
  have y1 := HS1.out W3 (Below.refl _ _)
  have hw3 : W.heap.size < W3.heap.size := by have := hB23.size; omega
  have HBN := Lib.hid (⟨(Below.refl W3.heap.size W3).drew, ((Below.refl W3.heap.size W3).alloc (Nat.le_refl _) (.cells #[.pointer none, .bool false] 67)).drew⟩ : Below W3.heap.size W3 W3.drew ∧ Below W3.heap.size W3 (W3.alloc (.cells #[.pointer none, .bool false] 67)).drew)
  rw [hW3]
  clear hW3 hB23 x1 d2 hwl
  go_cut [5] (fun s5 wx => ∃ g5 p2 q2, s5 = .pointer (some ⟨g5, 0, none⟩) ∧ Hid (Blk wx g5 #[.pointer (some ⟨p2, 0, none⟩), .bool sat] 67 ∧ Cur wx p2 q2 bs 0 0 ∧ Below W3.heap.size W3 wx ∧ W3.heap.size ≤ g5 ∧ W3.heap.size ≤ p2 ∧ (0 < bs.length → W3.heap.size ≤ q2)))
  case first =>
    go_region_law (first
      | (go_simp; go_at_call 12; refine (New_own _ AV kV bs (HRD.out _ HBN.out.1) HBS.out).mono ?_; rintro E wn ⟨p2, q2, hp2, hq2, rfl, hC2n, hBn⟩; have hBw : Below W3.heap.size W3 wn := HBN.out.1.trans (hBn.mono HBN.out.1.size); have y2 := HS1.out wn hBw; have y3 := HS1.out _ (hBw.alloc hBw.size (.cells #[.pointer none, .bool false] 67)); have hzb := Blk.new wn #[.pointer none, .bool false] 67; have q0 := hzb.cell 0; have q1 := hzb.cell 1; have r0 := hzb.frozen 0; have r1 := hzb.frozen 1; have hzl := hzb.lt; have HZB := Lib.hid hzb; clear hzb)
      | (go_simp; go_at_call 12; refine (New_own _ AV kV bs (HRD.out _ HBN.out.2) HBS.out).mono ?_; rintro E wn ⟨p2, q2, hp2, hq2, rfl, hC2n, hBn⟩; have hBw : Below W3.heap.size W3 wn := HBN.out.2.trans (hBn.mono HBN.out.2.size); have y2 := HS1.out wn hBw; have hq := HZ.out wn hBn; have q0 := hq.1; have q1 := hq.2.1; have r0 := hq.2.2.1; have r1 := hq.2.2.2.1; have hzl := hq.2.2.2.2; clear hq; have HZB := Lib.hid (HZ2.out wn hBn)))
    all_goals go_wp2_with fail
    all_goals go_meet
    all_goals first
      | exact ⟨_, p2, q2, rfl, Lib.hid ⟨Blk.new wn _ _, hC2n.alloc _, hBw.alloc hBw.size _, hBw.size, hp2, hq2⟩⟩
      | skip
    all_goals
      have hs3 : W3.heap.size < (W3.alloc (.cells #[.pointer none, .bool false] 67)).heap.size := by rw [World.size_alloc]; omega
      have hlq : 0 < bs.length → W3.heap.size ≤ q2 := fun hl => Nat.le_trans (Nat.le_of_lt hs3) (hq2 hl)
      have hn : 0 < bs.length → W3.heap.size ≠ q2 := fun hl he => absurd (Nat.lt_of_lt_of_le hs3 (hq2 hl)) (by omega)
      have hne : W3.heap.size ≠ p2 := by
        have h9 : (W3.alloc (.cells #[.pointer none, .bool false] 67)).heap.size ≤ p2 := hp2
        rw [World.size_alloc] at h9; omega
      have hle : W3.heap.size ≤ p2 := by
        have h9 : (W3.alloc (.cells #[.pointer none, .bool false] 67)).heap.size ≤ p2 := hp2
        rw [World.size_alloc] at h9; omega
      exact ⟨_, p2, q2, rfl, Lib.hid ⟨(HZB.out.set 0 _).set 1 _, (hC2n.other _ _ _ hne hn).other _ _ _ hne hn, (hBw.grown (gset wn W3.heap.size 0 _) hBw.size (fun k hk => by cases hk; exact Nat.le_refl _)).grown (gset _ W3.heap.size 1 _) (by have := hBw.size; simpa [World.setCell] using this) (fun k hk => by cases hk; exact Nat.le_refl _), Nat.le_refl _, hle, hlq⟩⟩
  case rest =>
    obtain ⟨g5, p2, q2, rfl, HS⟩ := hcut
    have hpW := hpl
    have hB2c : Below W2.heap.size W2 wc := HB23.out.trans (HS.out.2.2.1.mono HB23.out.size)
    have hw2l : W.heap.size < W2.heap.size := HB2.out.lt
    have hGw : W.grownBy wc (some p) := HGW.out.trans (grown_below hB2c (some p))
    have hPc : Blk wc W.heap.size #[.pointer (some ⟨p, 0, none⟩), .bool sat] 67 := HB2.out.below hB2c hw2l
    have hmc : Blk wc m mc 71 := HMW.out.grown hGw (by have := HMP.out; simpa using this)
    have hb1 : wc.cell? ⟨bm, 0, none⟩ = some (.pointer (some ⟨m, 0, none⟩)) := by
      rw [← HW1.out]; exact World.cell?_of_block (hGw.block bm (World.block_lt_of_cell? _ _ HW1.out) (by have := HH3.out; simpa using this))
    have hb2 : wc.cell? ⟨bn, 0, none⟩ = some (.int .u8 1) := by
      rw [← HW2.out]; exact World.cell?_of_block (hGw.block bn (World.block_lt_of_cell? _ _ HW2.out) (by have := HH4.out; simpa using this))
    have hml := HML.out
    have hw3l := HB23.out.size
    have hmp2 : m ≠ p2 := by have := HS.out.2.2.2.2.1; omega
    have hmq2 : 0 < bs.length → m ≠ q2 := fun hl => by have := HS.out.2.2.2.2.2 hl; omega
    have HK := Lib.hid (sections1_any wc p2 q2 m bm bn bs 0 0 sat mc v0 HS.out.2.1 HBS.out hmc HM0.out hmp2 hmq2 hb1 hb2)
    have HPC := Lib.hid hPc
    have HGW2 := Lib.hid hGw
    have s0 : wc.cell? ⟨g5, 0, none⟩ = some (.pointer (some ⟨p2, 0, none⟩)) := HS.out.1.cell 0
    have s1 : wc.cell? ⟨g5, 1, none⟩ = some (.bool sat) := HS.out.1.cell 1
    have hCc : Cur wc p q B a2 0 := HC2.out.below hB2c
    have HCC := Lib.hid hCc
    clear hB2c hw2l hGw hPc hmc hb1 hb2 hCc
    go_wp2_with fail
    have hgp : g5 ≠ p2 := fun e => by
      subst e
      obtain ⟨_, _, A, c, _, h3, _⟩ := HS.out.2.1
      have h9 := HS.out.1.symm.trans h3
      injection h9 with h9; injection h9 with h9; simp at h9
    refine HK.out.mono ?_
    rintro E W4 ⟨rfl, ⟨v, hOv, hmv⟩, hC4, hG4⟩
    have hgm : g5 ≠ m := by have := HS.out.2.2.2.1; omega
    have hg4 : Blk W4 g5 #[.pointer (some ⟨p2, 0, none⟩), .bool sat] 67 := HS.out.1.g2 hG4 hgp hgm
    have hpp : p ≠ p2 := by have := HS.out.2.2.2.2.1; omega
    have hpW4 : Blk W4 W.heap.size #[.pointer (some ⟨p, 0, none⟩), .bool sat] 67 := HPC.out.g2 hG4 (by have := HS.out.2.2.2.2.1; omega) (by omega)
    have hCp : Cur W4 p q B a2 0 := Cur_g2 HCC.out hG4 hpp HMP.out.symm (fun hl => ⟨by have := HS.out.2.2.2.2.1; have := HQL.out hl; omega, fun e => HMQ.out hl e.symm⟩)
    obtain ⟨r, hr⟩ : ∃ r, ftsOf bs 0 0 = r := ⟨_, rfl⟩
    rw [hr] at hOv hC4
    have HR := Lib.hid hr
    have HOV := Lib.hid hOv
    have HMV := Lib.hid hmv
    have HG4 := Lib.hid hG4
    have HC4 := Lib.hid hC4
    have HCP := Lib.hid hCp
    have t0 := hg4.cell 0
    have t1 := hg4.cell 1
    have HG5 := Lib.hid hg4
    have HP4 := Lib.hid hpW4
    clear hr hOv hmv hG4 hC4 hCp s0 s1 HK hg4 hpW4
    have HBB := Lib.hid (⟨HS.out.2.1.lt, by have := HGW2.out.size; omega, HGW2.out.size, by simpa using hmp2, by simpa using HMP.out, G2_up (G2.of_grown HGW2.out (fun k e => by injection e with e; left; exact e.symm)) HG4.out (by have := HS.out.2.2.2.2.1; omega)⟩ : p2 < wc.heap.size ∧ p < wc.heap.size ∧ W.heap.size ≤ wc.heap.size ∧ some m ≠ some p2 ∧ some m ≠ some p ∧ G2 W W4 p m)
    by_cases h0 : r.2.2 = 0
    · have HH0 := Lib.hid h0
      have HPG2 := Lib.hid (pgood_any W4 p2 q2 bs r.2.1 r.2.2 sat true HC4.out (by rw [h0]; rfl))
      clear h0
      have HL := Lib.hid (left_any _ p2 q2 bs r.2.1 r.2.2 (HC4.out.alloc (.cells #[.pointer (some ⟨p2, 0, none⟩), .bool sat] 67)) HBS.out)
      go_wp2_with fail
      refine HPG2.out.mono ?_
      rintro E w' ⟨rfl, rfl⟩
      have v0 := (HG5.out.alloc (.cells #[.pointer (some ⟨p2, 0, none⟩), .bool sat] 67)).cell 0
      go_wp2_with fail
      refine HL.out.mono ?_
      rintro E W5 ⟨rfl, hG5⟩
      have hP5 : Blk W5 W.heap.size #[.pointer (some ⟨p, 0, none⟩), .bool sat] 67 := (HP4.out.alloc _).grown hG5.2 (by have := HS.out.2.2.2.2.1; simp; omega)
      have hC5 : Cur W5 p q B a2 0 := (HCP.out.alloc _).grown' hG5.2 (by simpa using hpp) (fun hl => by have := HS.out.2.2.2.2.1; have := HQL.out hl; simp; omega)
      have z0 := hP5.cell 0
      have HF := Lib.hid (Fail_any W5 p q B a2 0 105 hC5 rfl)
      have HP5 := Lib.hid hP5
      have HC5 := Lib.hid hC5
      have HG6 := Lib.hid hG5
      clear v0 hG5 hP5 hC5 HL HPG2
      by_cases h7 : r.2.1 < bs.length
      · have h8 : decide ((bs.length : Int) - (r.2.1 : Int) > 0) = true := by simp; omega
        have H7 := Lib.hid h7
        clear h7
        go_wp2_with fail
        refine HF.out.mono ?_
        rintro E W6 ⟨rfl, hG6⟩
        have HF6 := Lib.hid hG6
        clear hG6 HF
        go_wp2_with fail
        go_end0
        have hb := HBB.out
        unfold Whole1Post
        dsimp only
        rw [HR.out]
        refine ⟨rfl, ⟨v, ownEnd (ownUp (ownUp (HOV.out.below ((Below.refl _ _).alloc (Nat.le_refl _) _)) HG6.out.2 hb.1) HF6.out.2 hb.2.1) hb.2.2.1, ((HMV.out.alloc _).grown HG6.out.2 hb.2.2.2.1).grown HF6.out.2 hb.2.2.2.2.1⟩, ?_, ((hb.2.2.2.2.2.alloc _).grown HG6.out.2 (fun r e => by injection e with e; have := HS.out.2.2.2.2.1; right; right; omega)).grown HF6.out.2 (fun r e => by injection e with e; left; exact e.symm)⟩
        rw [show backE r bs.length = 105 by simp [backE, HH0.out, H7.out]]
        exact HF6.out.1
      · have h8 : decide ((bs.length : Int) - (r.2.1 : Int) > 0) = false := by simp; omega
        have H7 := Lib.hid h7
        clear h7
        go_wp2_with fail
        go_end0
        have hb := HBB.out
        unfold Whole1Post
        dsimp only
        rw [HR.out]
        refine ⟨rfl, ⟨v, ownEnd (ownUp (HOV.out.below ((Below.refl _ _).alloc (Nat.le_refl _) _)) HG6.out.2 hb.1) hb.2.2.1, (HMV.out.alloc _).grown HG6.out.2 hb.2.2.2.1⟩, ?_, (hb.2.2.2.2.2.alloc _).grown HG6.out.2 (fun r e => by injection e with e; have := HS.out.2.2.2.2.1; right; right; omega)⟩
        rw [show backE r bs.length = 0 by simp [backE, HH0.out, H7.out]]
        exact HC5.out
    · have HH0 := Lib.hid h0
      have HPG2 := Lib.hid (pgood_any W4 p2 q2 bs r.2.1 r.2.2 sat false HC4.out (by simp [h0]))
      clear h0
      have hC5 := HC4.out.alloc (.cells #[.pointer (some ⟨p2, 0, none⟩), .bool sat] 67)
      have hP5 := HCP.out.alloc (.cells #[.pointer (some ⟨p2, 0, none⟩), .bool sat] 67)
      have HE5 := Lib.hid (err_any _ p2 q2 bs r.2.1 r.2.2 (hC5.below ((Below.refl _ _).drew)))
      have HF5 := Lib.hid (Fail_any _ p q B a2 0 r.2.2 (hP5.below ((Below.refl _ _).drew)) (by simp [HH0.out]))
      have v0 := (HG5.out.alloc (.cells #[.pointer (some ⟨p2, 0, none⟩), .bool sat] 67)).cell 0
      have v1 := (HP4.out.alloc (.cells #[.pointer (some ⟨p2, 0, none⟩), .bool sat] 67)).cell 0
      clear hC5 hP5
      go_wp2_with fail
      refine HPG2.out.mono ?_
      rintro E w' ⟨rfl, rfl⟩
      clear HPG2
      go_wp2_with fail
      go_region_law (first
        | (go_simp; go_at_call 15; refine HE5.out.mono ?_; rintro E wq ⟨rfl, rfl⟩)
        | (go_simp; go_at_call 36; refine HF5.out.mono ?_; rintro E W6 ⟨rfl, hG6⟩; have HF6 := Lib.hid hG6; clear hG6))
      all_goals
        go_wp2_with fail
        go_end0
        have hb := HBB.out
        unfold Whole1Post
        dsimp only
        rw [HR.out]
        refine ⟨rfl, ⟨v, ownEnd (ownUp (HOV.out.below (((Below.refl _ _).alloc (Nat.le_refl _) _).drew)) HF6.out.2 hb.2.1) hb.2.2.1, (Blk.drew (HMV.out.alloc _)).grown HF6.out.2 hb.2.2.2.2.1⟩, ?_, ((hb.2.2.2.2.2.alloc _).grown (grown_below ((Below.refl _ _).drew) none) (fun r e => by cases e)).grown HF6.out.2 (fun r e => by injection e with e; left; exact e.symm)⟩
        rw [show backE r bs.length = r.2.2 by simp [backE, HH0.out]]
        exact HF6.out.1
end Go.Proofs.YtofaiocffifhfaaGreat
end
section
namespace Go.Proofs.YtofaiocffifhfaaGreat
open Go.RowKit Go.Shelf YtofaiocffifhfaaGreatB Go.Proofs.YtofaiocffifhfaaGreatW.PrintWords
/-- The sections, by what one of them comes to. -/
def secM {α : Type} (step : α → Int → Nat → α × Nat × Int) (B : List Int) : Nat → α → Int → Nat → Int → α × Nat × Int
  | 0, M, _, a, e => (M, a, e)
  | f + 1, M, hi, a, e => if e = 0 then (match B[a]? with
    | none => (M, a, 0)
    | some n => if 11 < n ∨ (0 < n ∧ n ≤ hi) then (M, a + 1, 104) else secM step B f (step M n (a + 1)).1 (if hi < n then n else hi) (step M n (a + 1)).2.1 (step M n (a + 1)).2.2)
    else (M, a, e)
theorem secM_bad {α : Type} (step : α → Int → Nat → α × Nat × Int) (B : List Int) (f : Nat) (M : α) (hi : Int) (a : Nat) (e : Int) (he : ¬ e = 0) : secM step B f M hi a e = (M, a, e) := by
  cases f with
  | zero => rfl
  | succ f => rw [secM, if_neg he]
theorem G2_low {W W2 X : World} {p m : Nat} (h : Below W.heap.size W W2) (h' : G2 W2 X p m) : G2 W X p m := (G2.of_grown (grown_below h none) (fun k e => by cases e)).trans h'
def SecPost {α : Type} (I : World → α → Nat → Prop) (W : World) (p q m : Nat) (B : List Int) (r : α × Nat × Int) (E : Ending) (w' : World) : Prop :=
  E = .returned (.tuple #[]) ∧ (∃ a, I w' r.1 a) ∧ Cur w' p q B r.2.1 r.2.2 ∧ G2 W w' p m
/-- What the reading of one section comes to. -/
def StepOk {α : Type} (I : World → α → Nat → Prop) (step : α → Int → Nat → α × Nat × Int) (W : World) (p q m : Nat) (B : List Int) (sat : Bool) : Prop :=
  ∀ (X : World) (M : α) (a : Nat) (n : Int) (bm bn : Nat), W.heap.size ≤ X.heap.size → I X M a → Cur X p q B (a + 1) 0 → B[a]? = some n → 0 ≤ n → n ≤ 11 → X.cell? ⟨bm, 0, none⟩ = some (.pointer (some ⟨m, 0, none⟩)) → X.cell? ⟨bn, 0, none⟩ = some (.int .u8 n) → bm ≠ p → bn ≠ p →
    Calls Tryz.prog 42 #[.agg #[.pointer (some ⟨p, 0, none⟩), .bool sat], .func (.func 43) #[] #[.pointer (some ⟨bm, 0, none⟩), .pointer (some ⟨bn, 0, none⟩)]] X fun E Y =>
      E = .returned (.tuple #[]) ∧ I Y (step M n (a + 1)).1 (step M n (a + 1)).2.1 ∧ Cur Y p q B (step M n (a + 1)).2.1 (step M n (a + 1)).2.2 ∧ G2 X Y p m ∧ ((step M n (a + 1)).2.2 = 0 → a + 1 ≤ (step M n (a + 1)).2.1)
set_option maxRecDepth 100000 in
set_option maxHeartbeats 2000000 in
theorem sections_gen {α : Type} (I : World → α → Nat → Prop) (step : α → Int → Nat → α × Nat × Int) (W : World) (p q m : Nat) (B : List Int) (sat : Bool) (M0 : α) (hC : Cur W p q B 0 0) (hB : Byts B) (hm : m < W.heap.size) (hmp : m ≠ p) (hI : I W M0 0)
    (hmove : ∀ X Y M a, I X M a → X.grownBy Y (some p) → I Y M a) (hstep : StepOk I step W p q m B sat) :
    Calls Tryz.prog 17 #[.pointer (some ⟨m, 0, none⟩), .agg #[.pointer (some ⟨p, 0, none⟩), .bool sat]] W (SecPost I W p q m B (secM step B (B.length + 1) M0 0 0 0)) := by
  have hpl := hC.lt
  obtain ⟨tg, htg⟩ : ∃ tg, secM step B (B.length + 1) M0 0 0 0 = tg := ⟨_, rfl⟩
  rw [htg]
  have HB := Lib.hid hB
  have HMP := Lib.hid hmp
  have HMV := Lib.hid hmove
  have HST := Lib.hid hstep
  have hb2 := (Blk.new W #[.pointer (some ⟨m, 0, none⟩)] 68).alloc (.cells #[.pointer (some ⟨p, 0, none⟩), .bool sat] 67)
  have hb3 := Blk.new (W.alloc (.cells #[.pointer (some ⟨m, 0, none⟩)] 68)) #[.pointer (some ⟨p, 0, none⟩), .bool sat] 67
  rw [World.size_alloc] at hb3
  have HW2 := Lib.hid (show Below W.heap.size W ((W.alloc (.cells #[.pointer (some ⟨m, 0, none⟩)] 68)).alloc (.cells #[.pointer (some ⟨p, 0, none⟩), .bool sat] 67)) from ((Below.refl _ _).alloc (Nat.le_refl _) _).alloc (by rw [World.size_alloc]; omega) _)
  have HC2 := Lib.hid ((hC.alloc (.cells #[.pointer (some ⟨m, 0, none⟩)] 68)).alloc (.cells #[.pointer (some ⟨p, 0, none⟩), .bool sat] 67))
  have HI2 := Lib.hid (hmove _ _ _ _ hI (grown_below HW2.out (some p)))
  have HTG := Lib.hid htg
  have hW2 : W.heap.size + 2 ≤ ((W.alloc (.cells #[.pointer (some ⟨m, 0, none⟩)] 68)).alloc (.cells #[.pointer (some ⟨p, 0, none⟩), .bool sat] 67)).heap.size := by rw [World.size_alloc, World.size_alloc]; omega
  clear hC hB hmp hmove hstep hI htg
  go_enter Tryz.func17, Tryz.ntmps17
  go_wp2_with fail
  generalize (W.alloc (.cells #[.pointer (some ⟨m, 0, none⟩)] 68)).alloc (.cells #[.pointer (some ⟨p, 0, none⟩), .bool sat] 67) = W2 at *
  go_loopw [4] (fun v wr => ∃ (f : Nat) (M : α) (hi : Int) (a ai : Nat) (e : Int), v = .int .u8 hi ∧ 0 ≤ hi ∧ hi ≤ 11 ∧ Hid (I wr M ai ∧ (e = 0 → ai = a)) ∧ Hid (Cur wr p q B a e) ∧ Hid (G2 W2 wr p m) ∧ Hid (secM step B f M hi a e = tg ∧ (e = 0 → B.length < a + f))) (fun _ wr => curMeas wr p B.length)
  case atStart => exact ⟨B.length + 1, M0, 0, 0, 0, 0, rfl, by omega, by omega, ⟨HI2.out, fun _ => rfl⟩, HC2, G2.refl _ _ _, HTG.out, fun _ => by omega⟩
  case round =>
    obtain ⟨f, M, hi, a, ai, e, rfl, hi0, hi1, HI, HC, HG, HS⟩ := hrel
    have hx3 := hb3.g2 HG.out (by omega) (by omega)
    have hx2 := hb2.g2 HG.out (by omega) (by omega)
    have b0 : wr.cell? ⟨W.heap.size + 1, 0, none⟩ = some (.pointer (some ⟨p, 0, none⟩)) := hx3.cell 0
    have b1 : wr.cell? ⟨W.heap.size + 1, 1, none⟩ = some (.bool sat) := hx3.cell 1
    have hl3 := hx3.lt
    have HX2 := Lib.hid hx2
    have HX3 := Lib.hid hx3
    clear hx2 hx3
    by_cases he : e = 0
    · subst he
      have HPG := Lib.hid (pgood_any wr p q B a 0 sat true HC.out rfl)
      have hx3 := (HX3.out.alloc (.cells #[.pointer (some ⟨p, 0, none⟩), .bool sat] 67))
      have d0 : (wr.alloc (.cells #[.pointer (some ⟨p, 0, none⟩), .bool sat] 67)).cell? ⟨W.heap.size + 1, 0, none⟩ = some (.pointer (some ⟨p, 0, none⟩)) := hx3.cell 0
      have HL := Lib.hid (left_any _ p q B a 0 (HC.out.alloc (.cells #[.pointer (some ⟨p, 0, none⟩), .bool sat] 67)) HB.out)
      clear hx3
      go_wp2_with fail
      refine HPG.out.mono ?_
      rintro E w' ⟨rfl, rfl⟩
      go_wp2_with fail
      refine HL.out.mono ?_
      rintro E W3 ⟨rfl, hG3⟩
      have hG3w : Goes wr W3 p q B a 0 := Goes.of_alloc hG3
      have hz3 := hG3w.2.size
      have hxl3 := HX3.out.lt
      have hx3 := HX3.out.grown hG3w.2 (fun e => by injection e with e; omega)
      have hx2 := HX2.out.grown hG3w.2 (fun e => by injection e with e; omega)
      have HX32 := Lib.hid hx2
      have HX33 := Lib.hid hx3
      have d0 : W3.cell? ⟨W.heap.size + 1, 0, none⟩ = some (.pointer (some ⟨p, 0, none⟩)) := hx3.cell 0
      have d1 : W3.cell? ⟨W.heap.size + 1, 1, none⟩ = some (.bool sat) := hx3.cell 1
      have hl3 := hx3.lt
      have HC3 := Lib.hid hG3w.1
      have HG3 := Lib.hid hG3w.2
      have HGA := Lib.hid (HG.out.grown hG3w.2 (fun r e => by injection e with e; left; exact e.symm))
      clear hG3 hG3w hx2 hx3 HL HPG b0 b1
      have hal := HC.out.2.1
      by_cases h7 : a < B.length
      · have h8 : decide ((B.length : Int) - (a : Int) > 0) = true := by simp; omega
        obtain ⟨n, hn⟩ : ∃ n, B[a]? = some n := ⟨_, List.getElem?_eq_getElem h7⟩
        have hnb := HB.out.get hn
        have HBY := Lib.hid (Byte_any W3 p q B a 0 HC3.out HB.out)
        rw [show rdByte B a 0 = (n, a + 1, 0) from by rw [rdByte, if_pos rfl, hn]] at HBY
        have HN := Lib.hid hn
        have H7 := Lib.hid h7
        clear hn h7
        go_wp2_with fail
        refine HBY.out.mono ?_
        rintro E W4 ⟨rfl, hG4⟩
        have hG4 : Goes W3 W4 p q B (a + 1) 0 := hG4
        have hz4 := hG4.2.size
        have hx3 := (HX33.out.grown hG4.2 (fun e => by injection e with e; omega)).alloc (.cells #[.int .u8 n] 5)
        have hx2 := (HX32.out.grown hG4.2 (fun e => by injection e with e; omega)).alloc (.cells #[.int .u8 n] 5)
        have hxn := Blk.new W4 #[.int .u8 n] 5
        have e0 : (W4.alloc (.cells #[.int .u8 n] 5)).cell? ⟨W.heap.size + 1, 0, none⟩ = some (.pointer (some ⟨p, 0, none⟩)) := hx3.cell 0
        have e1 : (W4.alloc (.cells #[.int .u8 n] 5)).cell? ⟨W.heap.size + 1, 1, none⟩ = some (.bool sat) := hx3.cell 1
        have e2 : (W4.alloc (.cells #[.int .u8 n] 5)).cell? ⟨W4.heap.size, 0, none⟩ = some (.int .u8 n) := hxn.cell 0
        have HX42 := Lib.hid hx2
        have HX43 := Lib.hid hx3
        have HX4n := Lib.hid hxn
        have HC4 := Lib.hid (hG4.1.alloc (.cells #[.int .u8 n] 5))
        have HG4 := Lib.hid ((HG3.out.trans hG4.2).trans (World.grownBy_alloc W4 (.cells #[.int .u8 n] 5) (some p)))
        have HGB := Lib.hid ((HGA.out.grown hG4.2 (fun r e => by injection e with e; left; exact e.symm)).alloc (.cells #[.int .u8 n] 5))
        obtain ⟨f, rfl⟩ : ∃ g, f = g + 1 := ⟨f - 1, by have := HS.out.2 (by trivial); have := H7.out; omega⟩
        have hst := HS.out.1
        rw [secM, if_pos rfl, HN.out] at hst
        dsimp only at hst
        clear hG4 hx2 hx3 hxn d0 d1
        have hnn : 0 ≤ n := hnb.1
        clear hnb
        by_cases hbad : 11 < n ∨ (0 < n ∧ n ≤ hi)
        · rw [if_pos hbad] at hst
          have HF := Lib.hid (Fail_any _ p q B (a + 1) 0 104 HC4.out rfl)
          have HT := Lib.hid hst
          clear hst
          rcases hbad with hb | ⟨hb1, hb2⟩
          · go_wp2_with fail
            refine HF.out.mono ?_
            rintro E W5 ⟨rfl, hG5⟩
            have hG5 : Goes _ W5 p q B (a + 1) 104 := hG5
            have HG5 := Lib.hid hG5
            clear hG5
            go_wp2_with fail
            go_end0
            rw [← HT.out]
            exact ⟨rfl, ⟨ai, HMV.out _ _ _ _ (HMV.out _ _ _ _ HI.out.1 HG4.out) HG5.out.2⟩, HG5.out.1, (G2_low HW2.out HGB.out).grown HG5.out.2 (fun r e => by injection e with e; left; exact e.symm)⟩
          · have hb0 : ¬ 11 < n := by omega
            go_wp2_with fail
            refine HF.out.mono ?_
            rintro E W5 ⟨rfl, hG5⟩
            have hG5 : Goes _ W5 p q B (a + 1) 104 := hG5
            have HG5 := Lib.hid hG5
            clear hG5
            go_wp2_with fail
            go_end0
            rw [← HT.out]
            exact ⟨rfl, ⟨ai, HMV.out _ _ _ _ (HMV.out _ _ _ _ HI.out.1 HG4.out) HG5.out.2⟩, HG5.out.1, (G2_low HW2.out HGB.out).grown HG5.out.2 (fun r e => by injection e with e; left; exact e.symm)⟩
        · rw [if_neg hbad] at hst
          have hb0 : ¬ 11 < n := fun h => hbad (.inl h)
          have hb1 : ¬ (0 < n ∧ n ≤ hi) := fun h => hbad (.inr h)
          clear hbad
          have HW := Lib.hid (HST.out _ M a n W.heap.size W4.heap.size (by have := HG4.out.size; have := HG.out.size; omega) (HMV.out _ _ _ _ (by have h := HI.out.1; rw [HI.out.2 (by trivial)] at h; exact h) HG4.out) HC4.out HN.out hnn (by omega) (HX42.out.cell 0) (HX4n.out.cell 0) (by omega) (by have := HG.out.size; omega))
          generalize step M n (a + 1) = r at *
          obtain ⟨M', a', e'⟩ := r
          dsimp only at hst HW
          have HT := Lib.hid hst
          clear hst
          rcases Int.lt_or_eq_of_le hnn with h0 | h0
          · have hb2 : hi < n := by omega
            have hb3 : ¬ n ≤ hi := by omega
            rw [if_pos hb2] at HT
            clear hb1
            go_wp2_with fail
            refine HW.out.mono ?_
            rintro E W5 ⟨rfl, hI5, hC5, hG5, ha5⟩
            have HI5 := Lib.hid hI5
            have HC5 := Lib.hid hC5
            have HG5 := Lib.hid hG5
            have HA5 := Lib.hid ha5
            clear hI5 hC5 hG5 ha5
            go_wp2_with fail
            go_roundw
            case rel => exact ⟨f, M', _, a', a', e', rfl, by omega, by omega, ⟨HI5.out, fun _ => rfl⟩, HC5.out, HGB.out.trans HG5.out, HT.out, fun h => by have := HA5.out h; have := HS.out.2 (by trivial); omega⟩
            case measure =>
              rw [curMeas_eq HC5.out, curMeas_eq HC.out, if_pos rfl]
              split
              · rename_i h; have := HA5.out h; omega
              · omega
          · subst h0
            rw [if_neg (by omega)] at HT
            clear hb1
            go_wp2_with fail
            refine HW.out.mono ?_
            rintro E W5 ⟨rfl, hI5, hC5, hG5, ha5⟩
            have HI5 := Lib.hid hI5
            have HC5 := Lib.hid hC5
            have HG5 := Lib.hid hG5
            have HA5 := Lib.hid ha5
            clear hI5 hC5 hG5 ha5
            go_wp2_with fail
            go_roundw
            case rel => exact ⟨f, M', _, a', a', e', rfl, by omega, by omega, ⟨HI5.out, fun _ => rfl⟩, HC5.out, HGB.out.trans HG5.out, HT.out, fun h => by have := HA5.out h; have := HS.out.2 (by trivial); omega⟩
            case measure =>
              rw [curMeas_eq HC5.out, curMeas_eq HC.out, if_pos rfl]
              split
              · rename_i h; have := HA5.out h; omega
              · omega
      · have h8 : decide ((B.length : Int) - (a : Int) > 0) = false := by simp; omega
        have ht := HS.out.1
        have hn : B[a]? = none := List.getElem?_eq_none (by omega)
        obtain ⟨f, rfl⟩ : ∃ g, f = g + 1 := ⟨f - 1, by have := HS.out.2 (by trivial); omega⟩
        rw [secM, if_pos rfl, hn] at ht
        have HT := Lib.hid ht
        clear ht hn
        go_wp2_with fail
        go_end0
        rw [← HT.out]
        exact ⟨rfl, ⟨ai, HMV.out _ _ _ _ HI.out.1 HG3.out⟩, HC3.out, G2_low HW2.out HGA.out⟩
    · have he2 : (e == 0) = false := beq_eq_false_iff_ne.2 he
      have HPG := Lib.hid (pgood_any wr p q B a e sat false HC.out he2)
      have ht := HS.out.1
      rw [secM_bad _ _ _ _ _ _ _ he] at ht
      have HT := Lib.hid ht
      clear ht he he2
      go_wp2_with fail
      refine HPG.out.mono ?_
      rintro E w' ⟨rfl, rfl⟩
      go_wp2_with fail
      go_end0
      rw [← HT.out]
      exact ⟨rfl, ⟨ai, HMV.out _ _ _ _ HI.out.1 (World.grownBy_alloc _ _ _)⟩, HC.out.alloc _, G2_low HW2.out (HG.out.alloc _)⟩
end Go.Proofs.YtofaiocffifhfaaGreat
end
section
namespace Go.Proofs.YtofaiocffifhfaaGreat
open Go.RowKit Go.Shelf YtofaiocffifhfaaGreatB Go.Proofs.YtofaiocffifhfaaGreatW.PrintWords
theorem conv_str (W : World) (A : Option Addr) (B : List Int) (c : Nat) (hR : RdI W .u8 A B) : (convert 22 9 (.slice A B.length c)).run Tryz.prog W = .ok (.string (strOfNums B)) W := by
  rcases Nat.eq_zero_or_pos B.length with h | h
  · have hb : B = [] := List.length_eq_zero_iff.1 h
    subst hb
    show (convert 22 9 (.slice A 0 c)).run Tryz.prog W = _
    rw [run_convert_bytes_string W 22 9 5 _ 0 c Tryz.underlying22 Tryz.underlying5 Tryz.underlying9]
    cases A <;> simp [Conv.bytesToString, loadCells]
    all_goals rfl
  · obtain ⟨b, o, rfl, hc⟩ := hR.2 h
    exact run_convert_bytes_arg W 22 5 Tryz.underlying22 Tryz.underlying5 b o B.length c B rfl (fun i hi => by
      rw [hc i B[i] (List.getElem?_eq_getElem hi)]
      simp [List.getD, List.getElem?_eq_getElem hi]) 9 Tryz.underlying9
def magicL : List Int := [0, 97, 115, 109, 1, 0, 0, 0]
theorem magic_str : strOfNums magicL = ⟨#[0, 97, 115, 109, 1, 0, 0, 0]⟩ := by decide
abbrev mod0 (v : Value) : Array Value := #[v, .slice none 0 0, .slice none 0 0, .slice none 0 0, .slice none 0 0, .slice none 0 0, .slice none 0 0, .bool false, .int .u32 0, .slice none 0 0, .slice none 0 0]
abbrev bld0 (v : Value) : Array Value := #[v, .slice none 0 0, .slice none 0 0, .slice none 0 0, .slice none 0 0, .slice none 0 0, .slice none 0 0, .bool false, .int .u32 0, .slice none 0 0, .slice none 0 0, .slice none 0 0, .slice none 0 0]
def DecSp (W : World) (n1 : Nat) (e1 : Int) (E : Ending) (W' : World) : Prop :=
  Below W.heap.size W W' ∧ (e1 = 0 → ∃ A c, E = .returned (.tuple #[.agg (mod0 (.slice A n1 c)), .int .i64 0])) ∧ (¬ e1 = 0 → E = .returned (.tuple #[.agg (mod0 (.slice none 0 0)), .int .i64 e1]))
theorem below_ge {W0 X Y : World} (n : Nat) (h : Below n W0 X) (p m : Nat) (hg : G2 X Y p m) (hp : n ≤ p) (hm : n ≤ m) (hn : n ≤ X.heap.size) : Below n W0 Y :=
  ⟨hg.os.trans h.os, hg.tape.trans h.tape, hg.output.trans h.output, Nat.le_trans h.size hg.size, fun k hk => (hg.block k (by omega) (by omega) (by omega)).trans (h.block k hk)⟩
theorem bl_set {n : Nat} {W X : World} (h : Below n W X) (b i : Nat) (v : Value) (hb : n ≤ b) : Below n W (X.setCell ⟨b, i, none⟩ v) := h.setCell hb v
theorem bl_alloc {W X : World} (h : Below W.heap.size W X) (o : Obj) : Below W.heap.size W (X.alloc o) := h.alloc h.size o
theorem bl_drew {n : Nat} {W X : World} (h : Below n W X) : Below n W X.drew := ⟨h.os, h.tape, h.output, h.size, h.block⟩
set_option maxRecDepth 100000 in
set_option maxHeartbeats 2000000 in
theorem Decode_sp (W : World) (A : Option Addr) (c : Nat) (T : List Int) (sat : Bool) (e1 : Int) (n1 : Nat) (hR : RdI W .u8 A (magicL ++ T)) (hB : Byts (magicL ++ T)) (hl : T.length ≤ 60000) (hc : (magicL ++ T).length ≤ c)
    (hsec : ∀ X p q m, W.heap.size ≤ m → m < X.heap.size → W.heap.size ≤ p → m ≠ p → (0 < T.length → m ≠ q) → Cur X p q T 0 0 → Blk X m (bld0 (.slice none 0 0)) 71 →
      Calls Tryz.prog 17 #[.pointer (some ⟨m, 0, none⟩), .agg #[.pointer (some ⟨p, 0, none⟩), .bool sat]] X fun E Y => E = .returned (.tuple #[]) ∧ (∃ a, Cur Y p q T a e1) ∧ G2 X Y p m ∧ ∃ A c, Blk Y m (bld0 (.slice A n1 c)) 71) :
    Calls Tryz.prog 8 #[.slice A (magicL ++ T).length c, .bool sat] W (DecSp W n1 e1) := by
  have hml : (magicL ++ T).length = 8 + T.length := by simp [magicL]; omega
  obtain ⟨A2, hr2, hA2⟩ := cut_lo (P := Tryz.prog) 22 5 .i64 1 Tryz.underlying22 infoB A (magicL ++ T).length c 8 (by omega)
  have hR8 : RdI W .u8 A magicL := ⟨by decide, fun _ => by
    obtain ⟨b, o, e, hcc⟩ := hR.2 (by omega)
    refine ⟨b, o, e, fun j x hj => hcc j x ?_⟩
    have := (List.getElem?_eq_some_iff.1 hj).1
    rw [List.getElem?_append_left this]; exact hj⟩
  have hRT : RdI W .u8 A2 T := ⟨by omega, fun hp => by
    obtain ⟨b, o, e, hcc⟩ := hR.2 (by omega)
    refine ⟨b, o + 8, by rw [hA2 (by omega), e]; simp [Addr.add], fun j x hj => ?_⟩
    rw [Nat.add_assoc]
    refine hcc (8 + j) x ?_
    rw [List.getElem?_append_right (by simp [magicL])]
    simpa [magicL] using hj⟩
  have hk1 := fun X (h : Below W.heap.size W X) => conv_str X A magicL c (hR8.below h)
  rw [magic_str] at hk1
  have HK := Lib.hid hk1
  have HR := Lib.hid hRT
  have hBT : Byts T := ⟨by have := hB.1; omega, fun x hx => hB.2 x (List.mem_append_right _ hx)⟩
  have HB := Lib.hid hBT
  have HS := Lib.hid hsec
  rw [hml] at hc ⊢
  have hr3 : ∀ X : World, (Instr.slice 22 (.slice A (8 + T.length) c) (some (.int .i64 8)) none none).run Tryz.prog X = .ok (.slice A2 T.length (c - 8)) X := fun X => by
    have h := hr2 X
    rw [hml, Nat.add_sub_cancel_left] at h
    exact h
  clear hr2
  have hk0 : ∀ X : World, Below W.heap.size W X → (convert 22 9 (.slice A 8 c)).run Tryz.prog X = .ok (.string ⟨#[0, 97, 115, 109, 1, 0, 0, 0]⟩) X := HK.out
  have hk2 := hk0 _ ((Below.refl _ _).alloc (Nat.le_refl _) (.cells (mod0 (.slice none 0 0)) 34))
  clear hR hB hsec hA2 hR8 hRT hk1 hBT hml hk0
  go_enter Tryz.func8, Tryz.ntmps8
  go_wp2_with fail
  have hW1 : Below W.heap.size W (W.alloc (.cells (mod0 (.slice none 0 0)) 34)) := (Below.refl _ _).alloc (Nat.le_refl _) _
  have hz1 : (W.alloc (.cells (mod0 (.slice none 0 0)) 34)).heap.size = W.heap.size + 1 := World.size_alloc _ _
  have hx := Blk.new W (mod0 (.slice none 0 0)) 34
  have HN := Lib.hid (New_own _ A2 (c - 8) T (HR.out.below hW1) HB.out)
  have HW1 := Lib.hid hW1
  have HX := Lib.hid hx
  clear hx hW1
  refine HN.out.mono ?_
  rintro E W2 ⟨p, q, hp, hq, rfl, hC2, hB2⟩
  have HX2 := Lib.hid (HX.out.below hB2 (by omega))
  have hz2 := hB2.size
  have HW2 := Lib.hid (HW1.out.trans (hB2.mono (by omega)))
  have HC2 := Lib.hid hC2
  have hpl := hC2.lt
  have HQ := Lib.hid (fun hl => hC2.qlt' hl : 0 < T.length → q < W2.heap.size)
  clear hC2 hB2 hq HN HX HW1 hk2
  have hb6 := (Blk.new W2 #[.pointer (some ⟨p, 0, none⟩), .bool sat] 67).alloc (.cells (bld0 (.slice none 0 0)) 71)
  have hbm := Blk.new (W2.alloc (.cells #[.pointer (some ⟨p, 0, none⟩), .bool sat] 67)) (bld0 (.slice none 0 0)) 71
  have hx3 := (HX2.out.alloc (.cells #[.pointer (some ⟨p, 0, none⟩), .bool sat] 67)).alloc (.cells (bld0 (.slice none 0 0)) 71)
  have hC3 := (HC2.out.alloc (.cells #[.pointer (some ⟨p, 0, none⟩), .bool sat] 67)).alloc (.cells (bld0 (.slice none 0 0)) 71)
  have hz3 : ((W2.alloc (.cells #[.pointer (some ⟨p, 0, none⟩), .bool sat] 67)).alloc (.cells (bld0 (.slice none 0 0)) 71)).heap.size = W2.heap.size + 2 := by rw [World.size_alloc, World.size_alloc]
  have hs3 := HS.out _ p q (W2.heap.size + 1) (by omega) (by omega) (by omega) (by omega) (fun hl => by have := HQ.out hl; omega) hC3 (by rw [World.size_alloc] at hbm; exact hbm)
  have HB3 := Lib.hid ((HW2.out.alloc HW2.out.size (.cells #[.pointer (some ⟨p, 0, none⟩), .bool sat] 67)).alloc (by rw [World.size_alloc]; have := HW2.out.size; omega) (.cells (bld0 (.slice none 0 0)) 71))
  have HX3 := Lib.hid hx3
  have HX6 := Lib.hid hb6
  have HS3 := Lib.hid hs3
  have HXM := Lib.hid (show W2.heap.size + 1 < ((W2.alloc (.cells #[.pointer (some ⟨p, 0, none⟩), .bool sat] 67)).alloc (.cells (bld0 (.slice none 0 0)) 71)).heap.size by omega)
  clear hb6 hbm hx3 hC3 hs3 HS
  go_wp2_with fail
  refine HS3.out.mono ?_
  rintro E W4 ⟨rfl, ⟨a4, hC4⟩, hG4, A4, c4, hm4⟩
  have hz4 := hG4.size
  rw [hz3] at hz4
  have hpw : W.heap.size ≠ p := by omega
  have hmw : W.heap.size ≠ W2.heap.size + 1 := by omega
  have hx4 : Blk W4 W.heap.size (mod0 (.slice none 0 0)) 34 := HX3.out.g2 hG4 hpw hmw
  have hx6 : Blk W4 W2.heap.size #[.pointer (some ⟨p, 0, none⟩), .bool sat] 67 := HX6.out.g2 hG4 (by omega) (by omega)
  have HB4 := Lib.hid (below_ge W.heap.size HB3.out p (W2.heap.size + 1) hG4 (by omega) (by omega) (by omega))
  have HC4 := Lib.hid hC4
  have HX4 := Lib.hid hx4
  have HX5 := Lib.hid hx6
  have HM4 := Lib.hid hm4
  have x0 : W4.cell? ⟨W2.heap.size, 0, none⟩ = some (.pointer (some ⟨p, 0, none⟩)) := hx6.cell 0
  have x1 : W4.cell? ⟨W2.heap.size, 1, none⟩ = some (.bool sat) := hx6.cell 1
  have xl := hx6.lt
  clear hG4 hC4 hx4 hx6 hm4 HS3 HB3 HX3 HX6 HX2 HW2 HC2 HQ HXM hz3
  by_cases he : e1 = 0
  · subst he
    have HPG := Lib.hid (pgood_any W4 p q T a4 0 sat true HC4.out rfl)
    go_wp2_with fail
    refine HPG.out.mono ?_
    rintro E w' ⟨rfl, rfl⟩
    have hm5 := HM4.out.alloc (.cells #[.pointer (some ⟨p, 0, none⟩), .bool sat] 67)
    have hx5 := HX4.out.alloc (.cells #[.pointer (some ⟨p, 0, none⟩), .bool sat] 67)
    have hB5 := HB4.out.alloc HB4.out.size (.cells #[.pointer (some ⟨p, 0, none⟩), .bool sat] 67)
    clear HX5 HX4 HM4 HC4 HB4 x0 x1
    generalize W4.alloc (.cells #[.pointer (some ⟨p, 0, none⟩), .bool sat] 67) = W5 at *
    have m0 : W5.cell? ⟨W2.heap.size + 1, 0, none⟩ = some (.slice A4 n1 c4) := hm5.cell 0
    have m1 : W5.cell? ⟨W2.heap.size + 1, 1, none⟩ = some (.slice none 0 0) := hm5.cell 1
    have m2 : W5.cell? ⟨W2.heap.size + 1, 2, none⟩ = some (.slice none 0 0) := hm5.cell 2
    have m3 : W5.cell? ⟨W2.heap.size + 1, 3, none⟩ = some (.slice none 0 0) := hm5.cell 3
    have m4 : W5.cell? ⟨W2.heap.size + 1, 4, none⟩ = some (.slice none 0 0) := hm5.cell 4
    have m5 : W5.cell? ⟨W2.heap.size + 1, 5, none⟩ = some (.slice none 0 0) := hm5.cell 5
    have m6 : W5.cell? ⟨W2.heap.size + 1, 6, none⟩ = some (.slice none 0 0) := hm5.cell 6
    have m7 : W5.cell? ⟨W2.heap.size + 1, 7, none⟩ = some (.bool false) := hm5.cell 7
    have m8 : W5.cell? ⟨W2.heap.size + 1, 8, none⟩ = some (.int .u32 0) := hm5.cell 8
    have m9 : W5.cell? ⟨W2.heap.size + 1, 9, none⟩ = some (.slice none 0 0) := hm5.cell 9
    have m10 : W5.cell? ⟨W2.heap.size + 1, 10, none⟩ = some (.slice none 0 0) := hm5.cell 10
    have m11 : W5.cell? ⟨W2.heap.size + 1, 11, none⟩ = some (.slice none 0 0) := hm5.cell 11
    have m12 : W5.cell? ⟨W2.heap.size + 1, 12, none⟩ = some (.slice none 0 0) := hm5.cell 12
    have z0 : W5.cell? ⟨W.heap.size, 0, none⟩ = some (.slice none 0 0) := hx5.cell 0
    have z1 : W5.cell? ⟨W.heap.size, 1, none⟩ = some (.slice none 0 0) := hx5.cell 1
    have z2 : W5.cell? ⟨W.heap.size, 2, none⟩ = some (.slice none 0 0) := hx5.cell 2
    have z3 : W5.cell? ⟨W.heap.size, 3, none⟩ = some (.slice none 0 0) := hx5.cell 3
    have z4 : W5.cell? ⟨W.heap.size, 4, none⟩ = some (.slice none 0 0) := hx5.cell 4
    have z5 : W5.cell? ⟨W.heap.size, 5, none⟩ = some (.slice none 0 0) := hx5.cell 5
    have z6 : W5.cell? ⟨W.heap.size, 6, none⟩ = some (.slice none 0 0) := hx5.cell 6
    have z7 : W5.cell? ⟨W.heap.size, 7, none⟩ = some (.bool false) := hx5.cell 7
    have z8 : W5.cell? ⟨W.heap.size, 8, none⟩ = some (.int .u32 0) := hx5.cell 8
    have z9 : W5.cell? ⟨W.heap.size, 9, none⟩ = some (.slice none 0 0) := hx5.cell 9
    have z10 : W5.cell? ⟨W.heap.size, 10, none⟩ = some (.slice none 0 0) := hx5.cell 10
    have zf0 := hx5.frozen 0
    have zf1 := hx5.frozen 1
    have zf2 := hx5.frozen 2
    have zf3 := hx5.frozen 3
    have zf4 := hx5.frozen 4
    have zf5 := hx5.frozen 5
    have zf6 := hx5.frozen 6
    have zf7 := hx5.frozen 7
    have zf8 := hx5.frozen 8
    have zf9 := hx5.frozen 9
    have zf10 := hx5.frozen 10
    have ml := hm5.lt
    have zl := hx5.lt
    have HM5 := Lib.hid hm5
    have HX5 := Lib.hid hx5
    have HB5 := Lib.hid hB5
    clear hm5 hx5 hB5
    go_wp2_with fail
    go_region
    go_wp2_with fail
    go_loopw [62] (fun i wr => i = .int .i64 0 ∧ Hid (Below W5.heap.size W5 wr)) (fun _ _ => 0)
    case atStart => exact ⟨rfl, (by first | exact Below.refl _ _ | exact bl_drew (Below.refl _ _))⟩
    case round =>
      obtain ⟨rfl, HBr⟩ := hrel
      have hm6 := HM5.out.below HBr.out ml
      have hx6 := HX5.out.below HBr.out zl
      have m0 : wr.cell? ⟨W2.heap.size + 1, 0, none⟩ = some (.slice A4 n1 c4) := hm6.cell 0
      have m1 : wr.cell? ⟨W2.heap.size + 1, 1, none⟩ = some (.slice none 0 0) := hm6.cell 1
      have m2 : wr.cell? ⟨W2.heap.size + 1, 2, none⟩ = some (.slice none 0 0) := hm6.cell 2
      have m3 : wr.cell? ⟨W2.heap.size + 1, 3, none⟩ = some (.slice none 0 0) := hm6.cell 3
      have m4 : wr.cell? ⟨W2.heap.size + 1, 4, none⟩ = some (.slice none 0 0) := hm6.cell 4
      have m5 : wr.cell? ⟨W2.heap.size + 1, 5, none⟩ = some (.slice none 0 0) := hm6.cell 5
      have m6 : wr.cell? ⟨W2.heap.size + 1, 6, none⟩ = some (.slice none 0 0) := hm6.cell 6
      have m7 : wr.cell? ⟨W2.heap.size + 1, 7, none⟩ = some (.bool false) := hm6.cell 7
      have m8 : wr.cell? ⟨W2.heap.size + 1, 8, none⟩ = some (.int .u32 0) := hm6.cell 8
      have m9 : wr.cell? ⟨W2.heap.size + 1, 9, none⟩ = some (.slice none 0 0) := hm6.cell 9
      have m10 : wr.cell? ⟨W2.heap.size + 1, 10, none⟩ = some (.slice none 0 0) := hm6.cell 10
      have m11 : wr.cell? ⟨W2.heap.size + 1, 11, none⟩ = some (.slice none 0 0) := hm6.cell 11
      have m12 : wr.cell? ⟨W2.heap.size + 1, 12, none⟩ = some (.slice none 0 0) := hm6.cell 12
      have z0 : wr.cell? ⟨W.heap.size, 0, none⟩ = some (.slice none 0 0) := hx6.cell 0
      have z1 : wr.cell? ⟨W.heap.size, 1, none⟩ = some (.slice none 0 0) := hx6.cell 1
      have z2 : wr.cell? ⟨W.heap.size, 2, none⟩ = some (.slice none 0 0) := hx6.cell 2
      have z3 : wr.cell? ⟨W.heap.size, 3, none⟩ = some (.slice none 0 0) := hx6.cell 3
      have z4 : wr.cell? ⟨W.heap.size, 4, none⟩ = some (.slice none 0 0) := hx6.cell 4
      have z5 : wr.cell? ⟨W.heap.size, 5, none⟩ = some (.slice none 0 0) := hx6.cell 5
      have z6 : wr.cell? ⟨W.heap.size, 6, none⟩ = some (.slice none 0 0) := hx6.cell 6
      have z7 : wr.cell? ⟨W.heap.size, 7, none⟩ = some (.bool false) := hx6.cell 7
      have z8 : wr.cell? ⟨W.heap.size, 8, none⟩ = some (.int .u32 0) := hx6.cell 8
      have z9 : wr.cell? ⟨W.heap.size, 9, none⟩ = some (.slice none 0 0) := hx6.cell 9
      have z10 : wr.cell? ⟨W.heap.size, 10, none⟩ = some (.slice none 0 0) := hx6.cell 10
      have zf0 := hx6.frozen 0
      have zf1 := hx6.frozen 1
      have zf2 := hx6.frozen 2
      have zf3 := hx6.frozen 3
      have zf4 := hx6.frozen 4
      have zf5 := hx6.frozen 5
      have zf6 := hx6.frozen 6
      have zf7 := hx6.frozen 7
      have zf8 := hx6.frozen 8
      have zf9 := hx6.frozen 9
      have zf10 := hx6.frozen 10
      have ml := hm6.lt
      have zl := hx6.lt
      clear hm6 hx6
      go_wp2_with fail
      refine bodyPost_ret (v := .tuple #[.agg (mod0 (.slice A4 n1 c4)), .int .i64 0]) (by simp [results, Tryz.results8, go_sem, z0, z1, z2, z3, z4, z5, z6, z7, z8, z9, z10, zl]) rfl ⟨?_, fun _ => ⟨A4, c4, rfl⟩, fun h => absurd rfl h⟩
      have hb6 := HB5.out.trans (HBr.out.mono HB5.out.size)
      (repeat (first | with_reducible exact hb6 | refine bl_set ?_ _ _ _ (by omega) | refine bl_alloc ?_ _ | refine bl_drew ?_))
  · have HPG := Lib.hid (pgood_any W4 p q T a4 e1 sat false HC4.out (by simp [he]))
    have hx5 := HX4.out.alloc (.cells #[.pointer (some ⟨p, 0, none⟩), .bool sat] 67)
    have hx6 := HX5.out.alloc (.cells #[.pointer (some ⟨p, 0, none⟩), .bool sat] 67)
    have HE := Lib.hid (err_any _ p q T a4 e1 (HC4.out.alloc (.cells #[.pointer (some ⟨p, 0, none⟩), .bool sat] 67)))
    have y0 : (W4.alloc (.cells #[.pointer (some ⟨p, 0, none⟩), .bool sat] 67)).cell? ⟨W2.heap.size, 0, none⟩ = some (.pointer (some ⟨p, 0, none⟩)) := hx6.cell 0
    have HX6 := Lib.hid hx5
    have HB5 := Lib.hid (HB4.out.alloc HB4.out.size (.cells #[.pointer (some ⟨p, 0, none⟩), .bool sat] 67))
    have HE1 := Lib.hid he
    clear he hx6
    have z0 : (W4.alloc (.cells #[.pointer (some ⟨p, 0, none⟩), .bool sat] 67)).cell? ⟨W.heap.size, 0, none⟩ = some (.slice none 0 0) := hx5.cell 0
    have z1 : (W4.alloc (.cells #[.pointer (some ⟨p, 0, none⟩), .bool sat] 67)).cell? ⟨W.heap.size, 1, none⟩ = some (.slice none 0 0) := hx5.cell 1
    have z2 : (W4.alloc (.cells #[.pointer (some ⟨p, 0, none⟩), .bool sat] 67)).cell? ⟨W.heap.size, 2, none⟩ = some (.slice none 0 0) := hx5.cell 2
    have z3 : (W4.alloc (.cells #[.pointer (some ⟨p, 0, none⟩), .bool sat] 67)).cell? ⟨W.heap.size, 3, none⟩ = some (.slice none 0 0) := hx5.cell 3
    have z4 : (W4.alloc (.cells #[.pointer (some ⟨p, 0, none⟩), .bool sat] 67)).cell? ⟨W.heap.size, 4, none⟩ = some (.slice none 0 0) := hx5.cell 4
    have z5 : (W4.alloc (.cells #[.pointer (some ⟨p, 0, none⟩), .bool sat] 67)).cell? ⟨W.heap.size, 5, none⟩ = some (.slice none 0 0) := hx5.cell 5
    have z6 : (W4.alloc (.cells #[.pointer (some ⟨p, 0, none⟩), .bool sat] 67)).cell? ⟨W.heap.size, 6, none⟩ = some (.slice none 0 0) := hx5.cell 6
    have z7 : (W4.alloc (.cells #[.pointer (some ⟨p, 0, none⟩), .bool sat] 67)).cell? ⟨W.heap.size, 7, none⟩ = some (.bool false) := hx5.cell 7
    have z8 : (W4.alloc (.cells #[.pointer (some ⟨p, 0, none⟩), .bool sat] 67)).cell? ⟨W.heap.size, 8, none⟩ = some (.int .u32 0) := hx5.cell 8
    have z9 : (W4.alloc (.cells #[.pointer (some ⟨p, 0, none⟩), .bool sat] 67)).cell? ⟨W.heap.size, 9, none⟩ = some (.slice none 0 0) := hx5.cell 9
    have z10 : (W4.alloc (.cells #[.pointer (some ⟨p, 0, none⟩), .bool sat] 67)).cell? ⟨W.heap.size, 10, none⟩ = some (.slice none 0 0) := hx5.cell 10
    have zf0 := hx5.frozen 0
    have zf1 := hx5.frozen 1
    have zf2 := hx5.frozen 2
    have zf3 := hx5.frozen 3
    have zf4 := hx5.frozen 4
    have zf5 := hx5.frozen 5
    have zf6 := hx5.frozen 6
    have zf7 := hx5.frozen 7
    have zf8 := hx5.frozen 8
    have zf9 := hx5.frozen 9
    have zf10 := hx5.frozen 10
    have zl := hx5.lt
    clear hx5
    go_wp2_with fail
    refine HPG.out.mono ?_
    rintro E w' ⟨rfl, rfl⟩
    go_wp2_with fail
    refine HE.out.mono ?_
    rintro E w' ⟨rfl, rfl⟩
    go_wp2_with fail
    refine bodyPost_ret (v := .tuple #[.agg (mod0 (.slice none 0 0)), .int .i64 e1]) (by simp [results, Tryz.results8, go_sem, z0, z1, z2, z3, z4, z5, z6, z7, z8, z9, z10, zl]) rfl ⟨?_, fun h => absurd h HE1.out, fun _ => rfl⟩
    (repeat (first | with_reducible exact HB5.out | refine bl_set ?_ _ _ _ (by omega) | refine bl_alloc ?_ _ | refine bl_drew ?_))
end Go.Proofs.YtofaiocffifhfaaGreat
end
section
namespace Go.Proofs.YtofaiocffifhfaaGreat
open Go.RowKit Go.Shelf YtofaiocffifhfaaGreatB Go.Proofs.YtofaiocffifhfaaGreatW.PrintWords
/-- Nothing is read yet: false; the one section is: true. -/
def AwI (W : World) (n1 : Nat) (p m : Nat) (B : List Int) (X : World) (M : Bool) (a : Nat) : Prop :=
  (M = false ∧ a = 0 ∧ Blk X m (bld0 (.slice none 0 0)) 71) ∨ (M = true ∧ B.length ≤ a ∧ ∃ A c, Blk X m (bld0 (.slice A n1 c)) 71)
theorem awI_move {W : World} {n1 p m : Nat} {B : List Int} (hmp : m ≠ p) : ∀ X Y M a, AwI W n1 p m B X M a → X.grownBy Y (some p) → AwI W n1 p m B Y M a := by
  intro X Y M a h hg
  have hn : some m ≠ some p := fun e => hmp (by injection e)
  rcases h with ⟨h1, h2, h3⟩ | ⟨h1, h2, A, c, h3⟩
  · exact .inl ⟨h1, h2, h3.grown hg hn⟩
  · exact .inr ⟨h1, h2, A, c, h3.grown hg hn⟩
def T1 : List Int := [7]
def T2 : List Int := [1, 4, 1, 96, 0, 0]
def st1 : Bool → Int → Nat → Bool × Nat × Int := fun _ _ a => (true, a, 100)
def st2 : Bool → Int → Nat → Bool × Nat × Int := fun _ _ _ => (true, 6, 0)
theorem sec1_eq : secM st1 T1 (T1.length + 1) false 0 0 0 = (true, 1, 100) := by decide
theorem sec2_eq : secM st2 T2 (T2.length + 1) false 0 0 0 = (true, 6, 0) := by decide
theorem byts1 : Byts T1 := ⟨by decide, by decide⟩
theorem byts2 : Byts T2 := ⟨by decide, by decide⟩
theorem piece1 : pieceM T1 1 0 = ([], 1, 100) := by decide
theorem piece2 : pieceM T2 1 0 = ([1, 96, 0, 0], 6, 0) := by decide
theorem fts2 : ftsOf [1, 96, 0, 0] 0 0 = ([([], [])], 4, 0) := by decide
theorem step1 (W : World) (p q m : Nat) (hmp : m ≠ p) : StepOk (AwI W 0 p m T1) st1 W p q m T1 false := by
  intro X M a n bm bn hX hI hC hn h0 h11 hbm hbn h1 h2
  rcases hI with ⟨rfl, rfl, hm⟩ | ⟨_, hl, _⟩
  · have h := whole_bad X p q T1 1 0 false (.func (.func 43) #[] #[.pointer (some ⟨bm, 0, none⟩), .pointer (some ⟨bn, 0, none⟩)]) hC byts1 (by rw [piece1]; rfl)
    rw [piece1] at h
    refine h.mono ?_
    rintro E Y ⟨rfl, hG⟩
    exact ⟨rfl, .inr ⟨rfl, (by show T1.length ≤ 0 + 1; decide), none, 0, hm.grown hG.2 (fun e => hmp (by injection e))⟩, hG.1, G2.of_grown hG.2 (fun k e => by injection e with e; exact .inl e.symm), fun h => absurd (show (100 : Int) = 0 from h) (by decide)⟩
  · have := (List.getElem?_eq_some_iff.1 hn).1
    omega
theorem step2 (W : World) (p q m : Nat) (hmp : m ≠ p) (hmq : m ≠ q) : StepOk (AwI W 1 p m T2) st2 W p q m T2 false := by
  intro X M a n bm bn hX hI hC hn h0 h11 hbm hbn h1 h2
  rcases hI with ⟨rfl, rfl, hm⟩ | ⟨_, hl, _⟩
  · have hn1 : n = 1 := by simpa [T2] using hn.symm
    subst hn1
    have h := whole_one X p q m bm bn T2 1 0 false (bld0 (.slice none 0 0)) (.slice none 0 0) hC byts2 (by rw [piece2]) (by rw [piece2]; exact ⟨by decide, by decide⟩) hm rfl hmp (fun _ => hmq) hbm hbn h1 h2
    rw [piece2] at h
    refine h.mono ?_
    rintro E Y ⟨rfl, ⟨v, hO, hB⟩, hC', hG⟩
    rw [fts2] at hO hC'
    obtain ⟨A, c, rfl, _, _⟩ := hO.reads
    exact ⟨rfl, .inr ⟨rfl, by decide, A, c, hB⟩, hC', hG, fun _ => by decide⟩
  · have := (List.getElem?_eq_some_iff.1 hn).1
    omega
theorem dec1 (W : World) (A : Option Addr) (c : Nat) (hR : RdI W .u8 A (magicL ++ T1)) (hc : (magicL ++ T1).length ≤ c) : Calls Tryz.prog 8 #[.slice A 9 c, .bool false] W (DecSp W 0 100) := by
  refine Decode_sp W A c T1 false 100 0 hR ⟨by decide, by decide⟩ (by decide) hc ?_
  intro X p q m hm hmX hp hmp hmq hC hB
  have h := sections_gen (AwI W 0 p m T1) st1 X p q m T1 false false hC byts1 hmX hmp (.inl ⟨rfl, rfl, hB⟩) (awI_move hmp) (step1 X p q m hmp)
  rw [sec1_eq] at h
  refine h.mono ?_
  rintro E Y ⟨rfl, ⟨a, hI⟩, hC', hG⟩
  rcases hI with ⟨h, _⟩ | ⟨_, _, hA⟩
  · cases h
  · exact ⟨rfl, ⟨_, hC'⟩, hG, hA⟩
theorem dec2 (W : World) (A : Option Addr) (c : Nat) (hR : RdI W .u8 A (magicL ++ T2)) (hc : (magicL ++ T2).length ≤ c) : Calls Tryz.prog 8 #[.slice A 14 c, .bool false] W (DecSp W 1 0) := by
  refine Decode_sp W A c T2 false 0 1 hR ⟨by decide, by decide⟩ (by decide) hc ?_
  intro X p q m hm hmX hp hmp hmq hC hB
  have h := sections_gen (AwI W 1 p m T2) st2 X p q m T2 false false hC byts2 hmX hmp (.inl ⟨rfl, rfl, hB⟩) (awI_move hmp) (step2 X p q m hmp (hmq (by decide)))
  rw [sec2_eq] at h
  refine h.mono ?_
  rintro E Y ⟨rfl, ⟨a, hI⟩, hC', hG⟩
  rcases hI with ⟨h, _⟩ | ⟨_, _, hA⟩
  · cases h
  · exact ⟨rfl, ⟨_, hC'⟩, hG, hA⟩
end Go.Proofs.YtofaiocffifhfaaGreat
end
section
namespace Go.Proofs.YtofaiocffifhfaaGreat
open Go.RowKit Go.Shelf YtofaiocffifhfaaGreatB Go.Proofs.YtofaiocffifhfaaGreatW.PrintWords
/-- A literal of bytes is a row of one's own. -/
theorem own_lit (W : World) (L : List Int) (e base : Nat) (ok : Nat → Prop) (hb : base ≤ W.heap.size) (hl : L.length ≤ 1048576) (hL : ∀ x ∈ L, 0 ≤ x ∧ x ≤ 255) :
    Own (rng .u8) e (W.alloc (.cells (L.map (Value.int .u8)).toArray e)) base ok (.slice (some ⟨W.heap.size, 0, none⟩) L.length L.length) L := by
  refine ⟨L.map (Value.int .u8), ⟨by simp [rng], .inr ⟨W.heap.size, L.length, (L.map (Value.int .u8)).toArray, rfl, hb, Blk.new W _ e, Nat.le_refl _, by simp only [maxLen]; omega, by simp [rng], ?_⟩⟩, by simp [rng], fun j x hj => ?_⟩
  · show ((L.map (Value.int .u8)).toArray.toList.take (L.length * 1)) = _
    rw [Nat.mul_one]
    exact List.take_of_length_le (by simp)
  · have hx := hL x (List.mem_of_getElem? hj)
    have h2 : ((L.map (Value.int .u8)).drop (j * 1)).take 1 = [.int .u8 x] := by
      have hj2 : j < L.length := (List.getElem?_eq_some_iff.1 hj).1
      have hjx := (List.getElem?_eq_some_iff.1 hj).2
      rw [Nat.mul_one, List.drop_eq_getElem_cons (by simpa using hj2)]
      simp [hjx]
    show FK (rng .u8) _ _ x (((L.map (Value.int .u8)).drop (j * 1)).take 1)
    rw [h2]
    exact fun _ _ => ⟨rfl, by simp [Lit.wf, IntKind.min, IntKind.max, IntKind.signed, IntKind.bits]; omega⟩
def AwPost20 (w : World) (e : Ending) (W' : World) : Prop := e = .returned (.bool true) ∧ Below w.heap.size w W'
theorem own_rd {W : World} {base : Nat} {ok : Nat → Prop} {v : Value} {L : List Int} (h : Own (rng .u8) 5 W base ok v L) (hl : L.length ≤ 1048576) : ∃ A c, v = .slice A L.length c ∧ L.length ≤ c ∧ RdI W .u8 A L := by
  obtain ⟨A, c, h1, h2, h3⟩ := h.reads
  exact ⟨A, c, h1, h2, C_rdI h3.now (by omega)⟩
set_option maxRecDepth 100000 in
set_option maxHeartbeats 2000000 in
theorem awake20_any (w : World) : Calls Tryz.prog 7 #[] w (AwPost20 w) := by
  have h8 : ∀ x ∈ magicL, 0 ≤ x ∧ x ≤ 255 := by decide
  have HM := Lib.hid (show Own (rng .u8) 5 (w.alloc (.cells #[.int .u8 0, .int .u8 97, .int .u8 115, .int .u8 109, .int .u8 1, .int .u8 0, .int .u8 0, .int .u8 0] 5)) w.heap.size (fun _ => False) (.slice (some ⟨w.heap.size, 0, none⟩) 8 8) magicL from own_lit w magicL 5 w.heap.size (fun _ => False) (Nat.le_refl _) (by decide) h8)
  have HF := Lib.hid (byQ_FC (lit_ByQ w magicL 5) h8 (by decide) : FC (rng .u8) (w.alloc (.cells #[.int .u8 0, .int .u8 97, .int .u8 115, .int .u8 109, .int .u8 1, .int .u8 0, .int .u8 0, .int .u8 0] 5)) (fun k => k = w.heap.size) (some ⟨w.heap.size, 0, none⟩) magicL)
  have hz : (w.alloc (.cells #[.int .u8 0, .int .u8 97, .int .u8 115, .int .u8 109, .int .u8 1, .int .u8 0, .int .u8 0, .int .u8 0] 5)).heap.size = w.heap.size + 1 := World.size_alloc _ _
  have HB := Lib.hid ((Below.refl w.heap.size w).alloc (Nat.le_refl _) (.cells #[.int .u8 0, .int .u8 97, .int .u8 115, .int .u8 109, .int .u8 1, .int .u8 0, .int .u8 0, .int .u8 0] 5))
  go_enter Tryz.func7, Tryz.ntmps7
  go_upto_region 2 with (fail)
  generalize w.alloc (.cells #[.int .u8 0, .int .u8 97, .int .u8 115, .int .u8 109, .int .u8 1, .int .u8 0, .int .u8 0, .int .u8 0] 5) = w1 at *
  have hy : Own (rng .u8) 5 (w1.alloc (.cells #[] 5)) w1.heap.size (fun _ => False) (.slice (some ⟨w1.heap.size, 0, none⟩) 0 0) [] := Own.made rfl (by decide) (Nat.le_refl _)
  rw [hz] at hy
  have HY := Lib.hid hy
  have hz2 : (w1.alloc (.cells #[] 5)).heap.size = w.heap.size + 2 := by rw [World.size_alloc, hz]
  have HFF := Lib.hid (Ft.mono (Ft.below HF.out ((Below.refl _ w1).alloc (Nat.le_refl _) (.cells #[] 5))) (fun k hk => ⟨trivial, fun e => by subst hk; simp [Value.ownBlock] at e⟩) : FC (rng .u8) (w1.alloc (.cells #[] 5)) (fun k => True ∧ some k ≠ (Value.slice (some ⟨w.heap.size + 1, 0, none⟩) 0 0).ownBlock) (some ⟨w.heap.size, 0, none⟩) magicL)
  clear hy
  go_wp2_with (first
    | (at_builtin; refine Own.append_row (d := rng .u8) w.heap.size rfl (.tmp 8) (.tmp 9) 22 5 (.int .u8 0) 1 rfl Tryz.underlying22 infoB8 rfl (by decide) (by decide) (.slice (some ⟨w.heap.size + 1, 0, none⟩) 0 0) [] magicL (some ⟨w.heap.size, 0, none⟩) 8 (fun _ => True) rfl rfl HFF.out (Own_lower (own_any HY.out) (by omega)) (by omega) (by decide) ?_; intro v1 w3 hown1 hg1 hat1)
    | (at_builtin; refine Own.append (d := rng .u8) w.heap.size rfl (.tmp 10) (.tmp 11) 22 5 _ 1 rfl Tryz.underlying22 infoB8 rfl (by decide) (by decide) v1 ([] ++ magicL) 7 _ (fun _ => True) rfl rfl (show FK (rng .u8) w3 (fun k => True ∧ some k ≠ v1.ownBlock) 7 [.int .u8 7] from fun _ _ => ⟨rfl, by decide⟩) hown1 (by have := hg1.size; omega) (by decide) ?_; intro v2 w4 hown2 hg2 hat2))
  have hg1' : (w1.alloc (.cells #[] 5)).grownBy w3 (some (w.heap.size + 1)) := hg1
  have hs1 := hg1'.size
  have hs2 := hg2.size
  have hv1 : ∀ k, v1.ownBlock = some k → w.heap.size + 1 ≤ k := fun k hk => by
    rcases hat1 with h | h
    · have h : v1.ownBlock = some (w.heap.size + 1) := h; rw [hk] at h; injection h with h; omega
    · rw [hk, hz2] at h; injection h with h; omega
  have hB4 : Below w.heap.size w w4 := ((HB.out.alloc (by omega) (.cells #[] 5)).grown hg1' (by omega) (fun k hk => by injection hk with hk; omega)).grown hg2 (by omega) (fun k hk => by have := hv1 k hk; omega)
  have hM4 : Own (rng .u8) 5 w4 w.heap.size (fun _ => False) (.slice (some ⟨w.heap.size, 0, none⟩) 8 8) magicL :=
    (((HM.out.below ((Below.refl _ _).alloc (Nat.le_refl _) (.cells #[] 5))).grown hg1' (.inr (fun e => by have e : some w.heap.size = some (w.heap.size + 1) := e; injection e with e; omega)) (fun k hk => hk.elim)).grown hg2 (.inr (fun e => by have e : some w.heap.size = v1.ownBlock := e; have := hv1 _ e.symm; omega)) (fun k hk => hk.elim))
  obtain ⟨A2, c2, rfl, hc2, hR2⟩ := own_rd hown2 (by decide)
  have HD1 := Lib.hid (dec1 w4 A2 c2 hR2 hc2)
  have HB4 := Lib.hid hB4
  have HM4 := Lib.hid hM4
  clear hM4 hB4 hg1' hg2 hs1 hat1 hat2 hg1 hown1 hown2 hR2 hc2 HFF HY HF HM HB
  refine HD1.out.mono ?_
  rintro E w5 ⟨hB5, _, h100⟩
  obtain rfl := h100 (by decide)
  have HB5 := Lib.hid (HB4.out.trans (hB5.mono HB4.out.size))
  have HM5 := Lib.hid (HM4.out.below hB5)
  clear h100 hB5 HD1 HB4 HM4
  go_upto_region 3 with (fail)
  have HB6 := Lib.hid (HB5.out.alloc HB5.out.size (.cells (mod0 (.slice none 0 0)) 34))
  have HM6 := Lib.hid (HM5.out.below ((Below.refl _ _).alloc (Nat.le_refl _) (.cells (mod0 (.slice none 0 0)) 34)))
  generalize w5.alloc (.cells (mod0 (.slice none 0 0)) 34) = w6 at *
  have h2 : ∀ x ∈ T2, 0 ≤ x ∧ x ≤ 255 := by decide
  have hL : FC (rng .u8) (w6.alloc (.cells #[.int .u8 1, .int .u8 4, .int .u8 1, .int .u8 96, .int .u8 0, .int .u8 0] 5)) (fun k => k = w6.heap.size) (some ⟨w6.heap.size, 0, none⟩) T2 := byQ_FC (lit_ByQ w6 T2 5) h2 (by decide)
  have hs6 := HB6.out.size
  have hwl : w.heap.size < w6.heap.size := (Own.block HM6.out rfl).2
  have HL := Lib.hid (Ft.mono hL (fun k hk => ⟨trivial, fun e => by have e : some k = some w.heap.size := e; injection e with e; omega⟩) : FC (rng .u8) (w6.alloc (.cells #[.int .u8 1, .int .u8 4, .int .u8 1, .int .u8 96, .int .u8 0, .int .u8 0] 5)) (fun k => True ∧ some k ≠ (Value.slice (some ⟨w.heap.size, 0, none⟩) 8 8).ownBlock) (some ⟨w6.heap.size, 0, none⟩) T2)
  have hz7 : (w6.alloc (.cells #[.int .u8 1, .int .u8 4, .int .u8 1, .int .u8 96, .int .u8 0, .int .u8 0] 5)).heap.size = w6.heap.size + 1 := World.size_alloc _ _
  clear hL
  go_wp2_with (at_builtin; refine Own.append_row (d := rng .u8) w.heap.size rfl (.tmp 17) (.tmp 18) 22 5 (.int .u8 0) 1 rfl Tryz.underlying22 infoB8 rfl (by decide) (by decide) (.slice (some ⟨w.heap.size, 0, none⟩) 8 8) magicL T2 (some ⟨w6.heap.size, 0, none⟩) 6 (fun _ => True) rfl rfl HL.out (own_any (HM6.out.below ((Below.refl _ _).alloc (Nat.le_refl _) _))) (by omega) (by decide) ?_; intro v3 w7 hown3 hg3 hat3)
  have hg3' : (w6.alloc (.cells #[.int .u8 1, .int .u8 4, .int .u8 1, .int .u8 96, .int .u8 0, .int .u8 0] 5)).grownBy w7 (some w.heap.size) := hg3
  have HB7 := Lib.hid ((HB6.out.alloc hs6 (.cells #[.int .u8 1, .int .u8 4, .int .u8 1, .int .u8 96, .int .u8 0, .int .u8 0] 5)).grown hg3' (by omega) (fun k hk => by injection hk with hk; omega))
  obtain ⟨A3, c3, rfl, hc3, hR3⟩ := own_rd hown3 (by decide)
  have HD2 := Lib.hid (dec2 w7 A3 c3 hR3 hc3)
  clear hg3 hg3' hown3 hat3 hR3 hc3 HL HM6 HM5
  refine HD2.out.mono ?_
  rintro E w8 ⟨hB8, h0, _⟩
  obtain ⟨A4, c4, rfl⟩ := h0 rfl
  have HB8 := Lib.hid (HB7.out.trans (hB8.mono HB7.out.size))
  have hb9 := Blk.new w8 (mod0 (.slice A4 1 c4)) 34
  have g0 : (w8.alloc (.cells (mod0 (.slice A4 1 c4)) 34)).cell? ⟨w8.heap.size, 0, none⟩ = some (.slice A4 1 c4) := hb9.cell 0
  clear h0 hB8 HD2 HB7 hb9
  go_wp2_with fail
  go_ret
  exact ⟨rfl, HB8.out.alloc HB8.out.size _⟩
end Go.Proofs.YtofaiocffifhfaaGreat
end
section
namespace Go.Proofs.YtofaiocffifhfaaGreat
open Go.RowKit Go.Shelf YtofaiocffifhfaaGreatB Go.Proofs.YtofaiocffifhfaaGreatW.PrintWords
theorem Locals_any (W : World) (p q : Nat) (B : List Int) (a : Nat) (e : Int) (hC : Cur W p q B a e) (hB : Byts B) :
    Calls Tryz.prog 13 #[.pointer (some ⟨p, 0, none⟩)] W (LocPost W p q B (locM B a e)) := by
  rcases hC.qlt with h | h
  · subst h
    have hplt := hC.lt
    refine (Locals_q W p (W.heap.size + 2) [] a e (hC.anyq (by omega)) hB (by omega)).mono ?_
    rintro E w' ⟨h1, h2, h3⟩
    exact ⟨h1, h2.anyq hC.1, h3⟩
  · exact Locals_q W p q B a e hC hB (by omega)
end Go.Proofs.YtofaiocffifhfaaGreat
end
section
namespace Go.Proofs.YtofaiocffifhfaaGreatB
open Go.RowKit Go.Proofs.YtofaiocffifhfaaGreatW.PrintWords
theorem grown_j {W W1 W2 : World} {row row1 : Option Nat} (h : W.grownBy W1 row) (h1 : W1.grownBy W2 row1) (hr : ∀ k, row1 = some k → row = some k ∨ W.heap.size ≤ k) : W.grownBy W2 row := by
  refine ⟨h1.os.trans h.os, h1.tape.trans h.tape, h1.output.trans h.output, Nat.le_trans h.size h1.size, fun k hk hne => ?_⟩
  refine (h1.block k (Nat.lt_of_lt_of_le hk h.size) (fun e => ?_)).trans (h.block k hk hne)
  rcases hr k e.symm with h | h
  · exact hne h.symm
  · omega
end Go.Proofs.YtofaiocffifhfaaGreatB
namespace Go.Proofs.YtofaiocffifhfaaGreat
open Go.RowKit Go.Shelf YtofaiocffifhfaaGreatB Go.Proofs.YtofaiocffifhfaaGreatW.PrintWords
theorem infoU64 : (Tryz.prog.info? 125).map (fun i => (i.zero, i.size, i.bytes)) = some (some (.int .u64 0), 1, 8) := by kernel_rfl
theorem Rdr.grown' {W W' : World} {p q : Nat} {B : List Int} {a : Nat} {e : Int} (h : Rdr W p q B a e) {row : Option Nat} (hg : W.grownBy W' row) (hp : some p ≠ row) (hq : 0 < B.length → some q ≠ row) : Rdr W' p q B a e := by
  obtain ⟨h0, h1, A, c, h2, h3, h4⟩ := h
  exact ⟨h0, h1, A, c, h2, h3.grown hg hp, fun hl => (ByQ.grown h4 hg (hq hl)) hl⟩
theorem Rdr.qlt' {W : World} {p q : Nat} {B : List Int} {a : Nat} {e : Int} (h : Rdr W p q B a e) (hl : 0 < B.length) : q < W.heap.size := by
  obtain ⟨h0, h1, A, c, h2, h3, h4⟩ := h
  obtain ⟨o, x, _, _, hc⟩ := h4.at_ 0 hl
  exact World.block_lt_of_cell? _ _ hc
set_option maxRecDepth 100000 in
theorem rValue_any (W : World) (p q : Nat) (B : List Int) (a : Nat) (e : Int) (hC : Rdr W p q B a e) (hB : Byts B) :
    Calls Tryz.prog 39 #[.pointer (some ⟨p, 0, none⟩)] W fun E w' => E = .returned (.int .u8 (rdOf (valM B a) a e).1) ∧ GoesR W w' p q B (rdOf (valM B a) a e).2.1 (rdOf (valM B a) a e).2.2 := by
  have hplt := hC.lt
  have H := Lib.hid (rAmong_any _ p q W.heap.size B a e 106 (some ⟨W.heap.size, 0, none⟩) 4 [127, 126, 125, 124] (hC.alloc (.cells (([127, 126, 125, 124] : List Int).map (Value.int .u8)).toArray 5)) hB rfl (by omega) (lit_ByQ W [127, 126, 125, 124] 5) (by decide))
  obtain ⟨r, hr⟩ : ∃ r, r = rdOf (valM B a) a e := ⟨_, rfl⟩
  have hr2 : rdOf (amongM B a [127, 126, 125, 124] 106) a e = r := hr.symm
  rw [hr2] at H
  rw [← hr]
  clear hr hr2 hC hB
  obtain ⟨v, a', e'⟩ := r
  go_enter Tryz.func39, Tryz.ntmps39
  go_wp2_with fail
  refine H.out.mono ?_
  rintro E W1 ⟨rfl, hG⟩
  have HG := Lib.hid hG
  clear hG H
  go_wp2_with fail
  go_ret
  exact ⟨rfl, HG.out.1, (World.grownBy_alloc W _ _).trans HG.out.2⟩
/-- Between two rounds. -/
structure LR (W : World) (p q : Nat) (B : List Int) (target : List (Int × Int) × Nat × Int) (c j : Nat) (v3 v4 : Value) (done : List (Int × Int)) (a : Nat) (e : Int) (X : World) : Prop where
  o3 : Own (rng .u64) 125 X W.heap.size (fun _ => False) v3 (done.map (·.1))
  o4 : Own (rng .u8) 5 X W.heap.size (fun _ => False) v4 (done.map (·.2))
  cur : Rdr X p q B a e
  g : W.grownBy X (some p)
  t : (done ++ (grpsM B (c - j) a e).1, (grpsM B (c - j) a e).2) = target
  len : done.length ≤ j
  sum : 0 ≤ sumG done ∧ sumG done ≤ 4294967296 * j
/-- Rows of two types lie apart. -/
theorem own_ne {k k' : IntKind} {t t' : TypeId} {W : World} {base base' : Nat} {ok ok' : Nat → Prop} {v v' : Value} {xs ys : List Int} (h : Own (rng k) t W base ok v xs) (h' : Own (rng k') t' W base' ok' v' ys) (ht : t ≠ t') : v.ownBlock = none ∨ v.ownBlock ≠ v'.ownBlock := by
  cases hv : v.ownBlock with
  | none => exact .inl rfl
  | some b =>
    refine .inr (fun e => ?_)
    obtain ⟨_, ho, _⟩ := h
    obtain ⟨_, ho', _⟩ := h'
    obtain ⟨cs, h1⟩ := own_typed ho b hv
    obtain ⟨cs', h2⟩ := own_typed ho' b e.symm
    rw [h1] at h2
    injection h2 with h2
    injection h2 with _ h2
    exact ht h2
end Go.Proofs.YtofaiocffifhfaaGreat
end
section
namespace Go.Proofs.YtofaiocffifhfaaGreat
open Go.RowKit Go.Shelf YtofaiocffifhfaaGreatB Go.Proofs.YtofaiocffifhfaaGreatW.PrintWords
def RLocPost (W : World) (p q : Nat) (B : List Int) (r : List Int × Nat × Int) (E : Ending) (W' : World) : Prop :=
  (∃ v, E = .returned v ∧ Own (rng .u8) 5 W' W.heap.size (fun _ => False) v r.1) ∧ GoesR W W' p q B r.2.1 r.2.2
set_option maxRecDepth 100000 in
set_option maxHeartbeats 2000000 in
theorem rLocals_any (W : World) (p q : Nat) (B : List Int) (a : Nat) (e : Int) (hC : Rdr W p q B a e) (hB : Byts B) :
    Calls Tryz.prog 14 #[.pointer (some ⟨p, 0, none⟩)] W (RLocPost W p q B (locM B a e)) := by
  have hc := countM_rd (a := a) (e := e) hB
  have HQ := Lib.hid (fun hl => hC.qlt' hl : 0 < B.length → q < W.heap.size)
  have hpl : p < W.heap.size := by obtain ⟨A, c, c0, _⟩ := hC.cells; exact World.block_lt_of_cell? _ _ c0
  have H0 := Lib.hid (rCount_any _ p q B a e hC hB)
  have hall := grpsM_all hB (rdOf (countM B a) a e).1.toNat (rdOf (countM B a) a e).2.1 (rdOf (countM B a) a e).2.2
  have hgl := grpsM_len B (rdOf (countM B a) a e).1.toNat (rdOf (countM B a) a e).2.1 (rdOf (countM B a) a e).2.2
  have hlm : locM B a e = (let g := grpsM B (rdOf (countM B a) a e).1.toNat (rdOf (countM B a) a e).2.1 (rdOf (countM B a) a e).2.2; if g.2.2 = 0 then (if 4294967295 < sumG g.1 then ([], g.2.1, 110) else if 1024 < sumG g.1 then ([], g.2.1, 3) else (expand g.1, g.2.1, 0)) else ([], g.2.1, g.2.2)) := rfl
  obtain ⟨R, hR⟩ : ∃ R, R = locM B a e := ⟨_, rfl⟩
  rw [← hR]
  rw [hlm] at hR
  clear hlm
  generalize rdOf (countM B a) a e = r at *
  obtain ⟨n, a0, e0⟩ := r
  dsimp only at hc
  obtain ⟨c, rfl⟩ := Int.eq_ofNat_of_zero_le hc.1
  simp only [Int.toNat_natCast] at hall hgl hR
  obtain ⟨tg, htg⟩ : ∃ tg, grpsM B c a0 e0 = tg := ⟨_, rfl⟩
  rw [htg] at hall hgl hR
  have hc2 : (c : Int) ≤ 4096 := hc.2
  have HB := Lib.hid hB
  have HR := Lib.hid hR
  have HALL := Lib.hid hall
  have HGL := Lib.hid hgl
  have HTG := Lib.hid htg
  clear hB hR hall hgl hc hC htg
  go_enter Tryz.func14, Tryz.ntmps14
  go_wp2_with fail
  refine H0.out.mono ?_
  rintro E W1 ⟨rfl, hG1⟩
  have HL := Lib.hid (⟨Own.nil, Own.nil, hG1.1, hG1.2, by rw [Nat.sub_zero, HTG.out]; rfl, Nat.le_refl _, by simp [sumG]⟩ : LR W p q B tg c 0 (.slice none 0 0) (.slice none 0 0) [] a0 e0 W1)
  clear hG1 H0
  go_wp2_with fail
  go_loopw [3, 4, 5, 7] (fun v3 v4 s i wr => ∃ (j : Nat) (done : List (Int × Int)) (a : Nat) (e : Int), j ≤ c ∧ i = .int .i64 j ∧ s = .int .u64 (sumG done) ∧ Hid (LR W p q B tg c j v3 v4 done a e wr)) (fun _ _ _ i _ => c - (intOf i).toNat)
  case atStart => exact ⟨0, [], a0, e0, Nat.zero_le _, rfl, rfl, HL⟩
  case round =>
    obtain ⟨j, done, a', e', hj, rfl, rfl, HLj⟩ := hrel
    clear HL
    obtain ⟨_, _, x0, x1, x2, _⟩ := HLj.out.cur.cells
    by_cases hcon : j < c ∧ e' = 0
    · obtain ⟨hlt, he⟩ := hcon
      have hlt2 : (j : Int) < (c : Int) := by omega
      · subst he
        have HU := Lib.hid (rdUint_any wr p q B a' 32 0 HLj.out.cur HB.out (by decide) (by decide))
        have hu := rdOf_u32 (a := a') HB.out
        have HV := Lib.hid (fun X a1 e1 (h : Rdr X p q B a1 e1) => rValue_any X p q B a1 e1 h HB.out)
        have HGM := Lib.hid (show grpM B a' = ((((rdOf (u32M B a') a' 0).1, (rdOf (valM B (rdOf (u32M B a') a' 0).2.1) (rdOf (u32M B a') a' 0).2.1 (rdOf (u32M B a') a' 0).2.2).1), (rdOf (valM B (rdOf (u32M B a') a' 0).2.1) (rdOf (u32M B a') a' 0).2.1 (rdOf (u32M B a') a' 0).2.2).2) : (Int × Int) × Nat × Int) from rfl)
        have hv := rdOf_val (a := (rdOf (u32M B a') a' 0).2.1) (e := (rdOf (u32M B a') a' 0).2.2) HB.out
        rw [show uintM B a' 32 = u32M B a' from rfl] at HU
        generalize rdOf (u32M B a') a' 0 = r at *
        obtain ⟨n1, a1, e1⟩ := r
        have HV1 := Lib.hid (fun X (h : Rdr X p q B a1 e1) => HV.out X a1 e1 h)
        dsimp only at hv hu HGM
        generalize rdOf (valM B a1) a1 e1 = t at *
        obtain ⟨ty, a2, e2⟩ := t
        dsimp only at hv
        have hs1 := HLj.out.sum
        have hl1 := HLj.out.len
        have hu0 := hu.1
        have hu1 := hu.2
        clear HV
        have hsw : IntKind.u64.wrap (sumG done + n1) = sumG done + n1 := IntWalk.u64_in _ (by omega)
        go_wp2_with fail
        refine HU.out.mono ?_
        rintro E W2 ⟨rfl, hG2⟩
        have hz2 := hG2.2.size
        have HX := Lib.hid HLj.out.g.size
        have hne3 : ∀ k, u3.ownBlock = some k → W.heap.size ≤ k := fun k hk => (Own.block HLj.out.o3 hk).1
        have hne4 : ∀ k, u4.ownBlock = some k → W.heap.size ≤ k := fun k hk => (Own.block HLj.out.o4 hk).1
        have np3 : u3.ownBlock ≠ some p := fun e => by have := hne3 _ e; omega
        have np4 : u4.ownBlock ≠ some p := fun e => by have := hne4 _ e; omega
        have HO3 := Lib.hid (HLj.out.o3.grown hG2.2 (.inr np3) (fun k hk => hk.elim))
        have HO4 := Lib.hid (HLj.out.o4.grown hG2.2 (.inr np4) (fun k hk => hk.elim))
        have HG2 := Lib.hid (HLj.out.g.trans hG2.2)
        have HC2 := Lib.hid hG2.1
        have hgs : W.heap.size ≤ W2.heap.size := by have := HX.out; omega
        have HF3 : FK (rng .u64) W2 (fun k => False ∧ some k ≠ u3.ownBlock) n1 [.int .u64 n1] := fun _ _ => ⟨rfl, by simp [Lit.wf, IntKind.min, IntKind.max, IntKind.signed, IntKind.bits]; omega⟩
        have hlm : (done.map (·.1)).length ≤ 4096 := by rw [List.length_map]; omega
        have hlm4 : (done.map (·.2)).length ≤ 4096 := by rw [List.length_map]; omega
        have HN34 := Lib.hid (own_ne HO4.out HO3.out (by decide))
        clear hG2 x0 x1 x2 HU
        go_wp2_with (at_builtin; refine Own.append (d := rng .u64) W.heap.size rfl (.tmp 28) (.tmp 30) 133 125 _ 8 rfl Tryz.underlying133 infoU64 rfl (by decide) (by decide) u3 _ n1 _ (fun _ => False) rfl rfl HF3 HO3.out hgs (by omega) ?_; intro v1 w1 hown1 hg1 hat1)
        have hz3 := hg1.size
        have HO3' := Lib.hid hown1
        have HO4' := Lib.hid (HO4.out.grown hg1 HN34.out (fun k hk => hk.elim))
        have HG3 := Lib.hid (grown_j HG2.out hg1 (fun k hk => .inr (hne3 k hk)))
        have HC3 := Lib.hid (HC2.out.grown' hg1 (fun e => np3 e.symm) (fun hl e => by have := hne3 _ e.symm; have := HQ.out hl; omega))
        clear hown1 hg1 hat1 HF3 HO3 HO4 HG2 HC2 HN34
        refine (HV1.out _ HC3.out).mono ?_
        rintro E W4 ⟨rfl, hG4⟩
        have hz4 := hG4.2.size
        have hn5 : ∀ k, v1.ownBlock = some k → W.heap.size ≤ k := fun k hk => (Own.block HO3'.out hk).1
        have np5 : v1.ownBlock ≠ some p := fun e => by have := hn5 _ e; omega
        have HO3 := Lib.hid (HO3'.out.grown hG4.2 (.inr np5) (fun k hk => hk.elim))
        have HO4 := Lib.hid (HO4'.out.grown hG4.2 (.inr np4) (fun k hk => hk.elim))
        have HG4 := Lib.hid (HG3.out.trans hG4.2)
        have HC4 := Lib.hid hG4.1
        have hgs4 : W.heap.size ≤ W4.heap.size := by omega
        have HF4 : FK (rng .u8) W4 (fun k => False ∧ some k ≠ u4.ownBlock) ty [.int .u8 ty] := fun _ _ => ⟨rfl, by simp [Lit.wf, IntKind.min, IntKind.max, IntKind.signed, IntKind.bits]; omega⟩
        have HN34 := Lib.hid (own_ne HO3.out HO4.out (by decide))
        clear hG4 HO3' HO4' HG3 HC3
        go_wp2_with (at_builtin; refine Own.append (d := rng .u8) W.heap.size rfl (.tmp 32) (.tmp 35) 22 5 _ 1 rfl Tryz.underlying22 infoB8 rfl (by decide) (by decide) u4 _ ty _ (fun _ => False) rfl rfl HF4 HO4.out hgs4 (by omega) ?_; intro v2 w2 hown2 hg2 hat2)
        have HO4' := Lib.hid hown2
        have HO3' := Lib.hid (HO3.out.grown hg2 HN34.out (fun k hk => hk.elim))
        have HG5 := Lib.hid (grown_j HG4.out hg2 (fun k hk => .inr (hne4 k hk)))
        have HC5 := Lib.hid (HC4.out.grown' hg2 (fun e => np4 e.symm) (fun hl e => by have := hne4 _ e.symm; have := HQ.out hl; omega))
        clear hown2 hg2 hat2 HF4 HO3 HO4 HG4 HC4 HN34
        go_wp2_with fail
        go_roundw
        case rel =>
          refine ⟨j + 1, done ++ [(n1, ty)], a2, e2, by omega, by go_num, ?_, ?_⟩
          · rw [sumG_snoc]
          · refine ⟨by rw [List.map_append]; exact HO3'.out, by rw [List.map_append]; exact HO4'.out, HC5.out, HG5.out, ?_, by simp; omega, ?_⟩
            · have ht := HLj.out.t
              rw [show c - j = (c - (j + 1)) + 1 from by omega, grpsM, if_pos rfl, HGM.out] at ht
              rw [← ht, List.append_assoc]
              rfl
            · rw [sumG_snoc]
              omega
        case measure => simp [intOf]; omega
    · have ht : (done, a', e') = tg := by
        have h := HLj.out.t
        by_cases hlt : j < c
        · rw [grpsM_bad _ _ _ _ (beq_eq_false_iff_ne.2 (fun he => hcon ⟨hlt, he⟩)), List.append_nil] at h
          exact h
        · rw [show c - j = 0 from by omega, grpsM, List.append_nil] at h
          exact h
      have HT := Lib.hid ht
      have HR1 := Lib.hid (show R = if e' = 0 then (if 4294967295 < sumG done then ([], a', 110) else if 1024 < sumG done then ([], a', 3) else (expand done, a', 0)) else ([], a', e') from by have := HR.out; rw [← ht] at this; exact this)
      have hs0 := HLj.out.sum
      have hz0 := HLj.out.g.size
      clear ht
      by_cases he : e' = 0
      · have hjc : ¬ j < c := fun h => hcon ⟨h, he⟩
        subst he
        have hjc2 : ¬ (j : Int) < (c : Int) := by omega
        clear hcon hjc
        by_cases hs1 : 4294967295 < sumG done
        · have HV := Lib.hid (show R = ([], a', 110) from by have := HR1.out; simpa [hs1] using this)
          have hs2 : 1024 < sumG done := by omega
          go_wp2_with fail
          refine (rFail_any _ p q B a' 0 110 HLj.out.cur).mono ?_
          rintro E W5 ⟨rfl, hGW5⟩
          rw [show failE 0 110 = 110 from rfl] at hGW5
          have HW5 := Lib.hid hGW5
          obtain ⟨_, _, yW50, yW51, yW52, _⟩ := hGW5.1.cells
          clear hGW5
          go_wp2_with fail
          refine (rFail_any _ p q B a' 110 3 HW5.out.1).mono ?_
          rintro E W6 ⟨rfl, hGW6⟩
          rw [show failE 110 3 = 110 from rfl] at hGW6
          have HW6 := Lib.hid hGW6
          obtain ⟨_, _, yW60, yW61, yW62, _⟩ := hGW6.1.cells
          clear hGW6
          go_wp2_with fail
          go_ret
          rw [HV.out]
          exact ⟨⟨_, rfl, Own.nil⟩, HW6.out.1, (HLj.out.g.trans HW5.out.2).trans HW6.out.2⟩
        · by_cases hs2 : 1024 < sumG done
          · have HV := Lib.hid (show R = ([], a', 3) from by have := HR1.out; simpa [hs1, hs2] using this)
            go_wp2_with fail
            refine (rFail_any _ p q B a' 0 3 HLj.out.cur).mono ?_
            rintro E W5 ⟨rfl, hGW5⟩
            rw [show failE 0 3 = 3 from rfl] at hGW5
            have HW5 := Lib.hid hGW5
            obtain ⟨_, _, yW50, yW51, yW52, _⟩ := hGW5.1.cells
            clear hGW5
            go_wp2_with fail
            go_ret
            rw [HV.out]
            exact ⟨⟨_, rfl, Own.nil⟩, HW5.out.1, HLj.out.g.trans HW5.out.2⟩
          · have HV := Lib.hid (show R = (expand done, a', 0) from by have := HR1.out; simpa [hs1, hs2] using this)
            go_wp2_with fail
            obtain ⟨wo, rfl⟩ : ∃ wo : World, wo = wr := ⟨_, rfl⟩
            obtain ⟨A3, c3, rfl, hle3, hF3⟩ := HLj.out.o3.reads
            obtain ⟨A4, c4, rfl, hle4, hF4⟩ := HLj.out.o4.reads
            have hdl := HLj.out.len
            have HR3 := Lib.hid (C_rdI hF3.now (by rw [List.length_map]; omega))
            have HR4 := Lib.hid (C_rdI hF4.now (by rw [List.length_map]; omega))
            clear hF3 hF4
            have hall2 : ∀ x ∈ done, (0 ≤ x.1 ∧ x.1 ≤ 4294967295) ∧ 0 ≤ x.2 ∧ x.2 ≤ 255 := by
              have := HALL.out
              rw [← HT.out] at this
              exact this
            have HALL2 := Lib.hid hall2
            clear hall2
            have hl3 : (done.map (·.1)).length = done.length := List.length_map _
            have hl4 : (done.map (·.2)).length = done.length := List.length_map _
            rw [hl3] at hle3
            rw [hl4] at hle4
            have HL3 := Lib.hid hl3
            have HL4 := Lib.hid hl4
            rw [hl3, hl4]
            clear hl3 hl4
            go_loopw [9, 10] (fun v9 i wx => ∃ l : Nat, l ≤ done.length ∧ i = .int .i64 l ∧ Hid (Own (rng .u8) 5 wx wo.heap.size (fun _ => False) v9 (expand (done.take l))) ∧ Hid (Below wo.heap.size wo wx)) (fun _ i _ => done.length - (intOf i).toNat)
            case atStart => exact ⟨0, Nat.zero_le _, rfl, by show Own _ _ _ _ _ _ (expand []); exact Own.nil, Below.refl _ _⟩
            case round =>
              obtain ⟨wx, rfl⟩ : ∃ wx : World, wx = wr := ⟨_, rfl⟩
              obtain ⟨l, hl, rfl, HO9, HBx⟩ := hrel
              by_cases hll : l < done.length
              · have hll2 : (l : Int) < (done.length : Int) := by omega
                obtain ⟨b3, o3, n3, rfl, hc3, hx3⟩ := HR3.out.get l (by rw [HL3.out]; exact hll)
                obtain ⟨b4, o4, n4, rfl, hc4, hx4⟩ := HR4.out.get l (by rw [HL4.out]; exact hll)
                have hx3' := hx3.out
                have hx4' := hx4.out
                rw [List.getElem?_map, List.getElem?_eq_getElem hll] at hx3' hx4'
                have HE := Lib.hid (show done[l]? = some (n3, n4) from by rw [List.getElem?_eq_getElem hll]; simp only [Option.map_some, Option.some.injEq] at hx3' hx4'; rw [← hx3', ← hx4'])
                have hxa := HALL2.out _ (List.mem_of_getElem? HE.out)
                clear hx3 hx4 hx3' hx4'
                obtain ⟨m, rfl⟩ := Int.eq_ofNat_of_zero_le hxa.1.1
                have hm1 : (m : Int) ≤ 4294967295 := hxa.1.2
                have HTY := Lib.hid hxa.2
                have hb3 := World.block_lt_of_cell? _ _ hc3
                have hb4 := World.block_lt_of_cell? _ _ hc4
                have H3 := Lib.hid hc3
                have H4 := Lib.hid hc4
                clear hxa hc3 hc4
                go_wp2_with fail
                go_loopw [9, 11] (fun v9 i wy => ∃ k : Nat, k ≤ m ∧ i = .int .u64 k ∧ Hid (Own (rng .u8) 5 wy wo.heap.size (fun _ => False) v9 (expand (done.take l) ++ List.replicate k n4)) ∧ Hid (Below wo.heap.size wo wy)) (fun _ i _ => m - (intOf i).toNat)
                case atStart => exact ⟨0, Nat.zero_le _, rfl, by rw [List.replicate_zero, List.append_nil]; exact HO9, HBx⟩
                case round =>
                  obtain ⟨k, hk, rfl, HOk, HBk⟩ := hrel
                  have x3 := pw_cell_below HBk.out H3.out
                  have x4 := pw_cell_below HBk.out H4.out
                  by_cases hlk : k < m
                  · have hlk2 : (k : Int) < (m : Int) := by omega
                    have HFk : FK (rng .u8) wr (fun q => False ∧ some q ≠ u9.ownBlock) n4 [.int .u8 n4] := fun _ _ => ⟨rfl, by have := HTY.out; simp [Lit.wf, IntKind.min, IntKind.max, IntKind.signed, IntKind.bits]; omega⟩
                    have hgs : wo.heap.size ≤ wr.heap.size := HBk.out.size
                    have hbd := expand_bd (done.take l) (fun y hy => (HALL2.out y (List.mem_of_mem_take hy)).1.2)
                    rw [List.length_take] at hbd
                    have hown : ∀ q, u9.ownBlock = some q → wo.heap.size ≤ q := fun q hq => (Own.block HOk.out hq).1
                    have hbd2 : (expand (done.take l) ++ List.replicate k n4).length + 1 ≤ 140737488355328 := by
                      rw [List.length_append, List.length_replicate]
                      have : min l done.length ≤ 4096 := by omega
                      have : 4294967295 * min l done.length ≤ 4294967295 * 4096 := Nat.mul_le_mul_left _ this
                      omega
                    clear hbd
                    go_wp2_with (at_builtin; refine Own.append (d := rng .u8) wo.heap.size rfl (.tmp 67) (.tmp 72) 22 5 _ 1 rfl Tryz.underlying22 infoB8 rfl (by decide) (by decide) u9 _ n4 _ (fun _ => False) rfl rfl HFk HOk.out hgs (by omega) ?_; intro v1 w1 hown1 hg1 hat1)
                    have HO5 := Lib.hid hown1
                    have HG5 := Lib.hid hg1
                    clear hown1 hg1 hat1 HFk
                    go_wp2_with fail
                    go_roundw
                    case rel =>
                      refine ⟨k + 1, by omega, by go_num, ?_, HBk.out.grown HG5.out hgs hown⟩
                      rw [List.replicate_succ', ← List.append_assoc]
                      exact HO5.out
                    case measure => simp [intOf]; omega
                  · obtain rfl : k = m := by omega
                    go_wp2_with fail
                    go_roundw
                    case rel =>
                      refine ⟨l + 1, by omega, by go_num, ?_, HBk⟩
                      rw [List.take_add_one, HE.out]
                      show Own _ _ _ _ _ _ (expand (done.take l ++ [((k : Int), n4)]))
                      rw [expand_snoc]
                      exact HOk.out
                    case measure => simp [intOf]; omega
              · obtain rfl : l = done.length := by omega
                rw [List.take_length] at HO9
                go_wp2_with fail
                go_ret
                rw [HV.out]
                exact ⟨⟨_, rfl, Own_lower HO9.out (by omega)⟩, HLj.out.cur.grown' (grown_below HBx.out none) (by simp) (by simp), HLj.out.g.trans (grown_below HBx.out (some p))⟩
      · have he2 : (e' == 0) = false := beq_eq_false_iff_ne.2 he
        have HV := Lib.hid (show R = ([], a', e') from HR1.out.trans (if_neg he))
        have hf : ∀ k, failE e' k = e' := fun k => if_neg he
        have HFL := Lib.hid (fun X k (h : Rdr X p q B a' e') => by have := rFail_any X p q B a' e' k h; rw [hf] at this; exact this : ∀ X k, Rdr X p q B a' e' → Calls Tryz.prog 20 #[.pointer (some ⟨p, 0, none⟩), .int .i64 k] X fun E w' => E = .returned (.tuple #[]) ∧ GoesR X w' p q B a' e')
        clear hf he hcon
        by_cases hlt : j < c
        all_goals
          first
            | have hlt2 : (j : Int) < (c : Int) := by omega
            | have hlt2 : ¬ (j : Int) < (c : Int) := by omega
          by_cases hs1 : 4294967295 < sumG done
          · have hs2 : 1024 < sumG done := by omega
            go_wp2_with fail
            refine (HFL.out _ _ HLj.out.cur).mono ?_
            rintro E W5 ⟨rfl, hG5⟩
            have HW5 := Lib.hid hG5
            clear hG5
            go_wp2_with fail
            refine (HFL.out _ _ HW5.out.1).mono ?_
            rintro E W6 ⟨rfl, hG6⟩
            have HW6 := Lib.hid hG6
            obtain ⟨_, _, y0, y1, y2, _⟩ := hG6.1.cells
            clear hG6
            go_wp2_with fail
            go_ret
            rw [HV.out]
            exact ⟨⟨_, rfl, Own.nil⟩, HW6.out.1, (HLj.out.g.trans HW5.out.2).trans HW6.out.2⟩
          · by_cases hs2 : 1024 < sumG done
            · go_wp2_with fail
              refine (HFL.out _ _ HLj.out.cur).mono ?_
              rintro E W5 ⟨rfl, hG5⟩
              have HW5 := Lib.hid hG5
              obtain ⟨_, _, y0, y1, y2, _⟩ := hG5.1.cells
              clear hG5
              go_wp2_with fail
              go_ret
              rw [HV.out]
              exact ⟨⟨_, rfl, Own.nil⟩, HW5.out.1, HLj.out.g.trans HW5.out.2⟩
            · go_wp2_with fail
              go_ret
              rw [HV.out]
              exact ⟨⟨_, rfl, Own.nil⟩, HLj.out.cur, HLj.out.g⟩
end Go.Proofs.YtofaiocffifhfaaGreat
end
section
namespace Go.Proofs.YtofaiocffifhfaaGreat
open Go.RowKit Go.Shelf YtofaiocffifhfaaGreatB Go.Proofs.YtofaiocffifhfaaGreatW.PrintWords
theorem Cur.apart' {W : World} {p q : Nat} {B : List Int} {a : Nat} {e : Int} (h : Cur W p q B a e) (r : Nat) (hr : W.heap.size ≤ r) : ∃ q', Cur W p q' B a e ∧ q' ≠ r := by
  have hlt := h.lt
  rcases h.qlt with h0 | h0
  · subst h0
    exact ⟨r + 1, h.anyq (by omega), by omega⟩
  · exact ⟨q, h, by omega⟩
theorem own_rdv {W : World} {base : Nat} {ok : Nat → Prop} {A : Option Addr} {n c : Nat} {L : List Int} (h : Own (rng .u8) 5 W base ok (.slice A n c) L) (hl : L.length ≤ 1048576) : RdI W .u8 A L := by
  obtain ⟨A', c', h1, h2, h3⟩ := own_rd h hl
  injection h1 with h1 _ _
  rw [h1]
  exact h3
theorem bl_drewN {w : World} (m : Nat) : Below w.heap.size w (w.drewN m) := ⟨rfl, rfl, rfl, Nat.le_refl _, fun _ _ => rfl⟩
theorem locM_len {B : List Int} (hB : Byts B) (a : Nat) (e : Int) : (locM B a e).1.length ≤ 1024 := by
  unfold locM
  dsimp only
  split
  · split
    · simp
    · split
      · simp
      · rename_i h1 h2
        have := expand_len _ (fun x hx => (grpsM_all hB (rdOf (countM B a) a e).1.toNat (rdOf (countM B a) a e).2.1 (rdOf (countM B a) a e).2.2 x hx).1.1)
        unfold sumG at h2
        dsimp only
        omega
  · simp
set_option maxRecDepth 100000 in
set_option maxHeartbeats 2000000 in
theorem moduleLocals_go (W : World) (A : Option Addr) (c : Nat) (B : List Int) (hR : RdI W .u8 A B) (hB : Byts B) (hle : B.length ≤ c) :
    Calls Tryz.prog 4 #[.slice A B.length c] W (AwPost20 W) := by
  have hbl := hB.1
  by_cases h3000 : 1000 < B.length
  · have h3 : (1000 : Int) < (B.length : Int) := by omega
    clear h3000
    go_enter Tryz.func4, Tryz.ntmps4
    go_wp2_with fail
    refine (awake20_any _).mono ?_
    rintro e1 W1 ⟨rfl, hB1⟩
    go_wp2_with fail
    go_ret
    exact ⟨rfl, hB1⟩
  · have h3 : ¬ (1000 : Int) < (B.length : Int) := by omega
    have HR := Lib.hid hR
    have HB := Lib.hid hB
    clear h3000 hR hB
    go_enter Tryz.func4, Tryz.ntmps4
    go_wp2_with fail
    refine (awake20_any _).mono ?_
    rintro e1 W1 ⟨rfl, hB1⟩
    go_wp2_with fail
    refine (New_any W1 A c B (by
      obtain ⟨h1, h2⟩ := HR.out
      refine ⟨h1, fun hp => ?_⟩
      obtain ⟨b, o, e, hc⟩ := h2 hp
      exact ⟨b, o, e, fun j x hj => pw_cell_below hB1 (hc j x hj)⟩) HB.out).mono ?_
    rintro e2 W2 ⟨p, q0, hp, rfl, hC0, hB2⟩
    obtain ⟨q, hC, hqr⟩ := hC0.apart' W2.heap.size (Nat.le_refl _)
    have hR2 : RdI W2 .u8 A B := by
      obtain ⟨h1, h2⟩ := HR.out
      refine ⟨h1, fun hp => ?_⟩
      obtain ⟨b, o, e, hc⟩ := h2 hp
      exact ⟨b, o, e, fun j x hj => pw_cell_below hB2 (pw_cell_below hB1 (hc j x hj))⟩
    obtain ⟨q', hq', hby⟩ : ∃ q', (W2.heap.size ≠ q' ∧ q' ≠ p) ∧ ByQ W2 q' A B := by
      rcases Nat.eq_zero_or_pos B.length with hz | hz
      · exact ⟨W2.heap.size + 1, ⟨by omega, by have := hC.lt; omega⟩, fun hh => by omega⟩
      · obtain ⟨b, o, e, hc⟩ := HR.out.2 hz
        have hb := World.block_lt_of_cell? _ _ (hc 0 _ (List.getElem?_eq_getElem hz))
        have := hB1.size
        have := hB2.size
        obtain ⟨b2, o2, e2, hc2⟩ := hR2.2 hz
        rw [e] at e2
        injection e2 with e2
        injection e2 with e2 e3
        subst e2 e3
        simp only at hb
        exact ⟨b, ⟨by omega, by omega⟩, fun _ => ⟨o, e, hc2⟩⟩
    have hplt := hC.lt
    have hB02 := Lib.hid (hB1.trans (hB2.mono hB1.size))
    have HC3 := Lib.hid (hC.alloc (.cells #[.slice A B.length c, .int .i64 0, .int .i64 0] 57))
    have HD3 : Hid (Rdr (W2.alloc (.cells #[.slice A B.length c, .int .i64 0, .int .i64 0] 57)) W2.heap.size q' B 0 0) := ⟨hq'.1, Nat.zero_le _, A, c, hle, Blk.new W2 _ _, hby.grown (World.grownBy_alloc W2 _ none) (by simp)⟩
    have hB03 := Lib.hid (hB02.out.alloc hB02.out.size (.cells #[.slice A B.length c, .int .i64 0, .int .i64 0] 57))
    have hp0 := Lib.hid (show W.heap.size ≤ p from Nat.le_trans hB1.size hp)
    have hr0 := Lib.hid (show W.heap.size ≤ W2.heap.size from hB02.out.size)
    clear hC hC0 hR2 hby HR hB1 hB2 hp
    obtain ⟨r, hr⟩ : ∃ r, W2.heap.size = r := ⟨_, rfl⟩
    have hpr : p ≠ r := by omega
    rw [hr] at HD3 hqr hplt hq' hr0
    go_wp2_with fail
    have hs3 : (W2.alloc (.cells #[.slice A B.length c, .int .i64 0, .int .i64 0] 57)).heap.size = r + 1 := by rw [World.size_alloc, hr]
    clear hr hB02
    generalize W2.alloc (.cells #[.slice A B.length c, .int .i64 0, .int .i64 0] 57) = W3 at *
    have HX := Lib.hid (Locals_any W3 p q B 0 0 HC3.out HB.out)
    have HY := Lib.hid (fun X h => rLocals_any X r q' B 0 0 h HB.out)
    have hll := locM_len HB.out 0 0
    generalize locM B 0 0 = t at *
    obtain ⟨l, a1, e1⟩ := t
    refine HX.out.mono ?_
    rintro e3 W4 ⟨⟨v1, rfl, hO1⟩, hG1⟩
    obtain ⟨A1, c1, rfl, hl1, hF1⟩ := hO1.reads
    have hG1' : Goes W3 W4 p q B a1 e1 := hG1
    have HD4 := Lib.hid (HD3.out.grown hG1'.2 (by simp; omega) (by simp; omega))
    have HY4 := Lib.hid (HY.out W4 HD4.out)
    have hB04 := Lib.hid (hB03.out.grown hG1'.2 hB03.out.size (fun k hk => by injection hk with hk; have := hp0.out; omega))
    have hs4 := hG1'.2.size
    have HO1 := Lib.hid hO1
    have hll2 : l.length ≤ 1024 := hll
    clear hF1 hG1 hO1 HX HY HD3 HC3 hll
    go_wp2_with fail
    refine HY4.out.mono ?_
    rintro e4 W5 ⟨⟨v2, rfl, hO2⟩, hG2⟩
    obtain ⟨A2, c2, rfl, hl2, hF2⟩ := hO2.reads
    have hG2' : GoesR W4 W5 r q' B a1 e1 := hG2
    have HC5 := Lib.hid (hG1'.1.grown hG2'.2 (by simp; omega) (by simp; omega))
    have hO1' : Own (rng .u8) 5 W4 (r + 1) (fun _ => False) (.slice A1 l.length c1) l := by have h := HO1.out; rw [hs3] at h; exact h
    have hO5 := hO1'.grown hG2'.2 (by
      cases hv : (Value.slice A1 l.length c1).ownBlock with
      | none => exact .inl rfl
      | some k => right; intro e; injection e with e; have := (Own.block hO1' hv).1; omega) (fun k hk => hk.elim)
    have hk1 : ∀ m, (convert 22 9 (.slice A1 l.length c1)).run Tryz.prog (W5.drewN m) = .ok (.string (strOfNums l)) (W5.drewN m) := fun m => conv_str _ A1 l c1 (own_rdv (hO5.below (bl_drewN m)) (by omega))
    have hk2 : ∀ m, (convert 22 9 (.slice A2 l.length c2)).run Tryz.prog (W5.drewN m) = .ok (.string (strOfNums l)) (W5.drewN m) := fun m => conv_str _ A2 l c2 (own_rdv (hO2.below (bl_drewN m)) (by omega))
    have HD5 := Lib.hid hG2'.1
    have hB05 := Lib.hid (hB04.out.grown hG2'.2 hB04.out.size (fun k hk => by injection hk with hk; have := hr0.out; omega))
    obtain ⟨A', c', d0, d1, d2, f0, f1, f2, hle5, hq5, hlt5, ha5⟩ := HD5.out.cells
    clear hF2 hG2 hG2' hG1' hq5 HD5 HD4 hO5 hO2 hO1' HO1 HY4
    go_wp2_with fail
    have HC6 := Lib.hid (fun m => HC5.out.below (bl_drewN m))
    clear HC5
    go_quiet (first
      | (go_at_call 15; exact Calls.quiet_of_same ((err_any _ p q B a1 e1 (HC6.out _)).mono (by rintro e w' ⟨rfl, rfl⟩; exact ⟨rfl, rfl⟩)))
      | (go_at_call 16; exact Calls.quiet_of_same ((at_any _ p q B a1 e1 (HC6.out _)).mono (by rintro e w' ⟨rfl, rfl⟩; exact ⟨rfl, rfl⟩))))
    go_wp2_with fail
    go_ret
    exact ⟨rfl, hB05.out.trans ((bl_drewN nq).mono hB05.out.size)⟩
theorem bytes_open {W : World} {a0 : List Int} {A : Option Addr} {n c : Nat} (h0 : (Kd.slice 5 (rng .u8)).K W a0 (Value.slice A n c).cells.toList) (hb : a0.length ≤ 1048576) : n = a0.length ∧ RdI W .u8 A a0 ∧ Byts a0 ∧ a0.length ≤ c := by
  obtain ⟨A', c', e, hle, hC⟩ := h0
  simp [Value.cells] at e
  obtain ⟨rfl, rfl, rfl⟩ := e
  exact ⟨rfl, C_rdI hC (by omega), ⟨hb, fun x hx => by have := wf_bounds (C_all hC x hx); simp [IntKind.min, IntKind.max, IntKind.signed, IntKind.bits] at this; omega⟩, hle⟩
theorem opens_U8s (n : Nat) : OpensAt Tryz.prog 22 (Kd.slice 5 (rng .u8)) (fun xs => xs.length) (n + 1) :=
  opens_bk (opens_slice Tryz.underlying22 (by kernel_rfl) (opens_int .u8 Tryz.underlying5 (by kernel_rfl) n)) (fun a => by rw [sum_ones]; omega)
theorem moduleLocals_walk (W : World) (a0 : List Int) {A : Option Addr} {n c : Nat} (h0 : (Kd.slice 5 (rng .u8)).K W a0 (Value.slice A n c).cells.toList) (hb : a0.length ≤ 1048576) :
    Calls Tryz.prog 4 #[.slice A n c] W fun e W' => e = .returned (.bool true) ∧ Below W.heap.size W W' := by
  obtain ⟨rfl, hR, hB, hle⟩ := bytes_open h0 hb
  exact moduleLocals_go W A c a0 hR hB hle
end Go.Proofs.YtofaiocffifhfaaGreat
end
