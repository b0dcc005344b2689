/- Lemmas towards this claim's statement: what the functions named here come to, each under the conditions that it states itself. -/
import Derived.Test.YtofaiocffifhfaaGreatCu7
section
namespace Go.Proofs.YtofaiocffifhfaaGreat
open Go.RowKit Go.Shelf YtofaiocffifhfaaGreatB Go.Proofs.YtofaiocffifhfaaGreatW.PrintWords
def RdPost {α : Type} (d : Kd α) (X : World) (p q : Nat) (B : List Int) (r : α × Nat × Int) (E : Ending) (w' : World) : Prop :=
 (∃ cs, E = .returned (.agg cs.toArray) ∧ FK d w' (fun k => X.heap.size ≤ k) r.1 cs) ∧ Goes X w' p q B r.2.1 r.2.2
def RdInt (X : World) (p q : Nat) (B : List Int) (r : Int × Nat × Int) (E : Ending) (w' : World) : Prop :=
 (0 ≤ r.1 ∧ r.1 ≤ 4294967295) ∧ E = .returned (.int .u32 r.1) ∧ Goes X w' p q B r.2.1 r.2.2
def lsM {α : Type} (rd : Nat → Int → α × Nat × Int) : Nat → Nat → Int → List α × Nat × Int
 | 0, a, e => ([], a, e)
 | k + 1, a, e => if e = 0 then ((rd a 0).1 :: (lsM rd k (rd a 0).2.1 (rd a 0).2.2).1, (lsM rd k (rd a 0).2.1 (rd a 0).2.2).2) else ([], a, e)
theorem lsM_bad {α : Type} (rd : Nat → Int → α × Nat × Int) (k a : Nat) (e : Int) (h : (e == 0) = false) : lsM rd k a e = ([], a, e) := by
 cases k with
 | zero => rfl
 | succ k => rw [lsM, if_neg (by simpa using h)]
def lsOf {α : Type} (rd : Nat → Int → α × Nat × Int) (B : List Int) (a : Nat) (e : Int) : List α × Nat × Int := lsM rd (rdOf (countM B a) a e).1.toNat (rdOf (countM B a) a e).2.1 (rdOf (countM B a) a e).2.2
theorem ft_open {W : World} {ok : Nat → Prop} {x : List Int × List Int} {cs : List Value} (h : FK kFt W ok x cs) : ∃ A c A' c', cs = [.slice A x.1.length c, .slice A' x.2.length c'] ∧ x.1.length ≤ c ∧ x.2.length ≤ c' := by
 obtain ⟨A, c, A', c', e, h1, h2⟩ : ∃ A c A' c', cs = [.slice A x.1.length c, .slice A' x.2.length c'] ∧ x.1.length ≤ c ∧ x.2.length ≤ c' := by
  obtain ⟨_, _, rfl, ⟨A, c, rfl, hl, _⟩, _, _, rfl, ⟨A', c', rfl, hl', _⟩, rfl⟩ := h.now
  exact ⟨A, c, A', c', rfl, hl, hl'⟩
 exact ⟨A, c, A', c', e, h1, h2⟩
structure LL {α : Type} (d : Kd α) (t : TypeId) (rd : Nat → Int → α × Nat × Int) (W : World) (p q : Nat) (B : List Int) (target : List α × Nat × Int) (c j : Nat) (v : Value) (done : List α) (a : Nat) (e : Int) (X : World) : Prop where
 own : Own d t X W.heap.size (fun k => W.heap.size ≤ k) v done
 cur : Cur X p q B a e
 g : W.grownBy X (some p)
 t : (done ++ (lsM rd (c - j) a e).1, (lsM rd (c - j) a e).2) = target
 len : done.length ≤ j
def ListPost {α : Type} (d : Kd α) (t : TypeId) (W : World) (p q : Nat) (B : List Int) (r : List α × Nat × Int) (E : Ending) (w' : World) : Prop :=
 (∃ v, E = .returned v ∧ Own d t w' W.heap.size (fun k => W.heap.size ≤ k) v r.1) ∧ Goes W w' p q B r.2.1 r.2.2
theorem info_fty : (Tryz.prog.info? 98).map (fun i => (i.zero, i.size, i.bytes)) = some (some (.agg #[.slice none 0 0, .slice none 0 0]), 2, 48) := by kernel_rfl
theorem info_imp : (Tryz.prog.info? 105).map (fun i => (i.zero, i.size, i.bytes)) = some (some (.agg #[.string ⟨#[]⟩, .string ⟨#[]⟩, .int .i64 0, .int .u32 0, .int .u32 0, .int .u32 0, .bool false, .int .u8 0, .bool false]), 9, 64) := by kernel_rfl
theorem info_u32 : (Tryz.prog.info? 30).map (fun i => (i.zero, i.size, i.bytes)) = some (some (.int .u32 0), 1, 4) := by kernel_rfl
theorem info_lim : (Tryz.prog.info? 101).map (fun i => (i.zero, i.size, i.bytes)) = some (some (.agg #[.int .u32 0, .int .u32 0, .bool false]), 3, 12) := by kernel_rfl
theorem info_cell : (Tryz.prog.info? 114).map (fun i => (i.zero, i.size, i.bytes)) = some (some (.agg #[.int .u8 0, .bool false, .slice none 0 0]), 3, 32) := by kernel_rfl
theorem info_exp : (Tryz.prog.info? 110).map (fun i => (i.zero, i.size, i.bytes)) = some (some (.agg #[.string ⟨#[]⟩, .int .i64 0, .int .u32 0]), 3, 32) := by kernel_rfl
theorem info_elem : (Tryz.prog.info? 118).map (fun i => (i.zero, i.size, i.bytes)) = some (some (.agg #[.int .u32 0, .slice none 0 0, .slice none 0 0]), 3, 56) := by kernel_rfl
theorem info_fn : (Tryz.prog.info? 75).map (fun i => (i.zero, i.size, i.bytes)) = some (some (.agg #[.int .u32 0, .slice none 0 0, .slice none 0 0]), 3, 56) := by kernel_rfl
theorem info_data : (Tryz.prog.info? 120).map (fun i => (i.zero, i.size, i.bytes)) = some (some (.agg #[.int .u32 0, .slice none 0 0, .slice none 0 0]), 3, 56) := by kernel_rfl
set_option maxRecDepth 100000 in
set_option maxHeartbeats 1000000 in
theorem list_fty (g : FuncId) (hent : Enters Tryz.prog g) (rd : Nat → Int → (List Int × List Int) × Nat × Int) (W : World) (p q : Nat) (B : List Int) (a : Nat) (e : Int) (sat : Bool) (hC : Cur W p q B a e) (hB : Byts B)
  (hv : ∀ X a, Cur X p q B a 0 → W.heap.size ≤ X.heap.size → Calls Tryz.prog g #[.pointer (some ⟨p, 0, none⟩)] X (RdPost kFt X p q B (rd a 0))) :
  Calls Tryz.prog 73 #[.agg #[.pointer (some ⟨p, 0, none⟩), .bool sat], .func (.func g) #[.pointer (some ⟨p, 0, none⟩)] #[]] W (ListPost kFt 98 W p q B (lsOf rd B a e)) := by
 have hc := countM_rd (a := a) (e := e) hB
 have hin : ∀ args w, Sem.run Tryz.prog (callFunc g args) w = .ok (.enter g args) w := hent
 have hpl := hC.lt
 have HQ := Lib.hid (fun hl => hC.qlt' hl : 0 < B.length → q < W.heap.size)
 have H0 := Lib.hid (Count_any _ p q B a e (hC.alloc (.cells #[.pointer (some ⟨p, 0, none⟩), .bool sat] 67)) hB)
 have HV0 := Lib.hid hv
 have hdef : lsOf rd B a e = lsM rd (rdOf (countM B a) a e).1.toNat (rdOf (countM B a) a e).2.1 (rdOf (countM B a) a e).2.2 := rfl
 rw [hdef]
 clear hdef
 generalize rdOf (countM B a) a e = r at *
 obtain ⟨n, a0, e0⟩ := r
 dsimp only at hc
 obtain ⟨c, rfl⟩ := Int.eq_ofNat_of_zero_le hc.1
 rw [Int.toNat_natCast]
 obtain ⟨tg, htg⟩ : ∃ tg, lsM rd c a0 e0 = tg := ⟨_, rfl⟩
 have HTG := Lib.hid htg
 rw [htg]
 have hc2 : (c : Int) ≤ 4096 := hc.2
 have HX := Lib.hid (Blk.new W #[.pointer (some ⟨p, 0, none⟩), .bool sat] 67)
 clear hC hB hc htg hv hent
 go_enter Tryz.func73, Tryz.ntmps73
 go_wp2_with fail
 refine H0.out.mono ?_
 rintro E W1 ⟨rfl, hG1⟩
 have hz1 := hG1.2.size
 rw [World.size_alloc] at hz1
 have HX1 := Lib.hid (HX.out.grown hG1.2 (fun e => by injection e with e; omega))
 have HL := Lib.hid (⟨Own.nil, hG1.1, (World.grownBy_alloc W _ _).trans hG1.2, by rw [Nat.sub_zero, HTG.out]; rfl, Nat.le_refl _⟩ : LL kFt 98 rd W p q B tg c 0 (.slice none 0 0) [] a0 e0 W1)
 clear hG1 H0
 go_wp2_with fail
 go_loopw [5, 7] (fun v i wr => ∃ (j : Nat) (done : List (List Int × List Int)) (a : Nat) (e : Int), j ≤ c ∧ i = .int .i64 j ∧ Hid (LL kFt 98 rd W p q B tg c j v done a e wr) ∧ Hid (Blk wr W.heap.size #[.pointer (some ⟨p, 0, none⟩), .bool sat] 67)) (fun _ i _ => c - (intOf i).toNat)
 case atStart => exact ⟨0, [], a0, e0, Nat.zero_le _, rfl, HL, HX1⟩
 case round =>
  obtain ⟨j, done, a', e', hj, rfl, HLj, HXj⟩ := hrel
  clear HL HX1
  have b0 : wr.cell? ⟨W.heap.size, 0, none⟩ = some (.pointer (some ⟨p, 0, none⟩)) := HXj.out.cell 0
  have b1 : wr.cell? ⟨W.heap.size, 1, none⟩ = some (.bool sat) := HXj.out.cell 1
  have hwl := HXj.out.lt
  by_cases hlt : j < c
  ·have hlt2 : (j : Int) < (c : Int) := by omega
   by_cases he : e' = 0
   ·subst he
    have HPG := Lib.hid (pgood_any wr p q B a' 0 sat true HLj.out.cur rfl)
    have HV := Lib.hid (HV0.out (wr.alloc (.cells #[.pointer (some ⟨p, 0, none⟩), .bool sat] 67)) a' (HLj.out.cur.alloc _) (by rw [World.size_alloc]; omega))
    have ht0 := HLj.out.t
    rw [show c - j = (c - (j + 1)) + 1 from by omega, lsM, if_pos rfl] at ht0
    generalize rd a' 0 = r at *
    obtain ⟨x, a1, e1⟩ := r
    have HT0 := Lib.hid ht0
    have hX := HLj.out.g.size
    have hdl := HLj.out.len
    clear ht0
    go_wp2_with fail
    refine HPG.out.mono ?_
    rintro E wg ⟨rfl, rfl⟩
    go_wp2_with fail
    refine HV.out.mono ?_
    rintro E W2 ⟨⟨cs, rfl, hF⟩, hG2⟩
    have hz2 := hG2.2.size
    rw [World.size_alloc] at hz2
    have hne : ∀ k, u5.ownBlock = some k → W.heap.size ≤ k ∧ k < wr.heap.size := fun k hk => Own.block HLj.out.own hk
    have np : u5.ownBlock ≠ some p := fun e => by have := hne _ e; omega
    have hOw := ((HLj.out.own.below ((Below.refl _ _).alloc (Nat.le_refl _) (.cells #[.pointer (some ⟨p, 0, none⟩), .bool sat] 67))).grown hG2.2 (.inr np) (fun k hk e => by injection e with e; omega))
    have HO2 := Lib.hid hOw
    have HG2 := Lib.hid (HLj.out.g.trans ((World.grownBy_alloc wr (.cells #[.pointer (some ⟨p, 0, none⟩), .bool sat] 67) (some p)).trans hG2.2))
    have HC2 := Lib.hid hG2.1
    have HX2 := Lib.hid ((HXj.out.alloc (.cells #[.pointer (some ⟨p, 0, none⟩), .bool sat] 67)).grown hG2.2 (fun e => by injection e with e; omega))
    obtain ⟨A1, c1, A2, c2, rfl, _, _⟩ := ft_open hF
    have HF := Lib.hid (Ft.mono hF (fun k hk => ⟨by have h : (wr.alloc (.cells #[.pointer (some ⟨p, 0, none⟩), .bool sat] 67)).heap.size ≤ k := (by first | exact hk | (rw [World.size_alloc]; exact hk)); rw [World.size_alloc] at h; omega, fun e => by
     have h : (wr.alloc (.cells #[.pointer (some ⟨p, 0, none⟩), .bool sat] 67)).heap.size ≤ k := by (first | exact hk | (rw [World.size_alloc]; exact hk))
     rw [World.size_alloc] at h
     have := (hne _ e.symm).2
     omega⟩) : FK kFt W2 (fun k => W.heap.size ≤ k ∧ some k ≠ u5.ownBlock) x _)
    have hgs : W.heap.size ≤ W2.heap.size := by omega
    clear hG2 HV HPG hF b0 b1 hOw
    go_wp2_with (at_builtin; refine Own.append (d := kFt) W.heap.size rfl (.tmp 20) (.tmp 23) 24 98 _ 48 rfl Tryz.underlying24 info_fty rfl (by decide) (by decide) u5 done x _ (fun k => W.heap.size ≤ k) rfl rfl HF.out HO2.out hgs (by omega) ?_; intro v1 w1 hown1 hg1 hat1)
    have HO3 := Lib.hid hown1
    have HG3 := Lib.hid hg1
    have hnX : some W.heap.size ≠ u5.ownBlock := fun e => by
     obtain ⟨_, ho, _⟩ := HO2.out
     obtain ⟨cs, hcs⟩ := own_typed ho _ e.symm
     rw [HX2.out] at hcs
     simp at hcs
    clear hown1 hg1 hat1 HF HO2
    go_wp2_with fail
    go_roundw
    case rel =>
     refine ⟨j + 1, done ++ [x], a1, e1, by omega, by go_num, ⟨HO3.out, HC2.out.grown' HG3.out (fun e => np e.symm) (fun hl e => by have := (hne _ e.symm).1; have := HQ.out hl; omega), grown_jj HG2.out HG3.out (fun k hk => .inr (hne k hk).1), ?_, by simp; omega⟩, HX2.out.grown HG3.out hnX⟩
     rw [← HT0.out, List.append_assoc]
     rfl
    case measure => simp [intOf]; omega
   ·have he2 : (e' == 0) = false := beq_eq_false_iff_ne.2 he
    have HPG := Lib.hid (pgood_any wr p q B a' e' sat false HLj.out.cur he2)
    have ht := HLj.out.t
    rw [lsM_bad _ _ _ _ he2, List.append_nil] at ht
    have HT := Lib.hid ht
    clear ht he he2
    go_wp2_with fail
    refine HPG.out.mono ?_
    rintro E wg ⟨rfl, rfl⟩
    go_wp2_with fail
    go_ret
    rw [← HT.out]
    exact ⟨⟨_, rfl, HLj.out.own.below ((Below.refl _ _).alloc (Nat.le_refl _) _)⟩, HLj.out.cur.alloc _, HLj.out.g.trans (World.grownBy_alloc _ _ _)⟩
  ·obtain rfl : j = c := by omega
   have ht := HLj.out.t
   rw [Nat.sub_self, lsM, List.append_nil] at ht
   have HT := Lib.hid ht
   clear ht
   go_wp2_with fail
   go_ret
   rw [← HT.out]
   exact ⟨⟨_, rfl, HLj.out.own⟩, HLj.out.cur, HLj.out.g⟩
set_option maxRecDepth 100000 in
set_option maxHeartbeats 1000000 in
theorem list_imp (g : FuncId) (hent : Enters Tryz.prog g) (rd : Nat → Int → ImpD × Nat × Int) (W : World) (p q : Nat) (B : List Int) (a : Nat) (e : Int) (sat : Bool) (hC : Cur W p q B a e) (hB : Byts B)
  (hv : ∀ X a, Cur X p q B a 0 → W.heap.size ≤ X.heap.size → Calls Tryz.prog g #[.agg #[.pointer (some ⟨p, 0, none⟩), .bool sat]] X (RdPost kImp X p q B (rd a 0))) :
  Calls Tryz.prog 75 #[.agg #[.pointer (some ⟨p, 0, none⟩), .bool sat], .func (.func g) #[.agg #[.pointer (some ⟨p, 0, none⟩), .bool sat]] #[]] W (ListPost kImp 105 W p q B (lsOf rd B a e)) := by
 have hc := countM_rd (a := a) (e := e) hB
 have hin : ∀ args w, Sem.run Tryz.prog (callFunc g args) w = .ok (.enter g args) w := hent
 have hpl := hC.lt
 have HQ := Lib.hid (fun hl => hC.qlt' hl : 0 < B.length → q < W.heap.size)
 have H0 := Lib.hid (Count_any _ p q B a e (hC.alloc (.cells #[.pointer (some ⟨p, 0, none⟩), .bool sat] 67)) hB)
 have HV0 := Lib.hid hv
 have hdef : lsOf rd B a e = lsM rd (rdOf (countM B a) a e).1.toNat (rdOf (countM B a) a e).2.1 (rdOf (countM B a) a e).2.2 := rfl
 rw [hdef]
 clear hdef
 generalize rdOf (countM B a) a e = r at *
 obtain ⟨n, a0, e0⟩ := r
 dsimp only at hc
 obtain ⟨c, rfl⟩ := Int.eq_ofNat_of_zero_le hc.1
 rw [Int.toNat_natCast]
 obtain ⟨tg, htg⟩ : ∃ tg, lsM rd c a0 e0 = tg := ⟨_, rfl⟩
 have HTG := Lib.hid htg
 rw [htg]
 have hc2 : (c : Int) ≤ 4096 := hc.2
 have HX := Lib.hid (Blk.new W #[.pointer (some ⟨p, 0, none⟩), .bool sat] 67)
 clear hC hB hc htg hv hent
 go_enter Tryz.func75, Tryz.ntmps75
 go_wp2_with fail
 refine H0.out.mono ?_
 rintro E W1 ⟨rfl, hG1⟩
 have hz1 := hG1.2.size
 rw [World.size_alloc] at hz1
 have HX1 := Lib.hid (HX.out.grown hG1.2 (fun e => by injection e with e; omega))
 have HL := Lib.hid (⟨Own.nil, hG1.1, (World.grownBy_alloc W _ _).trans hG1.2, by rw [Nat.sub_zero, HTG.out]; rfl, Nat.le_refl _⟩ : LL kImp 105 rd W p q B tg c 0 (.slice none 0 0) [] a0 e0 W1)
 clear hG1 H0
 go_wp2_with fail
 go_loopw [5, 7] (fun v i wr => ∃ (j : Nat) (done : List ImpD) (a : Nat) (e : Int), j ≤ c ∧ i = .int .i64 j ∧ Hid (LL kImp 105 rd W p q B tg c j v done a e wr) ∧ Hid (Blk wr W.heap.size #[.pointer (some ⟨p, 0, none⟩), .bool sat] 67)) (fun _ i _ => c - (intOf i).toNat)
 case atStart => exact ⟨0, [], a0, e0, Nat.zero_le _, rfl, HL, HX1⟩
 case round =>
  obtain ⟨j, done, a', e', hj, rfl, HLj, HXj⟩ := hrel
  clear HL HX1
  have b0 : wr.cell? ⟨W.heap.size, 0, none⟩ = some (.pointer (some ⟨p, 0, none⟩)) := HXj.out.cell 0
  have b1 : wr.cell? ⟨W.heap.size, 1, none⟩ = some (.bool sat) := HXj.out.cell 1
  have hwl := HXj.out.lt
  by_cases hlt : j < c
  ·have hlt2 : (j : Int) < (c : Int) := by omega
   by_cases he : e' = 0
   ·subst he
    have HPG := Lib.hid (pgood_any wr p q B a' 0 sat true HLj.out.cur rfl)
    have HV := Lib.hid (HV0.out (wr.alloc (.cells #[.pointer (some ⟨p, 0, none⟩), .bool sat] 67)) a' (HLj.out.cur.alloc _) (by rw [World.size_alloc]; omega))
    have ht0 := HLj.out.t
    rw [show c - j = (c - (j + 1)) + 1 from by omega, lsM, if_pos rfl] at ht0
    generalize rd a' 0 = r at *
    obtain ⟨x, a1, e1⟩ := r
    have HT0 := Lib.hid ht0
    have hX := HLj.out.g.size
    have hdl := HLj.out.len
    clear ht0
    go_wp2_with fail
    refine HPG.out.mono ?_
    rintro E wg ⟨rfl, rfl⟩
    go_wp2_with fail
    refine HV.out.mono ?_
    rintro E W2 ⟨⟨cs, rfl, hF⟩, hG2⟩
    have hz2 := hG2.2.size
    rw [World.size_alloc] at hz2
    have hne : ∀ k, u5.ownBlock = some k → W.heap.size ≤ k ∧ k < wr.heap.size := fun k hk => Own.block HLj.out.own hk
    have np : u5.ownBlock ≠ some p := fun e => by have := hne _ e; omega
    have hOw := ((HLj.out.own.below ((Below.refl _ _).alloc (Nat.le_refl _) (.cells #[.pointer (some ⟨p, 0, none⟩), .bool sat] 67))).grown hG2.2 (.inr np) (fun k hk e => by injection e with e; omega))
    have HO2 := Lib.hid hOw
    have HG2 := Lib.hid (HLj.out.g.trans ((World.grownBy_alloc wr (.cells #[.pointer (some ⟨p, 0, none⟩), .bool sat] 67) (some p)).trans hG2.2))
    have HC2 := Lib.hid hG2.1
    have HX2 := Lib.hid ((HXj.out.alloc (.cells #[.pointer (some ⟨p, 0, none⟩), .bool sat] 67)).grown hG2.2 (fun e => by injection e with e; omega))
    obtain rfl := imp_open hF
    have HF := Lib.hid (Ft.mono hF (fun k hk => ⟨by have h : (wr.alloc (.cells #[.pointer (some ⟨p, 0, none⟩), .bool sat] 67)).heap.size ≤ k := (by first | exact hk | (rw [World.size_alloc]; exact hk)); rw [World.size_alloc] at h; omega, fun e => by
     have h : (wr.alloc (.cells #[.pointer (some ⟨p, 0, none⟩), .bool sat] 67)).heap.size ≤ k := by (first | exact hk | (rw [World.size_alloc]; exact hk))
     rw [World.size_alloc] at h
     have := (hne _ e.symm).2
     omega⟩) : FK kImp W2 (fun k => W.heap.size ≤ k ∧ some k ≠ u5.ownBlock) x _)
    have hgs : W.heap.size ≤ W2.heap.size := by omega
    clear hG2 HV HPG hF b0 b1 hOw
    go_wp2_with (at_builtin; refine Own.append (d := kImp) W.heap.size rfl (.tmp 20) (.tmp 23) 25 105 _ 64 rfl Tryz.underlying25 info_imp rfl (by decide) (by decide) u5 done x _ (fun k => W.heap.size ≤ k) rfl rfl HF.out HO2.out hgs (by omega) ?_; intro v1 w1 hown1 hg1 hat1)
    have HO3 := Lib.hid hown1
    have HG3 := Lib.hid hg1
    have hnX : some W.heap.size ≠ u5.ownBlock := fun e => by
     obtain ⟨_, ho, _⟩ := HO2.out
     obtain ⟨cs, hcs⟩ := own_typed ho _ e.symm
     rw [HX2.out] at hcs
     simp at hcs
    clear hown1 hg1 hat1 HF HO2
    go_wp2_with fail
    go_roundw
    case rel =>
     refine ⟨j + 1, done ++ [x], a1, e1, by omega, by go_num, ⟨HO3.out, HC2.out.grown' HG3.out (fun e => np e.symm) (fun hl e => by have := (hne _ e.symm).1; have := HQ.out hl; omega), grown_jj HG2.out HG3.out (fun k hk => .inr (hne k hk).1), ?_, by simp; omega⟩, HX2.out.grown HG3.out hnX⟩
     rw [← HT0.out, List.append_assoc]
     rfl
    case measure => simp [intOf]; omega
   ·have he2 : (e' == 0) = false := beq_eq_false_iff_ne.2 he
    have HPG := Lib.hid (pgood_any wr p q B a' e' sat false HLj.out.cur he2)
    have ht := HLj.out.t
    rw [lsM_bad _ _ _ _ he2, List.append_nil] at ht
    have HT := Lib.hid ht
    clear ht he he2
    go_wp2_with fail
    refine HPG.out.mono ?_
    rintro E wg ⟨rfl, rfl⟩
    go_wp2_with fail
    go_ret
    rw [← HT.out]
    exact ⟨⟨_, rfl, HLj.out.own.below ((Below.refl _ _).alloc (Nat.le_refl _) _)⟩, HLj.out.cur.alloc _, HLj.out.g.trans (World.grownBy_alloc _ _ _)⟩
  ·obtain rfl : j = c := by omega
   have ht := HLj.out.t
   rw [Nat.sub_self, lsM, List.append_nil] at ht
   have HT := Lib.hid ht
   clear ht
   go_wp2_with fail
   go_ret
   rw [← HT.out]
   exact ⟨⟨_, rfl, HLj.out.own⟩, HLj.out.cur, HLj.out.g⟩
set_option maxRecDepth 100000 in
set_option maxHeartbeats 1000000 in
theorem list_u32 (g : FuncId) (hent : Enters Tryz.prog g) (rd : Nat → Int → Int × Nat × Int) (W : World) (p q : Nat) (B : List Int) (a : Nat) (e : Int) (sat : Bool) (hC : Cur W p q B a e) (hB : Byts B)
  (hv : ∀ X a, Cur X p q B a 0 → W.heap.size ≤ X.heap.size → Calls Tryz.prog g #[.pointer (some ⟨p, 0, none⟩)] X (RdInt X p q B (rd a 0))) :
  Calls Tryz.prog 77 #[.agg #[.pointer (some ⟨p, 0, none⟩), .bool sat], .func (.func g) #[.pointer (some ⟨p, 0, none⟩)] #[]] W (ListPost (rng .u32) 30 W p q B (lsOf rd B a e)) := by
 have hc := countM_rd (a := a) (e := e) hB
 have hin : ∀ args w, Sem.run Tryz.prog (callFunc g args) w = .ok (.enter g args) w := hent
 have hpl := hC.lt
 have HQ := Lib.hid (fun hl => hC.qlt' hl : 0 < B.length → q < W.heap.size)
 have H0 := Lib.hid (Count_any _ p q B a e (hC.alloc (.cells #[.pointer (some ⟨p, 0, none⟩), .bool sat] 67)) hB)
 have HV0 := Lib.hid hv
 have hdef : lsOf rd B a e = lsM rd (rdOf (countM B a) a e).1.toNat (rdOf (countM B a) a e).2.1 (rdOf (countM B a) a e).2.2 := rfl
 rw [hdef]
 clear hdef
 generalize rdOf (countM B a) a e = r at *
 obtain ⟨n, a0, e0⟩ := r
 dsimp only at hc
 obtain ⟨c, rfl⟩ := Int.eq_ofNat_of_zero_le hc.1
 rw [Int.toNat_natCast]
 obtain ⟨tg, htg⟩ : ∃ tg, lsM rd c a0 e0 = tg := ⟨_, rfl⟩
 have HTG := Lib.hid htg
 rw [htg]
 have hc2 : (c : Int) ≤ 4096 := hc.2
 have HX := Lib.hid (Blk.new W #[.pointer (some ⟨p, 0, none⟩), .bool sat] 67)
 clear hC hB hc htg hv hent
 go_enter Tryz.func77, Tryz.ntmps77
 go_wp2_with fail
 refine H0.out.mono ?_
 rintro E W1 ⟨rfl, hG1⟩
 have hz1 := hG1.2.size
 rw [World.size_alloc] at hz1
 have HX1 := Lib.hid (HX.out.grown hG1.2 (fun e => by injection e with e; omega))
 have HL := Lib.hid (⟨Own.nil, hG1.1, (World.grownBy_alloc W _ _).trans hG1.2, by rw [Nat.sub_zero, HTG.out]; rfl, Nat.le_refl _⟩ : LL (rng .u32) 30 rd W p q B tg c 0 (.slice none 0 0) [] a0 e0 W1)
 clear hG1 H0
 go_wp2_with fail
 go_loopw [5, 7] (fun v i wr => ∃ (j : Nat) (done : List Int) (a : Nat) (e : Int), j ≤ c ∧ i = .int .i64 j ∧ Hid (LL (rng .u32) 30 rd W p q B tg c j v done a e wr) ∧ Hid (Blk wr W.heap.size #[.pointer (some ⟨p, 0, none⟩), .bool sat] 67)) (fun _ i _ => c - (intOf i).toNat)
 case atStart => exact ⟨0, [], a0, e0, Nat.zero_le _, rfl, HL, HX1⟩
 case round =>
  obtain ⟨j, done, a', e', hj, rfl, HLj, HXj⟩ := hrel
  clear HL HX1
  have b0 : wr.cell? ⟨W.heap.size, 0, none⟩ = some (.pointer (some ⟨p, 0, none⟩)) := HXj.out.cell 0
  have b1 : wr.cell? ⟨W.heap.size, 1, none⟩ = some (.bool sat) := HXj.out.cell 1
  have hwl := HXj.out.lt
  by_cases hlt : j < c
  ·have hlt2 : (j : Int) < (c : Int) := by omega
   by_cases he : e' = 0
   ·subst he
    have HPG := Lib.hid (pgood_any wr p q B a' 0 sat true HLj.out.cur rfl)
    have HV := Lib.hid (HV0.out (wr.alloc (.cells #[.pointer (some ⟨p, 0, none⟩), .bool sat] 67)) a' (HLj.out.cur.alloc _) (by rw [World.size_alloc]; omega))
    have ht0 := HLj.out.t
    rw [show c - j = (c - (j + 1)) + 1 from by omega, lsM, if_pos rfl] at ht0
    generalize rd a' 0 = r at *
    obtain ⟨x, a1, e1⟩ := r
    have HT0 := Lib.hid ht0
    have hX := HLj.out.g.size
    have hdl := HLj.out.len
    clear ht0
    go_wp2_with fail
    refine HPG.out.mono ?_
    rintro E wg ⟨rfl, rfl⟩
    go_wp2_with fail
    refine HV.out.mono ?_
    rintro E W2 ⟨hb, rfl, hG2⟩
    have hz2 := hG2.2.size
    rw [World.size_alloc] at hz2
    have hne : ∀ k, u5.ownBlock = some k → W.heap.size ≤ k ∧ k < wr.heap.size := fun k hk => Own.block HLj.out.own hk
    have np : u5.ownBlock ≠ some p := fun e => by have := hne _ e; omega
    have hOw := ((HLj.out.own.below ((Below.refl _ _).alloc (Nat.le_refl _) (.cells #[.pointer (some ⟨p, 0, none⟩), .bool sat] 67))).grown hG2.2 (.inr np) (fun k hk e => by injection e with e; omega))
    have HO2 := Lib.hid hOw
    have HG2 := Lib.hid (HLj.out.g.trans ((World.grownBy_alloc wr (.cells #[.pointer (some ⟨p, 0, none⟩), .bool sat] 67) (some p)).trans hG2.2))
    have HC2 := Lib.hid hG2.1
    have HX2 := Lib.hid ((HXj.out.alloc (.cells #[.pointer (some ⟨p, 0, none⟩), .bool sat] 67)).grown hG2.2 (fun e => by injection e with e; omega))
    have hF : FK (rng .u32) W2 (fun k => wr.heap.size + 1 ≤ k) x [.int .u32 x] := fk_int (wf_u32 hb)
    have HF := Lib.hid (Ft.mono hF (fun k hk => ⟨by have h : (wr.alloc (.cells #[.pointer (some ⟨p, 0, none⟩), .bool sat] 67)).heap.size ≤ k := (by first | exact hk | (rw [World.size_alloc]; exact hk)); rw [World.size_alloc] at h; omega, fun e => by
     have h : (wr.alloc (.cells #[.pointer (some ⟨p, 0, none⟩), .bool sat] 67)).heap.size ≤ k := by (first | exact hk | (rw [World.size_alloc]; exact hk))
     rw [World.size_alloc] at h
     have := (hne _ e.symm).2
     omega⟩) : FK (rng .u32) W2 (fun k => W.heap.size ≤ k ∧ some k ≠ u5.ownBlock) x _)
    have hgs : W.heap.size ≤ W2.heap.size := by omega
    clear hG2 HV HPG hF b0 b1 hOw
    go_wp2_with (at_builtin; refine Own.append (d := (rng .u32)) W.heap.size rfl (.tmp 20) (.tmp 23) 69 30 _ 4 rfl Tryz.underlying69 info_u32 rfl (by decide) (by decide) u5 done x _ (fun k => W.heap.size ≤ k) rfl rfl HF.out HO2.out hgs (by omega) ?_; intro v1 w1 hown1 hg1 hat1)
    have HO3 := Lib.hid hown1
    have HG3 := Lib.hid hg1
    have hnX : some W.heap.size ≠ u5.ownBlock := fun e => by
     obtain ⟨_, ho, _⟩ := HO2.out
     obtain ⟨cs, hcs⟩ := own_typed ho _ e.symm
     rw [HX2.out] at hcs
     simp at hcs
    clear hown1 hg1 hat1 HF HO2
    go_wp2_with fail
    go_roundw
    case rel =>
     refine ⟨j + 1, done ++ [x], a1, e1, by omega, by go_num, ⟨HO3.out, HC2.out.grown' HG3.out (fun e => np e.symm) (fun hl e => by have := (hne _ e.symm).1; have := HQ.out hl; omega), grown_jj HG2.out HG3.out (fun k hk => .inr (hne k hk).1), ?_, by simp; omega⟩, HX2.out.grown HG3.out hnX⟩
     rw [← HT0.out, List.append_assoc]
     rfl
    case measure => simp [intOf]; omega
   ·have he2 : (e' == 0) = false := beq_eq_false_iff_ne.2 he
    have HPG := Lib.hid (pgood_any wr p q B a' e' sat false HLj.out.cur he2)
    have ht := HLj.out.t
    rw [lsM_bad _ _ _ _ he2, List.append_nil] at ht
    have HT := Lib.hid ht
    clear ht he he2
    go_wp2_with fail
    refine HPG.out.mono ?_
    rintro E wg ⟨rfl, rfl⟩
    go_wp2_with fail
    go_ret
    rw [← HT.out]
    exact ⟨⟨_, rfl, HLj.out.own.below ((Below.refl _ _).alloc (Nat.le_refl _) _)⟩, HLj.out.cur.alloc _, HLj.out.g.trans (World.grownBy_alloc _ _ _)⟩
  ·obtain rfl : j = c := by omega
   have ht := HLj.out.t
   rw [Nat.sub_self, lsM, List.append_nil] at ht
   have HT := Lib.hid ht
   clear ht
   go_wp2_with fail
   go_ret
   rw [← HT.out]
   exact ⟨⟨_, rfl, HLj.out.own⟩, HLj.out.cur, HLj.out.g⟩
set_option maxRecDepth 100000 in
set_option maxHeartbeats 1000000 in
theorem list_lim (g : FuncId) (hent : Enters Tryz.prog g) (rd : Nat → Int → (Int × Int × Bool) × Nat × Int) (W : World) (p q : Nat) (B : List Int) (a : Nat) (e : Int) (sat : Bool) (hC : Cur W p q B a e) (hB : Byts B)
  (hv : ∀ X a, Cur X p q B a 0 → W.heap.size ≤ X.heap.size → Calls Tryz.prog g #[.pointer (some ⟨p, 0, none⟩)] X (RdPost kLim X p q B (rd a 0))) :
  Calls Tryz.prog 78 #[.agg #[.pointer (some ⟨p, 0, none⟩), .bool sat], .func (.func g) #[.pointer (some ⟨p, 0, none⟩)] #[]] W (ListPost kLim 101 W p q B (lsOf rd B a e)) := by
 have hc := countM_rd (a := a) (e := e) hB
 have hin : ∀ args w, Sem.run Tryz.prog (callFunc g args) w = .ok (.enter g args) w := hent
 have hpl := hC.lt
 have HQ := Lib.hid (fun hl => hC.qlt' hl : 0 < B.length → q < W.heap.size)
 have H0 := Lib.hid (Count_any _ p q B a e (hC.alloc (.cells #[.pointer (some ⟨p, 0, none⟩), .bool sat] 67)) hB)
 have HV0 := Lib.hid hv
 have hdef : lsOf rd B a e = lsM rd (rdOf (countM B a) a e).1.toNat (rdOf (countM B a) a e).2.1 (rdOf (countM B a) a e).2.2 := rfl
 rw [hdef]
 clear hdef
 generalize rdOf (countM B a) a e = r at *
 obtain ⟨n, a0, e0⟩ := r
 dsimp only at hc
 obtain ⟨c, rfl⟩ := Int.eq_ofNat_of_zero_le hc.1
 rw [Int.toNat_natCast]
 obtain ⟨tg, htg⟩ : ∃ tg, lsM rd c a0 e0 = tg := ⟨_, rfl⟩
 have HTG := Lib.hid htg
 rw [htg]
 have hc2 : (c : Int) ≤ 4096 := hc.2
 have HX := Lib.hid (Blk.new W #[.pointer (some ⟨p, 0, none⟩), .bool sat] 67)
 clear hC hB hc htg hv hent
 go_enter Tryz.func78, Tryz.ntmps78
 go_wp2_with fail
 refine H0.out.mono ?_
 rintro E W1 ⟨rfl, hG1⟩
 have hz1 := hG1.2.size
 rw [World.size_alloc] at hz1
 have HX1 := Lib.hid (HX.out.grown hG1.2 (fun e => by injection e with e; omega))
 have HL := Lib.hid (⟨Own.nil, hG1.1, (World.grownBy_alloc W _ _).trans hG1.2, by rw [Nat.sub_zero, HTG.out]; rfl, Nat.le_refl _⟩ : LL kLim 101 rd W p q B tg c 0 (.slice none 0 0) [] a0 e0 W1)
 clear hG1 H0
 go_wp2_with fail
 go_loopw [5, 7] (fun v i wr => ∃ (j : Nat) (done : List (Int × Int × Bool)) (a : Nat) (e : Int), j ≤ c ∧ i = .int .i64 j ∧ Hid (LL kLim 101 rd W p q B tg c j v done a e wr) ∧ Hid (Blk wr W.heap.size #[.pointer (some ⟨p, 0, none⟩), .bool sat] 67)) (fun _ i _ => c - (intOf i).toNat)
 case atStart => exact ⟨0, [], a0, e0, Nat.zero_le _, rfl, HL, HX1⟩
 case round =>
  obtain ⟨j, done, a', e', hj, rfl, HLj, HXj⟩ := hrel
  clear HL HX1
  have b0 : wr.cell? ⟨W.heap.size, 0, none⟩ = some (.pointer (some ⟨p, 0, none⟩)) := HXj.out.cell 0
  have b1 : wr.cell? ⟨W.heap.size, 1, none⟩ = some (.bool sat) := HXj.out.cell 1
  have hwl := HXj.out.lt
  by_cases hlt : j < c
  ·have hlt2 : (j : Int) < (c : Int) := by omega
   by_cases he : e' = 0
   ·subst he
    have HPG := Lib.hid (pgood_any wr p q B a' 0 sat true HLj.out.cur rfl)
    have HV := Lib.hid (HV0.out (wr.alloc (.cells #[.pointer (some ⟨p, 0, none⟩), .bool sat] 67)) a' (HLj.out.cur.alloc _) (by rw [World.size_alloc]; omega))
    have ht0 := HLj.out.t
    rw [show c - j = (c - (j + 1)) + 1 from by omega, lsM, if_pos rfl] at ht0
    generalize rd a' 0 = r at *
    obtain ⟨x, a1, e1⟩ := r
    have HT0 := Lib.hid ht0
    have hX := HLj.out.g.size
    have hdl := HLj.out.len
    clear ht0
    go_wp2_with fail
    refine HPG.out.mono ?_
    rintro E wg ⟨rfl, rfl⟩
    go_wp2_with fail
    refine HV.out.mono ?_
    rintro E W2 ⟨⟨cs, rfl, hF⟩, hG2⟩
    have hz2 := hG2.2.size
    rw [World.size_alloc] at hz2
    have hne : ∀ k, u5.ownBlock = some k → W.heap.size ≤ k ∧ k < wr.heap.size := fun k hk => Own.block HLj.out.own hk
    have np : u5.ownBlock ≠ some p := fun e => by have := hne _ e; omega
    have hOw := ((HLj.out.own.below ((Below.refl _ _).alloc (Nat.le_refl _) (.cells #[.pointer (some ⟨p, 0, none⟩), .bool sat] 67))).grown hG2.2 (.inr np) (fun k hk e => by injection e with e; omega))
    have HO2 := Lib.hid hOw
    have HG2 := Lib.hid (HLj.out.g.trans ((World.grownBy_alloc wr (.cells #[.pointer (some ⟨p, 0, none⟩), .bool sat] 67) (some p)).trans hG2.2))
    have HC2 := Lib.hid hG2.1
    have HX2 := Lib.hid ((HXj.out.alloc (.cells #[.pointer (some ⟨p, 0, none⟩), .bool sat] 67)).grown hG2.2 (fun e => by injection e with e; omega))
    obtain rfl := lim_open hF
    have HF := Lib.hid (Ft.mono hF (fun k hk => ⟨by have h : (wr.alloc (.cells #[.pointer (some ⟨p, 0, none⟩), .bool sat] 67)).heap.size ≤ k := (by first | exact hk | (rw [World.size_alloc]; exact hk)); rw [World.size_alloc] at h; omega, fun e => by
     have h : (wr.alloc (.cells #[.pointer (some ⟨p, 0, none⟩), .bool sat] 67)).heap.size ≤ k := by (first | exact hk | (rw [World.size_alloc]; exact hk))
     rw [World.size_alloc] at h
     have := (hne _ e.symm).2
     omega⟩) : FK kLim W2 (fun k => W.heap.size ≤ k ∧ some k ≠ u5.ownBlock) x _)
    have hgs : W.heap.size ≤ W2.heap.size := by omega
    clear hG2 HV HPG hF b0 b1 hOw
    go_wp2_with (at_builtin; refine Own.append (d := kLim) W.heap.size rfl (.tmp 20) (.tmp 23) 27 101 _ 12 rfl Tryz.underlying27 info_lim rfl (by decide) (by decide) u5 done x _ (fun k => W.heap.size ≤ k) rfl rfl HF.out HO2.out hgs (by omega) ?_; intro v1 w1 hown1 hg1 hat1)
    have HO3 := Lib.hid hown1
    have HG3 := Lib.hid hg1
    have hnX : some W.heap.size ≠ u5.ownBlock := fun e => by
     obtain ⟨_, ho, _⟩ := HO2.out
     obtain ⟨cs, hcs⟩ := own_typed ho _ e.symm
     rw [HX2.out] at hcs
     simp at hcs
    clear hown1 hg1 hat1 HF HO2
    go_wp2_with fail
    go_roundw
    case rel =>
     refine ⟨j + 1, done ++ [x], a1, e1, by omega, by go_num, ⟨HO3.out, HC2.out.grown' HG3.out (fun e => np e.symm) (fun hl e => by have := (hne _ e.symm).1; have := HQ.out hl; omega), grown_jj HG2.out HG3.out (fun k hk => .inr (hne k hk).1), ?_, by simp; omega⟩, HX2.out.grown HG3.out hnX⟩
     rw [← HT0.out, List.append_assoc]
     rfl
    case measure => simp [intOf]; omega
   ·have he2 : (e' == 0) = false := beq_eq_false_iff_ne.2 he
    have HPG := Lib.hid (pgood_any wr p q B a' e' sat false HLj.out.cur he2)
    have ht := HLj.out.t
    rw [lsM_bad _ _ _ _ he2, List.append_nil] at ht
    have HT := Lib.hid ht
    clear ht he he2
    go_wp2_with fail
    refine HPG.out.mono ?_
    rintro E wg ⟨rfl, rfl⟩
    go_wp2_with fail
    go_ret
    rw [← HT.out]
    exact ⟨⟨_, rfl, HLj.out.own.below ((Below.refl _ _).alloc (Nat.le_refl _) _)⟩, HLj.out.cur.alloc _, HLj.out.g.trans (World.grownBy_alloc _ _ _)⟩
  ·obtain rfl : j = c := by omega
   have ht := HLj.out.t
   rw [Nat.sub_self, lsM, List.append_nil] at ht
   have HT := Lib.hid ht
   clear ht
   go_wp2_with fail
   go_ret
   rw [← HT.out]
   exact ⟨⟨_, rfl, HLj.out.own⟩, HLj.out.cur, HLj.out.g⟩
set_option maxRecDepth 100000 in
set_option maxHeartbeats 1000000 in
theorem list_cell (g : FuncId) (hent : Enters Tryz.prog g) (rd : Nat → Int → CellD × Nat × Int) (W : World) (p q : Nat) (B : List Int) (a : Nat) (e : Int) (sat : Bool) (hC : Cur W p q B a e) (hB : Byts B)
  (hv : ∀ X a, Cur X p q B a 0 → W.heap.size ≤ X.heap.size → Calls Tryz.prog g #[.agg #[.pointer (some ⟨p, 0, none⟩), .bool sat]] X (RdPost kCell X p q B (rd a 0))) :
  Calls Tryz.prog 81 #[.agg #[.pointer (some ⟨p, 0, none⟩), .bool sat], .func (.func g) #[.agg #[.pointer (some ⟨p, 0, none⟩), .bool sat]] #[]] W (ListPost kCell 114 W p q B (lsOf rd B a e)) := by
 have hc := countM_rd (a := a) (e := e) hB
 have hin : ∀ args w, Sem.run Tryz.prog (callFunc g args) w = .ok (.enter g args) w := hent
 have hpl := hC.lt
 have HQ := Lib.hid (fun hl => hC.qlt' hl : 0 < B.length → q < W.heap.size)
 have H0 := Lib.hid (Count_any _ p q B a e (hC.alloc (.cells #[.pointer (some ⟨p, 0, none⟩), .bool sat] 67)) hB)
 have HV0 := Lib.hid hv
 have hdef : lsOf rd B a e = lsM rd (rdOf (countM B a) a e).1.toNat (rdOf (countM B a) a e).2.1 (rdOf (countM B a) a e).2.2 := rfl
 rw [hdef]
 clear hdef
 generalize rdOf (countM B a) a e = r at *
 obtain ⟨n, a0, e0⟩ := r
 dsimp only at hc
 obtain ⟨c, rfl⟩ := Int.eq_ofNat_of_zero_le hc.1
 rw [Int.toNat_natCast]
 obtain ⟨tg, htg⟩ : ∃ tg, lsM rd c a0 e0 = tg := ⟨_, rfl⟩
 have HTG := Lib.hid htg
 rw [htg]
 have hc2 : (c : Int) ≤ 4096 := hc.2
 have HX := Lib.hid (Blk.new W #[.pointer (some ⟨p, 0, none⟩), .bool sat] 67)
 clear hC hB hc htg hv hent
 go_enter Tryz.func81, Tryz.ntmps81
 go_wp2_with fail
 refine H0.out.mono ?_
 rintro E W1 ⟨rfl, hG1⟩
 have hz1 := hG1.2.size
 rw [World.size_alloc] at hz1
 have HX1 := Lib.hid (HX.out.grown hG1.2 (fun e => by injection e with e; omega))
 have HL := Lib.hid (⟨Own.nil, hG1.1, (World.grownBy_alloc W _ _).trans hG1.2, by rw [Nat.sub_zero, HTG.out]; rfl, Nat.le_refl _⟩ : LL kCell 114 rd W p q B tg c 0 (.slice none 0 0) [] a0 e0 W1)
 clear hG1 H0
 go_wp2_with fail
 go_loopw [5, 7] (fun v i wr => ∃ (j : Nat) (done : List CellD) (a : Nat) (e : Int), j ≤ c ∧ i = .int .i64 j ∧ Hid (LL kCell 114 rd W p q B tg c j v done a e wr) ∧ Hid (Blk wr W.heap.size #[.pointer (some ⟨p, 0, none⟩), .bool sat] 67)) (fun _ i _ => c - (intOf i).toNat)
 case atStart => exact ⟨0, [], a0, e0, Nat.zero_le _, rfl, HL, HX1⟩
 case round =>
  obtain ⟨j, done, a', e', hj, rfl, HLj, HXj⟩ := hrel
  clear HL HX1
  have b0 : wr.cell? ⟨W.heap.size, 0, none⟩ = some (.pointer (some ⟨p, 0, none⟩)) := HXj.out.cell 0
  have b1 : wr.cell? ⟨W.heap.size, 1, none⟩ = some (.bool sat) := HXj.out.cell 1
  have hwl := HXj.out.lt
  by_cases hlt : j < c
  ·have hlt2 : (j : Int) < (c : Int) := by omega
   by_cases he : e' = 0
   ·subst he
    have HPG := Lib.hid (pgood_any wr p q B a' 0 sat true HLj.out.cur rfl)
    have HV := Lib.hid (HV0.out (wr.alloc (.cells #[.pointer (some ⟨p, 0, none⟩), .bool sat] 67)) a' (HLj.out.cur.alloc _) (by rw [World.size_alloc]; omega))
    have ht0 := HLj.out.t
    rw [show c - j = (c - (j + 1)) + 1 from by omega, lsM, if_pos rfl] at ht0
    generalize rd a' 0 = r at *
    obtain ⟨x, a1, e1⟩ := r
    have HT0 := Lib.hid ht0
    have hX := HLj.out.g.size
    have hdl := HLj.out.len
    clear ht0
    go_wp2_with fail
    refine HPG.out.mono ?_
    rintro E wg ⟨rfl, rfl⟩
    go_wp2_with fail
    refine HV.out.mono ?_
    rintro E W2 ⟨⟨cs, rfl, hF⟩, hG2⟩
    have hz2 := hG2.2.size
    rw [World.size_alloc] at hz2
    have hne : ∀ k, u5.ownBlock = some k → W.heap.size ≤ k ∧ k < wr.heap.size := fun k hk => Own.block HLj.out.own hk
    have np : u5.ownBlock ≠ some p := fun e => by have := hne _ e; omega
    have hOw := ((HLj.out.own.below ((Below.refl _ _).alloc (Nat.le_refl _) (.cells #[.pointer (some ⟨p, 0, none⟩), .bool sat] 67))).grown hG2.2 (.inr np) (fun k hk e => by injection e with e; omega))
    have HO2 := Lib.hid hOw
    have HG2 := Lib.hid (HLj.out.g.trans ((World.grownBy_alloc wr (.cells #[.pointer (some ⟨p, 0, none⟩), .bool sat] 67) (some p)).trans hG2.2))
    have HC2 := Lib.hid hG2.1
    have HX2 := Lib.hid ((HXj.out.alloc (.cells #[.pointer (some ⟨p, 0, none⟩), .bool sat] 67)).grown hG2.2 (fun e => by injection e with e; omega))
    obtain ⟨A1, c1, rfl, _, _⟩ := cell_open hF
    have HF := Lib.hid (Ft.mono hF (fun k hk => ⟨by have h : (wr.alloc (.cells #[.pointer (some ⟨p, 0, none⟩), .bool sat] 67)).heap.size ≤ k := (by first | exact hk | (rw [World.size_alloc]; exact hk)); rw [World.size_alloc] at h; omega, fun e => by
     have h : (wr.alloc (.cells #[.pointer (some ⟨p, 0, none⟩), .bool sat] 67)).heap.size ≤ k := by (first | exact hk | (rw [World.size_alloc]; exact hk))
     rw [World.size_alloc] at h
     have := (hne _ e.symm).2
     omega⟩) : FK kCell W2 (fun k => W.heap.size ≤ k ∧ some k ≠ u5.ownBlock) x _)
    have hgs : W.heap.size ≤ W2.heap.size := by omega
    clear hG2 HV HPG hF b0 b1 hOw
    go_wp2_with (at_builtin; refine Own.append (d := kCell) W.heap.size rfl (.tmp 20) (.tmp 23) 28 114 _ 32 rfl Tryz.underlying28 info_cell rfl (by decide) (by decide) u5 done x _ (fun k => W.heap.size ≤ k) rfl rfl HF.out HO2.out hgs (by omega) ?_; intro v1 w1 hown1 hg1 hat1)
    have HO3 := Lib.hid hown1
    have HG3 := Lib.hid hg1
    have hnX : some W.heap.size ≠ u5.ownBlock := fun e => by
     obtain ⟨_, ho, _⟩ := HO2.out
     obtain ⟨cs, hcs⟩ := own_typed ho _ e.symm
     rw [HX2.out] at hcs
     simp at hcs
    clear hown1 hg1 hat1 HF HO2
    go_wp2_with fail
    go_roundw
    case rel =>
     refine ⟨j + 1, done ++ [x], a1, e1, by omega, by go_num, ⟨HO3.out, HC2.out.grown' HG3.out (fun e => np e.symm) (fun hl e => by have := (hne _ e.symm).1; have := HQ.out hl; omega), grown_jj HG2.out HG3.out (fun k hk => .inr (hne k hk).1), ?_, by simp; omega⟩, HX2.out.grown HG3.out hnX⟩
     rw [← HT0.out, List.append_assoc]
     rfl
    case measure => simp [intOf]; omega
   ·have he2 : (e' == 0) = false := beq_eq_false_iff_ne.2 he
    have HPG := Lib.hid (pgood_any wr p q B a' e' sat false HLj.out.cur he2)
    have ht := HLj.out.t
    rw [lsM_bad _ _ _ _ he2, List.append_nil] at ht
    have HT := Lib.hid ht
    clear ht he he2
    go_wp2_with fail
    refine HPG.out.mono ?_
    rintro E wg ⟨rfl, rfl⟩
    go_wp2_with fail
    go_ret
    rw [← HT.out]
    exact ⟨⟨_, rfl, HLj.out.own.below ((Below.refl _ _).alloc (Nat.le_refl _) _)⟩, HLj.out.cur.alloc _, HLj.out.g.trans (World.grownBy_alloc _ _ _)⟩
  ·obtain rfl : j = c := by omega
   have ht := HLj.out.t
   rw [Nat.sub_self, lsM, List.append_nil] at ht
   have HT := Lib.hid ht
   clear ht
   go_wp2_with fail
   go_ret
   rw [← HT.out]
   exact ⟨⟨_, rfl, HLj.out.own⟩, HLj.out.cur, HLj.out.g⟩
set_option maxRecDepth 100000 in
set_option maxHeartbeats 1000000 in
theorem list_exp (g : FuncId) (hent : Enters Tryz.prog g) (rd : Nat → Int → ExpD × Nat × Int) (W : World) (p q : Nat) (B : List Int) (a : Nat) (e : Int) (sat : Bool) (hC : Cur W p q B a e) (hB : Byts B)
  (hv : ∀ X a, Cur X p q B a 0 → W.heap.size ≤ X.heap.size → Calls Tryz.prog g #[.agg #[.pointer (some ⟨p, 0, none⟩), .bool sat]] X (RdPost kExp X p q B (rd a 0))) :
  Calls Tryz.prog 83 #[.agg #[.pointer (some ⟨p, 0, none⟩), .bool sat], .func (.func g) #[.agg #[.pointer (some ⟨p, 0, none⟩), .bool sat]] #[]] W (ListPost kExp 110 W p q B (lsOf rd B a e)) := by
 have hc := countM_rd (a := a) (e := e) hB
 have hin : ∀ args w, Sem.run Tryz.prog (callFunc g args) w = .ok (.enter g args) w := hent
 have hpl := hC.lt
 have HQ := Lib.hid (fun hl => hC.qlt' hl : 0 < B.length → q < W.heap.size)
 have H0 := Lib.hid (Count_any _ p q B a e (hC.alloc (.cells #[.pointer (some ⟨p, 0, none⟩), .bool sat] 67)) hB)
 have HV0 := Lib.hid hv
 have hdef : lsOf rd B a e = lsM rd (rdOf (countM B a) a e).1.toNat (rdOf (countM B a) a e).2.1 (rdOf (countM B a) a e).2.2 := rfl
 rw [hdef]
 clear hdef
 generalize rdOf (countM B a) a e = r at *
 obtain ⟨n, a0, e0⟩ := r
 dsimp only at hc
 obtain ⟨c, rfl⟩ := Int.eq_ofNat_of_zero_le hc.1
 rw [Int.toNat_natCast]
 obtain ⟨tg, htg⟩ : ∃ tg, lsM rd c a0 e0 = tg := ⟨_, rfl⟩
 have HTG := Lib.hid htg
 rw [htg]
 have hc2 : (c : Int) ≤ 4096 := hc.2
 have HX := Lib.hid (Blk.new W #[.pointer (some ⟨p, 0, none⟩), .bool sat] 67)
 clear hC hB hc htg hv hent
 go_enter Tryz.func83, Tryz.ntmps83
 go_wp2_with fail
 refine H0.out.mono ?_
 rintro E W1 ⟨rfl, hG1⟩
 have hz1 := hG1.2.size
 rw [World.size_alloc] at hz1
 have HX1 := Lib.hid (HX.out.grown hG1.2 (fun e => by injection e with e; omega))
 have HL := Lib.hid (⟨Own.nil, hG1.1, (World.grownBy_alloc W _ _).trans hG1.2, by rw [Nat.sub_zero, HTG.out]; rfl, Nat.le_refl _⟩ : LL kExp 110 rd W p q B tg c 0 (.slice none 0 0) [] a0 e0 W1)
 clear hG1 H0
 go_wp2_with fail
 go_loopw [5, 7] (fun v i wr => ∃ (j : Nat) (done : List ExpD) (a : Nat) (e : Int), j ≤ c ∧ i = .int .i64 j ∧ Hid (LL kExp 110 rd W p q B tg c j v done a e wr) ∧ Hid (Blk wr W.heap.size #[.pointer (some ⟨p, 0, none⟩), .bool sat] 67)) (fun _ i _ => c - (intOf i).toNat)
 case atStart => exact ⟨0, [], a0, e0, Nat.zero_le _, rfl, HL, HX1⟩
 case round =>
  obtain ⟨j, done, a', e', hj, rfl, HLj, HXj⟩ := hrel
  clear HL HX1
  have b0 : wr.cell? ⟨W.heap.size, 0, none⟩ = some (.pointer (some ⟨p, 0, none⟩)) := HXj.out.cell 0
  have b1 : wr.cell? ⟨W.heap.size, 1, none⟩ = some (.bool sat) := HXj.out.cell 1
  have hwl := HXj.out.lt
  by_cases hlt : j < c
  ·have hlt2 : (j : Int) < (c : Int) := by omega
   by_cases he : e' = 0
   ·subst he
    have HPG := Lib.hid (pgood_any wr p q B a' 0 sat true HLj.out.cur rfl)
    have HV := Lib.hid (HV0.out (wr.alloc (.cells #[.pointer (some ⟨p, 0, none⟩), .bool sat] 67)) a' (HLj.out.cur.alloc _) (by rw [World.size_alloc]; omega))
    have ht0 := HLj.out.t
    rw [show c - j = (c - (j + 1)) + 1 from by omega, lsM, if_pos rfl] at ht0
    generalize rd a' 0 = r at *
    obtain ⟨x, a1, e1⟩ := r
    have HT0 := Lib.hid ht0
    have hX := HLj.out.g.size
    have hdl := HLj.out.len
    clear ht0
    go_wp2_with fail
    refine HPG.out.mono ?_
    rintro E wg ⟨rfl, rfl⟩
    go_wp2_with fail
    refine HV.out.mono ?_
    rintro E W2 ⟨⟨cs, rfl, hF⟩, hG2⟩
    have hz2 := hG2.2.size
    rw [World.size_alloc] at hz2
    have hne : ∀ k, u5.ownBlock = some k → W.heap.size ≤ k ∧ k < wr.heap.size := fun k hk => Own.block HLj.out.own hk
    have np : u5.ownBlock ≠ some p := fun e => by have := hne _ e; omega
    have hOw := ((HLj.out.own.below ((Below.refl _ _).alloc (Nat.le_refl _) (.cells #[.pointer (some ⟨p, 0, none⟩), .bool sat] 67))).grown hG2.2 (.inr np) (fun k hk e => by injection e with e; omega))
    have HO2 := Lib.hid hOw
    have HG2 := Lib.hid (HLj.out.g.trans ((World.grownBy_alloc wr (.cells #[.pointer (some ⟨p, 0, none⟩), .bool sat] 67) (some p)).trans hG2.2))
    have HC2 := Lib.hid hG2.1
    have HX2 := Lib.hid ((HXj.out.alloc (.cells #[.pointer (some ⟨p, 0, none⟩), .bool sat] 67)).grown hG2.2 (fun e => by injection e with e; omega))
    obtain rfl := exp_open hF
    have HF := Lib.hid (Ft.mono hF (fun k hk => ⟨by have h : (wr.alloc (.cells #[.pointer (some ⟨p, 0, none⟩), .bool sat] 67)).heap.size ≤ k := (by first | exact hk | (rw [World.size_alloc]; exact hk)); rw [World.size_alloc] at h; omega, fun e => by
     have h : (wr.alloc (.cells #[.pointer (some ⟨p, 0, none⟩), .bool sat] 67)).heap.size ≤ k := by (first | exact hk | (rw [World.size_alloc]; exact hk))
     rw [World.size_alloc] at h
     have := (hne _ e.symm).2
     omega⟩) : FK kExp W2 (fun k => W.heap.size ≤ k ∧ some k ≠ u5.ownBlock) x _)
    have hgs : W.heap.size ≤ W2.heap.size := by omega
    clear hG2 HV HPG hF b0 b1 hOw
    go_wp2_with (at_builtin; refine Own.append (d := kExp) W.heap.size rfl (.tmp 20) (.tmp 23) 29 110 _ 32 rfl Tryz.underlying29 info_exp rfl (by decide) (by decide) u5 done x _ (fun k => W.heap.size ≤ k) rfl rfl HF.out HO2.out hgs (by omega) ?_; intro v1 w1 hown1 hg1 hat1)
    have HO3 := Lib.hid hown1
    have HG3 := Lib.hid hg1
    have hnX : some W.heap.size ≠ u5.ownBlock := fun e => by
     obtain ⟨_, ho, _⟩ := HO2.out
     obtain ⟨cs, hcs⟩ := own_typed ho _ e.symm
     rw [HX2.out] at hcs
     simp at hcs
    clear hown1 hg1 hat1 HF HO2
    go_wp2_with fail
    go_roundw
    case rel =>
     refine ⟨j + 1, done ++ [x], a1, e1, by omega, by go_num, ⟨HO3.out, HC2.out.grown' HG3.out (fun e => np e.symm) (fun hl e => by have := (hne _ e.symm).1; have := HQ.out hl; omega), grown_jj HG2.out HG3.out (fun k hk => .inr (hne k hk).1), ?_, by simp; omega⟩, HX2.out.grown HG3.out hnX⟩
     rw [← HT0.out, List.append_assoc]
     rfl
    case measure => simp [intOf]; omega
   ·have he2 : (e' == 0) = false := beq_eq_false_iff_ne.2 he
    have HPG := Lib.hid (pgood_any wr p q B a' e' sat false HLj.out.cur he2)
    have ht := HLj.out.t
    rw [lsM_bad _ _ _ _ he2, List.append_nil] at ht
    have HT := Lib.hid ht
    clear ht he he2
    go_wp2_with fail
    refine HPG.out.mono ?_
    rintro E wg ⟨rfl, rfl⟩
    go_wp2_with fail
    go_ret
    rw [← HT.out]
    exact ⟨⟨_, rfl, HLj.out.own.below ((Below.refl _ _).alloc (Nat.le_refl _) _)⟩, HLj.out.cur.alloc _, HLj.out.g.trans (World.grownBy_alloc _ _ _)⟩
  ·obtain rfl : j = c := by omega
   have ht := HLj.out.t
   rw [Nat.sub_self, lsM, List.append_nil] at ht
   have HT := Lib.hid ht
   clear ht
   go_wp2_with fail
   go_ret
   rw [← HT.out]
   exact ⟨⟨_, rfl, HLj.out.own⟩, HLj.out.cur, HLj.out.g⟩
set_option maxRecDepth 100000 in
set_option maxHeartbeats 1000000 in
theorem list_elem (g : FuncId) (hent : Enters Tryz.prog g) (rd : Nat → Int → ElemD × Nat × Int) (W : World) (p q : Nat) (B : List Int) (a : Nat) (e : Int) (sat : Bool) (hC : Cur W p q B a e) (hB : Byts B)
  (hv : ∀ X a, Cur X p q B a 0 → W.heap.size ≤ X.heap.size → Calls Tryz.prog g #[.agg #[.pointer (some ⟨p, 0, none⟩), .bool sat]] X (RdPost kElem X p q B (rd a 0))) :
  Calls Tryz.prog 85 #[.agg #[.pointer (some ⟨p, 0, none⟩), .bool sat], .func (.func g) #[.agg #[.pointer (some ⟨p, 0, none⟩), .bool sat]] #[]] W (ListPost kElem 118 W p q B (lsOf rd B a e)) := by
 have hc := countM_rd (a := a) (e := e) hB
 have hin : ∀ args w, Sem.run Tryz.prog (callFunc g args) w = .ok (.enter g args) w := hent
 have hpl := hC.lt
 have HQ := Lib.hid (fun hl => hC.qlt' hl : 0 < B.length → q < W.heap.size)
 have H0 := Lib.hid (Count_any _ p q B a e (hC.alloc (.cells #[.pointer (some ⟨p, 0, none⟩), .bool sat] 67)) hB)
 have HV0 := Lib.hid hv
 have hdef : lsOf rd B a e = lsM rd (rdOf (countM B a) a e).1.toNat (rdOf (countM B a) a e).2.1 (rdOf (countM B a) a e).2.2 := rfl
 rw [hdef]
 clear hdef
 generalize rdOf (countM B a) a e = r at *
 obtain ⟨n, a0, e0⟩ := r
 dsimp only at hc
 obtain ⟨c, rfl⟩ := Int.eq_ofNat_of_zero_le hc.1
 rw [Int.toNat_natCast]
 obtain ⟨tg, htg⟩ : ∃ tg, lsM rd c a0 e0 = tg := ⟨_, rfl⟩
 have HTG := Lib.hid htg
 rw [htg]
 have hc2 : (c : Int) ≤ 4096 := hc.2
 have HX := Lib.hid (Blk.new W #[.pointer (some ⟨p, 0, none⟩), .bool sat] 67)
 clear hC hB hc htg hv hent
 go_enter Tryz.func85, Tryz.ntmps85
 go_wp2_with fail
 refine H0.out.mono ?_
 rintro E W1 ⟨rfl, hG1⟩
 have hz1 := hG1.2.size
 rw [World.size_alloc] at hz1
 have HX1 := Lib.hid (HX.out.grown hG1.2 (fun e => by injection e with e; omega))
 have HL := Lib.hid (⟨Own.nil, hG1.1, (World.grownBy_alloc W _ _).trans hG1.2, by rw [Nat.sub_zero, HTG.out]; rfl, Nat.le_refl _⟩ : LL kElem 118 rd W p q B tg c 0 (.slice none 0 0) [] a0 e0 W1)
 clear hG1 H0
 go_wp2_with fail
 go_loopw [5, 7] (fun v i wr => ∃ (j : Nat) (done : List ElemD) (a : Nat) (e : Int), j ≤ c ∧ i = .int .i64 j ∧ Hid (LL kElem 118 rd W p q B tg c j v done a e wr) ∧ Hid (Blk wr W.heap.size #[.pointer (some ⟨p, 0, none⟩), .bool sat] 67)) (fun _ i _ => c - (intOf i).toNat)
 case atStart => exact ⟨0, [], a0, e0, Nat.zero_le _, rfl, HL, HX1⟩
 case round =>
  obtain ⟨j, done, a', e', hj, rfl, HLj, HXj⟩ := hrel
  clear HL HX1
  have b0 : wr.cell? ⟨W.heap.size, 0, none⟩ = some (.pointer (some ⟨p, 0, none⟩)) := HXj.out.cell 0
  have b1 : wr.cell? ⟨W.heap.size, 1, none⟩ = some (.bool sat) := HXj.out.cell 1
  have hwl := HXj.out.lt
  by_cases hlt : j < c
  ·have hlt2 : (j : Int) < (c : Int) := by omega
   by_cases he : e' = 0
   ·subst he
    have HPG := Lib.hid (pgood_any wr p q B a' 0 sat true HLj.out.cur rfl)
    have HV := Lib.hid (HV0.out (wr.alloc (.cells #[.pointer (some ⟨p, 0, none⟩), .bool sat] 67)) a' (HLj.out.cur.alloc _) (by rw [World.size_alloc]; omega))
    have ht0 := HLj.out.t
    rw [show c - j = (c - (j + 1)) + 1 from by omega, lsM, if_pos rfl] at ht0
    generalize rd a' 0 = r at *
    obtain ⟨x, a1, e1⟩ := r
    have HT0 := Lib.hid ht0
    have hX := HLj.out.g.size
    have hdl := HLj.out.len
    clear ht0
    go_wp2_with fail
    refine HPG.out.mono ?_
    rintro E wg ⟨rfl, rfl⟩
    go_wp2_with fail
    refine HV.out.mono ?_
    rintro E W2 ⟨⟨cs, rfl, hF⟩, hG2⟩
    have hz2 := hG2.2.size
    rw [World.size_alloc] at hz2
    have hne : ∀ k, u5.ownBlock = some k → W.heap.size ≤ k ∧ k < wr.heap.size := fun k hk => Own.block HLj.out.own hk
    have np : u5.ownBlock ≠ some p := fun e => by have := hne _ e; omega
    have hOw := ((HLj.out.own.below ((Below.refl _ _).alloc (Nat.le_refl _) (.cells #[.pointer (some ⟨p, 0, none⟩), .bool sat] 67))).grown hG2.2 (.inr np) (fun k hk e => by injection e with e; omega))
    have HO2 := Lib.hid hOw
    have HG2 := Lib.hid (HLj.out.g.trans ((World.grownBy_alloc wr (.cells #[.pointer (some ⟨p, 0, none⟩), .bool sat] 67) (some p)).trans hG2.2))
    have HC2 := Lib.hid hG2.1
    have HX2 := Lib.hid ((HXj.out.alloc (.cells #[.pointer (some ⟨p, 0, none⟩), .bool sat] 67)).grown hG2.2 (fun e => by injection e with e; omega))
    obtain ⟨A1, c1, A2, c2, rfl, _, _⟩ := elem_open hF
    have HF := Lib.hid (Ft.mono hF (fun k hk => ⟨by have h : (wr.alloc (.cells #[.pointer (some ⟨p, 0, none⟩), .bool sat] 67)).heap.size ≤ k := (by first | exact hk | (rw [World.size_alloc]; exact hk)); rw [World.size_alloc] at h; omega, fun e => by
     have h : (wr.alloc (.cells #[.pointer (some ⟨p, 0, none⟩), .bool sat] 67)).heap.size ≤ k := by (first | exact hk | (rw [World.size_alloc]; exact hk))
     rw [World.size_alloc] at h
     have := (hne _ e.symm).2
     omega⟩) : FK kElem W2 (fun k => W.heap.size ≤ k ∧ some k ≠ u5.ownBlock) x _)
    have hgs : W.heap.size ≤ W2.heap.size := by omega
    clear hG2 HV HPG hF b0 b1 hOw
    go_wp2_with (at_builtin; refine Own.append (d := kElem) W.heap.size rfl (.tmp 20) (.tmp 23) 31 118 _ 56 rfl Tryz.underlying31 info_elem rfl (by decide) (by decide) u5 done x _ (fun k => W.heap.size ≤ k) rfl rfl HF.out HO2.out hgs (by omega) ?_; intro v1 w1 hown1 hg1 hat1)
    have HO3 := Lib.hid hown1
    have HG3 := Lib.hid hg1
    have hnX : some W.heap.size ≠ u5.ownBlock := fun e => by
     obtain ⟨_, ho, _⟩ := HO2.out
     obtain ⟨cs, hcs⟩ := own_typed ho _ e.symm
     rw [HX2.out] at hcs
     simp at hcs
    clear hown1 hg1 hat1 HF HO2
    go_wp2_with fail
    go_roundw
    case rel =>
     refine ⟨j + 1, done ++ [x], a1, e1, by omega, by go_num, ⟨HO3.out, HC2.out.grown' HG3.out (fun e => np e.symm) (fun hl e => by have := (hne _ e.symm).1; have := HQ.out hl; omega), grown_jj HG2.out HG3.out (fun k hk => .inr (hne k hk).1), ?_, by simp; omega⟩, HX2.out.grown HG3.out hnX⟩
     rw [← HT0.out, List.append_assoc]
     rfl
    case measure => simp [intOf]; omega
   ·have he2 : (e' == 0) = false := beq_eq_false_iff_ne.2 he
    have HPG := Lib.hid (pgood_any wr p q B a' e' sat false HLj.out.cur he2)
    have ht := HLj.out.t
    rw [lsM_bad _ _ _ _ he2, List.append_nil] at ht
    have HT := Lib.hid ht
    clear ht he he2
    go_wp2_with fail
    refine HPG.out.mono ?_
    rintro E wg ⟨rfl, rfl⟩
    go_wp2_with fail
    go_ret
    rw [← HT.out]
    exact ⟨⟨_, rfl, HLj.out.own.below ((Below.refl _ _).alloc (Nat.le_refl _) _)⟩, HLj.out.cur.alloc _, HLj.out.g.trans (World.grownBy_alloc _ _ _)⟩
  ·obtain rfl : j = c := by omega
   have ht := HLj.out.t
   rw [Nat.sub_self, lsM, List.append_nil] at ht
   have HT := Lib.hid ht
   clear ht
   go_wp2_with fail
   go_ret
   rw [← HT.out]
   exact ⟨⟨_, rfl, HLj.out.own⟩, HLj.out.cur, HLj.out.g⟩
set_option maxRecDepth 100000 in
set_option maxHeartbeats 1000000 in
theorem list_fn (g : FuncId) (hent : Enters Tryz.prog g) (rd : Nat → Int → FnD × Nat × Int) (W : World) (p q : Nat) (B : List Int) (a : Nat) (e : Int) (sat : Bool) (hC : Cur W p q B a e) (hB : Byts B)
  (hv : ∀ X a, Cur X p q B a 0 → W.heap.size ≤ X.heap.size → Calls Tryz.prog g #[.agg #[.pointer (some ⟨p, 0, none⟩), .bool sat]] X (RdPost kFn X p q B (rd a 0))) :
  Calls Tryz.prog 87 #[.agg #[.pointer (some ⟨p, 0, none⟩), .bool sat], .func (.func g) #[.agg #[.pointer (some ⟨p, 0, none⟩), .bool sat]] #[]] W (ListPost kFn 75 W p q B (lsOf rd B a e)) := by
 have hc := countM_rd (a := a) (e := e) hB
 have hin : ∀ args w, Sem.run Tryz.prog (callFunc g args) w = .ok (.enter g args) w := hent
 have hpl := hC.lt
 have HQ := Lib.hid (fun hl => hC.qlt' hl : 0 < B.length → q < W.heap.size)
 have H0 := Lib.hid (Count_any _ p q B a e (hC.alloc (.cells #[.pointer (some ⟨p, 0, none⟩), .bool sat] 67)) hB)
 have HV0 := Lib.hid hv
 have hdef : lsOf rd B a e = lsM rd (rdOf (countM B a) a e).1.toNat (rdOf (countM B a) a e).2.1 (rdOf (countM B a) a e).2.2 := rfl
 rw [hdef]
 clear hdef
 generalize rdOf (countM B a) a e = r at *
 obtain ⟨n, a0, e0⟩ := r
 dsimp only at hc
 obtain ⟨c, rfl⟩ := Int.eq_ofNat_of_zero_le hc.1
 rw [Int.toNat_natCast]
 obtain ⟨tg, htg⟩ : ∃ tg, lsM rd c a0 e0 = tg := ⟨_, rfl⟩
 have HTG := Lib.hid htg
 rw [htg]
 have hc2 : (c : Int) ≤ 4096 := hc.2
 have HX := Lib.hid (Blk.new W #[.pointer (some ⟨p, 0, none⟩), .bool sat] 67)
 clear hC hB hc htg hv hent
 go_enter Tryz.func87, Tryz.ntmps87
 go_wp2_with fail
 refine H0.out.mono ?_
 rintro E W1 ⟨rfl, hG1⟩
 have hz1 := hG1.2.size
 rw [World.size_alloc] at hz1
 have HX1 := Lib.hid (HX.out.grown hG1.2 (fun e => by injection e with e; omega))
 have HL := Lib.hid (⟨Own.nil, hG1.1, (World.grownBy_alloc W _ _).trans hG1.2, by rw [Nat.sub_zero, HTG.out]; rfl, Nat.le_refl _⟩ : LL kFn 75 rd W p q B tg c 0 (.slice none 0 0) [] a0 e0 W1)
 clear hG1 H0
 go_wp2_with fail
 go_loopw [5, 7] (fun v i wr => ∃ (j : Nat) (done : List FnD) (a : Nat) (e : Int), j ≤ c ∧ i = .int .i64 j ∧ Hid (LL kFn 75 rd W p q B tg c j v done a e wr) ∧ Hid (Blk wr W.heap.size #[.pointer (some ⟨p, 0, none⟩), .bool sat] 67)) (fun _ i _ => c - (intOf i).toNat)
 case atStart => exact ⟨0, [], a0, e0, Nat.zero_le _, rfl, HL, HX1⟩
 case round =>
  obtain ⟨j, done, a', e', hj, rfl, HLj, HXj⟩ := hrel
  clear HL HX1
  have b0 : wr.cell? ⟨W.heap.size, 0, none⟩ = some (.pointer (some ⟨p, 0, none⟩)) := HXj.out.cell 0
  have b1 : wr.cell? ⟨W.heap.size, 1, none⟩ = some (.bool sat) := HXj.out.cell 1
  have hwl := HXj.out.lt
  by_cases hlt : j < c
  ·have hlt2 : (j : Int) < (c : Int) := by omega
   by_cases he : e' = 0
   ·subst he
    have HPG := Lib.hid (pgood_any wr p q B a' 0 sat true HLj.out.cur rfl)
    have HV := Lib.hid (HV0.out (wr.alloc (.cells #[.pointer (some ⟨p, 0, none⟩), .bool sat] 67)) a' (HLj.out.cur.alloc _) (by rw [World.size_alloc]; omega))
    have ht0 := HLj.out.t
    rw [show c - j = (c - (j + 1)) + 1 from by omega, lsM, if_pos rfl] at ht0
    generalize rd a' 0 = r at *
    obtain ⟨x, a1, e1⟩ := r
    have HT0 := Lib.hid ht0
    have hX := HLj.out.g.size
    have hdl := HLj.out.len
    clear ht0
    go_wp2_with fail
    refine HPG.out.mono ?_
    rintro E wg ⟨rfl, rfl⟩
    go_wp2_with fail
    refine HV.out.mono ?_
    rintro E W2 ⟨⟨cs, rfl, hF⟩, hG2⟩
    have hz2 := hG2.2.size
    rw [World.size_alloc] at hz2
    have hne : ∀ k, u5.ownBlock = some k → W.heap.size ≤ k ∧ k < wr.heap.size := fun k hk => Own.block HLj.out.own hk
    have np : u5.ownBlock ≠ some p := fun e => by have := hne _ e; omega
    have hOw := ((HLj.out.own.below ((Below.refl _ _).alloc (Nat.le_refl _) (.cells #[.pointer (some ⟨p, 0, none⟩), .bool sat] 67))).grown hG2.2 (.inr np) (fun k hk e => by injection e with e; omega))
    have HO2 := Lib.hid hOw
    have HG2 := Lib.hid (HLj.out.g.trans ((World.grownBy_alloc wr (.cells #[.pointer (some ⟨p, 0, none⟩), .bool sat] 67) (some p)).trans hG2.2))
    have HC2 := Lib.hid hG2.1
    have HX2 := Lib.hid ((HXj.out.alloc (.cells #[.pointer (some ⟨p, 0, none⟩), .bool sat] 67)).grown hG2.2 (fun e => by injection e with e; omega))
    obtain ⟨A1, c1, A2, c2, rfl, _, _⟩ := fn_open hF
    have HF := Lib.hid (Ft.mono hF (fun k hk => ⟨by have h : (wr.alloc (.cells #[.pointer (some ⟨p, 0, none⟩), .bool sat] 67)).heap.size ≤ k := (by first | exact hk | (rw [World.size_alloc]; exact hk)); rw [World.size_alloc] at h; omega, fun e => by
     have h : (wr.alloc (.cells #[.pointer (some ⟨p, 0, none⟩), .bool sat] 67)).heap.size ≤ k := by (first | exact hk | (rw [World.size_alloc]; exact hk))
     rw [World.size_alloc] at h
     have := (hne _ e.symm).2
     omega⟩) : FK kFn W2 (fun k => W.heap.size ≤ k ∧ some k ≠ u5.ownBlock) x _)
    have hgs : W.heap.size ≤ W2.heap.size := by omega
    clear hG2 HV HPG hF b0 b1 hOw
    go_wp2_with (at_builtin; refine Own.append (d := kFn) W.heap.size rfl (.tmp 20) (.tmp 23) 26 75 _ 56 rfl Tryz.underlying26 info_fn rfl (by decide) (by decide) u5 done x _ (fun k => W.heap.size ≤ k) rfl rfl HF.out HO2.out hgs (by omega) ?_; intro v1 w1 hown1 hg1 hat1)
    have HO3 := Lib.hid hown1
    have HG3 := Lib.hid hg1
    have hnX : some W.heap.size ≠ u5.ownBlock := fun e => by
     obtain ⟨_, ho, _⟩ := HO2.out
     obtain ⟨cs, hcs⟩ := own_typed ho _ e.symm
     rw [HX2.out] at hcs
     simp at hcs
    clear hown1 hg1 hat1 HF HO2
    go_wp2_with fail
    go_roundw
    case rel =>
     refine ⟨j + 1, done ++ [x], a1, e1, by omega, by go_num, ⟨HO3.out, HC2.out.grown' HG3.out (fun e => np e.symm) (fun hl e => by have := (hne _ e.symm).1; have := HQ.out hl; omega), grown_jj HG2.out HG3.out (fun k hk => .inr (hne k hk).1), ?_, by simp; omega⟩, HX2.out.grown HG3.out hnX⟩
     rw [← HT0.out, List.append_assoc]
     rfl
    case measure => simp [intOf]; omega
   ·have he2 : (e' == 0) = false := beq_eq_false_iff_ne.2 he
    have HPG := Lib.hid (pgood_any wr p q B a' e' sat false HLj.out.cur he2)
    have ht := HLj.out.t
    rw [lsM_bad _ _ _ _ he2, List.append_nil] at ht
    have HT := Lib.hid ht
    clear ht he he2
    go_wp2_with fail
    refine HPG.out.mono ?_
    rintro E wg ⟨rfl, rfl⟩
    go_wp2_with fail
    go_ret
    rw [← HT.out]
    exact ⟨⟨_, rfl, HLj.out.own.below ((Below.refl _ _).alloc (Nat.le_refl _) _)⟩, HLj.out.cur.alloc _, HLj.out.g.trans (World.grownBy_alloc _ _ _)⟩
  ·obtain rfl : j = c := by omega
   have ht := HLj.out.t
   rw [Nat.sub_self, lsM, List.append_nil] at ht
   have HT := Lib.hid ht
   clear ht
   go_wp2_with fail
   go_ret
   rw [← HT.out]
   exact ⟨⟨_, rfl, HLj.out.own⟩, HLj.out.cur, HLj.out.g⟩
set_option maxRecDepth 100000 in
set_option maxHeartbeats 1000000 in
theorem list_data (g : FuncId) (hent : Enters Tryz.prog g) (rd : Nat → Int → DataD × Nat × Int) (W : World) (p q : Nat) (B : List Int) (a : Nat) (e : Int) (sat : Bool) (hC : Cur W p q B a e) (hB : Byts B)
  (hv : ∀ X a, Cur X p q B a 0 → W.heap.size ≤ X.heap.size → Calls Tryz.prog g #[.agg #[.pointer (some ⟨p, 0, none⟩), .bool sat]] X (RdPost kData X p q B (rd a 0))) :
  Calls Tryz.prog 89 #[.agg #[.pointer (some ⟨p, 0, none⟩), .bool sat], .func (.func g) #[.agg #[.pointer (some ⟨p, 0, none⟩), .bool sat]] #[]] W (ListPost kData 120 W p q B (lsOf rd B a e)) := by
 have hc := countM_rd (a := a) (e := e) hB
 have hin : ∀ args w, Sem.run Tryz.prog (callFunc g args) w = .ok (.enter g args) w := hent
 have hpl := hC.lt
 have HQ := Lib.hid (fun hl => hC.qlt' hl : 0 < B.length → q < W.heap.size)
 have H0 := Lib.hid (Count_any _ p q B a e (hC.alloc (.cells #[.pointer (some ⟨p, 0, none⟩), .bool sat] 67)) hB)
 have HV0 := Lib.hid hv
 have hdef : lsOf rd B a e = lsM rd (rdOf (countM B a) a e).1.toNat (rdOf (countM B a) a e).2.1 (rdOf (countM B a) a e).2.2 := rfl
 rw [hdef]
 clear hdef
 generalize rdOf (countM B a) a e = r at *
 obtain ⟨n, a0, e0⟩ := r
 dsimp only at hc
 obtain ⟨c, rfl⟩ := Int.eq_ofNat_of_zero_le hc.1
 rw [Int.toNat_natCast]
 obtain ⟨tg, htg⟩ : ∃ tg, lsM rd c a0 e0 = tg := ⟨_, rfl⟩
 have HTG := Lib.hid htg
 rw [htg]
 have hc2 : (c : Int) ≤ 4096 := hc.2
 have HX := Lib.hid (Blk.new W #[.pointer (some ⟨p, 0, none⟩), .bool sat] 67)
 clear hC hB hc htg hv hent
 go_enter Tryz.func89, Tryz.ntmps89
 go_wp2_with fail
 refine H0.out.mono ?_
 rintro E W1 ⟨rfl, hG1⟩
 have hz1 := hG1.2.size
 rw [World.size_alloc] at hz1
 have HX1 := Lib.hid (HX.out.grown hG1.2 (fun e => by injection e with e; omega))
 have HL := Lib.hid (⟨Own.nil, hG1.1, (World.grownBy_alloc W _ _).trans hG1.2, by rw [Nat.sub_zero, HTG.out]; rfl, Nat.le_refl _⟩ : LL kData 120 rd W p q B tg c 0 (.slice none 0 0) [] a0 e0 W1)
 clear hG1 H0
 go_wp2_with fail
 go_loopw [5, 7] (fun v i wr => ∃ (j : Nat) (done : List DataD) (a : Nat) (e : Int), j ≤ c ∧ i = .int .i64 j ∧ Hid (LL kData 120 rd W p q B tg c j v done a e wr) ∧ Hid (Blk wr W.heap.size #[.pointer (some ⟨p, 0, none⟩), .bool sat] 67)) (fun _ i _ => c - (intOf i).toNat)
 case atStart => exact ⟨0, [], a0, e0, Nat.zero_le _, rfl, HL, HX1⟩
 case round =>
  obtain ⟨j, done, a', e', hj, rfl, HLj, HXj⟩ := hrel
  clear HL HX1
  have b0 : wr.cell? ⟨W.heap.size, 0, none⟩ = some (.pointer (some ⟨p, 0, none⟩)) := HXj.out.cell 0
  have b1 : wr.cell? ⟨W.heap.size, 1, none⟩ = some (.bool sat) := HXj.out.cell 1
  have hwl := HXj.out.lt
  by_cases hlt : j < c
  ·have hlt2 : (j : Int) < (c : Int) := by omega
   by_cases he : e' = 0
   ·subst he
    have HPG := Lib.hid (pgood_any wr p q B a' 0 sat true HLj.out.cur rfl)
    have HV := Lib.hid (HV0.out (wr.alloc (.cells #[.pointer (some ⟨p, 0, none⟩), .bool sat] 67)) a' (HLj.out.cur.alloc _) (by rw [World.size_alloc]; omega))
    have ht0 := HLj.out.t
    rw [show c - j = (c - (j + 1)) + 1 from by omega, lsM, if_pos rfl] at ht0
    generalize rd a' 0 = r at *
    obtain ⟨x, a1, e1⟩ := r
    have HT0 := Lib.hid ht0
    have hX := HLj.out.g.size
    have hdl := HLj.out.len
    clear ht0
    go_wp2_with fail
    refine HPG.out.mono ?_
    rintro E wg ⟨rfl, rfl⟩
    go_wp2_with fail
    refine HV.out.mono ?_
    rintro E W2 ⟨⟨cs, rfl, hF⟩, hG2⟩
    have hz2 := hG2.2.size
    rw [World.size_alloc] at hz2
    have hne : ∀ k, u5.ownBlock = some k → W.heap.size ≤ k ∧ k < wr.heap.size := fun k hk => Own.block HLj.out.own hk
    have np : u5.ownBlock ≠ some p := fun e => by have := hne _ e; omega
    have hOw := ((HLj.out.own.below ((Below.refl _ _).alloc (Nat.le_refl _) (.cells #[.pointer (some ⟨p, 0, none⟩), .bool sat] 67))).grown hG2.2 (.inr np) (fun k hk e => by injection e with e; omega))
    have HO2 := Lib.hid hOw
    have HG2 := Lib.hid (HLj.out.g.trans ((World.grownBy_alloc wr (.cells #[.pointer (some ⟨p, 0, none⟩), .bool sat] 67) (some p)).trans hG2.2))
    have HC2 := Lib.hid hG2.1
    have HX2 := Lib.hid ((HXj.out.alloc (.cells #[.pointer (some ⟨p, 0, none⟩), .bool sat] 67)).grown hG2.2 (fun e => by injection e with e; omega))
    obtain ⟨A1, c1, A2, c2, rfl, _, _⟩ := data_open hF
    have HF := Lib.hid (Ft.mono hF (fun k hk => ⟨by have h : (wr.alloc (.cells #[.pointer (some ⟨p, 0, none⟩), .bool sat] 67)).heap.size ≤ k := (by first | exact hk | (rw [World.size_alloc]; exact hk)); rw [World.size_alloc] at h; omega, fun e => by
     have h : (wr.alloc (.cells #[.pointer (some ⟨p, 0, none⟩), .bool sat] 67)).heap.size ≤ k := by (first | exact hk | (rw [World.size_alloc]; exact hk))
     rw [World.size_alloc] at h
     have := (hne _ e.symm).2
     omega⟩) : FK kData W2 (fun k => W.heap.size ≤ k ∧ some k ≠ u5.ownBlock) x _)
    have hgs : W.heap.size ≤ W2.heap.size := by omega
    clear hG2 HV HPG hF b0 b1 hOw
    go_wp2_with (at_builtin; refine Own.append (d := kData) W.heap.size rfl (.tmp 20) (.tmp 23) 32 120 _ 56 rfl Tryz.underlying32 info_data rfl (by decide) (by decide) u5 done x _ (fun k => W.heap.size ≤ k) rfl rfl HF.out HO2.out hgs (by omega) ?_; intro v1 w1 hown1 hg1 hat1)
    have HO3 := Lib.hid hown1
    have HG3 := Lib.hid hg1
    have hnX : some W.heap.size ≠ u5.ownBlock := fun e => by
     obtain ⟨_, ho, _⟩ := HO2.out
     obtain ⟨cs, hcs⟩ := own_typed ho _ e.symm
     rw [HX2.out] at hcs
     simp at hcs
    clear hown1 hg1 hat1 HF HO2
    go_wp2_with fail
    go_roundw
    case rel =>
     refine ⟨j + 1, done ++ [x], a1, e1, by omega, by go_num, ⟨HO3.out, HC2.out.grown' HG3.out (fun e => np e.symm) (fun hl e => by have := (hne _ e.symm).1; have := HQ.out hl; omega), grown_jj HG2.out HG3.out (fun k hk => .inr (hne k hk).1), ?_, by simp; omega⟩, HX2.out.grown HG3.out hnX⟩
     rw [← HT0.out, List.append_assoc]
     rfl
    case measure => simp [intOf]; omega
   ·have he2 : (e' == 0) = false := beq_eq_false_iff_ne.2 he
    have HPG := Lib.hid (pgood_any wr p q B a' e' sat false HLj.out.cur he2)
    have ht := HLj.out.t
    rw [lsM_bad _ _ _ _ he2, List.append_nil] at ht
    have HT := Lib.hid ht
    clear ht he he2
    go_wp2_with fail
    refine HPG.out.mono ?_
    rintro E wg ⟨rfl, rfl⟩
    go_wp2_with fail
    go_ret
    rw [← HT.out]
    exact ⟨⟨_, rfl, HLj.out.own.below ((Below.refl _ _).alloc (Nat.le_refl _) _)⟩, HLj.out.cur.alloc _, HLj.out.g.trans (World.grownBy_alloc _ _ _)⟩
  ·obtain rfl : j = c := by omega
   have ht := HLj.out.t
   rw [Nat.sub_self, lsM, List.append_nil] at ht
   have HT := Lib.hid ht
   clear ht
   go_wp2_with fail
   go_ret
   rw [← HT.out]
   exact ⟨⟨_, rfl, HLj.out.own⟩, HLj.out.cur, HLj.out.g⟩
end Go.Proofs.YtofaiocffifhfaaGreat
end
section
namespace Go.Proofs.YtofaiocffifhfaaGreat
open Go.RowKit Go.Shelf YtofaiocffifhfaaGreatB Go.Proofs.YtofaiocffifhfaaGreatW.PrintWords
def expM (B : List Int) (a : Nat) (e : Int) : ExpD × Nat × Int :=
 let n := namM B a e
 let k := knM B n.2.1 n.2.2
 let i := rdOf (u32M B k.2.1) k.2.1 k.2.2
 (⟨n.1, k.1, i.1⟩, i.2)
set_option maxRecDepth 100000 in
set_option maxHeartbeats 1000000 in
theorem exported_any (W : World) (p q : Nat) (B : List Int) (sat : Bool) (a : Nat) (e : Int) (hC : Cur W p q B a e) (hB : Byts B) :
  Calls Tryz.prog 84 #[.agg #[.pointer (some ⟨p, 0, none⟩), .bool sat]] W (RdPost kExp W p q B (expM B a e)) := by
 have hpl := hC.lt
 have HS := Lib.hid (((St.start hC).alloc (.cells #[.pointer (some ⟨p, 0, none⟩), .bool sat] 67)).alloc (.cells #[.string ⟨#[]⟩, .int .i64 0, .int .u32 0] 110))
 have HP := Lib.hid ((Lc.new (p := p) W #[.pointer (some ⟨p, 0, none⟩), .bool sat] 67 hpl).alloc (.cells #[.string ⟨#[]⟩, .int .i64 0, .int .u32 0] 110))
 have HO := Lib.hid (Lc.newAt (p := p) (W.alloc (.cells #[.pointer (some ⟨p, 0, none⟩), .bool sat] 67)) #[.string ⟨#[]⟩, .int .i64 0, .int .u32 0] 110 (by rw [World.size_alloc]; omega) (World.size_alloc _ _))
 obtain ⟨R, hR⟩ : ∃ R, R = expM B a e := ⟨_, rfl⟩
 rw [← hR]
 unfold expM at hR
 have H1 := Lib.hid (fun X (h : Cur X p q B a e) => Name_any X p q B a e h hB)
 generalize namM B a e = r0 at *
 obtain ⟨nm, a1, e1⟩ := r0
 dsimp only at hR
 have H2 := Lib.hid (fun X (h : Cur X p q B a1 e1) => kind_any X p q B a1 e1 sat h hB)
 have hkb := knM_b (a := a1) (e := e1) hB
 generalize knM B a1 e1 = r1 at *
 obtain ⟨kd, a2, e2⟩ := r1
 dsimp only at hR hkb
 have H3 := Lib.hid (fun X (h : Cur X p q B a2 e2) => U32_any X p q B a2 e2 h hB)
 have hub := rdOf_u32' (a := a2) (e := e2) hB
 generalize rdOf (u32M B a2) a2 e2 = r2 at *
 obtain ⟨ix, a3, e3⟩ := r2
 dsimp only at hR hub
 subst hR
 have HKB := Lib.hid hkb
 have HUB := Lib.hid hub
 clear hC hB hkb hub
 go_enter Tryz.func84, Tryz.ntmps84
 go_wp2_with fail
 refine (H1.out _ HS.out.cur).mono ?_
 rintro E W1 ⟨rfl, hG⟩
 replace HP := Lib.hid (HP.out.goes hG)
 replace HO := Lib.hid (HO.out.goes hG)
 replace HS := Lib.hid (HS.out.goes hG)
 have hs1 := HS.out.sz
 clear hG
 have p0 := HP.out.c0
 have p1 := HP.out.c1
 have lp := HP.out.lt
 have o0 := HO.out.c0
 have o1 := HO.out.c1
 have o2 := HO.out.c2
 have fo0 := HO.out.fz 0
 have fo1 := HO.out.fz 1
 have fo2 := HO.out.fz 2
 have lo := HO.out.lt
 go_wp2_with fail
 refine (H2.out _ (HS.out.alloc (.cells #[.string nm, .int .i64 0, .int .u32 0] 110)).cur).mono ?_
 rintro E W2 ⟨rfl, hG⟩
 clear p0 p1 o0 o1 o2 fo0 fo1 fo2
 replace HP := Lib.hid ((HP.out.alloc (.cells #[.string nm, .int .i64 0, .int .u32 0] 110)).goes hG)
 replace HO := Lib.hid ((HO.out.alloc (.cells #[.string nm, .int .i64 0, .int .u32 0] 110)).goes hG)
 have HT := Lib.hid ((Lc.new (p := p) W1 #[.string nm, .int .i64 0, .int .u32 0] 110 (by omega)).goes hG)
 replace HS := Lib.hid ((HS.out.alloc (.cells #[.string nm, .int .i64 0, .int .u32 0] 110)).goes hG)
 have hs2 := HS.out.sz
 clear hG
 have p0 := HP.out.c0
 have p1 := HP.out.c1
 have lp := HP.out.lt
 have o0 := HO.out.c0
 have o1 := HO.out.c1
 have o2 := HO.out.c2
 have fo0 := HO.out.fz 0
 have fo1 := HO.out.fz 1
 have fo2 := HO.out.fz 2
 have lo := HO.out.lt
 have t0 := HT.out.c0
 have t1 := HT.out.c1
 have t2 := HT.out.c2
 have ft0 := HT.out.fz 0
 have ft1 := HT.out.fz 1
 have ft2 := HT.out.fz 2
 have lt := HT.out.lt
 go_wp2_with fail
 refine (H3.out _ (HS.out.set W1.heap.size 1 (.int .i64 kd) (by omega)).cur).mono ?_
 rintro E W3 ⟨rfl, hG⟩
 clear p0 p1 o0 o1 o2 fo0 fo1 fo2 t0 t1 t2 ft0 ft1 ft2
 replace HP := Lib.hid ((HP.out.other W1.heap.size 1 (.int .i64 kd) (by omega)).goes hG)
 replace HO := Lib.hid ((HO.out.other W1.heap.size 1 (.int .i64 kd) (by omega)).goes hG)
 replace HT := Lib.hid ((HT.out.s1 (.int .i64 kd)).goes hG)
 replace HS := Lib.hid ((HS.out.set W1.heap.size 1 (.int .i64 kd) (by omega)).goes hG)
 have hs3 := HS.out.sz
 clear hG
 have p0 := HP.out.c0
 have p1 := HP.out.c1
 have lp := HP.out.lt
 have o0 := HO.out.c0
 have o1 := HO.out.c1
 have o2 := HO.out.c2
 have fo0 := HO.out.fz 0
 have fo1 := HO.out.fz 1
 have fo2 := HO.out.fz 2
 have lo := HO.out.lt
 have t0 := HT.out.c0
 have t1 := HT.out.c1
 have t2 := HT.out.c2
 have ft0 := HT.out.fz 0
 have ft1 := HT.out.fz 1
 have ft2 := HT.out.fz 2
 have lt := HT.out.lt
 go_wp2_with fail
 refine bodyPost_ret (v := .agg #[.string nm, .int .i64 kd, .int .u32 ix]) (by simp [results, Tryz.results84, go_sem, o0, o1, o2, lo]) rfl ⟨⟨[.string nm, .int .i64 kd, .int .u32 ix], rfl, ?_⟩, St.fin (W := W) ?_⟩
 ·exact exp_mk (x := ⟨nm, kd, ix⟩) HKB.out HUB.out
 ·(repeat (first | with_reducible exact HS.out | (with_reducible refine St.set ?_ _ _ _ ?_; rotate_left; omega) | with_reducible refine St.alloc ?_ _ | with_reducible refine St.drew ?_))
def u32R (B : List Int) (a : Nat) (e : Int) : Int × Nat × Int := rdOf (u32M B a) a e
def u32sM (B : List Int) (a : Nat) (e : Int) : List Int × Nat × Int := lsOf (u32R B) B a e
theorem ent_U32 : Enters Tryz.prog 34 := enters_of Tryz.func34 (by kernel_rfl) rfl
theorem u32s_any (W : World) (p q : Nat) (B : List Int) (sat : Bool) (a : Nat) (e : Int) (hC : Cur W p q B a e) (hB : Byts B) :
  Calls Tryz.prog 77 #[.agg #[.pointer (some ⟨p, 0, none⟩), .bool sat], .func (.func 34) #[.pointer (some ⟨p, 0, none⟩)] #[]] W (ListPost (rng .u32) 30 W p q B (u32sM B a e)) :=
 list_u32 _ ent_U32 (u32R B) W p q B a e sat hC hB (fun X a h _ => (U32_any X p q B a 0 h hB).mono fun E w' ⟨g1, g2⟩ => ⟨rdOf_u32' hB, g1, g2⟩)
theorem fc_mono {α : Type} {d : Kd α} {X : World} {ok ok' : Nat → Prop} {A : Option Addr} {xs : List α} (h : FC d X ok A xs) (hk : ∀ k, ok k → ok' k) : FC d X ok' A xs := Ft.mono h hk
theorem fc_goes {α : Type} {d : Kd α} {X Y : World} {ok : Nat → Prop} {A : Option Addr} {xs : List α} {p q : Nat} {B : List Int} {a : Nat} {e : Int} (h : FC d X ok A xs) (hG : Goes X Y p q B a e) (hok : ∀ k, ok k → k ≠ p) : FC d Y ok A xs := h.grown hG.2 (fun k hk e => by injection e with e; exact hok k hk e)
theorem fc_set {α : Type} {d : Kd α} {X : World} {ok : Nat → Prop} {A : Option Addr} {xs : List α} (h : FC d X ok A xs) (b i : Nat) (v : Value) (hok : ∀ k, ok k → k ≠ b) : FC d (X.setCell ⟨b, i, none⟩ v) ok A xs := h.grown (gset X b i v) (fun k hk e => by injection e with e; exact hok k hk e)
theorem fc_alloc {α : Type} {d : Kd α} {X : World} {ok : Nat → Prop} {A : Option Addr} {xs : List α} (h : FC d X ok A xs) (o : Obj) : FC d (X.alloc o) ok A xs := h.below ((Below.refl _ _).alloc (Nat.le_refl _) o)
theorem fc_drew {α : Type} {d : Kd α} {X : World} {ok : Nat → Prop} {A : Option Addr} {xs : List α} (h : FC d X ok A xs) : FC d X.drew ok A xs := h.below ((Below.refl _ _).drew)
def elemM (sat : Bool) (B : List Int) (a : Nat) (e : Int) : ElemD × Nat × Int :=
 let n := u32R B a e
 let x := exprM sat B n.2.1 n.2.2
 let l := u32sM B x.2.1 x.2.2
 (⟨n.1, x.1, l.1⟩, l.2)
set_option maxRecDepth 100000 in
set_option maxHeartbeats 1000000 in
theorem elem_any (W : World) (p q : Nat) (B : List Int) (sat : Bool) (a : Nat) (e : Int) (hC : Cur W p q B a e) (hB : Byts B) :
  Calls Tryz.prog 86 #[.agg #[.pointer (some ⟨p, 0, none⟩), .bool sat]] W (RdPost kElem W p q B (elemM sat B a e)) := by
 have hpl := hC.lt
 have HS := Lib.hid (((St.start hC).alloc (.cells #[.pointer (some ⟨p, 0, none⟩), .bool sat] 67)).alloc (.cells #[.int .u32 0, .slice none 0 0, .slice none 0 0] 118))
 have HP := Lib.hid ((Lc.new (p := p) W #[.pointer (some ⟨p, 0, none⟩), .bool sat] 67 hpl).alloc (.cells #[.int .u32 0, .slice none 0 0, .slice none 0 0] 118))
 have HO := Lib.hid (Lc.newAt (p := p) (W.alloc (.cells #[.pointer (some ⟨p, 0, none⟩), .bool sat] 67)) #[.int .u32 0, .slice none 0 0, .slice none 0 0] 118 (by rw [World.size_alloc]; omega) (World.size_alloc _ _))
 obtain ⟨R, hR⟩ : ∃ R, R = elemM sat B a e := ⟨_, rfl⟩
 rw [← hR]
 unfold elemM u32R at hR
 have H1 := Lib.hid (fun X (h : Cur X p q B a e) => U32_any X p q B a e h hB)
 have hub := rdOf_u32' (a := a) (e := e) hB
 generalize rdOf (u32M B a) a e = r0 at *
 obtain ⟨n, a1, e1⟩ := r0
 dsimp only at hR hub
 have H2 := Lib.hid (fun X (h : Cur X p q B a1 e1) => pexpr_any X p q B a1 e1 sat h hB)
 generalize exprM sat B a1 e1 = r1 at *
 obtain ⟨l1, a2, e2⟩ := r1
 dsimp only at hR
 have H3 := Lib.hid (fun X (h : Cur X p q B a2 e2) => u32s_any X p q B sat a2 e2 h hB)
 generalize u32sM B a2 e2 = r2 at *
 obtain ⟨l2, a3, e3⟩ := r2
 dsimp only at hR
 subst hR
 have HUB := Lib.hid hub
 clear hC hB hub
 go_enter Tryz.func86, Tryz.ntmps86
 go_wp2_with fail
 refine (H1.out _ HS.out.cur).mono ?_
 rintro E W1 ⟨rfl, hG⟩
 replace HP := Lib.hid (HP.out.goes hG)
 replace HO := Lib.hid (HO.out.goes hG)
 replace HS := Lib.hid (HS.out.goes hG)
 have hs1 := HS.out.sz
 clear hG
 have p0 := HP.out.c0
 have p1 := HP.out.c1
 have lp := HP.out.lt
 have o0 := HO.out.c0
 have o1 := HO.out.c1
 have o2 := HO.out.c2
 have fo0 := HO.out.fz 0
 have fo1 := HO.out.fz 1
 have fo2 := HO.out.fz 2
 have lo := HO.out.lt
 go_wp2_with fail
 refine (H2.out _ (HS.out.alloc (.cells #[.int .u32 n, .slice none 0 0, .slice none 0 0] 118)).cur).mono ?_
 rintro E W2 ⟨⟨A1, c1, rfl, hl1, hF1⟩, hG⟩
 clear p0 p1 o0 o1 o2 fo0 fo1 fo2
 have HF1 := Lib.hid (fc_mono hF1 (ok' := fun k => W1.heap.size < k) (fun k hk => by rw [World.size_alloc] at hk; omega))
 have HL1 := Lib.hid hl1
 clear hF1 hl1
 replace HP := Lib.hid ((HP.out.alloc (.cells #[.int .u32 n, .slice none 0 0, .slice none 0 0] 118)).goes hG)
 replace HO := Lib.hid ((HO.out.alloc (.cells #[.int .u32 n, .slice none 0 0, .slice none 0 0] 118)).goes hG)
 have HT := Lib.hid ((Lc.new (p := p) W1 #[.int .u32 n, .slice none 0 0, .slice none 0 0] 118 (by omega)).goes hG)
 replace HS := Lib.hid ((HS.out.alloc (.cells #[.int .u32 n, .slice none 0 0, .slice none 0 0] 118)).goes hG)
 have hs2 := HS.out.sz
 clear hG
 have p0 := HP.out.c0
 have p1 := HP.out.c1
 have lp := HP.out.lt
 have o0 := HO.out.c0
 have o1 := HO.out.c1
 have o2 := HO.out.c2
 have fo0 := HO.out.fz 0
 have fo1 := HO.out.fz 1
 have fo2 := HO.out.fz 2
 have lo := HO.out.lt
 have t0 := HT.out.c0
 have t1 := HT.out.c1
 have t2 := HT.out.c2
 have ft0 := HT.out.fz 0
 have ft1 := HT.out.fz 1
 have ft2 := HT.out.fz 2
 have lt := HT.out.lt
 go_wp2_with fail
 refine (H3.out _ (HS.out.set W1.heap.size 1 (.slice A1 l1.length c1) (by omega)).cur).mono ?_
 rintro E W3 ⟨⟨v2, rfl, hO2⟩, hG⟩
 clear p0 p1 o0 o1 o2 fo0 fo1 fo2 t0 t1 t2 ft0 ft1 ft2
 obtain ⟨A2, c2, rfl, hl2, hF2⟩ := hO2.reads
 have HF2 := Lib.hid (fc_mono hF2 (ok' := fun k => W1.heap.size < k) (fun k hk => by have hk : W2.heap.size ≤ k := (by simpa [World.setCell] using hk); omega))
 have HL2 := Lib.hid hl2
 clear hF2 hl2 hO2
 replace HF1 := Lib.hid (fc_goes (fc_set HF1.out W1.heap.size 1 (.slice A1 l1.length c1) (fun k (hk : W1.heap.size < k) => by omega)) hG (fun k (hk : W1.heap.size < k) => by omega))
 replace HP := Lib.hid ((HP.out.other W1.heap.size 1 (.slice A1 l1.length c1) (by omega)).goes hG)
 replace HO := Lib.hid ((HO.out.other W1.heap.size 1 (.slice A1 l1.length c1) (by omega)).goes hG)
 replace HT := Lib.hid ((HT.out.s1 (.slice A1 l1.length c1)).goes hG)
 replace HS := Lib.hid ((HS.out.set W1.heap.size 1 (.slice A1 l1.length c1) (by omega)).goes hG)
 have hs3 := HS.out.sz
 clear hG
 have p0 := HP.out.c0
 have p1 := HP.out.c1
 have lp := HP.out.lt
 have o0 := HO.out.c0
 have o1 := HO.out.c1
 have o2 := HO.out.c2
 have fo0 := HO.out.fz 0
 have fo1 := HO.out.fz 1
 have fo2 := HO.out.fz 2
 have lo := HO.out.lt
 have t0 := HT.out.c0
 have t1 := HT.out.c1
 have t2 := HT.out.c2
 have ft0 := HT.out.fz 0
 have ft1 := HT.out.fz 1
 have ft2 := HT.out.fz 2
 have lt := HT.out.lt
 go_wp2_with fail
 refine bodyPost_ret (v := .agg #[.int .u32 n, .slice A1 l1.length c1, .slice A2 l2.length c2]) (by simp [results, Tryz.results86, go_sem, o0, o1, o2, lo]) rfl ⟨⟨[.int .u32 n, .slice A1 l1.length c1, .slice A2 l2.length c2], rfl, ?_⟩, St.fin (W := W) ?_⟩
 ·exact elem_mk (x := ⟨n, l1, l2⟩) HUB.out ((by (repeat (first | with_reducible exact HF1.out | (with_reducible refine fc_set ?_ _ _ _ ?_; rotate_left; exact (fun k (hk : _ < k) => by omega)) | with_reducible refine fc_alloc ?_ _ | with_reducible refine fc_drew ?_)) : FC kI _ (fun k => W1.heap.size < k) A1 l1).mono (fun k hk => by omega)) HL1.out ((by (repeat (first | with_reducible exact HF2.out | (with_reducible refine fc_set ?_ _ _ _ ?_; rotate_left; exact (fun k (hk : _ < k) => by omega)) | with_reducible refine fc_alloc ?_ _ | with_reducible refine fc_drew ?_)) : FC (rng .u32) _ (fun k => W1.heap.size < k) A2 l2).mono (fun k hk => by omega)) HL2.out
 ·(repeat (first | with_reducible exact HS.out | (with_reducible refine St.set ?_ _ _ _ ?_; rotate_left; omega) | with_reducible refine St.alloc ?_ _ | with_reducible refine St.drew ?_))
def dataM (sat : Bool) (B : List Int) (a : Nat) (e : Int) : DataD × Nat × Int :=
 let n := u32R B a e
 let x := exprM sat B n.2.1 n.2.2
 let l := pieceM B x.2.1 x.2.2
 (⟨n.1, x.1, l.1⟩, l.2)
set_option maxRecDepth 100000 in
set_option maxHeartbeats 1000000 in
theorem data_any (W : World) (p q : Nat) (B : List Int) (sat : Bool) (a : Nat) (e : Int) (hC : Cur W p q B a e) (hB : Byts B) :
  Calls Tryz.prog 90 #[.agg #[.pointer (some ⟨p, 0, none⟩), .bool sat]] W (RdPost kData W p q B (dataM sat B a e)) := by
 have hpl := hC.lt
 have HS := Lib.hid (((St.start hC).alloc (.cells #[.pointer (some ⟨p, 0, none⟩), .bool sat] 67)).alloc (.cells #[.int .u32 0, .slice none 0 0, .slice none 0 0] 120))
 have HP := Lib.hid ((Lc.new (p := p) W #[.pointer (some ⟨p, 0, none⟩), .bool sat] 67 hpl).alloc (.cells #[.int .u32 0, .slice none 0 0, .slice none 0 0] 120))
 have HO := Lib.hid (Lc.newAt (p := p) (W.alloc (.cells #[.pointer (some ⟨p, 0, none⟩), .bool sat] 67)) #[.int .u32 0, .slice none 0 0, .slice none 0 0] 120 (by rw [World.size_alloc]; omega) (World.size_alloc _ _))
 obtain ⟨R, hR⟩ : ∃ R, R = dataM sat B a e := ⟨_, rfl⟩
 rw [← hR]
 unfold dataM u32R at hR
 have H1 := Lib.hid (fun X (h : Cur X p q B a e) => U32_any X p q B a e h hB)
 have hub := rdOf_u32' (a := a) (e := e) hB
 generalize rdOf (u32M B a) a e = r0 at *
 obtain ⟨n, a1, e1⟩ := r0
 dsimp only at hR hub
 have H2 := Lib.hid (fun X (h : Cur X p q B a1 e1) => pexpr_any X p q B a1 e1 sat h hB)
 generalize exprM sat B a1 e1 = r1 at *
 obtain ⟨l1, a2, e2⟩ := r1
 dsimp only at hR
 have HU := Lib.hid (fun X (h : Cur X p q B a2 e2) => U32_any X p q B a2 e2 h hB)
 have hu := rdOf_u32' (a := a2) (e := e2) hB
 have hpm : pieceM B a2 e2 = rdL (takeM B (rdOf (u32M B a2) a2 e2).2.1 (rdOf (u32M B a2) a2 e2).1.toNat) (rdOf (u32M B a2) a2 e2).2.1 (rdOf (u32M B a2) a2 e2).2.2 := rfl
 rw [hpm] at hR
 clear hpm
 generalize rdOf (u32M B a2) a2 e2 = r3 at *
 obtain ⟨k, a3, e3⟩ := r3
 dsimp only at hu hR
 obtain ⟨k, rfl⟩ := Int.eq_ofNat_of_zero_le hu.1
 rw [Int.toNat_natCast] at hR
 have HK := Lib.hid (fun X (h : Cur X p q B a3 e3) => Take_any X p q B a3 k e3 h hB (by omega))
 generalize rdL (takeM B a3 k) a3 e3 = t at *
 obtain ⟨l2, a4, e4⟩ := t
 dsimp only at hR
 subst hR
 have HUB := Lib.hid hub
 clear hC hB hub hu
 go_enter Tryz.func90, Tryz.ntmps90
 go_wp2_with fail
 refine (H1.out _ HS.out.cur).mono ?_
 rintro E W1 ⟨rfl, hG⟩
 replace HP := Lib.hid (HP.out.goes hG)
 replace HO := Lib.hid (HO.out.goes hG)
 replace HS := Lib.hid (HS.out.goes hG)
 have hs1 := HS.out.sz
 clear hG
 have p0 := HP.out.c0
 have p1 := HP.out.c1
 have lp := HP.out.lt
 have o0 := HO.out.c0
 have o1 := HO.out.c1
 have o2 := HO.out.c2
 have fo0 := HO.out.fz 0
 have fo1 := HO.out.fz 1
 have fo2 := HO.out.fz 2
 have lo := HO.out.lt
 go_wp2_with fail
 refine (H2.out _ (HS.out.alloc (.cells #[.int .u32 n, .slice none 0 0, .slice none 0 0] 120)).cur).mono ?_
 rintro E W2 ⟨⟨A1, c1, rfl, hl1, hF1⟩, hG⟩
 clear p0 p1 o0 o1 o2 fo0 fo1 fo2
 have HF1 := Lib.hid (fc_mono hF1 (ok' := fun k => W1.heap.size < k) (fun k hk => by rw [World.size_alloc] at hk; omega))
 have HL1 := Lib.hid hl1
 clear hF1 hl1
 replace HP := Lib.hid ((HP.out.alloc (.cells #[.int .u32 n, .slice none 0 0, .slice none 0 0] 120)).goes hG)
 replace HO := Lib.hid ((HO.out.alloc (.cells #[.int .u32 n, .slice none 0 0, .slice none 0 0] 120)).goes hG)
 have HT := Lib.hid ((Lc.new (p := p) W1 #[.int .u32 n, .slice none 0 0, .slice none 0 0] 120 (by omega)).goes hG)
 replace HS := Lib.hid ((HS.out.alloc (.cells #[.int .u32 n, .slice none 0 0, .slice none 0 0] 120)).goes hG)
 have hs2 := HS.out.sz
 clear hG
 have p0 := HP.out.c0
 have p1 := HP.out.c1
 have lp := HP.out.lt
 have o0 := HO.out.c0
 have o1 := HO.out.c1
 have o2 := HO.out.c2
 have fo0 := HO.out.fz 0
 have fo1 := HO.out.fz 1
 have fo2 := HO.out.fz 2
 have lo := HO.out.lt
 have t0 := HT.out.c0
 have t1 := HT.out.c1
 have t2 := HT.out.c2
 have ft0 := HT.out.fz 0
 have ft1 := HT.out.fz 1
 have ft2 := HT.out.fz 2
 have lt := HT.out.lt
 go_wp2_with fail
 clear p0 p1 o0 o1 o2 fo0 fo1 fo2 t0 t1 t2 ft0 ft1 ft2
 replace HF1 := Lib.hid (fc_set HF1.out W1.heap.size 1 (.slice A1 l1.length c1) (fun k (hk : W1.heap.size < k) => by omega))
 replace HP := Lib.hid (HP.out.other W1.heap.size 1 (.slice A1 l1.length c1) (by omega))
 replace HO := Lib.hid (HO.out.other W1.heap.size 1 (.slice A1 l1.length c1) (by omega))
 replace HT := Lib.hid (HT.out.s1 (.slice A1 l1.length c1))
 replace HS := Lib.hid (HS.out.set W1.heap.size 1 (.slice A1 l1.length c1) (by omega))
 have hs3 := HS.out.sz
 generalize W2.setCell ⟨W1.heap.size, 1, none⟩ (.slice A1 l1.length c1) = W3 at *
 have p0 := HP.out.c0
 have p1 := HP.out.c1
 have lp := HP.out.lt
 have o0 := HO.out.c0
 have o1 := HO.out.c1
 have o2 := HO.out.c2
 have fo0 := HO.out.fz 0
 have fo1 := HO.out.fz 1
 have fo2 := HO.out.fz 2
 have lo := HO.out.lt
 have t0 := HT.out.c0
 have t1 := HT.out.c1
 have t2 := HT.out.c2
 have ft0 := HT.out.fz 0
 have ft1 := HT.out.fz 1
 have ft2 := HT.out.fz 2
 have lt := HT.out.lt
 have HD := Lib.hid (fun Y (h : Lc p Y W.heap.size #[.pointer (some ⟨p, 0, none⟩), .bool sat] 67) => h.c0)
 have ht9 := HT.out.fz 2
 have hw13 : W1.heap.size < W3.heap.size := HT.out.lt
 go_region_held3 (fun w' => w'.cell? ⟨W.heap.size, 0, none⟩ = some (.pointer (some ⟨p, 0, none⟩)))
  (first | exact p0 | exact d2 | exact d1 | exact (hP2.other W1.heap.size 2 _ (by omega)).c0)
  (first
   | (go_at_call 71; refine (HK.out _ hS1.cur).mono ?_; rintro E W5 ⟨⟨v, rfl, hO5⟩, hG2⟩; have hS2 := hS1.goes hG2; have hP2 := hP1.goes hG2; have hO2 := hO1.goes hG2; have hT2 := hT1.goes hG2; have hF2 := fc_goes hF1 hG2 (fun k (hk : W1.heap.size < k) => by omega); have d2 := HD.out _ hP2; have tf2 := hT2.fz 2; have tl2 := hT2.lt; have tc2 := hT2.c2; obtain ⟨A2, c2, rfl, hl2, hF5⟩ := hO5.reads)
   | (go_at_call 34; refine (HU.out _ HS.out.drew.cur).mono ?_; rintro E W4 ⟨rfl, hG1⟩; have hS1 := HS.out.drew.goes hG1; have hP1 := HP.out.drew.goes hG1; have hO1 := HO.out.drew.goes hG1; have hT1 := HT.out.drew.goes hG1; have hF1 := fc_goes (fc_drew HF1.out) hG1 (fun k (hk : W1.heap.size < k) => by omega); have hz1 := hG1.2.size; have d1 := HD.out _ hP1))
 have HF2 := Lib.hid (fc_mono hF5 (ok' := fun k => W1.heap.size < k) (fun k hk => by have hz4 : W3.heap.size ≤ W4.heap.size := hG1.2.size; have hk : W4.heap.size ≤ k := (hk.elim (fun h => h.elim) id); omega))
 have HF1 := Lib.hid hF2
 have HS := Lib.hid hS2
 have HO := Lib.hid hO2
 have HT := Lib.hid hT2
 have HL2 := Lib.hid hl2
 have lo := HO.out.lt
 clear p0 p1 o0 o1 o2 fo0 fo1 fo2 t0 t1 t2 ft0 ft1 ft2 hO5 hS1 hP1 hO1 hT1 hP2 hO2 hT2 hS2 hF5 hG1 hG2 d1 d2 tf2 tc2 hl2
 have o0 := HO.out.c0
 have o1 := HO.out.c1
 have o2 := HO.out.c2
 have fo0 := HO.out.fz 0
 have fo1 := HO.out.fz 1
 have fo2 := HO.out.fz 2
 have lo := HO.out.lt
 have t0 := HT.out.c0
 have t1 := HT.out.c1
 have t2 := HT.out.c2
 have ft0 := HT.out.fz 0
 have ft1 := HT.out.fz 1
 have ft2 := HT.out.fz 2
 have lt := HT.out.lt
 go_wp2_with fail
 refine bodyPost_ret (v := .agg #[.int .u32 n, .slice A1 l1.length c1, .slice A2 l2.length c2]) (by simp [results, Tryz.results90, go_sem, o0, o1, o2, lo]) rfl ⟨⟨[.int .u32 n, .slice A1 l1.length c1, .slice A2 l2.length c2], rfl, ?_⟩, St.fin (W := W) ?_⟩
 ·exact data_mk (x := ⟨n, l1, l2⟩) HUB.out (fc_mono (by (repeat (first | with_reducible exact HF1.out | (with_reducible refine fc_set ?_ _ _ _ ?_; rotate_left; exact (fun k (hk : _ < k) => by omega)) | with_reducible refine fc_alloc ?_ _ | with_reducible refine fc_drew ?_)) : FC kI _ (fun k => W1.heap.size < k) A1 l1) (fun k hk => by omega)) HL1.out (fc_mono (by (repeat (first | with_reducible exact HF2.out | (with_reducible refine fc_set ?_ _ _ _ ?_; rotate_left; exact (fun k (hk : _ < k) => by omega)) | with_reducible refine fc_alloc ?_ _ | with_reducible refine fc_drew ?_)) : FC (rng .u8) _ (fun k => W1.heap.size < k) A2 l2) (fun k hk => by omega)) HL2.out
 ·(repeat (first | with_reducible exact HS.out | (with_reducible refine St.set ?_ _ _ _ ?_; rotate_left; omega) | with_reducible refine St.alloc ?_ _ | with_reducible refine St.drew ?_))
def cellM (sat : Bool) (B : List Int) (a : Nat) (e : Int) : CellD × Nat × Int :=
 let t := gtyM B a e
 let x := exprM sat B t.2.1 t.2.2
 (⟨t.1, x.1⟩, x.2)
theorem gtyM_b {B : List Int} (hB : Byts B) (a : Nat) (e : Int) : 0 ≤ (gtyM B a e).1.1 ∧ (gtyM B a e).1.1 ≤ 255 := by
 unfold gtyM rdBack
 split
 ·split
  ·exact rdOf_val hB
  ·exact ⟨Int.le_refl 0, (by omega : (0 : Int) ≤ 255)⟩
 ·exact ⟨Int.le_refl 0, (by omega : (0 : Int) ≤ 255)⟩
set_option maxRecDepth 100000 in
set_option maxHeartbeats 1000000 in
theorem global_any (W : World) (p q : Nat) (B : List Int) (sat : Bool) (a : Nat) (e : Int) (hC : Cur W p q B a e) (hB : Byts B) :
  Calls Tryz.prog 82 #[.agg #[.pointer (some ⟨p, 0, none⟩), .bool sat]] W (RdPost kCell W p q B (cellM sat B a e)) := by
 have hpl := hC.lt
 have HS := Lib.hid (((St.start hC).alloc (.cells #[.pointer (some ⟨p, 0, none⟩), .bool sat] 67)).alloc (.cells #[.int .u8 0, .bool false, .slice none 0 0] 114))
 have HP := Lib.hid ((Lc.new (p := p) W #[.pointer (some ⟨p, 0, none⟩), .bool sat] 67 hpl).alloc (.cells #[.int .u8 0, .bool false, .slice none 0 0] 114))
 have HO := Lib.hid (Lc.newAt (p := p) (W.alloc (.cells #[.pointer (some ⟨p, 0, none⟩), .bool sat] 67)) #[.int .u8 0, .bool false, .slice none 0 0] 114 (by rw [World.size_alloc]; omega) (World.size_alloc _ _))
 obtain ⟨R, hR⟩ : ∃ R, R = cellM sat B a e := ⟨_, rfl⟩
 rw [← hR]
 unfold cellM at hR
 have H1 := Lib.hid (fun X (h : Cur X p q B a e) => Global_any X p q B a e h hB)
 have hub := gtyM_b hB a e
 generalize gtyM B a e = r0 at *
 obtain ⟨⟨x, z⟩, a1, e1⟩ := r0
 dsimp only at hR hub
 dsimp only [gtyV] at H1
 have H2 := Lib.hid (fun X (h : Cur X p q B a1 e1) => pexpr_any X p q B a1 e1 sat h hB)
 generalize exprM sat B a1 e1 = r1 at *
 obtain ⟨l1, a2, e2⟩ := r1
 dsimp only at hR
 subst hR
 have HUB := Lib.hid hub
 clear hC hB hub
 go_enter Tryz.func82, Tryz.ntmps82
 go_wp2_with fail
 refine (H1.out _ HS.out.cur).mono ?_
 rintro E W1 ⟨rfl, hG⟩
 replace HP := Lib.hid (HP.out.goes hG)
 replace HO := Lib.hid (HO.out.goes hG)
 replace HS := Lib.hid (HS.out.goes hG)
 have hs1 := HS.out.sz
 clear hG
 have p0 := HP.out.c0
 have p1 := HP.out.c1
 have lp := HP.out.lt
 have o0 := HO.out.c0
 have o1 := HO.out.c1
 have o2 := HO.out.c2
 have fo0 := HO.out.fz 0
 have fo1 := HO.out.fz 1
 have fo2 := HO.out.fz 2
 have lo := HO.out.lt
 go_wp2_with fail
 clear p0 p1 o0 o1 o2 fo0 fo1 fo2
 replace HP := Lib.hid (HP.out.alloc (.cells #[.int .u8 x, .bool z] 103))
 replace HO := Lib.hid (HO.out.alloc (.cells #[.int .u8 x, .bool z] 103))
 have HT := Lib.hid (Lc.new (p := p) W1 #[.int .u8 x, .bool z] 103 (by omega))
 replace HS := Lib.hid (HS.out.alloc (.cells #[.int .u8 x, .bool z] 103))
 have hs2 := HS.out.sz
 generalize W1.alloc (.cells #[.int .u8 x, .bool z] 103) = W2 at *
 have p0 := HP.out.c0
 have p1 := HP.out.c1
 have lp := HP.out.lt
 have o0 := HO.out.c0
 have o1 := HO.out.c1
 have o2 := HO.out.c2
 have fo0 := HO.out.fz 0
 have fo1 := HO.out.fz 1
 have fo2 := HO.out.fz 2
 have lo := HO.out.lt
 have t0 := HT.out.c0
 have t1 := HT.out.c1
 have ft0 := HT.out.fz 0
 have ft1 := HT.out.fz 1
 have lt := HT.out.lt
 have hw13 : W1.heap.size < W2.heap.size := HT.out.lt
 have HD := Lib.hid (fun Y (h : Lc p Y W.heap.size #[.pointer (some ⟨p, 0, none⟩), .bool sat] 67) (h2 : Lc p Y W1.heap.size #[.int .u8 x, .bool z] 103) => (⟨h.c0, h.c1, h2.c0, h2.c1⟩ : Y.cell? ⟨W.heap.size, 0, none⟩ = some (.pointer (some ⟨p, 0, none⟩)) ∧ Y.cell? ⟨W.heap.size, 1, none⟩ = some (.bool sat) ∧ Y.cell? ⟨W1.heap.size, 0, none⟩ = some (.int .u8 x) ∧ Y.cell? ⟨W1.heap.size, 1, none⟩ = some (.bool z)))
 go_region_held3 (fun w' => w'.cell? ⟨W.heap.size, 0, none⟩ = some (.pointer (some ⟨p, 0, none⟩)) ∧ w'.cell? ⟨W.heap.size, 1, none⟩ = some (.bool sat) ∧ w'.cell? ⟨W1.heap.size, 0, none⟩ = some (.int .u8 x) ∧ w'.cell? ⟨W1.heap.size, 1, none⟩ = some (.bool z))
  (first | exact ⟨p0, p1, t0, t1⟩ | exact d2 | exact HD.out _ (((hP2.other (W.heap.size + 1) 0 _ (by omega)).other (W.heap.size + 1) 1 _ (by omega)).other (W.heap.size + 1) 2 _ (by omega)) (((hT2.other (W.heap.size + 1) 0 _ (by omega)).other (W.heap.size + 1) 1 _ (by omega)).other (W.heap.size + 1) 2 _ (by omega)))
  (first
   | (go_at_call 114; refine (H2.out _ HS.out.drew.cur).mono ?_; rintro E W5 ⟨⟨A1, c1, rfl, hl1, hF1⟩, hG2⟩; have hS2 := HS.out.drew.goes hG2; have hP2 := HP.out.drew.goes hG2; have hO2 := HO.out.drew.goes hG2; have hT2 := HT.out.drew.goes hG2; have d2 := HD.out _ hP2 hT2; have q0 := hO2.c0; have q1 := hO2.c1; have q2 := hO2.c2; have qf0 := hO2.fz 0; have qf1 := hO2.fz 1; have qf2 := hO2.fz 2; have ql := hO2.lt))
 have HF1 := Lib.hid (fc_mono hF1 (ok' := fun k => W1.heap.size < k) (fun k hk => by have hk : W2.heap.size ≤ k := hk; omega))
 have HS := Lib.hid hS2
 have lo := hO2.lt
 have HL1 := Lib.hid hl1
 have o0 := hO2.c0
 have o1 := hO2.c1
 have o2 := hO2.c2
 have hww : W.heap.size + 1 < W1.heap.size := by omega
 go_wp2_with fail
 refine bodyPost_ret (v := .agg #[.int .u8 x, .bool z, .slice A1 l1.length c1]) (by simp [results, Tryz.results82, go_sem, o0, o1, o2, lo]) rfl ⟨⟨[.int .u8 x, .bool z, .slice A1 l1.length c1], rfl, ?_⟩, St.fin (W := W) ?_⟩
 ·exact cell_mk (x := ⟨(x, z), l1⟩) HUB.out (fc_mono (by (repeat (first | with_reducible exact HF1.out | (with_reducible refine fc_set ?_ _ _ _ ?_; rotate_left; exact (fun k (hk : _ < k) => by omega)) | with_reducible refine fc_alloc ?_ _ | with_reducible refine fc_drew ?_)) : FC kI _ (fun k => W1.heap.size < k) A1 l1) (fun k hk => by omega)) HL1.out
 ·(repeat (first | with_reducible exact HS.out | (with_reducible refine St.set ?_ _ _ _ ?_; rotate_left; omega) | with_reducible refine St.alloc ?_ _ | with_reducible refine St.drew ?_))
end Go.Proofs.YtofaiocffifhfaaGreat
end
