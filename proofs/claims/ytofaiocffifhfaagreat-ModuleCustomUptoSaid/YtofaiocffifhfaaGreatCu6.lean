/- Lemmas towards this claim's statement: what the functions named here come to, each under the conditions that it states itself. -/
import Derived.Test.YtofaiocffifhfaaGreatCu5
section
namespace Go.Proofs.YtofaiocffifhfaaGreat
open Go.RowKit Go.Shelf YtofaiocffifhfaaGreatB Go.Proofs.YtofaiocffifhfaaGreatW.PrintWords
theorem expand_bd : ∀ l : List (Int × Int), (∀ x ∈ l, x.1 ≤ 4294967295) → (expand l).length ≤ 4294967295 * l.length
 | [], _ => by simp [expand]
 | x :: l, h => by
  have h0 := h x (by simp)
  have := expand_bd l (fun y hy => h y (by simp [hy]))
  simp only [expand, List.flatMap_cons, List.length_append, List.length_replicate, List.length_cons] at *
  omega
theorem Own_lower {α : Type} {d : Kd α} {e base base' : Nat} {W : World} {ok : Nat → Prop} {v : Value} {xs : List α} (h : Own d e W base ok v xs) (hb : base' ≤ base) : Own d e W base' ok v xs := by
 obtain ⟨inner, ⟨h1, h2⟩, hr⟩ := h
 refine ⟨inner, ⟨h1, ?_⟩, hr⟩
 rcases h2 with h2 | ⟨g, cap, cur, rfl, hg, r⟩
 ·exact .inl h2
 ·exact .inr ⟨g, cap, cur, rfl, by omega, r⟩
theorem grpsM_len (B : List Int) : ∀ (k a : Nat) (e : Int), (grpsM B k a e).1.length ≤ k
 | 0, _, _ => Nat.le_refl _
 | k + 1, a, e => by
  rw [grpsM]
  split
  ·have := grpsM_len B k (grpM B a).2.1 (grpM B a).2.2
   simp only [List.length_cons]
   omega
  ·simp
theorem g2_out {W X : World} {p : Nat} {o1 o2 : Obj} (h : G2 ((W.alloc o1).alloc o2) X p (W.heap.size + 1)) : W.grownBy X (some p) := by
 have hs := h.size
 rw [World.size_alloc, World.size_alloc] at hs
 exact ⟨h.os, h.tape, h.output, by omega, fun k hk hkp => (h.block k (by rw [World.size_alloc, World.size_alloc]; omega) (fun e => hkp (by rw [e])) (by omega)).trans ((Below.heap_alloc _ _ _ (by rw [World.size_alloc]; omega)).trans (Below.heap_alloc _ _ _ hk))⟩
set_option maxRecDepth 100000 in
set_option maxHeartbeats 1000000 in
theorem Locals_q (W : World) (p q : Nat) (B : List Int) (a : Nat) (e : Int) (hC : Cur W p q B a e) (hB : Byts B) (hq : W.heap.size + 1 ≠ q) :
  Calls Tryz.prog 13 #[.pointer (some ⟨p, 0, none⟩)] W (LocPost W p q B (locM B a e)) := by
 have hpl := hC.lt
 have hb1 := (Blk.new W #[.pointer (some ⟨p, 0, none⟩), .bool false] 67).alloc (.cells #[.int .u64 0] 125)
 have hb2 := Blk.new (W.alloc (.cells #[.pointer (some ⟨p, 0, none⟩), .bool false] 67)) #[.int .u64 0] 125
 rw [World.size_alloc] at hb2
 have HL := Lib.hid (listG_any _ p q W.heap.size (W.heap.size + 1) B a e false ((hC.alloc (.cells #[.pointer (some ⟨p, 0, none⟩), .bool false] 67)).alloc (.cells #[.int .u64 0] 125)) hB hb1 hb2 (by omega) (by omega) (by omega) hq)
 have hall := grpsM_all hB (rdOf (countM B a) a e).1.toNat (rdOf (countM B a) a e).2.1 (rdOf (countM B a) a e).2.2
 have hgl := grpsM_len B (rdOf (countM B a) a e).1.toNat (rdOf (countM B a) a e).2.1 (rdOf (countM B a) a e).2.2
 have hcr := countM_rd (a := a) (e := e) hB
 have hgl4 := Nat.le_trans hgl (show (rdOf (countM B a) a e).1.toNat ≤ 4096 by omega)
 clear hgl hcr
 have hlm : locM B a e = (let g := grpsM B (rdOf (countM B a) a e).1.toNat (rdOf (countM B a) a e).2.1 (rdOf (countM B a) a e).2.2; if g.2.2 = 0 then (if 4294967295 < sumG g.1 then ([], g.2.1, 110) else if 1024 < sumG g.1 then ([], g.2.1, 3) else (expand g.1, g.2.1, 0)) else ([], g.2.1, g.2.2)) := rfl
 obtain ⟨R, hR⟩ : ∃ R, R = locM B a e := ⟨_, rfl⟩
 rw [← hR]
 rw [hlm] at hR
 clear hlm
 generalize grpsM B (rdOf (countM B a) a e).1.toNat (rdOf (countM B a) a e).2.1 (rdOf (countM B a) a e).2.2 = g at *
 obtain ⟨gs, a3, e3⟩ := g
 dsimp only at hall hR hgl4
 have HRR := Lib.hid hR
 have HALL := Lib.hid hall
 clear hall hR hb1 hb2 hC hB
 go_enter Tryz.func13, Tryz.ntmps13
 go_wp2_with fail
 refine HL.out.mono ?_
 rintro E W1 ⟨v, rfl, hO, hC1, hbp, hbs, hg⟩
 have hsz := hg.size
 rw [World.size_alloc, World.size_alloc] at hsz
 obtain ⟨AG, cG, rfl, hcl, hFG⟩ := hO.reads
 have HFG := Lib.hid hFG
 have HC1 := Lib.hid hC1
 have HG := Lib.hid hg
 have b0 : W1.cell? ⟨W.heap.size, 0, none⟩ = some (.pointer (some ⟨p, 0, none⟩)) := hbp.cell 0
 have b1 : W1.cell? ⟨W.heap.size, 1, none⟩ = some (.bool false) := hbp.cell 1
 have s0 : W1.cell? ⟨W.heap.size + 1, 0, none⟩ = some (.int .u64 (sumG gs)) := hbs.cell 0
 have z1 : W.heap.size < W1.heap.size := by omega
 have z2 : W.heap.size + 1 < W1.heap.size := by omega
 clear hO hC1 hbp hbs hg hFG HL
 by_cases he : e3 = 0
 ·subst he
  have HPG := Lib.hid (pgood_any W1 p q B a3 0 false true HC1.out rfl)
  go_wp2_with fail
  refine HPG.out.mono ?_
  rintro E w' ⟨rfl, rfl⟩
  have HG1 := Lib.hid (HG.out.alloc (.cells #[.pointer (some ⟨p, 0, none⟩), .bool false] 67))
  have HC2 := Lib.hid (HC1.out.alloc (.cells #[.pointer (some ⟨p, 0, none⟩), .bool false] 67))
  by_cases hs1 : 4294967295 < sumG gs
  ·have HV := Lib.hid (show R = ([], a3, 110) from by have := HRR.out; simpa [hs1] using this)
   go_wp2_with fail
   refine (Fail_any _ p q B a3 0 110 HC2.out rfl).mono ?_
   rintro E w2 ⟨rfl, hG2⟩
   have HG2 := Lib.hid hG2
   clear hG2
   go_wp2_with fail
   go_ret
   rw [HV.out]
   exact ⟨⟨_, rfl, Own.nil⟩, HG2.out.1, (g2_out HG1.out).trans HG2.out.2⟩
  ·by_cases hs2 : 1024 < sumG gs
   ·have HV := Lib.hid (show R = ([], a3, 3) from by have := HRR.out; simpa [hs1, hs2] using this)
    go_wp2_with fail
    refine (Fail_any _ p q B a3 0 3 HC2.out rfl).mono ?_
    rintro E w2 ⟨rfl, hG2⟩
    have HG2 := Lib.hid hG2
    clear hG2
    go_wp2_with fail
    go_ret
    rw [HV.out]
    exact ⟨⟨_, rfl, Own.nil⟩, HG2.out.1, (g2_out HG1.out).trans HG2.out.2⟩
   ·have HV := Lib.hid (show R = (expand gs, a3, 0) from by have := HRR.out; simpa [hs1, hs2] using this)
    obtain ⟨W3, hW3⟩ : ∃ W3, W1.alloc (.cells #[.pointer (some ⟨p, 0, none⟩), .bool false] 67) = W3 := ⟨_, rfl⟩
    have hz3 : W.heap.size + 2 ≤ W3.heap.size := by rw [← hW3, World.size_alloc]; omega
    have HF3 := Lib.hid (show FC kG W3 (fun k => k < W3.heap.size) AG gs from hW3 ▸ FC.of_old (Kd.C_below HFG.out.now ((Below.refl _ _).alloc (Nat.le_refl _) _)))
    rw [hW3] at HG1 HC2
    have s3 : W3.cell? ⟨W.heap.size + 1, 0, none⟩ = some (.int .u64 (sumG gs)) := by rw [← hW3]; exact pw_cell_below ((Below.refl _ _).alloc (Nat.le_refl _) _) s0
    have z3 : W.heap.size + 1 < W3.heap.size := by omega
    rw [hW3]
    clear hW3 HFG HC1 HG b0 b1 s0 hsz
    go_wp2_with fail
    go_loopw [6, 32] (fun v6 i wr => ∃ j : Nat, j ≤ gs.length ∧ i = .int .i64 j ∧ Hid (Own (rng .u8) 5 wr W3.heap.size (fun _ => False) v6 (expand (gs.take j))) ∧ Hid (Below W3.heap.size W3 wr)) (fun _ i _ => gs.length - (intOf i).toNat)
    case atStart => exact ⟨0, Nat.zero_le _, rfl, by show Own _ _ _ _ _ _ (expand []); exact Own.nil, Below.refl _ _⟩
    case round =>
     obtain ⟨wo, rfl⟩ : ∃ wo : World, wo = wr := ⟨_, rfl⟩
     obtain ⟨j, hj, rfl, HO, HBw⟩ := hrel
     by_cases hlt : j < gs.length
     ·have hlt2 : (j : Int) < (gs.length : Int) := by omega
      obtain ⟨b, o, x, cs, rfl, hx, hk, hc⟩ := FC.at_ (Ft.below HF3.out HBw.out) (by decide) j hlt
      have hks : cs = [.int .u32 x.1, .int .u8 x.2] := hk.now
      subst hks
      have hz : kG.sz = 2 := rfl
      have d0 := hc 0 _ rfl
      have d1 := hc 1 _ rfl
      simp only [hz, Nat.add_zero] at d0 d1
      have hbl := World.block_lt_of_cell? _ _ d0
      have hxa := HALL.out x (List.mem_of_getElem? hx.out)
      have HX := Lib.hid hx.out
      obtain ⟨n, ty⟩ := x
      simp only at d0 d1 hxa
      obtain ⟨m, rfl⟩ := Int.eq_ofNat_of_zero_le hxa.1.1
      have hm1 : (m : Int) ≤ 4294967295 := hxa.1.2
      have HTY := Lib.hid hxa.2
      have HBx := Lib.hid (Blk.new wo #[.int .u32 m, .int .u8 ty] 129)
      have HO1 := Lib.hid (HO.out.below ((Below.refl _ _).alloc (Nat.le_refl _) (.cells #[.int .u32 m, .int .u8 ty] 129)))
      have HB1 := Lib.hid (HBw.out.alloc HBw.out.size (.cells #[.int .u32 m, .int .u8 ty] 129))
      have hwz := HBw.out.size
      clear hk hc hx hz hxa
      go_wp2_with fail
      go_loopw [6, 38] (fun v6 i wr => ∃ k : Nat, k ≤ m ∧ i = .int .u32 k ∧ Hid (Own (rng .u8) 5 wr W3.heap.size (fun _ => False) v6 (expand (gs.take j) ++ List.replicate k ty)) ∧ Hid (Below W3.heap.size W3 wr) ∧ Hid (Blk wr wo.heap.size #[.int .u32 m, .int .u8 ty] 129)) (fun _ i _ => m - (intOf i).toNat)
      case atStart => exact ⟨0, Nat.zero_le _, rfl, by rw [List.replicate_zero, List.append_nil]; exact HO1.out, HB1, HBx⟩
      case round =>
       obtain ⟨k, hk, rfl, HOk, HBk, HXk⟩ := hrel
       have x0 : wr.cell? ⟨wo.heap.size, 0, none⟩ = some (.int .u32 m) := HXk.out.cell 0
       have x1 : wr.cell? ⟨wo.heap.size, 1, none⟩ = some (.int .u8 ty) := HXk.out.cell 1
       have hxl := HXk.out.lt
       by_cases hlk : k < m
       ·have hlk2 : (k : Int) < (m : Int) := by omega
        have HFk : FK (rng .u8) wr (fun q => False ∧ some q ≠ u6.ownBlock) ty [.int .u8 ty] := fun _ _ => ⟨rfl, by have := HTY.out; simp [Lit.wf, IntKind.min, IntKind.max, IntKind.signed, IntKind.bits]; omega⟩
        have hgs : W3.heap.size ≤ wr.heap.size := HBk.out.size
        have hbd := expand_bd (gs.take j) (fun y hy => (HALL.out y (List.mem_of_mem_take hy)).1.2)
        rw [List.length_take] at hbd
        have hnX : some wo.heap.size ≠ u6.ownBlock := fun e => by
         obtain ⟨_, ho, _⟩ := HOk.out
         obtain ⟨cs, hcs⟩ := own_typed ho _ e.symm
         rw [HXk.out] at hcs
         simp at hcs
        have hown : ∀ q, u6.ownBlock = some q → W3.heap.size ≤ q := fun q hq => (Own.block HOk.out hq).1
        have hbd2 : (expand (gs.take j) ++ List.replicate k ty).length + 1 ≤ 140737488355328 := by
         rw [List.length_append, List.length_replicate]
         have : min j gs.length ≤ 4096 := by omega
         have : 4294967295 * min j gs.length ≤ 4294967295 * 4096 := Nat.mul_le_mul_left _ this
         omega
        clear hbd
        go_wp2_with (at_builtin; refine Own.append (d := rng .u8) W3.heap.size rfl (.tmp 40) (.tmp 43) 22 5 _ 1 rfl Tryz.underlying22 infoB8 rfl (by decide) (by decide) u6 _ ty _ (fun _ => False) rfl rfl HFk HOk.out hgs (by omega) ?_; intro v1 w1 hown1 hg1 hat1)
        have HO3 := Lib.hid hown1
        have HG3 := Lib.hid hg1
        clear hown1 hg1 hat1 HFk
        go_wp2_with fail
        go_roundw
        case rel =>
         refine ⟨k + 1, by omega, by go_num, ?_, HBk.out.grown HG3.out hgs hown, HXk.out.grown HG3.out hnX⟩
         rw [List.replicate_succ', ← List.append_assoc]
         exact HO3.out
        case measure => simp [intOf]; omega
       ·obtain rfl : k = m := by omega
        go_wp2_with fail
        go_roundw
        case rel =>
         refine ⟨j + 1, by omega, by go_num, ?_, HBk⟩
         rw [List.take_add_one, HX.out]
         show Own _ _ _ _ _ _ (expand (gs.take j ++ [((k : Int), ty)]))
         rw [expand_snoc]
         exact HOk.out
        case measure => simp [intOf]; omega
     ·obtain rfl : j = gs.length := by omega
      go_wp2_with fail
      go_ret
      rw [HV.out]
      rw [List.take_length] at HO
      exact ⟨⟨_, rfl, Own_lower HO.out (by omega)⟩, HC2.out.below HBw.out, (g2_out HG1.out).trans (grown_below HBw.out (some p))⟩
 ·have he2 : (e3 == 0) = false := beq_eq_false_iff_ne.2 he
  have HPG := Lib.hid (pgood_any W1 p q B a3 e3 false false HC1.out he2)
  have HV := Lib.hid (HRR.out.trans (if_neg he))
  clear he he2
  go_wp2_with fail
  refine HPG.out.mono ?_
  rintro E w' ⟨rfl, rfl⟩
  go_wp2_with fail
  go_ret
  rw [HV.out]
  refine ⟨⟨_, rfl, Own.nil⟩, HC1.out.alloc _, ?_⟩
  exact g2_out (HG.out.alloc _)
end Go.Proofs.YtofaiocffifhfaaGreat
end
section
namespace Go.Proofs.YtofaiocffifhfaaGreatB
open Go.RowKit Go.Proofs.YtofaiocffifhfaaGreatW.PrintWords
section
variable {α : Type} {d : Kd α} {W : World} {ok : Nat → Prop} {A : Option Addr} {xs : List α}
theorem FC.inner (h : FC d W ok A xs) (h1 : 0 < d.sz) :
  ∃ inner, Reps (fun x c => FK d W ok x c) d.sz xs inner ∧ (0 < xs.length → ∃ ad, A = some ad ∧ ∀ j u, inner[j]? = some u → W.cell? (ad.add j) = some u) := by
 rcases Nat.eq_zero_or_pos xs.length with hz | hz
 ·obtain rfl : xs = [] := List.eq_nil_of_length_eq_zero hz
  exact ⟨[], Reps.none _ _, fun h => absurd h (by simp)⟩
 ·obtain ⟨b0, o0, _, _, rfl, _⟩ := FC.at_ h h1 0 hz
  have key : ∀ m, m ≤ xs.length → ∃ inner, Reps (fun x c => FK d W ok x c) d.sz (xs.take m) inner ∧ ∀ j u, inner[j]? = some u → W.cell? ⟨b0, o0 + j, none⟩ = some u := by
   intro m
   induction m with
   | zero => exact fun _ => ⟨[], Reps.none _ _, fun j u hu => by simp at hu⟩
   | succ m ih =>
    intro hm
    obtain ⟨inner, hr, hc⟩ := ih (by omega)
    obtain ⟨b, o, x, cs, e, hx, hk, hcc⟩ := FC.at_ h h1 m (by omega)
    injection e with e
    injection e with e1 e2
    subst e1 e2
    refine ⟨inner ++ cs, ?_, fun j u hu => ?_⟩
    ·rw [List.take_add_one, hx.out]
     exact hr.snoc hk (d.K_len hk.now)
    ·have hil : inner.length = m * d.sz := by rw [hr.1, List.length_take, Nat.min_eq_left (by omega)]
     rcases Nat.lt_or_ge j inner.length with hj | hj
     ·rw [List.getElem?_append_left hj] at hu
      exact hc j u hu
     ·rw [List.getElem?_append_right hj] at hu
      have := hcc (j - inner.length) u hu
      rwa [show o0 + m * d.sz + (j - inner.length) = o0 + j from by omega] at this
  obtain ⟨inner, hr, hc⟩ := key xs.length (Nat.le_refl _)
  rw [List.take_length] at hr
  exact ⟨inner, hr, fun _ => ⟨_, rfl, fun j u hu => by rw [show (⟨b0, o0, none⟩ : Addr).add j = ⟨b0, o0 + j, none⟩ from by unfold Addr.add; split <;> simp_all]; exact hc j u hu⟩⟩
end
section
variable {α : Type} {d : Kd α} {P : Program} {ops : Array Oper} {rest : List Oper} {o : Oper} {a : Act} {Q : Exit → Act → World → Prop} {W : World}
theorem Own.run_append_row (base : Nat) (t e ty : TypeId) (z : Value) (bytes : Nat)
  (ht : P.underlying t = some (.slice e)) (hinfo : (P.info? e).map (fun i => (i.zero, i.size, i.bytes)) = some (some z, d.sz, bytes)) (hz : z.cells.size = d.sz) (hs0 : 0 < d.sz) (hb0 : 0 < bytes)
  (v : Value) (xs ys : List α) (A : Option Addr) (c : Nat) (ok : Nat → Prop) (HY : FC d W (fun k => ok k ∧ some k ≠ v.ownBlock) A ys)
  (HO : Own d e W base ok v xs) (hbase : base ≤ W.heap.size) (hl : (xs.length + ys.length) * bytes ≤ 140737488355328) :
  ∃ v1 w1, (Builtin.append_ #[t, t] ty #[v, .slice A ys.length c]).run P W = .ok v1 w1 ∧ Own d e w1 base ok v1 (xs ++ ys) ∧ W.grownBy w1 v.ownBlock ∧ (v1.ownBlock = v.ownBlock ∨ v1.ownBlock = some W.heap.size) := by
 obtain ⟨inner, hown, hr⟩ := HO
 obtain ⟨news, hn, hsrc⟩ := HY.inner hs0
 obtain ⟨v1, w1, hrun, hown1, hg, hat⟩ := run_append_src (P := P) base t e ty z d.sz bytes ht hinfo hz hs0 hb0 v xs.length inner news A ys.length c hown hn.1 hsrc (fun u hu => by
  obtain ⟨j, hj, rfl⟩ := List.getElem_of_mem hu
  have hjl : j / d.sz < ys.length := by rw [hn.1] at hj; exact Nat.div_lt_of_lt_mul (by rw [Nat.mul_comm]; exact hj)
  have hk := hn.2 (j / d.sz) _ (List.getElem?_eq_getElem hjl)
  refine d.K_one hk.now _ (List.mem_of_getElem? (i := j % d.sz) ?_)
  rw [List.getElem?_take, if_pos (Nat.mod_lt _ hs0), List.getElem?_drop, show j / d.sz * d.sz + j % d.sz = j from by rw [Nat.mul_comm]; exact Nat.div_add_mod j d.sz, List.getElem?_eq_getElem hj]) hbase hl
 refine ⟨v1, w1, hrun, ⟨inner ++ news, by rw [List.length_append]; exact hown1, ?_⟩, hg, hat⟩
 have hnew : ∀ k, k < W.heap.size → some k ≠ v.ownBlock → some k ≠ v1.ownBlock := by
  intro k hk hne
  rcases hat with hat | hat
  ·rw [hat]; exact hne
  ·rw [hat]
   intro e
   injection e with e
   omega
 have hmove : ∀ p c, FK d W (fun k => ok k ∧ some k ≠ v.ownBlock) p c → FK d w1 (fun k => ok k ∧ some k ≠ v1.ownBlock) p c := fun p c hp =>
  Ft.grown (Ft.bound hp (fun k hk hlt => (⟨⟨hk.1, hnew k hlt hk.2⟩, hk.2⟩ : (ok k ∧ some k ≠ v1.ownBlock) ∧ some k ≠ v.ownBlock))) hg (fun k hk => hk.2) |>.mono (fun k hk => hk.1)
 exact Kd.reps_append (hr.imp_ hmove) (hn.imp_ hmove)
theorem Own.append_row (base : Nat) (hgd : o.guard = none) (s x : Operand) (t e : TypeId) (z : Value) (bytes : Nat)
  (ho : o.op = .call { callee := .builtin .append, args := #[s, x], argTypes := #[t, t] })
  (ht : P.underlying t = some (.slice e)) (hinfo : (P.info? e).map (fun i => (i.zero, i.size, i.bytes)) = some (some z, d.sz, bytes)) (hz : z.cells.size = d.sz) (hs0 : 0 < d.sz) (hb0 : 0 < bytes)
  (v : Value) (xs ys : List α) (A : Option Addr) (c : Nat) (ok : Nat → Prop) (hs : a.eval s = v) (hx : a.eval x = .slice A ys.length c) (HY : FC d W (fun k => ok k ∧ some k ≠ v.ownBlock) A ys)
  (HO : Own d e W base ok v xs) (hbase : base ≤ W.heap.size) (hl : (xs.length + ys.length) * bytes ≤ 140737488355328)
  (h : ∀ v1 w1, Own d e w1 base ok v1 (xs ++ ys) → W.grownBy w1 v.ownBlock → (v1.ownBlock = v.ownBlock ∨ v1.ownBlock = some W.heap.size) → wpList P ops Q rest (a.put o.dst v1) w1) :
  wpList P ops Q (o :: rest) a W := by
 obtain ⟨v1, w1, hr, h2, h3, h5⟩ := Own.run_append_row (P := P) base t e o.type z bytes ht hinfo hz hs0 hb0 v xs ys A c ok HY HO hbase hl
 refine wpList_plain hgd fun K hK => ?_
 unfold Oper.wp execOp
 simp only [ho, resolve, invoke, builtin, Sem.run_bind, Sem.run_pure, Result.andThen_ok, List.map_toArray, List.map_cons, List.map_nil, hs, hx, hr]
 exact hK _ _ (h v1 w1 h2 h3 h5)
end
end Go.Proofs.YtofaiocffifhfaaGreatB
end
section
namespace Go.Proofs.YtofaiocffifhfaaGreat
open Go.RowKit Go.Shelf YtofaiocffifhfaaGreatB Go.Proofs.YtofaiocffifhfaaGreatW.PrintWords
def takeM (B : List Int) (a n : Nat) : Except Int (List Int × Nat) := if a + n ≤ B.length then .ok ((B.drop a).take n, a + n) else .error 100
theorem byQ_FC {W : World} {q : Nat} {A : Option Addr} {L : List Int} (h : ByQ W q A L) (hL : ∀ x ∈ L, 0 ≤ x ∧ x ≤ 255) (hl : L.length ≤ 1048576) : FC (rng .u8) W (fun k => k = q) A L := fun W' hW => by
 refine ⟨rfl, by first | omega | (simp only [maxLen]; omega), fun hp => ?_⟩
 obtain ⟨o, rfl, hc⟩ := h hp
 refine ⟨⟨q, o, none⟩, rfl, fun i x hi => ⟨[.int .u8 x], rfl, ⟨rfl, ?_⟩, fun j u hu => ?_⟩⟩
 ·have := hL x (List.mem_of_getElem? hi)
  simp [Lit.wf, IntKind.min, IntKind.max, IntKind.signed, IntKind.bits]
  omega
 ·have hj : j = 0 := by
   have := (List.getElem?_eq_some_iff.1 hu).1
   simpa using this
  subst hj
  simp only [List.getElem?_cons_zero, Option.some.injEq] at hu
  subst hu
  have hcell := hc i x hi
  have hlt := World.block_lt_of_cell? _ _ hcell
  have hb := hW.block q rfl hlt
  have : W'.cell? ⟨q, o + i, none⟩ = W.cell? ⟨q, o + i, none⟩ := by simp [World.cell?, hb]
  rw [show (⟨q, o, none⟩ : Addr).add (i * (rng .u8).sz + 0) = ⟨q, o + i, none⟩ from by unfold Addr.add; split <;> simp_all [rng]]
  rw [this, hcell]
def Take1Post (W : World) (p q : Nat) (B : List Int) (a n : Nat) (E : Ending) (w' : World) : Prop :=
 ∃ v, E = .returned v ∧ Own (rng .u8) 5 w' W.heap.size (fun _ => False) v (match takeM B a n with | .ok (l, _) => l | .error _ => []) ∧
  Goes W w' p q B (match takeM B a n with | .ok (_, nx) => nx | .error _ => a) (match takeM B a n with | .ok _ => 0 | .error e => e)
theorem own_any {k : IntKind} {e : Nat} {W : World} {base : Nat} {ok ok' : Nat → Prop} {v : Value} {xs : List Int} (h : Own (rng k) e W base ok v xs) : Own (rng k) e W base ok' v xs := by
 obtain ⟨inner, ho, hr⟩ := h
 exact ⟨inner, ho, hr.imp_ (fun _ _ hp _ _ => hp.now)⟩
set_option maxRecDepth 100000 in
theorem Take1_any (W : World) (p q r s : Nat) (B : List Int) (a n : Nat) (hC : Cur W p q B a 0) (hB : Byts B) (hn : n ≤ 4294967295) (hr : W.cell? ⟨r, 0, none⟩ = some (.pointer (some ⟨p, 0, none⟩))) (hs : W.cell? ⟨s, 0, none⟩ = some (.int .u32 n)) :
  Calls Tryz.prog 102 #[.pointer (some ⟨r, 0, none⟩), .pointer (some ⟨s, 0, none⟩)] W (Take1Post W p q B a n) := by
 by_cases h : a + n ≤ B.length
 ·have hT : takeM B a n = .ok ((B.drop a).take n, a + n) := if_pos h
  have hP : ∀ E w', (∃ v, E = .returned v ∧ Own (rng .u8) 5 w' W.heap.size (fun _ => False) v ((B.drop a).take n) ∧ Goes W w' p q B (a + n) 0) → Take1Post W p q B a n E w' := fun E w' h => by unfold Take1Post; rw [hT]; exact h
  have h0 := take_yes W p q B a n hC hB h
  have hpl := hC.lt
  have hbl := hB.1
  have hl : ∀ x ∈ (B.drop a).take n, 0 ≤ x ∧ x ≤ 255 := fun x hx => hB.2 x (List.mem_of_mem_drop (List.mem_of_mem_take hx))
  have hql : 0 < B.length → q < W.heap.size := fun hl => hC.qlt' hl
  have hll : ((B.drop a).take n).length = n := by rw [List.length_take, List.length_drop]; omega
  generalize (B.drop a).take n = L at *
  subst hll
  have hnb : L.length ≤ 1048576 := by omega
  have H := Lib.hid h0
  have HP := Lib.hid hP
  have HL := Lib.hid hl
  have HQ := Lib.hid hql
  have hBl : a + L.length ≤ B.length := h
  clear hT hC hB h0 hP hl h hql
  go_enter Tryz.func102, Tryz.ntmps102
  go_wp2_with fail
  refine H.out.mono ?_
  rintro E W2 ⟨⟨A', c', rfl, hQ⟩, hG⟩
  have HF : FC (rng .u8) W2 (fun k => k = q ∧ some k ≠ (Value.slice none 0 0).ownBlock) A' L := Ft.mono (byQ_FC hQ HL.out hnb) (fun k hk => ⟨hk, by simp [Value.ownBlock]⟩)
  have HG := Lib.hid hG
  have hgs := hG.2.size
  clear hQ hG
  go_wp2_with (at_builtin; refine Own.append_row (d := rng .u8) W.heap.size rfl (.const (.slice none 0 0)) (.tmp 6) 22 5 (.int .u8 0) 1 rfl Tryz.underlying22 infoB8 rfl (by decide) (by decide) (.slice none 0 0) [] L A' c' (fun k => k = q) rfl rfl HF Own.nil hgs (by simp only [List.length_nil]; omega) ?_; intro v1 w1 hown1 hg1 hat1; rw [List.nil_append] at hown1)
  have HO := Lib.hid hown1
  have HG1 := Lib.hid hg1
  clear hown1 hg1 hat1 HF
  go_wp2_with fail
  go_ret
  have hg : W2.grownBy w1 none := HG1.out
  exact HP.out _ _ ⟨v1, rfl, own_any HO.out, HG.out.1.grown' hg (by simp) (by simp), HG.out.2.trans ⟨hg.os, hg.tape, hg.output, hg.size, fun k hk _ => hg.block k hk (by simp)⟩⟩
 ·have hT : takeM B a n = .error 100 := if_neg h
  have HP := Lib.hid (show ∀ E w', (∃ v, E = .returned v ∧ Own (rng .u8) 5 w' W.heap.size (fun _ => False) v [] ∧ Goes W w' p q B a 100) → Take1Post W p q B a n E w' from fun E w' h => by unfold Take1Post; rw [hT]; exact h)
  have H := Lib.hid (take_no W p q B a n hC hB (by omega) (by omega))
  have hpl := hC.lt
  clear hT hC hB
  go_enter Tryz.func102, Tryz.ntmps102
  go_wp2_with fail
  refine H.out.mono ?_
  rintro E W2 ⟨rfl, hG⟩
  have HG := Lib.hid hG
  clear hG
  go_wp2_with fail
  go_ret
  exact HP.out _ _ ⟨_, rfl, Own.nil, HG.out⟩
end Go.Proofs.YtofaiocffifhfaaGreat
end
section
namespace Go.Proofs.YtofaiocffifhfaaGreat
open Go.RowKit Go.Shelf YtofaiocffifhfaaGreatB Go.Proofs.YtofaiocffifhfaaGreatW.PrintWords
def rdL {α : Type} (r : Except Int (List α × Nat)) (a : Nat) (e : Int) : List α × Nat × Int := if e = 0 then (match r with | .ok (l, nx) => (l, nx, 0) | .error e' => ([], a, e')) else ([], a, e)
def TakePost (W : World) (p q : Nat) (B : List Int) (r : List Int × Nat × Int) (E : Ending) (w' : World) : Prop :=
 (∃ v, E = .returned v ∧ Own (rng .u8) 5 w' W.heap.size (fun _ => False) v r.1) ∧ Goes W w' p q B r.2.1 r.2.2
theorem ent_Take1 : Enters Tryz.prog 102 := enters_of Tryz.func102 (by kernel_rfl) rfl
set_option maxRecDepth 100000 in
theorem Take_any (W : World) (p q : Nat) (B : List Int) (a n : Nat) (e : Int) (hC : Cur W p q B a e) (hB : Byts B) (hn : n ≤ 4294967295) :
  Calls Tryz.prog 71 #[.pointer (some ⟨p, 0, none⟩), .int .u32 n] W (TakePost W p q B (rdL (takeM B a n) a e)) := by
 have hC2 := (hC.alloc (.cells #[.pointer (some ⟨p, 0, none⟩)] 53)).alloc (.cells #[.int .u32 n] 30)
 have hb1 := (Blk.new W #[.pointer (some ⟨p, 0, none⟩)] 53).alloc (.cells #[.int .u32 n] 30)
 have hb2 := Blk.new (W.alloc (.cells #[.pointer (some ⟨p, 0, none⟩)] 53)) #[.int .u32 n] 30
 rw [World.size_alloc] at hb2
 have HP := Lib.hid (fun (E : Ending) (w' : World) (h : (∃ v, E = .returned v ∧ Own (rng .u8) 5 w' W.heap.size (fun _ => False) v (rdL (takeM B a n) a e).1) ∧ Goes W w' p q B (rdL (takeM B a n) a e).2.1 (rdL (takeM B a n) a e).2.2) => (h : TakePost W p q B (rdL (takeM B a n) a e) E w'))
 by_cases he : e = 0
 ·subst he
  have H := reads_v_bytes _ p q B a (match takeM B a n with | .ok (_, nx) => nx | .error _ => a) _ ent_Take1 #[.pointer (some ⟨W.heap.size, 0, none⟩), .pointer (some ⟨W.heap.size + 1, 0, none⟩)]
   (fun v w' => Own (rng .u8) 5 w' W.heap.size (fun _ => False) v (match takeM B a n with | .ok (l, _) => l | .error _ => [])) (match takeM B a n with | .ok _ => 0 | .error e => e) hC2
   ((Take1_any _ p q W.heap.size (W.heap.size + 1) B a n hC2 hB hn (hb1.cell 0) (hb2.cell 0)).mono fun E w' ⟨v, h1, h2, h3⟩ => ⟨v, h1, Own_lower h2 (by simp; omega), h3⟩)
  have hT : takeM B a n = (if a + n ≤ B.length then .ok ((B.drop a).take n, a + n) else .error 100) := rfl
  have HH := Lib.hid (show ∀ E w', RvPost (.slice none 0 0) ((W.alloc (.cells #[.pointer (some ⟨p, 0, none⟩)] 53)).alloc (.cells #[.int .u32 n] 30)) p q B a (match takeM B a n with | .ok (_, nx) => nx | .error _ => a) (match takeM B a n with | .ok _ => 0 | .error e => e) (fun v w' => Own (rng .u8) 5 w' W.heap.size (fun _ => False) v (match takeM B a n with | .ok (l, _) => l | .error _ => [])) E w' → ∃ v, E = .returned v ∧ TakePost W p q B (rdL (takeM B a n) a 0) (.returned v) w' from by
   rintro E w' ⟨⟨v, rfl, h1, h2⟩, h3⟩
   refine ⟨v, rfl, HP.out _ _ ⟨⟨v, rfl, ?_⟩, ?_⟩⟩
   ·unfold rdL
    rw [if_pos rfl]
    by_cases hc : a + n ≤ B.length
    ·rw [if_pos hc] at hT
     rw [hT] at h1 ⊢
     exact h1 rfl
    ·rw [if_neg hc] at hT
     rw [hT] at h2 ⊢
     rw [h2 (by decide)]
     exact Own.nil
   ·unfold rdL
    rw [if_pos rfl]
    have h4 := (h3.of_alloc).of_alloc
    by_cases hc : a + n ≤ B.length
    ·rw [if_pos hc] at hT
     rw [hT] at h4 ⊢
     exact h4
    ·rw [if_neg hc] at hT
     rw [hT] at h4 ⊢
     exact h4)
  have H0 := Lib.hid H
  clear H hC hC2 hB hb1 hb2 HP hT
  go_enter Tryz.func71, Tryz.ntmps71
  go_wp2_with fail
  refine H0.out.mono ?_
  rintro E W1 h
  obtain ⟨v, rfl, h2⟩ := HH.out _ _ h
  have HP := Lib.hid h2
  clear h h2 HH H0
  go_wp2_with fail
  go_ret
  exact HP.out
 ·have H := Lib.hid (reads_bad_bytes _ p q B a e (.func (.func 102) #[] #[.pointer (some ⟨W.heap.size, 0, none⟩), .pointer (some ⟨W.heap.size + 1, 0, none⟩)]) hC2 (beq_eq_false_iff_ne.2 he))
  have HV := Lib.hid (show rdL (takeM B a n) a e = ([], a, e) from by simp [rdL, he])
  have HG := Lib.hid (Goes.of_alloc (Goes.of_alloc (Goes.same hC2)))
  clear hC hC2 hB he hb1 hb2 HP
  go_enter Tryz.func71, Tryz.ntmps71
  go_wp2_with fail
  refine H.out.mono ?_
  rintro E W1 ⟨rfl, rfl⟩
  go_wp2_with fail
  go_ret
  rw [HV.out]
  exact ⟨⟨_, rfl, Own.nil⟩, HG.out⟩
end Go.Proofs.YtofaiocffifhfaaGreat
end
section
namespace Go.Proofs.YtofaiocffifhfaaGreat
open Go.RowKit Go.Shelf YtofaiocffifhfaaGreatB Go.Proofs.YtofaiocffifhfaaGreatW.PrintWords
def tysM (B : List Int) : Nat → Nat → Int → List Int × Nat × Int
 | 0, a, e => ([], a, e)
 | k + 1, a, e => if e = 0 then ((rdOf (valM B a) a 0).1 :: (tysM B k (rdOf (valM B a) a 0).2.1 (rdOf (valM B a) a 0).2.2).1, (tysM B k (rdOf (valM B a) a 0).2.1 (rdOf (valM B a) a 0).2.2).2) else ([], a, e)
theorem tysM_bad (B : List Int) (k a : Nat) (e : Int) (h : (e == 0) = false) : tysM B k a e = ([], a, e) := by
 cases k with
 | zero => rfl
 | succ k => rw [tysM, if_neg (by simpa using h)]
structure LT (W : World) (p q : Nat) (B : List Int) (target : List Int × Nat × Int) (c j : Nat) (v : Value) (done : List Int) (a : Nat) (e : Int) (X : World) : Prop where
 own : Own (rng .u8) 5 X W.heap.size (fun _ => False) v done
 cur : Cur X p q B a e
 g : W.grownBy X (some p)
 t : (done ++ (tysM B (c - j) a e).1, (tysM B (c - j) a e).2) = target
 len : done.length ≤ j
theorem grown_jj {W W1 W2 : World} {row row1 : Option Nat} (h : W.grownBy W1 row) (h1 : W1.grownBy W2 row1) (hr : ∀ k, row1 = some k → row = some k ∨ W.heap.size ≤ k) : W.grownBy W2 row := by
 refine ⟨h1.os.trans h.os, h1.tape.trans h.tape, h1.output.trans h.output, Nat.le_trans h.size h1.size, fun k hk hne => ?_⟩
 refine (h1.block k (Nat.lt_of_lt_of_le hk h.size) (fun e => ?_)).trans (h.block k hk hne)
 rcases hr k e.symm with h | h
 ·exact hne h.symm
 ·omega
def tysOf (B : List Int) (a : Nat) (e : Int) : List Int × Nat × Int := tysM B (rdOf (countM B a) a e).1.toNat (rdOf (countM B a) a e).2.1 (rdOf (countM B a) a e).2.2
set_option maxRecDepth 100000 in
set_option maxHeartbeats 1000000 in
theorem listT_any (W : World) (p q : Nat) (B : List Int) (a : Nat) (e : Int) (hC : Cur W p q B a e) (hB : Byts B) :
  Calls Tryz.prog 108 #[.pointer (some ⟨p, 0, none⟩), .func (.func 35) #[.pointer (some ⟨p, 0, none⟩)] #[]] W (TakePost W p q B (tysOf B a e)) := by
 have hc := countM_rd (a := a) (e := e) hB
 have hin : ∀ args w, Sem.run Tryz.prog (callFunc 35 args) w = .ok (.enter 35 args) w := enters_of Tryz.func35 (by kernel_rfl) rfl
 have hpl := hC.lt
 have HQ := Lib.hid (fun hl => hC.qlt' hl : 0 < B.length → q < W.heap.size)
 have H0 := Lib.hid (Count_any _ p q B a e hC hB)
 have hdef : tysOf B a e = tysM B (rdOf (countM B a) a e).1.toNat (rdOf (countM B a) a e).2.1 (rdOf (countM B a) a e).2.2 := rfl
 rw [hdef]
 clear hdef
 generalize rdOf (countM B a) a e = r at *
 obtain ⟨n, a0, e0⟩ := r
 dsimp only at hc
 obtain ⟨c, rfl⟩ := Int.eq_ofNat_of_zero_le hc.1
 rw [Int.toNat_natCast]
 obtain ⟨tg, htg⟩ : ∃ tg, tysM B c a0 e0 = tg := ⟨_, rfl⟩
 have HTG := Lib.hid htg
 rw [htg]
 have hc2 : (c : Int) ≤ 4096 := hc.2
 have HB := Lib.hid hB
 clear hC hB hc htg
 go_enter Tryz.func108, Tryz.ntmps108
 go_wp2_with fail
 refine H0.out.mono ?_
 rintro E W1 ⟨rfl, hG1⟩
 have HL := Lib.hid (⟨Own.nil, hG1.1, hG1.2, by rw [Nat.sub_zero, HTG.out]; rfl, Nat.le_refl _⟩ : LT W p q B tg c 0 (.slice none 0 0) [] a0 e0 W1)
 clear hG1 H0
 go_wp2_with fail
 go_loopw [5, 7] (fun v i wr => ∃ (j : Nat) (done : List Int) (a : Nat) (e : Int), j ≤ c ∧ i = .int .i64 j ∧ Hid (LT W p q B tg c j v done a e wr)) (fun _ i _ => c - (intOf i).toNat)
 case atStart => exact ⟨0, [], a0, e0, Nat.zero_le _, rfl, HL⟩
 case round =>
  obtain ⟨j, done, a', e', hj, rfl, HLj⟩ := hrel
  clear HL
  by_cases hlt : j < c
  ·have hlt2 : (j : Int) < (c : Int) := by omega
   by_cases he : e' = 0
   ·subst he
    have HPG := Lib.hid (good_any wr p q B a' 0 true HLj.out.cur rfl)
    have HV := Lib.hid (Value_any wr p q B a' 0 HLj.out.cur HB.out)
    have hv := rdOf_val (a := a') (e := 0) HB.out
    have ht0 := HLj.out.t
    rw [show c - j = (c - (j + 1)) + 1 from by omega, tysM, if_pos rfl] at ht0
    generalize rdOf (valM B a') a' 0 = r at *
    obtain ⟨ty, a1, e1⟩ := r
    dsimp only at hv
    have HT0 := Lib.hid ht0
    have hX := HLj.out.g.size
    have hdl := HLj.out.len
    clear ht0
    go_wp2_with (go_at_call 96; refine HPG.out.mono ?_; rintro E wg ⟨rfl, rfl⟩)
    refine HV.out.mono ?_
    rintro E W2 ⟨rfl, hG2⟩
    have hz2 := hG2.2.size
    have hne : ∀ k, u5.ownBlock = some k → W.heap.size ≤ k := fun k hk => (Own.block HLj.out.own hk).1
    have np : u5.ownBlock ≠ some p := fun e => by have := hne _ e; omega
    have HO2 := Lib.hid (HLj.out.own.grown hG2.2 (.inr np) (fun k hk => hk.elim))
    have HG2 := Lib.hid (HLj.out.g.trans hG2.2)
    have HC2 := Lib.hid hG2.1
    have HF : FK (rng .u8) W2 (fun k => False ∧ some k ≠ u5.ownBlock) ty [.int .u8 ty] := fun _ _ => ⟨rfl, by simp [Lit.wf, IntKind.min, IntKind.max, IntKind.signed, IntKind.bits]; omega⟩
    have hgs : W.heap.size ≤ W2.heap.size := by omega
    clear hG2 HV HPG
    go_wp2_with (at_builtin; refine Own.append (d := rng .u8) W.heap.size rfl (.tmp 21) (.tmp 24) 22 5 _ 1 rfl Tryz.underlying22 infoB8 rfl (by decide) (by decide) u5 done ty _ (fun _ => False) rfl rfl HF HO2.out hgs (by omega) ?_; intro v1 w1 hown1 hg1 hat1)
    have HO3 := Lib.hid hown1
    have HG3 := Lib.hid hg1
    clear hown1 hg1 hat1 HF HO2
    go_wp2_with fail
    go_roundw
    case rel =>
     refine ⟨j + 1, done ++ [ty], a1, e1, by omega, by go_num, ⟨HO3.out, HC2.out.grown' HG3.out (fun e => np e.symm) (fun hl e => by have := hne _ e.symm; have := HQ.out hl; omega), grown_jj HG2.out HG3.out (fun k hk => .inr (hne k hk)), ?_, by simp; omega⟩⟩
     rw [← HT0.out, List.append_assoc]
     rfl
    case measure => simp [intOf]; omega
   ·have he2 : (e' == 0) = false := beq_eq_false_iff_ne.2 he
    have HPG := Lib.hid (good_any wr p q B a' e' false HLj.out.cur he2)
    have ht := HLj.out.t
    rw [tysM_bad _ _ _ _ he2, List.append_nil] at ht
    have HT := Lib.hid ht
    clear ht he he2
    go_wp2_with (go_at_call 96; refine HPG.out.mono ?_; rintro E wg ⟨rfl, rfl⟩)
    go_ret
    rw [← HT.out]
    exact ⟨⟨_, rfl, HLj.out.own⟩, HLj.out.cur, HLj.out.g⟩
  ·obtain rfl : j = c := by omega
   have ht := HLj.out.t
   rw [Nat.sub_self, tysM, List.append_nil] at ht
   have HT := Lib.hid ht
   clear ht
   go_wp2_with fail
   go_ret
   rw [← HT.out]
   exact ⟨⟨_, rfl, HLj.out.own⟩, HLj.out.cur, HLj.out.g⟩
end Go.Proofs.YtofaiocffifhfaaGreat
end
section
namespace Go.Proofs.YtofaiocffifhfaaGreat
open Go.RowKit Go.Shelf YtofaiocffifhfaaGreatB Go.Proofs.YtofaiocffifhfaaGreatW.PrintWords
def fun1M (B : List Int) (a : Nat) : (List Int × List Int) × Nat × Int :=
 let r := rdOf (amongM B a [96] 107) a 0
 let t := tysOf B r.2.1 r.2.2
 let s := tysOf B t.2.1 t.2.2
 ((t.1, s.1), s.2)
def Fun1Post (W : World) (p q : Nat) (B : List Int) (r : (List Int × List Int) × Nat × Int) (E : Ending) (w' : World) : Prop :=
 (∃ v1 v2, E = .returned (.agg #[v1, v2]) ∧ Own (rng .u8) 5 w' W.heap.size (fun _ => False) v1 r.1.1 ∧ Own (rng .u8) 5 w' W.heap.size (fun _ => False) v2 r.1.2) ∧ Goes W w' p q B r.2.1 r.2.2
set_option maxRecDepth 100000 in
set_option maxHeartbeats 1000000 in
theorem Func1_any (W : World) (p q r : Nat) (B : List Int) (a : Nat) (hC : Cur W p q B a 0) (hB : Byts B) (hr : Blk W r #[.pointer (some ⟨p, 0, none⟩)] 53) (hrp : r ≠ p) :
  Calls Tryz.prog 107 #[.pointer (some ⟨r, 0, none⟩)] W (Fun1Post W p q B (fun1M B a)) := by
 have hpl := hC.lt
 have HQ := Lib.hid (fun hl => hC.qlt' hl : 0 < B.length → q < W.heap.size)
 have hrl := hr.lt
 have hF : fun1M B a = (((tysOf B (rdOf (amongM B a [96] 107) a 0).2.1 (rdOf (amongM B a [96] 107) a 0).2.2).1, (tysOf B (tysOf B (rdOf (amongM B a [96] 107) a 0).2.1 (rdOf (amongM B a [96] 107) a 0).2.2).2.1 (tysOf B (rdOf (amongM B a [96] 107) a 0).2.1 (rdOf (amongM B a [96] 107) a 0).2.2).2.2).1), (tysOf B (tysOf B (rdOf (amongM B a [96] 107) a 0).2.1 (rdOf (amongM B a [96] 107) a 0).2.2).2.1 (tysOf B (rdOf (amongM B a [96] 107) a 0).2.1 (rdOf (amongM B a [96] 107) a 0).2.2).2.2).2) := rfl
 have hC1 := hC.alloc (.cells #[.slice none 0 0, .slice none 0 0] 98)
 have HA := Lib.hid (among_any _ p q (W.heap.size + 1) B a 0 107 (some ⟨W.heap.size + 1, 0, none⟩) 1 [96] (hC1.alloc (.cells (([96] : List Int).map (Value.int .u8)).toArray 5)) hB rfl (by omega) (by have := lit_ByQ (W.alloc (.cells #[.slice none 0 0, .slice none 0 0] 98)) [96] 5; rw [World.size_alloc] at this; exact this) (by decide))
 have HLT := Lib.hid (fun X a e (h : Cur X p q B a e) => listT_any X p q B a e h hB)
 generalize rdOf (amongM B a [96] 107) a 0 = r0 at *
 obtain ⟨x0, a1, e1⟩ := r0
 dsimp only at hF
 obtain ⟨R1, hR1⟩ : ∃ R1, R1 = tysOf B a1 e1 := ⟨_, rfl⟩
 rw [← hR1] at hF
 obtain ⟨ps, a2, e2⟩ := R1
 dsimp only at hF
 obtain ⟨R2, hR2⟩ : ∃ R2, R2 = tysOf B a2 e2 := ⟨_, rfl⟩
 rw [← hR2] at hF
 obtain ⟨rs, a3, e3⟩ := R2
 dsimp only at hF
 rw [hF]
 have HT1 := Lib.hid (fun X h => by have := HLT.out X a1 e1 h; rw [← hR1] at this; exact this : ∀ X, Cur X p q B a1 e1 → Calls Tryz.prog 108 #[.pointer (some ⟨p, 0, none⟩), .func (.func 35) #[.pointer (some ⟨p, 0, none⟩)] #[]] X (TakePost X p q B (ps, a2, e2)))
 have HT2 := Lib.hid (fun X h => by have := HLT.out X a2 e2 h; rw [← hR2] at this; exact this : ∀ X, Cur X p q B a2 e2 → Calls Tryz.prog 108 #[.pointer (some ⟨p, 0, none⟩), .func (.func 35) #[.pointer (some ⟨p, 0, none⟩)] #[]] X (TakePost X p q B (rs, a3, e3)))
 have c0 : W.cell? ⟨r, 0, none⟩ = some (.pointer (some ⟨p, 0, none⟩)) := hr.cell 0
 have HR0 := Lib.hid ((hr.alloc (.cells #[.slice none 0 0, .slice none 0 0] 98)).alloc (.cells #[.int .u8 96] 5))
 have HRP := Lib.hid hrp
 have HX0 := Lib.hid ((Blk.new W #[.slice none 0 0, .slice none 0 0] 98).alloc (.cells #[.int .u8 96] 5))
 clear hC hC1 hB hr hrp HLT hR1 hR2 hF
 go_enter Tryz.func107, Tryz.ntmps107
 go_wp2_with fail
 refine HA.out.mono ?_
 rintro E W1 ⟨rfl, hG1⟩
 have hz1 := hG1.2.size
 rw [World.size_alloc, World.size_alloc] at hz1
 have HR1 := Lib.hid (HR0.out.grown hG1.2 (fun e => HRP.out (by injection e)))
 have HX1 := Lib.hid (HX0.out.grown hG1.2 (fun e => by injection e with e; omega))
 have HG1 := Lib.hid ((World.grownBy_alloc W (.cells #[.slice none 0 0, .slice none 0 0] 98) (some p)).trans ((World.grownBy_alloc _ (.cells #[.int .u8 96] 5) (some p)).trans hG1.2))
 have HC1 := Lib.hid hG1.1
 have c1 : W1.cell? ⟨r, 0, none⟩ = some (.pointer (some ⟨p, 0, none⟩)) := HR1.out.cell 0
 have hrl1 := HR1.out.lt
 clear hG1 c0 HA
 go_wp2_with fail
 refine (HT1.out _ HC1.out).mono ?_
 rintro E W2 ⟨⟨v1, rfl, hO1⟩, hG2⟩
 have hz2 := hG2.2.size
 have HR2 := Lib.hid (HR1.out.grown hG2.2 (fun e => HRP.out (by injection e)))
 have HX2 := Lib.hid (HX1.out.grown hG2.2 (fun e => by injection e with e; omega))
 have HG2 := Lib.hid (HG1.out.trans hG2.2)
 have HC2 := Lib.hid hG2.1
 have HO1 := Lib.hid hO1
 have c2 : W2.cell? ⟨r, 0, none⟩ = some (.pointer (some ⟨p, 0, none⟩)) := HR2.out.cell 0
 have hrl2 := HR2.out.lt
 clear hG2 c1 hO1
 go_wp2_with fail
 refine (HT2.out _ HC2.out).mono ?_
 rintro E W3 ⟨⟨v2, rfl, hO2⟩, hG3⟩
 have hz3 := hG3.2.size
 have hx3 := HX2.out.grown hG3.2 (fun e => by injection e with e; omega)
 have HX3 := Lib.hid hx3
 have d0 : W3.cell? ⟨W.heap.size, 0, none⟩ = some (.slice none 0 0) := hx3.cell 0
 have d1 : W3.cell? ⟨W.heap.size, 1, none⟩ = some (.slice none 0 0) := hx3.cell 1
 have k0 := hx3.frozen 0
 have k1 := hx3.frozen 1
 have np1 : v1.ownBlock ≠ some p := fun e => by have := (Own.block HO1.out e).1; omega
 have HO3 := Lib.hid ((Own_lower HO1.out (show W.heap.size ≤ W1.heap.size by omega)).grown hG3.2 (.inr np1) (fun k hk => hk.elim))
 have HO4 := Lib.hid hO2
 have HG3 := Lib.hid (HG2.out.trans hG3.2)
 have HC3 := Lib.hid hG3.1
 obtain ⟨A1, k1', rfl, _, _⟩ := HO3.out.reads
 obtain ⟨A2, k2', rfl, _, _⟩ := HO4.out.reads
 clear hG3 c2 hO2 hx3
 go_wp2_with fail
 have nx1 : (Value.slice A1 ps.length k1').ownBlock ≠ some W.heap.size := fun e => by
  obtain ⟨_, ho, _⟩ := HO3.out
  obtain ⟨cs, hcs⟩ := own_typed ho _ e
  rw [HX3.out] at hcs
  simp at hcs
 have nx2 : (Value.slice A2 rs.length k2').ownBlock ≠ some W.heap.size := fun e => by
  obtain ⟨_, ho, _⟩ := HO4.out
  obtain ⟨cs, hcs⟩ := own_typed ho _ e
  rw [HX3.out] at hcs
  simp at hcs
 have hq1 : 0 < B.length → W.heap.size ≠ q := fun hl => by have := HQ.out hl; omega
 have HG5 := grown_jj (grown_jj HG3.out (gset W3 W.heap.size 0 (.slice A1 ps.length k1')) (fun k e => by injection e with e; omega)) (gset (W3.setCell ⟨W.heap.size, 0, none⟩ (.slice A1 ps.length k1')) W.heap.size 1 (.slice A2 rs.length k2')) (fun k e => by injection e with e; omega)
 exact bodyPost_ret (v := .agg #[.slice A1 ps.length k1', .slice A2 rs.length k2']) (by simp [results, Tryz.results107, go_sem, d0, d1]) rfl
  ⟨⟨_, _, rfl, (HO3.out.grown (gset _ _ _ _) (.inr nx1) (fun k hk => hk.elim)).grown (gset _ _ _ _) (.inr nx1) (fun k hk => hk.elim), (Own_lower HO4.out (by omega)).grown (gset _ _ _ _) (.inr nx2) (fun k hk => hk.elim) |>.grown (gset _ _ _ _) (.inr nx2) (fun k hk => hk.elim)⟩, (HC3.out.other _ _ _ (by omega) hq1).other _ _ _ (by omega) hq1, HG5⟩
end Go.Proofs.YtofaiocffifhfaaGreat
end
section
namespace Go.Proofs.YtofaiocffifhfaaGreat
open Go.RowKit Go.Shelf YtofaiocffifhfaaGreatB Go.Proofs.YtofaiocffifhfaaGreatW.PrintWords
set_option maxRecDepth 100000 in
theorem reads_bad_fty (W : World) (p q : Nat) (B : List Int) (a : Nat) (e : Int) (f : Value) (hC : Cur W p q B a e) (he : (e == 0) = false) :
  Calls Tryz.prog 106 #[.pointer (some ⟨p, 0, none⟩), f] W fun E w' => E = .returned (.agg #[.slice none 0 0, .slice none 0 0]) ∧ Below W.heap.size W w' := by
 have HC := Lib.hid (hC.alloc (.cells #[.slice none 0 0, .slice none 0 0] 98))
 have HE := Lib.hid he
 have hpl := hC.lt
 clear hC he
 go_enter Tryz.func106, Tryz.ntmps106
 go_wp2_with (go_at_call 96; refine (good_any _ _ _ _ _ _ false HC.out HE.out).mono ?_; rintro e w' ⟨rfl, rfl⟩)
 exact bodyPost_ret (v := .agg #[.slice none 0 0, .slice none 0 0]) (by simp [results, Tryz.results106, go_sem]) rfl ⟨rfl, (Below.refl _ _).alloc (Nat.le_refl _) _⟩
set_option maxRecDepth 100000 in
set_option maxHeartbeats 1000000 in
theorem reads_fty (W : World) (p q : Nat) (B : List Int) (a nx : Nat) (g : FuncId) (hent : Enters Tryz.prog g) (lb : Array Value) (ps rs : List Int) (e' : Int) (hC : Cur W p q B a 0)
  (hg : Calls Tryz.prog g lb (W.alloc (.cells #[.slice none 0 0, .slice none 0 0] 98)) (Fun1Post (W.alloc (.cells #[.slice none 0 0, .slice none 0 0] 98)) p q B ((ps, rs), nx, e'))) :
  Calls Tryz.prog 106 #[.pointer (some ⟨p, 0, none⟩), .func (.func g) #[] lb] W (Fun1Post W p q B (if e' = 0 then ((ps, rs), nx, 0) else (([], []), a, e'))) := by
 have hpl := hC.lt
 have HQ := Lib.hid (fun hl => hC.qlt' hl : 0 < B.length → q < W.heap.size)
 have HC := Lib.hid (hC.alloc (.cells #[.slice none 0 0, .slice none 0 0] 98))
 have HG := Lib.hid hg
 have HX := Lib.hid (Blk.new W #[.slice none 0 0, .slice none 0 0] 98)
 obtain ⟨A, c, c0, c1, c2, f0, f1, f2, hle, hq, hlt, ha⟩ := hC.cells
 have hin : ∀ args w, Sem.run Tryz.prog (callFunc g args) w = .ok (.enter g args) w := hent
 obtain ⟨R, hR⟩ : ∃ R, R = (if e' = 0 then ((ps, rs), nx, 0) else (([], []), a, e') : (List Int × List Int) × Nat × Int) := ⟨_, rfl⟩
 rw [← hR]
 have HRR := Lib.hid hR
 clear hC hg hq hent hR
 go_enter Tryz.func106, Tryz.ntmps106
 go_wp2_with fail
 refine (good_any _ _ _ _ _ _ true HC.out rfl).mono ?_
 rintro E w' ⟨rfl, rfl⟩
 go_wp2_with fail
 refine HG.out.mono ?_
 rintro E W2 ⟨⟨v1, v2, rfl, hO1, hO2⟩, hG2⟩
 have hz2 := hG2.2.size
 rw [World.size_alloc] at hz2
 have hx2 := HX.out.grown hG2.2 (fun e => by injection e with e; omega)
 have HX2 := Lib.hid hx2
 obtain ⟨A1, k1', rfl, _, _⟩ := hO1.reads
 obtain ⟨A2, k2', rfl, _, _⟩ := hO2.reads
 have HO1 := Lib.hid (Own_lower hO1 (show W.heap.size ≤ _ by simp))
 have HO2 := Lib.hid (Own_lower hO2 (show W.heap.size ≤ _ by simp))
 have d0 : W2.cell? ⟨W.heap.size, 0, none⟩ = some (.slice none 0 0) := hx2.cell 0
 have d1 : W2.cell? ⟨W.heap.size, 1, none⟩ = some (.slice none 0 0) := hx2.cell 1
 have j0 := hx2.frozen 0
 have j1 := hx2.frozen 1
 have hwl : W.heap.size < W2.heap.size := by omega
 obtain ⟨A', c', g0, g1, g2, k0, k1, k2, gle, gq, glt, ga⟩ := hG2.1.cells
 have HG2 := Lib.hid hG2
 have hpw : p < W2.heap.size := by omega
 have hpne : p ≠ W.heap.size := by omega
 clear hO1 hO2 hx2 hG2 HG HX gq
 have HGW := Lib.hid ((World.grownBy_alloc W (.cells #[.slice none 0 0, .slice none 0 0] 98) (some p)).trans HG2.out.2)
 have nx1 : (Value.slice A1 ps.length k1').ownBlock ≠ some W.heap.size := fun e => by
  obtain ⟨_, ho, _⟩ := HO1.out
  obtain ⟨cs, hcs⟩ := own_typed ho _ e
  rw [HX2.out] at hcs
  simp at hcs
 have nx2 : (Value.slice A2 rs.length k2').ownBlock ≠ some W.heap.size := fun e => by
  obtain ⟨_, ho, _⟩ := HO2.out
  obtain ⟨cs, hcs⟩ := own_typed ho _ e
  rw [HX2.out] at hcs
  simp at hcs
 have N1 := Lib.hid nx1
 have N2 := Lib.hid nx2
 have HQ1 := Lib.hid (fun hl => by have := HQ.out hl; omega : 0 < B.length → W.heap.size ≠ q)
 clear nx1 nx2
 by_cases he : e' = 0
 ·subst he
  have HV := Lib.hid (HRR.out.trans (if_pos rfl))
  have H3 := Lib.hid (HG2.out.1.alloc (.cells #[.slice A1 ps.length k1', .slice A2 rs.length k2'] 98))
  go_wp2_with fail
  refine (good_any _ _ _ _ _ _ true H3.out rfl).mono ?_
  rintro E w' ⟨rfl, rfl⟩
  go_wp2_with fail
  have HG5 := grown_jj (grown_jj HGW.out (gset W2 W.heap.size 0 (.slice A1 ps.length k1')) (fun k e => by injection e with e; omega)) (gset (W2.setCell ⟨W.heap.size, 0, none⟩ (.slice A1 ps.length k1')) W.heap.size 1 (.slice A2 rs.length k2')) (fun k e => by injection e with e; omega)
  refine bodyPost_ret (v := .agg #[.slice A1 ps.length k1', .slice A2 rs.length k2']) (by simp [results, Tryz.results106, go_sem, d0, d1, hwl]) rfl ?_
  rw [HV.out]
  exact ⟨⟨_, _, rfl, ((HO1.out.grown (gset _ _ _ _) (.inr N1.out) (fun k hk => hk.elim)).grown (gset _ _ _ _) (.inr N1.out) (fun k hk => hk.elim)).below ((Below.refl _ _).alloc (Nat.le_refl _) _), ((HO2.out.grown (gset _ _ _ _) (.inr N2.out) (fun k hk => hk.elim)).grown (gset _ _ _ _) (.inr N2.out) (fun k hk => hk.elim)).below ((Below.refl _ _).alloc (Nat.le_refl _) _)⟩,
   ((HG2.out.1.other _ _ _ (by omega) HQ1.out).other _ _ _ (by omega) HQ1.out).alloc _, HG5.trans (World.grownBy_alloc _ _ _)⟩
 ·have he2 : (e' == 0) = false := beq_eq_false_iff_ne.2 he
  have HV := Lib.hid (HRR.out.trans (if_neg he))
  have H3 := Lib.hid (HG2.out.1.alloc (.cells #[.slice A1 ps.length k1', .slice A2 rs.length k2'] 98))
  have HE2 := Lib.hid he2
  clear he he2
  go_wp2_with fail
  refine (good_any _ _ _ _ _ _ false H3.out HE2.out).mono ?_
  rintro E w' ⟨rfl, rfl⟩
  go_wp2_with fail
  have hpne' : W.heap.size ≠ p := fun e => hpne e.symm
  have HG4 := HGW.out.trans (gset W2 p 1 (.int .i64 a))
  have HG5 := grown_jj (grown_jj HG4 (gset _ W.heap.size 0 (.slice none 0 0)) (fun k e => by injection e with e; omega)) (gset _ W.heap.size 1 (.slice none 0 0)) (fun k e => by injection e with e; omega)
  refine bodyPost_ret (v := .agg #[.slice none 0 0, .slice none 0 0]) (by simp [results, Tryz.results106, go_sem, d0, d1, hwl, hpne, hpne']) rfl ?_
  rw [HV.out]
  exact ⟨⟨_, _, rfl, Own.nil, Own.nil⟩, (((HG2.out.1.setAt a ha).other _ _ _ hpne' HQ1.out).other _ _ _ hpne' HQ1.out).alloc _, HG5.trans (World.grownBy_alloc _ _ _)⟩
def funM (B : List Int) (a : Nat) (e : Int) : (List Int × List Int) × Nat × Int :=
 if e = 0 then (if (fun1M B a).2.2 = 0 then ((fun1M B a).1, (fun1M B a).2.1, 0) else (([], []), a, (fun1M B a).2.2)) else (([], []), a, e)
theorem ent_Func1 : Enters Tryz.prog 107 := enters_of Tryz.func107 (by kernel_rfl) rfl
set_option maxRecDepth 100000 in
theorem Func_any (W : World) (p q : Nat) (B : List Int) (a : Nat) (e : Int) (hC : Cur W p q B a e) (hB : Byts B) :
  Calls Tryz.prog 74 #[.pointer (some ⟨p, 0, none⟩)] W (Fun1Post W p q B (funM B a e)) := by
 have hpl := hC.lt
 have hC2 := (hC.alloc (.cells #[.pointer (some ⟨p, 0, none⟩)] 53)).alloc (.cells #[.slice none 0 0, .slice none 0 0] 98)
 have hb1 := (Blk.new W #[.pointer (some ⟨p, 0, none⟩)] 53).alloc (.cells #[.slice none 0 0, .slice none 0 0] 98)
 have hxx := Blk.new (W.alloc (.cells #[.pointer (some ⟨p, 0, none⟩)] 53)) #[.slice none 0 0, .slice none 0 0] 98
 rw [World.size_alloc] at hxx
 have HQ := Lib.hid (fun hl => hC.qlt' hl : 0 < B.length → q < W.heap.size)
 have HXX := Lib.hid hxx
 by_cases he : e = 0
 ·subst he
  obtain ⟨r, hr⟩ : ∃ r, r = fun1M B a := ⟨_, rfl⟩
  have h1 := Func1_any _ p q W.heap.size B a (hC2.alloc (.cells #[.slice none 0 0, .slice none 0 0] 98)) hB (hb1.alloc _) (by omega)
  have hv : funM B a 0 = (if r.2.2 = 0 then (r.1, r.2.1, 0) else (([], []), a, r.2.2)) := by rw [hr]; rfl
  rw [← hr] at h1
  rw [hv]
  clear hv hr
  obtain ⟨⟨ps, rs⟩, nx, e'⟩ := r
  have H0 := Lib.hid (reads_fty _ p q B a nx 107 ent_Func1 #[.pointer (some ⟨W.heap.size, 0, none⟩)] ps rs e' hC2 h1)
  dsimp only
  obtain ⟨R, hR⟩ : ∃ R, R = (if e' = 0 then ((ps, rs), nx, 0) else (([], []), a, e') : (List Int × List Int) × Nat × Int) := ⟨_, rfl⟩
  rw [← hR] at H0 ⊢
  clear hC hC2 hB hb1 h1 hR hxx
  go_enter Tryz.func74, Tryz.ntmps74
  go_wp2_with fail
  refine H0.out.mono ?_
  rintro E W1 ⟨⟨v1, v2, rfl, hO1, hO2⟩, hG⟩
  have hz := hG.2.size
  rw [World.size_alloc, World.size_alloc] at hz
  have hx := HXX.out.grown hG.2 (fun e => by injection e with e; omega)
  have HX := Lib.hid hx
  obtain ⟨A1, k1, rfl, _, _⟩ := hO1.reads
  obtain ⟨A2, k2, rfl, _, _⟩ := hO2.reads
  have HO1 := Lib.hid (Own_lower hO1 (show W.heap.size ≤ _ by simp; omega))
  have HO2 := Lib.hid (Own_lower hO2 (show W.heap.size ≤ _ by simp; omega))
  have HG := Lib.hid hG
  have d0 : W1.cell? ⟨W.heap.size + 1, 0, none⟩ = some (.slice none 0 0) := hx.cell 0
  have d1 : W1.cell? ⟨W.heap.size + 1, 1, none⟩ = some (.slice none 0 0) := hx.cell 1
  have j0 := hx.frozen 0
  have j1 := hx.frozen 1
  have hwl : W.heap.size + 1 < W1.heap.size := by omega
  clear hO1 hO2 hG hx
  go_wp2_with fail
  have nx1 : (Value.slice A1 R.1.1.length k1).ownBlock ≠ some (W.heap.size + 1) := fun e => by
   obtain ⟨_, ho, _⟩ := HO1.out
   obtain ⟨cs, hcs⟩ := own_typed ho _ e
   rw [HX.out] at hcs
   simp at hcs
  have nx2 : (Value.slice A2 R.1.2.length k2).ownBlock ≠ some (W.heap.size + 1) := fun e => by
   obtain ⟨_, ho, _⟩ := HO2.out
   obtain ⟨cs, hcs⟩ := own_typed ho _ e
   rw [HX.out] at hcs
   simp at hcs
  have hq1 : 0 < B.length → W.heap.size + 1 ≠ q := fun hl => by have := HQ.out hl; omega
  have HG4 := (World.grownBy_alloc W (.cells #[.pointer (some ⟨p, 0, none⟩)] 53) (some p)).trans ((World.grownBy_alloc _ (.cells #[.slice none 0 0, .slice none 0 0] 98) (some p)).trans HG.out.2)
  have HG5 := grown_jj (grown_jj HG4 (gset _ (W.heap.size + 1) 0 (.slice A1 R.1.1.length k1)) (fun k e => by injection e with e; omega)) (gset _ (W.heap.size + 1) 1 (.slice A2 R.1.2.length k2)) (fun k e => by injection e with e; omega)
  exact bodyPost_ret (v := .agg #[.slice A1 R.1.1.length k1, .slice A2 R.1.2.length k2]) (by simp [results, Tryz.results74, go_sem, d0, d1]) rfl
   ⟨⟨_, _, rfl, (HO1.out.grown (gset _ _ _ _) (.inr nx1) (fun k hk => hk.elim)).grown (gset _ _ _ _) (.inr nx1) (fun k hk => hk.elim), (HO2.out.grown (gset _ _ _ _) (.inr nx2) (fun k hk => hk.elim)).grown (gset _ _ _ _) (.inr nx2) (fun k hk => hk.elim)⟩, (HG.out.1.other _ _ _ (by omega) hq1).other _ _ _ (by omega) hq1, HG5⟩
 ·have hv : funM B a e = (([], []), a, e) := if_neg he
  rw [hv]
  have H := Lib.hid (reads_bad_fty _ p q B a e (.func (.func 107) #[] #[.pointer (some ⟨W.heap.size, 0, none⟩)]) hC2 (beq_eq_false_iff_ne.2 he))
  have HC := Lib.hid hC2
  clear hC hC2 hB hb1 hv he hxx
  go_enter Tryz.func74, Tryz.ntmps74
  go_wp2_with fail
  refine H.out.mono ?_
  rintro E W1 ⟨rfl, hB1⟩
  have hx := HXX.out.below hB1 HXX.out.lt
  have d0 : W1.cell? ⟨W.heap.size + 1, 0, none⟩ = some (.slice none 0 0) := hx.cell 0
  have d1 : W1.cell? ⟨W.heap.size + 1, 1, none⟩ = some (.slice none 0 0) := hx.cell 1
  have j0 := hx.frozen 0
  have j1 := hx.frozen 1
  have HC1 := Lib.hid (HC.out.below hB1)
  have HG4 := Lib.hid ((World.grownBy_alloc W (.cells #[.pointer (some ⟨p, 0, none⟩)] 53) (some p)).trans ((World.grownBy_alloc _ (.cells #[.slice none 0 0, .slice none 0 0] 98) (some p)).trans (grown_below hB1 (some p))))
  have hz := hB1.size
  rw [World.size_alloc, World.size_alloc] at hz
  clear hB1 hx
  go_wp2_with fail
  have hq1 : 0 < B.length → W.heap.size + 1 ≠ q := fun hl => by have := HQ.out hl; omega
  have HG5 := grown_jj (grown_jj HG4.out (gset _ (W.heap.size + 1) 0 (.slice none 0 0)) (fun k e => by injection e with e; omega)) (gset _ (W.heap.size + 1) 1 (.slice none 0 0)) (fun k e => by injection e with e; omega)
  exact bodyPost_ret (v := .agg #[.slice none 0 0, .slice none 0 0]) (by simp [results, Tryz.results74, go_sem, d0, d1]) rfl
   ⟨⟨_, _, rfl, Own.nil, Own.nil⟩, (HC1.out.other _ _ _ (by omega) hq1).other _ _ _ (by omega) hq1, HG5⟩
end Go.Proofs.YtofaiocffifhfaaGreat
end
section
namespace Go.Proofs.YtofaiocffifhfaaGreatB
open Go.RowKit Go.Proofs.YtofaiocffifhfaaGreatW.PrintWords
def kFtT (t8 : Nat) : Kd (List Int × List Int) := Kd.iso (Kd.pair (Kd.slice t8 (rng .u8)) (Kd.pair (Kd.slice t8 (rng .u8)) knil)) (fun x => (x.1, x.2, ()))
theorem ft_FK {t8 : Nat} {W : World} {ok : Nat → Prop} {A1 A2 : Option Addr} {ps rs : List Int} {c1 c2 : Nat} (h1 : FC (rng .u8) W ok A1 ps) (h2 : FC (rng .u8) W ok A2 rs) (l1 : ps.length ≤ c1) (l2 : rs.length ≤ c2) :
  FK (kFtT t8) W ok (ps, rs) [.slice A1 ps.length c1, .slice A2 rs.length c2] := fun W' hW =>
 ⟨_, _, rfl, ⟨A1, c1, rfl, l1, h1 W' hW⟩, _, _, rfl, ⟨A2, c2, rfl, l2, h2 W' hW⟩, rfl⟩
end Go.Proofs.YtofaiocffifhfaaGreatB
namespace Go.Proofs.YtofaiocffifhfaaGreat
open Go.RowKit Go.Shelf YtofaiocffifhfaaGreatB Go.Proofs.YtofaiocffifhfaaGreatW.PrintWords
def kFt : Kd (List Int × List Int) := kFtT 5
theorem infoFt : (Tryz.prog.info? 98).map (fun i => (i.zero, i.size, i.bytes)) = some (some (.agg #[.slice none 0 0, .slice none 0 0]), 2, 48) := by kernel_rfl
def ftsM (B : List Int) : Nat → Nat → Int → List (List Int × List Int) × Nat × Int
 | 0, a, e => ([], a, e)
 | k + 1, a, e => if e = 0 then ((funM B a 0).1 :: (ftsM B k (funM B a 0).2.1 (funM B a 0).2.2).1, (ftsM B k (funM B a 0).2.1 (funM B a 0).2.2).2) else ([], a, e)
theorem ftsM_bad (B : List Int) (k a : Nat) (e : Int) (h : (e == 0) = false) : ftsM B k a e = ([], a, e) := by
 cases k with
 | zero => rfl
 | succ k => rw [ftsM, if_neg (by simpa using h)]
def ftsOf (B : List Int) (a : Nat) (e : Int) : List (List Int × List Int) × Nat × Int := ftsM B (rdOf (countM B a) a e).1.toNat (rdOf (countM B a) a e).2.1 (rdOf (countM B a) a e).2.2
structure LF (W : World) (p q : Nat) (B : List Int) (target : List (List Int × List Int) × Nat × Int) (c j : Nat) (v : Value) (done : List (List Int × List Int)) (a : Nat) (e : Int) (X : World) : Prop where
 own : Own kFt 98 X W.heap.size (fun k => W.heap.size ≤ k) v done
 cur : Cur X p q B a e
 g : W.grownBy X (some p)
 t : (done ++ (ftsM B (c - j) a e).1, (ftsM B (c - j) a e).2) = target
 len : done.length ≤ j
def ListFPost (W : World) (p q : Nat) (B : List Int) (r : List (List Int × List Int) × Nat × Int) (E : Ending) (w' : World) : Prop :=
 (∃ v, E = .returned v ∧ Own kFt 98 w' W.heap.size (fun k => W.heap.size ≤ k) v r.1) ∧ Goes W w' p q B r.2.1 r.2.2
set_option maxRecDepth 100000 in
set_option maxHeartbeats 1000000 in
theorem listF_any (W : World) (p q : Nat) (B : List Int) (a : Nat) (e : Int) (sat : Bool) (hC : Cur W p q B a e) (hB : Byts B) :
  Calls Tryz.prog 73 #[.agg #[.pointer (some ⟨p, 0, none⟩), .bool sat], .func (.func 74) #[.pointer (some ⟨p, 0, none⟩)] #[]] W (ListFPost W p q B (ftsOf B a e)) := by
 have hc := countM_rd (a := a) (e := e) hB
 have hin : ∀ args w, Sem.run Tryz.prog (callFunc 74 args) w = .ok (.enter 74 args) w := enters_of Tryz.func74 (by kernel_rfl) rfl
 have hpl := hC.lt
 have HQ := Lib.hid (fun hl => hC.qlt' hl : 0 < B.length → q < W.heap.size)
 have H0 := Lib.hid (Count_any _ p q B a e (hC.alloc (.cells #[.pointer (some ⟨p, 0, none⟩), .bool sat] 67)) hB)
 have hdef : ftsOf B a e = ftsM B (rdOf (countM B a) a e).1.toNat (rdOf (countM B a) a e).2.1 (rdOf (countM B a) a e).2.2 := rfl
 rw [hdef]
 clear hdef
 generalize rdOf (countM B a) a e = r at *
 obtain ⟨n, a0, e0⟩ := r
 dsimp only at hc
 obtain ⟨c, rfl⟩ := Int.eq_ofNat_of_zero_le hc.1
 rw [Int.toNat_natCast]
 obtain ⟨tg, htg⟩ : ∃ tg, ftsM B c a0 e0 = tg := ⟨_, rfl⟩
 have HTG := Lib.hid htg
 rw [htg]
 have hc2 : (c : Int) ≤ 4096 := hc.2
 have HB := Lib.hid hB
 have HX := Lib.hid (Blk.new W #[.pointer (some ⟨p, 0, none⟩), .bool sat] 67)
 clear hC hB hc htg
 go_enter Tryz.func73, Tryz.ntmps73
 go_wp2_with fail
 refine H0.out.mono ?_
 rintro E W1 ⟨rfl, hG1⟩
 have hz1 := hG1.2.size
 rw [World.size_alloc] at hz1
 have HX1 := Lib.hid (HX.out.grown hG1.2 (fun e => by injection e with e; omega))
 have HL := Lib.hid (⟨Own.nil, hG1.1, (World.grownBy_alloc W _ _).trans hG1.2, by rw [Nat.sub_zero, HTG.out]; rfl, Nat.le_refl _⟩ : LF W p q B tg c 0 (.slice none 0 0) [] a0 e0 W1)
 clear hG1 H0
 go_wp2_with fail
 go_loopw [5, 7] (fun v i wr => ∃ (j : Nat) (done : List (List Int × List Int)) (a : Nat) (e : Int), j ≤ c ∧ i = .int .i64 j ∧ Hid (LF W p q B tg c j v done a e wr) ∧ Hid (Blk wr W.heap.size #[.pointer (some ⟨p, 0, none⟩), .bool sat] 67)) (fun _ i _ => c - (intOf i).toNat)
 case atStart => exact ⟨0, [], a0, e0, Nat.zero_le _, rfl, HL, HX1⟩
 case round =>
  obtain ⟨j, done, a', e', hj, rfl, HLj, HXj⟩ := hrel
  clear HL HX1
  have b0 : wr.cell? ⟨W.heap.size, 0, none⟩ = some (.pointer (some ⟨p, 0, none⟩)) := HXj.out.cell 0
  have b1 : wr.cell? ⟨W.heap.size, 1, none⟩ = some (.bool sat) := HXj.out.cell 1
  have hwl := HXj.out.lt
  by_cases hlt : j < c
  ·have hlt2 : (j : Int) < (c : Int) := by omega
   by_cases he : e' = 0
   ·subst he
    have HPG := Lib.hid (pgood_any wr p q B a' 0 sat true HLj.out.cur rfl)
    have HV := Lib.hid (Func_any (wr.alloc (.cells #[.pointer (some ⟨p, 0, none⟩), .bool sat] 67)) p q B a' 0 (HLj.out.cur.alloc _) HB.out)
    have ht0 := HLj.out.t
    rw [show c - j = (c - (j + 1)) + 1 from by omega, ftsM, if_pos rfl] at ht0
    generalize funM B a' 0 = r at *
    obtain ⟨⟨ps, rs⟩, a1, e1⟩ := r
    have HT0 := Lib.hid ht0
    have hX := HLj.out.g.size
    have hdl := HLj.out.len
    clear ht0
    go_wp2_with fail
    refine HPG.out.mono ?_
    rintro E wg ⟨rfl, rfl⟩
    go_wp2_with fail
    refine HV.out.mono ?_
    rintro E W2 ⟨⟨v1, v2, rfl, hO1, hO2⟩, hG2⟩
    have hz2 := hG2.2.size
    rw [World.size_alloc] at hz2
    have hne : ∀ k, u5.ownBlock = some k → W.heap.size ≤ k ∧ k < wr.heap.size := fun k hk => Own.block HLj.out.own hk
    have np : u5.ownBlock ≠ some p := fun e => by have := hne _ e; omega
    have hOw := ((HLj.out.own.below ((Below.refl _ _).alloc (Nat.le_refl _) (.cells #[.pointer (some ⟨p, 0, none⟩), .bool sat] 67))).grown hG2.2 (.inr np) (fun k hk e => by injection e with e; omega))
    have HO2 := Lib.hid hOw
    have HG2 := Lib.hid (HLj.out.g.trans ((World.grownBy_alloc wr (.cells #[.pointer (some ⟨p, 0, none⟩), .bool sat] 67) (some p)).trans hG2.2))
    have HC2 := Lib.hid hG2.1
    have HX2 := Lib.hid ((HXj.out.alloc (.cells #[.pointer (some ⟨p, 0, none⟩), .bool sat] 67)).grown hG2.2 (fun e => by injection e with e; omega))
    obtain ⟨A1, c1, rfl, l1, F1⟩ := hO1.reads
    obtain ⟨A2, c2, rfl, l2, F2⟩ := hO2.reads
    have HF : FK kFt W2 (fun k => W.heap.size ≤ k ∧ some k ≠ u5.ownBlock) (ps, rs) [.slice A1 ps.length c1, .slice A2 rs.length c2] := ft_FK
     (Ft.mono F1 (fun k hk => by rw [World.size_alloc] at hk; have h : wr.heap.size + 1 ≤ k := hk.elim (fun h => h.elim) id; exact ⟨by omega, fun e => by have := (hne _ e.symm).2; omega⟩))
     (Ft.mono F2 (fun k hk => by rw [World.size_alloc] at hk; have h : wr.heap.size + 1 ≤ k := hk.elim (fun h => h.elim) id; exact ⟨by omega, fun e => by have := (hne _ e.symm).2; omega⟩)) l1 l2
    have hgs : W.heap.size ≤ W2.heap.size := by omega
    clear hG2 HV HPG hO1 hO2 F1 F2 b0 b1 hOw
    go_wp2_with (at_builtin; refine Own.append (d := kFt) W.heap.size rfl (.tmp 20) (.tmp 23) 24 98 _ 48 rfl Tryz.underlying24 infoFt rfl (by decide) (by decide) u5 done (ps, rs) _ (fun k => W.heap.size ≤ k) rfl rfl HF HO2.out hgs (by omega) ?_; intro v1 w1 hown1 hg1 hat1)
    have HO3 := Lib.hid hown1
    have HG3 := Lib.hid hg1
    have hnX : some W.heap.size ≠ u5.ownBlock := fun e => by
     obtain ⟨_, ho, _⟩ := HO2.out
     obtain ⟨cs, hcs⟩ := own_typed ho _ e.symm
     rw [HX2.out] at hcs
     simp at hcs
    clear hown1 hg1 hat1 HF HO2
    go_wp2_with fail
    go_roundw
    case rel =>
     refine ⟨j + 1, done ++ [(ps, rs)], a1, e1, by omega, by go_num, ⟨HO3.out, HC2.out.grown' HG3.out (fun e => np e.symm) (fun hl e => by have := (hne _ e.symm).1; have := HQ.out hl; omega), grown_jj HG2.out HG3.out (fun k hk => .inr (hne k hk).1), ?_, by simp; omega⟩, HX2.out.grown HG3.out hnX⟩
     rw [← HT0.out, List.append_assoc]
     rfl
    case measure => simp [intOf]; omega
   ·have he2 : (e' == 0) = false := beq_eq_false_iff_ne.2 he
    have HPG := Lib.hid (pgood_any wr p q B a' e' sat false HLj.out.cur he2)
    have ht := HLj.out.t
    rw [ftsM_bad _ _ _ _ he2, List.append_nil] at ht
    have HT := Lib.hid ht
    clear ht he he2
    go_wp2_with fail
    refine HPG.out.mono ?_
    rintro E wg ⟨rfl, rfl⟩
    go_wp2_with fail
    go_ret
    rw [← HT.out]
    exact ⟨⟨_, rfl, HLj.out.own.below ((Below.refl _ _).alloc (Nat.le_refl _) _)⟩, HLj.out.cur.alloc _, HLj.out.g.trans (World.grownBy_alloc _ _ _)⟩
  ·obtain rfl : j = c := by omega
   have ht := HLj.out.t
   rw [Nat.sub_self, ftsM, List.append_nil] at ht
   have HT := Lib.hid ht
   clear ht
   go_wp2_with fail
   go_ret
   rw [← HT.out]
   exact ⟨⟨_, rfl, HLj.out.own⟩, HLj.out.cur, HLj.out.g⟩
end Go.Proofs.YtofaiocffifhfaaGreat
end
section
namespace Go.Proofs.YtofaiocffifhfaaGreat
open Go.RowKit Go.Shelf YtofaiocffifhfaaGreatB Go.Proofs.YtofaiocffifhfaaGreatW.PrintWords
def Cont1Post (W : World) (p q m : Nat) (B : List Int) (mc : Array Value) (r : List (List Int × List Int) × Nat × Int) (E : Ending) (w' : World) : Prop :=
 E = .returned (.tuple #[]) ∧ (∃ v, Own kFt 98 w' W.heap.size (fun k => W.heap.size ≤ k) v r.1 ∧ Blk w' m (mc.setIfInBounds 0 v) 71) ∧ Cur w' p q B r.2.1 r.2.2 ∧ G2 W w' p m
set_option maxRecDepth 100000 in
set_option maxHeartbeats 1000000 in
theorem content1_any (W : World) (p q m : Nat) (B : List Int) (a : Nat) (e : Int) (sat : Bool) (mc : Array Value) (v0 : Value) (hC : Cur W p q B a e) (hB : Byts B) (hm : Blk W m mc 71) (hm0 : mc[0]? = some v0) (hmp : m ≠ p) (hmq : 0 < B.length → m ≠ q) :
  Calls Tryz.prog 44 #[.pointer (some ⟨m, 0, none⟩), .int .u8 1, .agg #[.pointer (some ⟨p, 0, none⟩), .bool sat]] W (Cont1Post W p q m B mc (ftsOf B a e)) := by
 have hpl := hC.lt
 have hml := hm.lt
 have H0 := Lib.hid (listF_any (W.alloc (.cells #[.pointer (some ⟨p, 0, none⟩), .bool sat] 67)) p q B a e sat (hC.alloc _) hB)
 have HM := Lib.hid (hm.alloc (.cells #[.pointer (some ⟨p, 0, none⟩), .bool sat] 67))
 have HM0 := Lib.hid hm0
 have HMP := Lib.hid hmp
 have HMQ := Lib.hid hmq
 generalize ftsOf B a e = r at *
 clear hC hB hm hm0 hmp hmq
 go_enter Tryz.func44, Tryz.ntmps44
 go_wp2_with fail
 refine H0.out.mono ?_
 rintro E W1 ⟨⟨v, rfl, hO⟩, hG⟩
 have hz := hG.2.size
 rw [World.size_alloc] at hz
 have hm1 := HM.out.grown hG.2 (fun e => HMP.out (by injection e))
 have HM1 := Lib.hid hm1
 have c0 : W1.cell? ⟨m, 0, none⟩ = some v0 := by rw [hm1.cell 0]; exact HM0.out
 have f0 := hm1.frozen 0
 have hml1 := hm1.lt
 obtain ⟨A1, k1, rfl, _, _⟩ := hO.reads
 have HO := Lib.hid (Own_lower hO (show W.heap.size ≤ _ by simp) |>.mono (ok' := fun k => W.heap.size ≤ k) (fun k hk => by rw [World.size_alloc] at hk; omega))
 have HG := Lib.hid hG
 clear hO hG hm1
 go_wp2_with fail
 have nm : (Value.slice A1 r.1.length k1).ownBlock ≠ some m := fun e => by
  have := (Own.block HO.out e).1
  omega
 go_end0
 refine ⟨rfl, ⟨_, HO.out.grown (gset _ _ _ _) (.inr nm) (fun k hk e => by injection e with e; omega), HM1.out.set 0 _⟩, HG.out.1.other _ _ _ HMP.out HMQ.out, ?_⟩
 exact (((G2.refl W p m).alloc _).grown HG.out.2 (fun r e => by injection e with e; omega)).set m 0 _ (by omega)
set_option maxRecDepth 100000 in
theorem sections1_any (W : World) (p q m bm bn : Nat) (B : List Int) (a : Nat) (e : Int) (sat : Bool) (mc : Array Value) (v0 : Value) (hC : Cur W p q B a e) (hB : Byts B) (hm : Blk W m mc 71) (hm0 : mc[0]? = some v0) (hmp : m ≠ p) (hmq : 0 < B.length → m ≠ q)
  (h1 : W.cell? ⟨bm, 0, none⟩ = some (.pointer (some ⟨m, 0, none⟩))) (h2 : W.cell? ⟨bn, 0, none⟩ = some (.int .u8 1)) :
  Calls Tryz.prog 43 #[.agg #[.pointer (some ⟨p, 0, none⟩), .bool sat], .pointer (some ⟨bm, 0, none⟩), .pointer (some ⟨bn, 0, none⟩)] W (Cont1Post W p q m B mc (ftsOf B a e)) := by
 have hpl := hC.lt
 have hl1 := World.block_lt_of_cell? _ _ h1
 have hl2 := World.block_lt_of_cell? _ _ h2
 have H0 := Lib.hid (content1_any (W.alloc (.cells #[.pointer (some ⟨p, 0, none⟩), .bool sat] 67)) p q m B a e sat mc v0 (hC.alloc _) hB (hm.alloc _) hm0 hmp hmq)
 generalize ftsOf B a e = r at *
 clear hC hB hm hm0 hmp hmq
 go_enter Tryz.func43, Tryz.ntmps43
 go_wp2_with fail
 refine H0.out.mono ?_
 rintro E W1 ⟨rfl, ⟨v, hO, hM⟩, hC1, hG⟩
 have HO := Lib.hid (Own_lower hO (show W.heap.size ≤ _ by simp) |>.mono (ok' := fun k => W.heap.size ≤ k) (fun k hk => by rw [World.size_alloc] at hk; omega))
 have HM := Lib.hid hM
 have HC := Lib.hid hC1
 have HG := Lib.hid hG
 clear hO hM hC1 hG H0
 go_wp2_with fail
 go_end0
 exact ⟨rfl, ⟨v, HO.out, HM.out⟩, HC.out, ((G2.refl W p m).alloc _).trans HG.out⟩
end Go.Proofs.YtofaiocffifhfaaGreat
end
section
namespace Go.Proofs.YtofaiocffifhfaaGreat
open Go.RowKit Go.Shelf YtofaiocffifhfaaGreatB Go.Proofs.YtofaiocffifhfaaGreatW.PrintWords
def pieceM (B : List Int) (a : Nat) (e : Int) : List Int × Nat × Int := rdL (takeM B (rdOf (u32M B a) a e).2.1 (rdOf (u32M B a) a e).1.toNat) (rdOf (u32M B a) a e).2.1 (rdOf (u32M B a) a e).2.2
theorem rdOf_u32' {B : List Int} {a : Nat} {e : Int} (hB : Byts B) : 0 ≤ (rdOf (u32M B a) a e).1 ∧ (rdOf (u32M B a) a e).1 ≤ 4294967295 := by
 by_cases h : e = 0
 ·subst h; exact rdOf_u32 hB
 ·rw [rdOf, if_neg h]; simp
set_option maxRecDepth 100000 in
set_option maxHeartbeats 1000000 in
theorem whole_bad (W : World) (p q : Nat) (B : List Int) (a : Nat) (e : Int) (sat : Bool) (f : Value) (hC : Cur W p q B a e) (hB : Byts B) (he : ((pieceM B a e).2.2 == 0) = false) :
  Calls Tryz.prog 42 #[.agg #[.pointer (some ⟨p, 0, none⟩), .bool sat], f] W fun E w' => E = .returned (.tuple #[]) ∧ Goes W w' p q B (pieceM B a e).2.1 (pieceM B a e).2.2 := by
 have hpl := hC.lt
 have hu := rdOf_u32' (a := a) (e := e) hB
 have hC1 := hC.alloc (.cells #[.pointer (some ⟨p, 0, none⟩), .bool sat] 67)
 have HU := Lib.hid (fun X (h : Cur X p q B a e) => U32_any X p q B a e h hB)
 have hpm : pieceM B a e = rdL (takeM B (rdOf (u32M B a) a e).2.1 (rdOf (u32M B a) a e).1.toNat) (rdOf (u32M B a) a e).2.1 (rdOf (u32M B a) a e).2.2 := rfl
 rw [hpm] at he ⊢
 clear hpm
 generalize rdOf (u32M B a) a e = r at *
 obtain ⟨n, a1, e1⟩ := r
 dsimp only at hu he ⊢
 obtain ⟨k, rfl⟩ := Int.eq_ofNat_of_zero_le hu.1
 rw [Int.toNat_natCast] at he ⊢
 have HT := Lib.hid (fun X (h : Cur X p q B a1 e1) => Take_any X p q B a1 k e1 h hB (by omega))
 generalize rdL (takeM B a1 k) a1 e1 = t at *
 obtain ⟨bs, a2, e2⟩ := t
 dsimp only at he ⊢
 have HE := Lib.hid he
 have HC := Lib.hid hC1
 have hx := Blk.new W #[.pointer (some ⟨p, 0, none⟩), .bool sat] 67
 obtain ⟨X, hX⟩ : ∃ X, W.alloc (.cells #[.pointer (some ⟨p, 0, none⟩), .bool sat] 67) = X := ⟨_, rfl⟩
 rw [hX] at hx HC
 have HX := Lib.hid hx
 have hsX : W.heap.size < X.heap.size := hx.lt
 have HXE := Lib.hid hX
 have HGX := Lib.hid (hX ▸ World.grownBy_alloc W (.cells #[.pointer (some ⟨p, 0, none⟩), .bool sat] 67) (some p))
 have c0 : X.cell? ⟨W.heap.size, 0, none⟩ = some (.pointer (some ⟨p, 0, none⟩)) := hx.cell 0
 have c1 : X.cell? ⟨W.heap.size, 1, none⟩ = some (.bool sat) := hx.cell 1
 have hpx : p < X.heap.size := by omega
 have HNP := Lib.hid (show some W.heap.size ≠ some p from fun e => by injection e with e; omega)
 have HD := Lib.hid (fun Y (h : Blk Y W.heap.size #[.pointer (some ⟨p, 0, none⟩), .bool sat] 67) => h.cell 0 : ∀ Y, Blk Y W.heap.size #[.pointer (some ⟨p, 0, none⟩), .bool sat] 67 → Y.cell? ⟨W.heap.size, 0, none⟩ = some (.pointer (some ⟨p, 0, none⟩)))
 have HXG := Lib.hid (fun Y (h : X.drew.grownBy Y (some p)) => Blk.grown (Blk.drew hx) h HNP.out)
 clear hC hC1 hB hu he hX hx
 go_enter Tryz.func42, Tryz.ntmps42
 go_wp2_with fail
 rw [HXE.out]
 go_region_held3 (fun w' => w'.cell? ⟨W.heap.size, 0, none⟩ = some (.pointer (some ⟨p, 0, none⟩)))
  (first
   | exact c0
   | exact d2
   | exact d1)
  (first
   | (go_at_call 71; refine (HT.out _ hG1.1).mono ?_; rintro E W2 ⟨⟨v, rfl, hO⟩, hG2⟩; have hB2 := Blk.grown hB1 hG2.2 HNP.out; have d2 := HD.out _ hB2)
   | (go_at_call 34; refine (HU.out _ (HC.out.below ((Below.refl _ _).drew))).mono ?_; rintro E W1 ⟨rfl, hG1⟩; have hB1 := HXG.out _ hG1.2; have d1 := HD.out _ hB1))
 have x1 : W2.cell? ⟨W.heap.size, 1, none⟩ = some (.bool sat) := hB2.cell 1
 have hwl := hB2.lt
 have HPG := Lib.hid (pgood_any W2 p q B a2 e2 sat false hG2.1 HE.out)
 have HG := Lib.hid ((HGX.out.trans (⟨hG1.2.os, hG1.2.tape, hG1.2.output, hG1.2.size, hG1.2.block⟩ : X.grownBy W1 (some p))).trans hG2.2)
 have HC2 := Lib.hid hG2.1
 have HG := Lib.hid (show W.grownBy W2 (some p) from HG.out)
 clear hG1 hB1 d1 hG2 hO hB2
 go_wp2_with fail
 refine HPG.out.mono ?_
 rintro E w' ⟨rfl, rfl⟩
 go_wp2_with fail
 exact bodyPost_ret (v := .tuple #[]) (by simp [results, Tryz.results42, go_sem]) rfl ⟨rfl, HC2.out.alloc _, HG.out.trans (World.grownBy_alloc _ _ _)⟩
end Go.Proofs.YtofaiocffifhfaaGreat
end
section
namespace Go.Proofs.YtofaiocffifhfaaGreat
open Go.RowKit Go.Shelf YtofaiocffifhfaaGreatB Go.Proofs.YtofaiocffifhfaaGreatW.PrintWords
def NewOwn (W : World) (B : List Int) (E : Ending) (w' : World) : Prop :=
 ∃ p q, W.heap.size ≤ p ∧ (0 < B.length → W.heap.size ≤ q) ∧ E = .returned (.pointer (some ⟨p, 0, none⟩)) ∧ Cur w' p q B 0 0 ∧ Below W.heap.size W w'
set_option maxRecDepth 100000 in
set_option maxHeartbeats 1000000 in
theorem New_own (W : World) (A : Option Addr) (c : Nat) (B : List Int) (hR : RdI W .u8 A B) (hB : Byts B) :
  Calls Tryz.prog 12 #[.slice A B.length c] W (NewOwn W B) := by
 have HR := Lib.hid hR
 have hl := hB.1
 clear hR hB
 go_enter Tryz.func12, Tryz.ntmps12
 go_wp2_with (at_builtin; refine wpList_append_src W.heap.size rfl (.const (.slice none 0 0)) (.tmp 3) 22 5 (.int .u8 0) 1 1 rfl Tryz.underlying22 infoB8 rfl (by decide) (by decide) (.slice none 0 0) 0 [] (nums .u8 B) A B.length c rfl rfl (own_nil _ _ _ _) (by simp [nums]) HR.out.src (nums_one _ _) (Nat.le_refl _) (by omega) ?_; intro v1 w1 hown1 hg1 hat1; rw [Nat.zero_add, List.nil_append] at hown1; obtain ⟨A1, c1, rfl, hl1, hR1⟩ := own_rdI hown1 (by omega))
 have hle : B.length ≤ c1 := by
  rcases hown1.2 with ⟨e, _⟩ | ⟨g, cap, cur, e, _, _, hc, _⟩
  ·injection e with _ e1 e2; omega
  ·injection e with _ e1 e2; omega
 have hfr : ∀ b o, A1 = some ⟨b, o, none⟩ → W.heap.size ≤ b := by
  intro b o hA
  rcases hown1.2 with ⟨e, _⟩ | ⟨g, cap, cur, e, hf1, hf2, hc, hf3⟩
  ·injection e with e0 _ _; rw [hA] at e0; cases e0
  ·injection e with e0 _ _; rw [hA] at e0; injection e0 with e0; injection e0 with e0 _ _
   omega
 obtain ⟨q, hq, hby⟩ := rdI_byQ hR1 w1.heap.size (Nat.le_refl _)
 have hB1 : Below W.heap.size W w1 := (Below.refl W.heap.size W).grown hg1 (Nat.le_refl _) (fun k hk => by cases hk)
 go_ret
 exact ⟨w1.heap.size, q, hB1.size, fun hl => by obtain ⟨o, ho, _⟩ := hby hl; exact hfr q o ho, rfl, ⟨hq, Nat.zero_le _, A1, c1, hle, Blk.new w1 _ _, hby.grown (World.grownBy_alloc w1 _ none) (by simp)⟩, hB1.alloc hB1.size _⟩
end Go.Proofs.YtofaiocffifhfaaGreat
end
section
namespace Go.Proofs.YtofaiocffifhfaaGreat
open Go.RowKit Go.Shelf YtofaiocffifhfaaGreatB Go.Proofs.YtofaiocffifhfaaGreatW.PrintWords
def backE (r : List (List Int × List Int) × Nat × Int) (n : Nat) : Int := if r.2.2 = 0 then (if r.2.1 < n then 105 else 0) else r.2.2
def Whole1Post (W : World) (p q m : Nat) (B : List Int) (mc : Array Value) (t : List Int × Nat × Int) (E : Ending) (w' : World) : Prop :=
 E = .returned (.tuple #[]) ∧ (∃ v, Own kFt 98 w' W.heap.size (fun k => W.heap.size ≤ k) v (ftsOf t.1 0 0).1 ∧ Blk w' m (mc.setIfInBounds 0 v) 71) ∧ Cur w' p q B t.2.1 (backE (ftsOf t.1 0 0) t.1.length) ∧ G2 W w' p m
theorem ByQ_g2 {W W' : World} {q p' s : Nat} {A : Option Addr} {B : List Int} (h : ByQ W q A B) (hg : G2 W W' p' s) (hq : 0 < B.length → q ≠ p' ∧ q ≠ s) : ByQ W' q A B := fun hp => by
 obtain ⟨o, e, hc⟩ := h hp
 exact ⟨o, e, fun j x hj => by
  have hx := hc j x hj
  have hlt := World.block_lt_of_cell? _ _ hx
  rw [← hx]
  exact World.cell?_of_block (hg.block q hlt (hq hp).1 (hq hp).2)⟩
theorem Cur_g2 {W W' : World} {p q p' s : Nat} {B : List Int} {a : Nat} {e : Int} (h : Cur W p q B a e) (hg : G2 W W' p' s) (h1 : p ≠ p') (h2 : p ≠ s) (hq : 0 < B.length → q ≠ p' ∧ q ≠ s) : Cur W' p q B a e := by
 obtain ⟨h0, h5, A, c, h6, h3, h4⟩ := h
 exact ⟨h0, h5, A, c, h6, h3.g2 hg h1 h2, ByQ_g2 h4 hg hq⟩
theorem ownUp {W4 W6 : World} {t b k : Nat} {v : Value} {xs : List (List Int × List Int)} (h : Own kFt t W4 b (fun k => b ≤ k) v xs) (hg : W4.grownBy W6 (some k)) (hk : k < b) : Own kFt t W6 b (fun k => b ≤ k) v xs :=
 h.grown hg (by right; intro e; have := (Own.block h e).1; omega) (fun j hj e => by injection e with e; omega)
theorem ownEnd {W6 : World} {t a b : Nat} {v : Value} {xs : List (List Int × List Int)} (h : Own kFt t W6 b (fun k => b ≤ k) v xs) (hb : a ≤ b) : Own kFt t W6 a (fun k => a ≤ k) v xs :=
 (Own_lower h hb).mono (ok' := fun k => a ≤ k) (fun k hk => by omega)
theorem G2_up {W wc W4 : World} {p m p2 : Nat} (h : G2 W wc p m) (h' : G2 wc W4 p2 m) (hp2 : W.heap.size ≤ p2) : G2 W W4 p m :=
 ⟨h'.os.trans h.os, h'.tape.trans h.tape, h'.output.trans h.output, Nat.le_trans h.size h'.size, fun k hk h1 h2 => (h'.block k (Nat.lt_of_lt_of_le hk h.size) (by omega) h2).trans (h.block k hk h1 h2)⟩
set_option maxRecDepth 100000 in
set_option maxHeartbeats 1000000 in
theorem whole_one (W : World) (p q m bm bn : Nat) (B : List Int) (a : Nat) (e : Int) (sat : Bool) (mc : Array Value) (v0 : Value) (hC : Cur W p q B a e) (hB : Byts B) (he : (pieceM B a e).2.2 = 0) (hbs : Byts (pieceM B a e).1)
  (hm : Blk W m mc 71) (hm0 : mc[0]? = some v0) (hmp : m ≠ p) (hmq : 0 < B.length → m ≠ q) (h1 : W.cell? ⟨bm, 0, none⟩ = some (.pointer (some ⟨m, 0, none⟩))) (h2 : W.cell? ⟨bn, 0, none⟩ = some (.int .u8 1)) (h3 : bm ≠ p) (h4 : bn ≠ p) :
  Calls Tryz.prog 42 #[.agg #[.pointer (some ⟨p, 0, none⟩), .bool sat], .func (.func 43) #[] #[.pointer (some ⟨bm, 0, none⟩), .pointer (some ⟨bn, 0, none⟩)]] W (Whole1Post W p q m B mc (pieceM B a e)) := by
 have hpl := hC.lt
 have hu := rdOf_u32' (a := a) (e := e) hB
 have hin : ∀ args w, Sem.run Tryz.prog (callFunc 43 args) w = .ok (.enter 43 args) w := enters_of Tryz.func43 (by kernel_rfl) rfl
 have hC1 := hC.alloc (.cells #[.pointer (some ⟨p, 0, none⟩), .bool sat] 67)
 have HU := Lib.hid (fun X (h : Cur X p q B a e) => U32_any X p q B a e h hB)
 have hpm : pieceM B a e = rdL (takeM B (rdOf (u32M B a) a e).2.1 (rdOf (u32M B a) a e).1.toNat) (rdOf (u32M B a) a e).2.1 (rdOf (u32M B a) a e).2.2 := rfl
 rw [hpm] at he hbs ⊢
 clear hpm
 generalize rdOf (u32M B a) a e = r at *
 obtain ⟨n, a1, e1⟩ := r
 dsimp only at hu he hbs ⊢
 obtain ⟨k, rfl⟩ := Int.eq_ofNat_of_zero_le hu.1
 rw [Int.toNat_natCast] at he hbs ⊢
 have HT := Lib.hid (fun X (h : Cur X p q B a1 e1) => Take_any X p q B a1 k e1 h hB (by omega))
 generalize rdL (takeM B a1 k) a1 e1 = t at *
 obtain ⟨bs, a2, e2⟩ := t
 dsimp only at he hbs ⊢
 subst he
 have HBS := Lib.hid hbs
 have HC := Lib.hid hC1
 have hx := Blk.new W #[.pointer (some ⟨p, 0, none⟩), .bool sat] 67
 obtain ⟨X, hX⟩ : ∃ X, W.alloc (.cells #[.pointer (some ⟨p, 0, none⟩), .bool sat] 67) = X := ⟨_, rfl⟩
 rw [hX] at hx HC
 have HX := Lib.hid hx
 have hsX : W.heap.size < X.heap.size := hx.lt
 have HXE := Lib.hid hX
 have HGX := Lib.hid (hX ▸ World.grownBy_alloc W (.cells #[.pointer (some ⟨p, 0, none⟩), .bool sat] 67) (some p))
 have c0 : X.cell? ⟨W.heap.size, 0, none⟩ = some (.pointer (some ⟨p, 0, none⟩)) := hx.cell 0
 have c1 : X.cell? ⟨W.heap.size, 1, none⟩ = some (.bool sat) := hx.cell 1
 have hpx : p < X.heap.size := by omega
 have HNP := Lib.hid (show some W.heap.size ≠ some p from fun e => by injection e with e; omega)
 have HMW := Lib.hid hm
 have HW1 := Lib.hid h1
 have HW2 := Lib.hid h2
 have HD := Lib.hid (fun Y (h : Blk Y W.heap.size #[.pointer (some ⟨p, 0, none⟩), .bool sat] 67) => h.cell 0 : ∀ Y, Blk Y W.heap.size #[.pointer (some ⟨p, 0, none⟩), .bool sat] 67 → Y.cell? ⟨W.heap.size, 0, none⟩ = some (.pointer (some ⟨p, 0, none⟩)))
 have HXG := Lib.hid (fun Y (h : X.drew.grownBy Y (some p)) => Blk.grown (Blk.drew hx) h HNP.out)
 have HM := Lib.hid (hX ▸ hm.alloc (.cells #[.pointer (some ⟨p, 0, none⟩), .bool sat] 67) : Blk X m mc 71)
 have HM0 := Lib.hid hm0
 have HMP := Lib.hid hmp
 have HMQ := Lib.hid hmq
 have HQL := Lib.hid (fun hl => hC.qlt' hl : 0 < B.length → q < W.heap.size)
 have HML := Lib.hid hm.lt
 have HH1 := Lib.hid (by rw [← hX]; exact pw_cell_below ((Below.refl _ _).alloc (Nat.le_refl _) _) h1 : X.cell? ⟨bm, 0, none⟩ = some (.pointer (some ⟨m, 0, none⟩)))
 have HH2 := Lib.hid (by rw [← hX]; exact pw_cell_below ((Below.refl _ _).alloc (Nat.le_refl _) _) h2 : X.cell? ⟨bn, 0, none⟩ = some (.int .u8 1))
 have HH3 := Lib.hid h3
 have HH4 := Lib.hid h4
 clear hC hC1 hB hu hX hx hbs hm hm0 hmp hmq h1 h2 h3 h4
 go_enter Tryz.func42, Tryz.ntmps42
 go_wp2_with fail
 rw [HXE.out]
 go_region_held3 (fun w' => w'.cell? ⟨W.heap.size, 0, none⟩ = some (.pointer (some ⟨p, 0, none⟩)))
  (first
   | exact c0
   | exact d2
   | exact d1)
  (first
   | (go_at_call 71; refine (HT.out _ hG1.1).mono ?_; rintro E W2 ⟨⟨v, rfl, hO⟩, hG2⟩; have hB2 := Blk.grown hB1 hG2.2 HNP.out; have d2 := HD.out _ hB2)
   | (go_at_call 34; refine (HU.out _ (HC.out.below ((Below.refl _ _).drew))).mono ?_; rintro E W1 ⟨rfl, hG1⟩; have hB1 := HXG.out _ hG1.2; have d1 := HD.out _ hB1))
 have x1 : W2.cell? ⟨W.heap.size, 1, none⟩ = some (.bool sat) := hB2.cell 1
 have hwl := hB2.lt
 have HPG := Lib.hid (pgood_any W2 p q B a2 0 sat true hG2.1 rfl)
 have HG := Lib.hid ((HGX.out.trans (⟨hG1.2.os, hG1.2.tape, hG1.2.output, hG1.2.size, hG1.2.block⟩ : X.grownBy W1 (some p))).trans hG2.2)
 have HGW := Lib.hid (show W.grownBy W2 (some p) from HG.out)
 have HC2 := Lib.hid hG2.1
 have HB2 := Lib.hid hB2
 obtain ⟨AV, kV, rfl, lV, FV⟩ := hO.reads
 have HFV := Lib.hid FV
 clear hG1 hB1 d1 hG2 hO hB2 FV
 go_wp2_with fail
 refine HPG.out.mono ?_
 rintro E w' ⟨rfl, rfl⟩
 go_wp2_with fail
 obtain ⟨W3, hW3⟩ : ∃ W3, W2.alloc (.cells #[.pointer (some ⟨p, 0, none⟩), .bool sat] 67) = W3 := ⟨_, rfl⟩
 have hB23 : Below W2.heap.size W2 W3 := hW3 ▸ (Below.refl _ _).alloc (Nat.le_refl _) _
 have HB23 := Lib.hid hB23
 have HRD := Lib.hid (fun Y (h : Below W3.heap.size W3 Y) => C_rdI (Kd.C_below HFV.out.now (hB23.trans (h.mono hB23.size))) (by have := HBS.out.1; omega))
 have HZ := Lib.hid (fun Y (h : Below (W3.alloc (.cells #[.pointer none, .bool false] 67)).drew.heap.size (W3.alloc (.cells #[.pointer none, .bool false] 67)).drew Y) => (by
  have hb := (Blk.drew (Blk.new W3 #[.pointer none, .bool false] 67)).below h (by show W3.heap.size < (W3.alloc _).heap.size; rw [World.size_alloc]; omega)
  exact ⟨hb.cell 0, hb.cell 1, hb.frozen 0, hb.frozen 1, hb.lt⟩ : Y.cell? ⟨W3.heap.size, 0, none⟩ = some (.pointer none) ∧ Y.cell? ⟨W3.heap.size, 1, none⟩ = some (.bool false) ∧ Y.frozen? ⟨W3.heap.size, 0, none⟩ = false ∧ Y.frozen? ⟨W3.heap.size, 1, none⟩ = false ∧ W3.heap.size < Y.heap.size))
 have HZ2 := Lib.hid (fun Y (h : Below (W3.alloc (.cells #[.pointer none, .bool false] 67)).drew.heap.size (W3.alloc (.cells #[.pointer none, .bool false] 67)).drew Y) => (Blk.drew (Blk.new W3 #[.pointer none, .bool false] 67)).below h (by show W3.heap.size < (W3.alloc _).heap.size; rw [World.size_alloc]; omega))
 have HS1 := Lib.hid (fun Y (h : Below W3.heap.size W3 Y) => pw_cell_below h (show W3.cell? ⟨W.heap.size, 1, none⟩ = some (.bool sat) from pw_cell_below hB23 x1))
 have y1 := HS1.out W3 (Below.refl _ _)
 have hw3 : W.heap.size < W3.heap.size := by have := hB23.size; omega
 have HBN := Lib.hid (⟨(Below.refl W3.heap.size W3).drew, ((Below.refl W3.heap.size W3).alloc (Nat.le_refl _) (.cells #[.pointer none, .bool false] 67)).drew⟩ : Below W3.heap.size W3 W3.drew ∧ Below W3.heap.size W3 (W3.alloc (.cells #[.pointer none, .bool false] 67)).drew)
 rw [hW3]
 clear hW3 hB23 x1 d2 hwl
 go_cut [5] (fun s5 wx => ∃ g5 p2 q2, s5 = .pointer (some ⟨g5, 0, none⟩) ∧ Hid (Blk wx g5 #[.pointer (some ⟨p2, 0, none⟩), .bool sat] 67 ∧ Cur wx p2 q2 bs 0 0 ∧ Below W3.heap.size W3 wx ∧ W3.heap.size ≤ g5 ∧ W3.heap.size ≤ p2 ∧ (0 < bs.length → W3.heap.size ≤ q2)))
 case first =>
  go_region_law (first
   | (go_simp; go_at_call 12; refine (New_own _ AV kV bs (HRD.out _ HBN.out.1) HBS.out).mono ?_; rintro E wn ⟨p2, q2, hp2, hq2, rfl, hC2n, hBn⟩; have hBw : Below W3.heap.size W3 wn := HBN.out.1.trans (hBn.mono HBN.out.1.size); have y2 := HS1.out wn hBw; have y3 := HS1.out _ (hBw.alloc hBw.size (.cells #[.pointer none, .bool false] 67)); have hzb := Blk.new wn #[.pointer none, .bool false] 67; have q0 := hzb.cell 0; have q1 := hzb.cell 1; have r0 := hzb.frozen 0; have r1 := hzb.frozen 1; have hzl := hzb.lt; have HZB := Lib.hid hzb; clear hzb)
   | (go_simp; go_at_call 12; refine (New_own _ AV kV bs (HRD.out _ HBN.out.2) HBS.out).mono ?_; rintro E wn ⟨p2, q2, hp2, hq2, rfl, hC2n, hBn⟩; have hBw : Below W3.heap.size W3 wn := HBN.out.2.trans (hBn.mono HBN.out.2.size); have y2 := HS1.out wn hBw; have hq := HZ.out wn hBn; have q0 := hq.1; have q1 := hq.2.1; have r0 := hq.2.2.1; have r1 := hq.2.2.2.1; have hzl := hq.2.2.2.2; clear hq; have HZB := Lib.hid (HZ2.out wn hBn)))
  all_goals go_wp2_with fail
  all_goals go_meet
  all_goals first
   | exact ⟨_, p2, q2, rfl, Lib.hid ⟨Blk.new wn _ _, hC2n.alloc _, hBw.alloc hBw.size _, hBw.size, hp2, hq2⟩⟩
   | skip
  all_goals
   have hs3 : W3.heap.size < (W3.alloc (.cells #[.pointer none, .bool false] 67)).heap.size := by rw [World.size_alloc]; omega
   have hlq : 0 < bs.length → W3.heap.size ≤ q2 := fun hl => Nat.le_trans (Nat.le_of_lt hs3) (hq2 hl)
   have hn : 0 < bs.length → W3.heap.size ≠ q2 := fun hl he => absurd (Nat.lt_of_lt_of_le hs3 (hq2 hl)) (by omega)
   have hne : W3.heap.size ≠ p2 := by
    have h9 : (W3.alloc (.cells #[.pointer none, .bool false] 67)).heap.size ≤ p2 := hp2
    rw [World.size_alloc] at h9; omega
   have hle : W3.heap.size ≤ p2 := by
    have h9 : (W3.alloc (.cells #[.pointer none, .bool false] 67)).heap.size ≤ p2 := hp2
    rw [World.size_alloc] at h9; omega
   exact ⟨_, p2, q2, rfl, Lib.hid ⟨(HZB.out.set 0 _).set 1 _, (hC2n.other _ _ _ hne hn).other _ _ _ hne hn, (hBw.grown (gset wn W3.heap.size 0 _) hBw.size (fun k hk => by cases hk; exact Nat.le_refl _)).grown (gset _ W3.heap.size 1 _) (by have := hBw.size; simpa [World.setCell] using this) (fun k hk => by cases hk; exact Nat.le_refl _), Nat.le_refl _, hle, hlq⟩⟩
 case rest =>
  obtain ⟨g5, p2, q2, rfl, HS⟩ := hcut
  have hpW := hpl
  have hB2c : Below W2.heap.size W2 wc := HB23.out.trans (HS.out.2.2.1.mono HB23.out.size)
  have hw2l : W.heap.size < W2.heap.size := HB2.out.lt
  have hGw : W.grownBy wc (some p) := HGW.out.trans (grown_below hB2c (some p))
  have hPc : Blk wc W.heap.size #[.pointer (some ⟨p, 0, none⟩), .bool sat] 67 := HB2.out.below hB2c hw2l
  have hmc : Blk wc m mc 71 := HMW.out.grown hGw (by have := HMP.out; simpa using this)
  have hb1 : wc.cell? ⟨bm, 0, none⟩ = some (.pointer (some ⟨m, 0, none⟩)) := by
   rw [← HW1.out]; exact World.cell?_of_block (hGw.block bm (World.block_lt_of_cell? _ _ HW1.out) (by have := HH3.out; simpa using this))
  have hb2 : wc.cell? ⟨bn, 0, none⟩ = some (.int .u8 1) := by
   rw [← HW2.out]; exact World.cell?_of_block (hGw.block bn (World.block_lt_of_cell? _ _ HW2.out) (by have := HH4.out; simpa using this))
  have hml := HML.out
  have hw3l := HB23.out.size
  have hmp2 : m ≠ p2 := by have := HS.out.2.2.2.2.1; omega
  have hmq2 : 0 < bs.length → m ≠ q2 := fun hl => by have := HS.out.2.2.2.2.2 hl; omega
  have HK := Lib.hid (sections1_any wc p2 q2 m bm bn bs 0 0 sat mc v0 HS.out.2.1 HBS.out hmc HM0.out hmp2 hmq2 hb1 hb2)
  have HPC := Lib.hid hPc
  have HGW2 := Lib.hid hGw
  have s0 : wc.cell? ⟨g5, 0, none⟩ = some (.pointer (some ⟨p2, 0, none⟩)) := HS.out.1.cell 0
  have s1 : wc.cell? ⟨g5, 1, none⟩ = some (.bool sat) := HS.out.1.cell 1
  have hCc : Cur wc p q B a2 0 := HC2.out.below hB2c
  have HCC := Lib.hid hCc
  clear hB2c hw2l hGw hPc hmc hb1 hb2 hCc
  go_wp2_with fail
  have hgp : g5 ≠ p2 := fun e => by
   subst e
   obtain ⟨_, _, A, c, _, h3, _⟩ := HS.out.2.1
   have h9 := HS.out.1.symm.trans h3
   injection h9 with h9; injection h9 with h9; simp at h9
  refine HK.out.mono ?_
  rintro E W4 ⟨rfl, ⟨v, hOv, hmv⟩, hC4, hG4⟩
  have hgm : g5 ≠ m := by have := HS.out.2.2.2.1; omega
  have hg4 : Blk W4 g5 #[.pointer (some ⟨p2, 0, none⟩), .bool sat] 67 := HS.out.1.g2 hG4 hgp hgm
  have hpp : p ≠ p2 := by have := HS.out.2.2.2.2.1; omega
  have hpW4 : Blk W4 W.heap.size #[.pointer (some ⟨p, 0, none⟩), .bool sat] 67 := HPC.out.g2 hG4 (by have := HS.out.2.2.2.2.1; omega) (by omega)
  have hCp : Cur W4 p q B a2 0 := Cur_g2 HCC.out hG4 hpp HMP.out.symm (fun hl => ⟨by have := HS.out.2.2.2.2.1; have := HQL.out hl; omega, fun e => HMQ.out hl e.symm⟩)
  obtain ⟨r, hr⟩ : ∃ r, ftsOf bs 0 0 = r := ⟨_, rfl⟩
  rw [hr] at hOv hC4
  have HR := Lib.hid hr
  have HOV := Lib.hid hOv
  have HMV := Lib.hid hmv
  have HG4 := Lib.hid hG4
  have HC4 := Lib.hid hC4
  have HCP := Lib.hid hCp
  have t0 := hg4.cell 0
  have t1 := hg4.cell 1
  have HG5 := Lib.hid hg4
  have HP4 := Lib.hid hpW4
  clear hr hOv hmv hG4 hC4 hCp s0 s1 HK hg4 hpW4
  have HBB := Lib.hid (⟨HS.out.2.1.lt, by have := HGW2.out.size; omega, HGW2.out.size, by simpa using hmp2, by simpa using HMP.out, G2_up (G2.of_grown HGW2.out (fun k e => by injection e with e; left; exact e.symm)) HG4.out (by have := HS.out.2.2.2.2.1; omega)⟩ : p2 < wc.heap.size ∧ p < wc.heap.size ∧ W.heap.size ≤ wc.heap.size ∧ some m ≠ some p2 ∧ some m ≠ some p ∧ G2 W W4 p m)
  by_cases h0 : r.2.2 = 0
  ·have HH0 := Lib.hid h0
   have HPG2 := Lib.hid (pgood_any W4 p2 q2 bs r.2.1 r.2.2 sat true HC4.out (by rw [h0]; rfl))
   clear h0
   have HL := Lib.hid (left_any _ p2 q2 bs r.2.1 r.2.2 (HC4.out.alloc (.cells #[.pointer (some ⟨p2, 0, none⟩), .bool sat] 67)) HBS.out)
   go_wp2_with fail
   refine HPG2.out.mono ?_
   rintro E w' ⟨rfl, rfl⟩
   have v0 := (HG5.out.alloc (.cells #[.pointer (some ⟨p2, 0, none⟩), .bool sat] 67)).cell 0
   go_wp2_with fail
   refine HL.out.mono ?_
   rintro E W5 ⟨rfl, hG5⟩
   have hP5 : Blk W5 W.heap.size #[.pointer (some ⟨p, 0, none⟩), .bool sat] 67 := (HP4.out.alloc _).grown hG5.2 (by have := HS.out.2.2.2.2.1; simp; omega)
   have hC5 : Cur W5 p q B a2 0 := (HCP.out.alloc _).grown' hG5.2 (by simpa using hpp) (fun hl => by have := HS.out.2.2.2.2.1; have := HQL.out hl; simp; omega)
   have z0 := hP5.cell 0
   have HF := Lib.hid (Fail_any W5 p q B a2 0 105 hC5 rfl)
   have HP5 := Lib.hid hP5
   have HC5 := Lib.hid hC5
   have HG6 := Lib.hid hG5
   clear v0 hG5 hP5 hC5 HL HPG2
   by_cases h7 : r.2.1 < bs.length
   ·have h8 : decide ((bs.length : Int) - (r.2.1 : Int) > 0) = true := by simp; omega
    have H7 := Lib.hid h7
    clear h7
    go_wp2_with fail
    refine HF.out.mono ?_
    rintro E W6 ⟨rfl, hG6⟩
    have HF6 := Lib.hid hG6
    clear hG6 HF
    go_wp2_with fail
    go_end0
    have hb := HBB.out
    unfold Whole1Post
    dsimp only
    rw [HR.out]
    refine ⟨rfl, ⟨v, ownEnd (ownUp (ownUp (HOV.out.below ((Below.refl _ _).alloc (Nat.le_refl _) _)) HG6.out.2 hb.1) HF6.out.2 hb.2.1) hb.2.2.1, ((HMV.out.alloc _).grown HG6.out.2 hb.2.2.2.1).grown HF6.out.2 hb.2.2.2.2.1⟩, ?_, ((hb.2.2.2.2.2.alloc _).grown HG6.out.2 (fun r e => by injection e with e; have := HS.out.2.2.2.2.1; right; right; omega)).grown HF6.out.2 (fun r e => by injection e with e; left; exact e.symm)⟩
    rw [show backE r bs.length = 105 by simp [backE, HH0.out, H7.out]]
    exact HF6.out.1
   ·have h8 : decide ((bs.length : Int) - (r.2.1 : Int) > 0) = false := by simp; omega
    have H7 := Lib.hid h7
    clear h7
    go_wp2_with fail
    go_end0
    have hb := HBB.out
    unfold Whole1Post
    dsimp only
    rw [HR.out]
    refine ⟨rfl, ⟨v, ownEnd (ownUp (HOV.out.below ((Below.refl _ _).alloc (Nat.le_refl _) _)) HG6.out.2 hb.1) hb.2.2.1, (HMV.out.alloc _).grown HG6.out.2 hb.2.2.2.1⟩, ?_, (hb.2.2.2.2.2.alloc _).grown HG6.out.2 (fun r e => by injection e with e; have := HS.out.2.2.2.2.1; right; right; omega)⟩
    rw [show backE r bs.length = 0 by simp [backE, HH0.out, H7.out]]
    exact HC5.out
  ·have HH0 := Lib.hid h0
   have HPG2 := Lib.hid (pgood_any W4 p2 q2 bs r.2.1 r.2.2 sat false HC4.out (by simp [h0]))
   clear h0
   have hC5 := HC4.out.alloc (.cells #[.pointer (some ⟨p2, 0, none⟩), .bool sat] 67)
   have hP5 := HCP.out.alloc (.cells #[.pointer (some ⟨p2, 0, none⟩), .bool sat] 67)
   have HE5 := Lib.hid (err_any _ p2 q2 bs r.2.1 r.2.2 (hC5.below ((Below.refl _ _).drew)))
   have HF5 := Lib.hid (Fail_any _ p q B a2 0 r.2.2 (hP5.below ((Below.refl _ _).drew)) (by simp [HH0.out]))
   have v0 := (HG5.out.alloc (.cells #[.pointer (some ⟨p2, 0, none⟩), .bool sat] 67)).cell 0
   have v1 := (HP4.out.alloc (.cells #[.pointer (some ⟨p2, 0, none⟩), .bool sat] 67)).cell 0
   clear hC5 hP5
   go_wp2_with fail
   refine HPG2.out.mono ?_
   rintro E w' ⟨rfl, rfl⟩
   clear HPG2
   go_wp2_with fail
   go_region_law (first
    | (go_simp; go_at_call 15; refine HE5.out.mono ?_; rintro E wq ⟨rfl, rfl⟩)
    | (go_simp; go_at_call 36; refine HF5.out.mono ?_; rintro E W6 ⟨rfl, hG6⟩; have HF6 := Lib.hid hG6; clear hG6))
   all_goals
    go_wp2_with fail
    go_end0
    have hb := HBB.out
    unfold Whole1Post
    dsimp only
    rw [HR.out]
    refine ⟨rfl, ⟨v, ownEnd (ownUp (HOV.out.below (((Below.refl _ _).alloc (Nat.le_refl _) _).drew)) HF6.out.2 hb.2.1) hb.2.2.1, (Blk.drew (HMV.out.alloc _)).grown HF6.out.2 hb.2.2.2.2.1⟩, ?_, ((hb.2.2.2.2.2.alloc _).grown (grown_below ((Below.refl _ _).drew) none) (fun r e => by cases e)).grown HF6.out.2 (fun r e => by injection e with e; left; exact e.symm)⟩
    rw [show backE r bs.length = r.2.2 by simp [backE, HH0.out]]
    exact HF6.out.1
end Go.Proofs.YtofaiocffifhfaaGreat
end
