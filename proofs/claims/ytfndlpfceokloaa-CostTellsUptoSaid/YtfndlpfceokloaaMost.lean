/- Lemmas towards this claim's statement: what the functions named here come to, each under the conditions that it states itself. -/
import Derived.Test.YtfndlpfceokloaaEach2
namespace Go.Proofs.YtfndlpfceokloaaB
open Go.RowKit Go.Shelf Go.Proofs.YtfndlpfceokloaaW.PrintWords
def mxL (l : List (Int × Ins)) : Nat := l.foldl (fun n p => max n p.2.list.length) 0
theorem mxL_from (l : List (Int × Ins)) : ∀ n : Nat, l.foldl (fun n p => max n p.2.list.length) n = max n (mxL l) := by
  induction l with
  | nil => intro n; simp [mxL]
  | cons p l ih => intro n; simp only [mxL, List.foldl_cons] at *; rw [ih, ih (max 0 _)]; omega
theorem mxL_append (l r : List (Int × Ins)) : mxL (l ++ r) = max (mxL l) (mxL r) := by
  rw [mxL, List.foldl_append, mxL_from]; rfl
theorem mxL_cons (p : Int × Ins) (r : List (Int × Ins)) : mxL (p :: r) = max p.2.list.length (mxL r) := by
  rw [mxL, List.foldl_cons, mxL_from]; simp
mutual
theorem mxI_eq : ∀ (d : Int) (x : Ins), mxL (eachI d x) = moI x
  | d, .mk o t a b n l th el h => by
    have h1 := mxL_eq (d + 1) th
    have h2 := mxL_eq (d + 1) el
    rw [eachI, moI, mxL_cons, mxL_append, h1, h2]
    simp only [Ins.list]
theorem mxL_eq : ∀ (d : Int) (l : List Ins), mxL (eachL d l) = moL l
  | d, [] => by simp [eachL, moL, mxL]
  | d, x :: r => by
    have h1 := mxI_eq d x
    have h2 := mxL_eq d r
    rw [eachL, moL, mxL_append, h1, h2]
end
def moS {k : Kd Ins} {w0 : World} (pre : List (EachX k w0)) : Nat := mxL (pre.map EachX.dx)
theorem moS_snoc {k : Kd Ins} {w0 : World} (pre : List (EachX k w0)) (x : EachX k w0) : moS (pre ++ [x]) = max (moS pre) x.x.list.length := by
  rw [moS, List.map_append, mxL_append]; simp [moS, mxL, EachX.dx]
theorem keepC_t {n0 n1 : Nat} {A B C : World} (h : KeepC n0 n1 A B) (h' : KeepC n0 n1 B C) : KeepC n0 n1 A C := h.trans h'
theorem keepC_b {n0 n1 n : Nat} (h0 : n0 ≤ n) (W : World) (l : Nat) (o o' : Obj) (hl : n ≤ l) (ho : W.heap[l]? = some o) (hc : o.isCells = false) (_ : o.isWalk = false) : KeepC n0 n1 W (W.putObj l o') := by
  have hg := grownBy_putObj' W l o'
  refine ⟨(Below.refl _ W).grown hg (by have := (Array.getElem?_eq_some_iff.1 ho).1; omega) (fun k e => by cases e; omega), fun k cs t fr _ hk => ?_⟩
  have hkl := (Array.getElem?_eq_some_iff.1 hk).1
  rw [hg.block k hkl (fun e => by cases e; rw [ho] at hk; cases hk; simp [Obj.isCells] at hc), hk]
end Go.Proofs.YtfndlpfceokloaaB
namespace Go.Proofs.Ytfndlpfceokloaa
open Go.RowKit Go.Shelf YtfndlpfceokloaaB Go.Proofs.YtfndlpfceokloaaW.PrintWords
attribute [local go_sem] Oper.semAt_some
theorem each_stops (F : Fence) (hd : F.depth = none) (n : Nat) (hF1 : F.fn 99) (hF : F.fn 100) (hro : F.round = none) (Bt n1 : Nat) (w0 : World) (hn1 : w0.heap.size ≤ n1) (A : Option Addr) (c : Nat) (ls : List Ins) (hls : bkL ls ≤ 4611686018427387904)
    (w : World) (hBt : w.cell? ⟨Bt, 0, none⟩ = some (.slice A ls.length c)) (hC : kI.C w0 A ls.length ls) (hB : Below w0.heap.size w0 w) (hnW : n1 ≤ w.heap.size) :
    SeqStopsK F n Try.prog 99 #[.pointer (some ⟨Bt, 0, none⟩)] (EachX.enc (k := kI) (w0 := w0)) (KeepC w0.heap.size n1) (fun ys => ys.map EachX.dx = eachL 0 ls) (fun pre => pre.map EachX.dx <+: eachL 0 ls) (eachL 0 ls).length w := fun l J Jx W hW hJ _ hY h0 => by
  have hs := hW.size
  exact each1_in F hd n hF1 hF hro l Bt n1 w0 hn1 A c ls hls J Jx (fun pre W' o h => hJ pre W' _ none h (World.grownBy_alloc W' o none) (fun r e => by cases e)) hY W (pw_cell_below hW hBt) hC (hB.trans (hW.mono hB.size)) (by omega) h0
set_option maxRecDepth 100000 in
set_option maxHeartbeats 4000000 in
theorem Most_in (F : Fence) (hd : F.depth = none) (n : Nat) (hM : F.fn 31) (hE : F.fn 65) (hF1 : F.fn 99) (hF : F.fn 100) (hro : F.round = none) (hn : 6 ≤ n) (ls : List Ins) (hbk : bkL ls ≤ 1048576) (A : Option Addr) (c : Nat) (w : World) (hC : kI.C w A ls.length ls) :
    CallsIn F n Try.prog 31 #[.slice A ls.length c] w fun e W' => e = .returned (.int .i64 (moL ls : Int)) ∧ Below w.heap.size w W' := by
  have h1 : 1 ≤ n := by omega
  refine callsIn_of_wp_marks Try.func31 rfl hM ?_ hro
  simp only [Try.ntmps31, List.size_toArray, List.length_cons, List.length_nil, Nat.reduceAdd, Nat.reduceSub, Array.replicate_succ, Array.replicate_zero, List.push_toArray, List.append_toArray, List.nil_append, List.cons_append]
  gi_wp2_with (gi_at_call 65; refine (Each_in F (n - 1) hE hro _ ⟨_, _, _, rfl⟩ _).mono ?_; rintro e w' ⟨rfl, rfl⟩)
  have bN := (Boxed.new w 3 (.int .i64 0)).alloc (.cells #[.slice A ls.length c] 52)
  have bL := Boxed.new (w.alloc (.cells #[.int .i64 0] 3)) 52 (.slice A ls.length c)
  rw [World.size_alloc] at bL
  have hB0 : Below w.heap.size w ((w.alloc (.cells #[.int .i64 0] 3)).alloc (.cells #[.slice A ls.length c] 52)) := ((Below.refl _ w).alloc (Nat.le_refl _) _).alloc (by simp) _
  have hsz : ((w.alloc (.cells #[.int .i64 0] 3)).alloc (.cells #[.slice A ls.length c] 52)).heap.size = w.heap.size + 2 := by simp
  obtain ⟨W0, hW0⟩ : ∃ W0, (w.alloc (.cells #[.int .i64 0] 3)).alloc (.cells #[.slice A ls.length c] 52) = W0 := ⟨_, rfl⟩
  rw [hW0] at bN bL hB0 hsz ⊢
  clear hW0
  refine wpIn_rangeFunc_ownH hro h1 (gf := 99) (lb := #[.pointer (some ⟨w.heap.size + 1, 0, none⟩)]) rfl hF1 (enters_of Try.func99 (by kernel_rfl) rfl)
    (each_stops F hd (n - 1) hF1 hF hro (w.heap.size + 1) W0.heap.size w (by omega) A c ls (by omega) W0 bL.cell hC hB0 (Nat.le_refl _)) keepC_t (keepC_b (by omega)) (Below.refl _ _) (fun _ => rfl)
    (fun pre W => (Boxed W w.heap.size 3 (.int .i64 (moS pre : Int)) ∧ Boxed W (w.heap.size + 1) 52 (.slice A ls.length c)) ∧ Below w.heap.size w W)
    (fun _ _ _ => False)
    (OwnFrom.and (OwnFrom.and (Own.from (boxed_own _ _ _) _) (Own.from (boxed_own _ _ _) _)) (ownFrom_below (Nat.le_refl _) (by omega)))
    (fun _ _ _ _ _ hs _ _ => hs)
    ⟨⟨bN, bL⟩, hB0⟩
    (fun x a' W => ∃ Bx AL AT AE cL cT cE, w.heap.size + 1 < Bx ∧ Blk W Bx (insCells x.x AL AT AE cL cT cE) 160 ∧ a' = { tmps := #[.slice A ls.length c, undef, .int .i64 0, .pointer (some ⟨w.heap.size, 0, none⟩), undef, .pointer (some ⟨Bx, 0, none⟩), .slice A ls.length c, .func (.func 99) #[] #[.pointer (some ⟨w.heap.size + 1, 0, none⟩)], .int .i64 x.d, .agg (insCells x.x AL AT AE cL cT cE), undef, undef, undef, undef, undef, undef], defers := [] })
    (fun x a' _ X Y row hs hg hr => by obtain ⟨Bx, AL, AT, AE, cL, cT, cE, h1, h2, h3⟩ := hs; exact ⟨Bx, AL, AT, AE, cL, cT, cE, h1, h2.grown hg (fun e => by obtain ⟨_, o, ho, hoc⟩ := hr Bx e.symm; rw [show X.heap[Bx]? = _ from h2] at ho; cases ho; simp [Obj.isCells] at hoc), h3⟩)
    ?assign ?body ?done ?stop
  case assign =>
    rintro l pre ⟨d, x, cs, hk, hd'⟩ W K ⟨⟨b1, b2⟩, hB1⟩ hK
    obtain ⟨AL, cL, AT, cT, AE, cE, rfl, g1, g2, g3, g4, g5, hL, hT, hE, l1, l2, l3⟩ := ins_openC hk
    have hK' := Lib.hid hK
    have hsW := hB1.size
    have hltB := b2.lt
    clear hK hT hE hL hC
    simp only [EachX.enc]
    gi_wp2
    refine hK'.out _ _ ((KeepsOthers.alloc _ _).from _) (KeepC.alloc (KeepC.refl _ _ _) _ hsW) ⟨⟨b1.alloc _, b2.alloc _⟩, hB1.alloc hsW _⟩ ⟨W.heap.size, AL, AT, AE, cL, cT, cE, by omega, Blk.new _ _ _, rfl⟩
  case body =>
    rintro l pre x a' W hl hrec ⟨⟨b1, b2⟩, hB1⟩ ⟨Bx, AL, AT, AE, cL, cT, cE, hBx, hX, rfl⟩ hlt
    have c1 := b1.cell
    have f1 := b1.frozen
    have c5 : W.cell? ⟨Bx, 5, none⟩ = some (.slice AL x.x.list.length cL) := by rw [hX.cell]; rfl
    have HS := moS_snoc pre x
    have HM : ((moS (pre ++ [x]) : Nat) : Int) = if (moS pre : Int) < (x.x.list.length : Int) then (x.x.list.length : Int) else (moS pre : Int) := by rw [HS]; split <;> omega
    have HM' := Lib.hid HM
    clear HS HM hX
    generalize moS pre = s at *
    generalize x.x.list.length = m at *
    by_cases hsm : (s : Int) < (m : Int)
    all_goals
      gi_wp2
      refine ⟨(KeepsOthers.setCell _ _ _).from _, ⟨(Below.refl _ _).setCell (p := ⟨w.heap.size, 0, none⟩) (Nat.le_refl _) _, fun k cs t fr hk hc => (Below.heap_setCell _ _ _ _ (by simp; omega)).trans hc⟩, ⟨⟨?_, b2.other (by simp) _⟩, hB1.setCell (p := ⟨w.heap.size, 0, none⟩) (Nat.le_refl _) _⟩⟩
      have HM2 := HM'.out
      first | rw [if_pos hsm] at HM2 | rw [if_neg (Int.not_lt.mpr hsm)] at HM2
      rw [HM2]
      exact b1.set _
  case done =>
    rintro D ys W hD hS ⟨⟨b1, b2⟩, hB1⟩ hK
    have HF := Lib.hid (show (moS ys : Int) = moL ls from by rw [moS, hS, mxL_eq])
    have c1 := b1.cell
    generalize moS ys = s at *
    gi_wp2
    refine ⟨by simp, .inl ⟨_, _, rfl, run_takeDeferred hK, ?_⟩⟩
    exact ⟨_, results_tmp rfl _ _ _, by rw [← HF.out]; rfl, hB1.trans (belowK_b (w := w) (Nat.le_refl _) W D _ _ (by omega) hK rfl rfl)⟩
  case stop =>
    rintro D c pre W _ _ h _
    exact h.elim
end Go.Proofs.Ytfndlpfceokloaa
