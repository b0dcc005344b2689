/- Lemmas towards this claim's statement: what the functions named here come to, each under the conditions that it states itself. -/
import Derived.Test.YtfndlpfceokloaaStN
import Derived.Test.YtfndlpfceokloaaOwn
import Derived.Test.YtfndlpfceokloaaCells3
import Derived.Test.YtfndlpfceokloaaScan
namespace Go.Proofs.YtfndlpfceokloaaB
open Go.RowKit Go.Proofs.YtfndlpfceokloaaW.PrintWords
/-- Pointers to whole blocks. -/
def kP : Kd Nat where
  sz := 1
  E := []
  K := fun _ x cs => cs = [.pointer (some ⟨x, 0, none⟩)]
  M := fun _ _ _ x cs => cs = [.pointer (some ⟨x, 0, none⟩)]
  K_len := fun h => by rw [h]; rfl
  K_one := fun h u hu => by
    rw [h] at hu
    rw [List.mem_singleton.1 hu]
    rfl
  K_below := fun _ h => h
  K_of_M := fun h => h
  M_mono := fun _ h => h
  M_bound := fun h => h
  M_move := fun _ h => h
  M_lower := fun _ h => h
end Go.Proofs.YtfndlpfceokloaaB
namespace Go.Proofs.Ytfndlpfceokloaa
open Go.RowKit Go.Shelf YtfndlpfceokloaaB Go.Proofs.YtfndlpfceokloaaW.PrintWords
theorem infoP : (Try.prog.info? 28).map (fun i => (i.zero, i.size, i.bytes)) = some (some (.pointer none), 1, 8) := by kernel_rfl
/-- A store that New made. -/
def MadeS (W : World) (g : Nat) (v : Value) : Prop := Blk W g #[.bool true, .slice none 0 0, v, .slice none 0 0, .slice none 0 0, .slice none 0 0] 129
theorem is_made (W : World) (g : Nat) (v : Value) (h : MadeS W g v) : Calls Try.prog 72 #[.pointer (some ⟨g, 0, none⟩)] W fun E w' => E = .returned (.bool true) ∧ W = w' := by
  have hc : W.cell? ⟨g, 0, none⟩ = some (.bool true) := h.cell 0
  go_enter Try.func72, Try.ntmps72
  go_wp2
  go_ret
  exact ⟨rfl, rfl⟩
theorem store_new (W : World) : Calls Try.prog 43 #[] W fun E w' => E = .returned (.pointer (some ⟨W.heap.size, 0, none⟩)) ∧ w' = W.alloc (.cells #[.bool true, .slice none 0 0, .slice none 0 0, .slice none 0 0, .slice none 0 0, .slice none 0 0] 129) := by
  go_enter Try.func43, Try.ntmps43
  go_wp2
  go_ret
  exact ⟨rfl, rfl⟩
/-- A row of tables has one more. -/
def TaddPost (W : World) (g base : Nat) (ps : List Nat) (t : Nat) (row : Option Nat) (E : Ending) (W' : World) : Prop :=
  ∃ v', E = .returned (.int .i64 ps.length) ∧ MadeS W' g v' ∧ YtfndlpfceokloaaB.Own kP 28 W' base (fun _ => False) v' (ps ++ [t]) ∧ v'.ownBlock ≠ some g ∧ (v'.ownBlock = row ∨ ∃ q, v'.ownBlock = some q ∧ W.heap.size ≤ q) ∧ W.heap.size ≤ W'.heap.size ∧ (W'.os = W.os ∧ W'.tape = W.tape ∧ W'.output = W.output ∧ ∀ k, k < W.heap.size → k ≠ g → some k ≠ row → W'.heap[k]? = W.heap[k]?)
theorem tadd_any (W : World) (g base t : Nat) (v : Value) (ps : List Nat) (h : MadeS W g v) (hO : YtfndlpfceokloaaB.Own kP 28 W base (fun _ => False) v ps) (hg : v.ownBlock ≠ some g) (hb : base ≤ W.heap.size) (hl : ps.length ≤ 100) :
    Calls Try.prog 79 #[.pointer (some ⟨g, 2, none⟩), .pointer (some ⟨t, 0, none⟩)] W (TaddPost W g base ps t v.ownBlock) := by
  have hc : W.cell? ⟨g, 2, none⟩ = some v := h.cell 2
  have hlt := h.lt
  have HM := Lib.hid h
  have HO := Lib.hid hO
  have HG := Lib.hid hg
  have HF : FK kP W (fun k => False ∧ some k ≠ v.ownBlock) t [.pointer (some ⟨t, 0, none⟩)] := fun _ _ => rfl
  clear h hO hg
  go_enter Try.func79, Try.ntmps79
  go_wp2_with (at_builtin; refine YtfndlpfceokloaaB.Own.append (d := kP) base rfl (.tmp 9) (.tmp 11) 65 28 _ 8 rfl Try.underlying65 infoP rfl (by decide) (by decide) v ps t _ (fun _ => False) rfl rfl HF HO.out hb (by omega) ?_; intro v1 w1 hown1 hg1 hat1; obtain ⟨A1, k1, rfl, hle1, _⟩ := YtfndlpfceokloaaB.Own.reads hown1; have HM1 := Lib.hid (Blk.grown HM.out hg1 (fun e => HG.out e.symm)); have c2 : w1.cell? ⟨g, 2, none⟩ = some v := HM1.out.cell 2; have f2 : w1.frozen? ⟨g, 2, none⟩ = false := HM1.out.frozen 2; have hlt1 := HM1.out.lt; have HO1 := Lib.hid hown1; have HG1 := Lib.hid hg1; have HA1 := Lib.hid hat1; simp only [List.length_append, List.length_cons, List.length_nil, Nat.zero_add]; clear hown1 hg1 hat1)
  go_ret
  have hs1 := HG1.out.size
  have hgs := gset w1 g 2 (.slice A1 (ps.length + 1) k1)
  have hne : (Value.slice A1 (ps.length + 1) k1).ownBlock ≠ some g := by
    rcases HA1.out with h | h
    · exact fun e => HG.out (h.symm.trans (by simpa using e))
    · intro e
      have e2 : some g = some (W.heap.size + 1) := (by simpa using e : (Value.slice A1 (ps ++ [t]).length k1).ownBlock = some g).symm.trans h
      injection e2 with e2
      omega
  refine ⟨.slice A1 (ps.length + 1) k1, rfl, HM1.out.set 2 _, ?_, hne, HA1.out.imp (fun h => (by simpa using h)) (fun h => ⟨_, (by simpa using h), by omega⟩), by have := hgs.size; omega, hgs.os.trans HG1.out.os, hgs.tape.trans HG1.out.tape, hgs.output.trans HG1.out.output, fun k hk hkg hkr => (hgs.block k (by omega) (fun e => hkg (by injection e))).trans (HG1.out.block k hk hkr)⟩
  have := HO1.out
  rw [show (ps ++ [t]).length = ps.length + 1 from by simp] at this
  exact this.grown hgs (.inr hne) (fun k hk => hk.elim)
def AddTPost (W : World) (g base : Nat) (ps : List Nat) (n : Nat) (row : Option Nat) (E : Ending) (W' : World) : Prop :=
  ∃ v' t p, E = .returned (.tuple #[.int .i64 ps.length, .int .i64 0]) ∧ MadeS W' g v' ∧ YtfndlpfceokloaaB.Own kP 28 W' base (fun _ => False) v' (ps ++ [t]) ∧ v'.ownBlock ≠ some g ∧ W.heap.size ≤ t ∧ W.heap.size ≤ p ∧ v'.ownBlock ≠ some t ∧ v'.ownBlock ≠ some p ∧ IsTab W' t p n 0 false (List.replicate n (false, 0)) ∧ W.heap.size ≤ W'.heap.size ∧ (W'.os = W.os ∧ W'.tape = W.tape ∧ W'.output = W.output ∧ ∀ k, k < W.heap.size → k ≠ g → some k ≠ row → W'.heap[k]? = W.heap[k]?)
theorem addTable_made (W : World) (g base n : Nat) (v : Value) (ps : List Nat) (h : MadeS W g v) (hO : YtfndlpfceokloaaB.Own kP 28 W base (fun _ => False) v ps) (hg : v.ownBlock ≠ some g) (hb : base ≤ W.heap.size) (hl : ps.length ≤ 100) (hn : n ≤ 100) :
    Calls Try.prog 48 #[.pointer (some ⟨g, 0, none⟩), .agg #[.int .u32 n, .int .u32 0, .bool false]] W (AddTPost W g base ps n v.ownBlock) := by
  have hlt := h.lt
  have H1 := Lib.hid (is_made _ g v (h.alloc (.cells #[.int .u32 n, .int .u32 0, .bool false] 33)))
  have H2 := Lib.hid (newTable_any (n : Int) 0 false (by omega) (W.alloc (.cells #[.int .u32 n, .int .u32 0, .bool false] 33)))
  have H3 := Lib.hid (fun X hX t => tadd_any X g base t v ps ((h.alloc (.cells #[.int .u32 n, .int .u32 0, .bool false] 33)).below hX (by simp; omega)) ((hO.below ((Below.refl _ _).alloc (Nat.le_refl _) _)).below hX) hg (by have := hX.size; rw [World.size_alloc] at this; omega) hl)
  have he : newErr (n : Int) 0 false = 0 := by unfold newErr; rw [if_neg (by simp), if_neg (by omega)]
  have HE := Lib.hid he
  have HO := Lib.hid hO
  clear h hO he
  go_enter Try.func48, Try.ntmps48
  go_wp2_with (go_at_call 72; refine H1.out.mono ?_; rintro E w' ⟨rfl, rfl⟩)
  refine H2.out.mono ?_
  rintro E X ⟨hX, ⟨h1, h2⟩ | ⟨h1, t, p, rfl, ht, hp, hT⟩⟩
  · exact absurd HE.out h1
  have HX := Lib.hid hX
  have HT := Lib.hid hT
  have hsx := hX.size
  rw [World.size_alloc] at ht hp hsx
  clear hX hT h1
  go_wp2_with fail
  refine (H3.out X HX.out t).mono ?_
  rintro E W' ⟨v', rfl, hM, hO', hne, hat, hsz, hos⟩
  go_wp2_with fail
  go_ret2
  have hg' : g < W.heap.size := hlt
  obtain ⟨ho1, ho2, ho3, ho4⟩ := hos
  have hXb := HX.out
  have htl : t < X.heap.size := (Array.getElem?_eq_some_iff.1 HT.out.hg).1
  have hpl : p < X.heap.size := (Array.getElem?_eq_some_iff.1 HT.out.hp).1
  have hvo : ∀ k, v.ownBlock = some k → k < W.heap.size := fun k hk => (HO.out.block hk).2
  have hv' : ∀ k, W.heap.size ≤ k → k < X.heap.size → v'.ownBlock ≠ some k := fun k h1 h2 e => by
    rcases hat with h | ⟨q, h, hq⟩
    · have := hvo k (h.symm.trans e); omega
    · rw [h] at e; injection e with e; omega
  have hkeep : ∀ k, W.heap.size ≤ k → k < X.heap.size → W'.heap[k]? = X.heap[k]? := fun k h1 h2 => ho4 k h2 (by omega) (fun e => by have := hvo k e.symm; omega)
  refine ⟨v', t, p, rfl, hM, hO', hne, by omega, by omega, hv' t (by omega) htl, hv' p (by omega) hpl, ⟨(hkeep t (by omega) htl).trans HT.out.hg, (hkeep p (by omega) hpl).trans HT.out.hp, HT.out.hn⟩, by omega, ho1.trans hXb.os, ho2.trans hXb.tape, ho3.trans hXb.output, fun k hk hkg hkr => ?_⟩
  exact (ho4 k (by omega) hkg hkr).trans ((hXb.block k (by rw [World.size_alloc]; omega)).trans (Below.heap_alloc _ _ _ hk))
end Go.Proofs.Ytfndlpfceokloaa
