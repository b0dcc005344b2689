/- Lemmas towards this claim's statement: what the functions named here come to, each under the conditions that it states itself. -/
import Derived.Test.YtfndlpfceokloaaDoorOpAll
namespace Go.Proofs.YtfndlpfceokloaaDoorB
open Go.RowKit
/-- An opcode's name; the opcode of a name. -/
def nameM (op : Int) : ByteArray := ((opAll.find? (fun p => p.1 == op)).map (·.2)).getD ⟨#[]⟩
def byM (s : ByteArray) : Int × Bool := match opAll.find? (fun p => decide (p.2 = s)) with | some p => (p.1, true) | none => (0, false)
theorem find_pre {α : Type} {f : α → Bool} {q r : List α} {x : α} (h : ∀ p ∈ q, f p = false) (hx : f x = true) : (q ++ x :: r).find? f = some x := by
  rw [List.find?_append, List.find?_eq_none.2 (fun p hp => by rw [h p hp]; decide)]
  simp [List.find?_cons, hx]
theorem boxed_keep {A B : World} {g n : Nat} {t : TypeId} {v : Value} {row : Option Nat} (h : Boxed A g t v) (hg : A.grownBy B row) (hr : ∀ r, row = some r → n ≤ r ∧ ∃ o : Obj, A.heap[r]? = some o ∧ o.isCells = false) : Boxed B g t v :=
  h.kept hg (fun e => by obtain ⟨_, o, ho, hoc⟩ := hr _ e.symm; rw [show A.heap[g]? = _ from h] at ho; cases ho; simp [Obj.isCells] at hoc)
theorem boxed_put {W : World} {g D : Nat} {t : TypeId} {v : Value} {o : Obj} (h : Boxed W g t v) (hD : W.heap[D]? = some o) (hc : o.isCells = false) (o' : Obj) : Boxed (W.putObj D o') g t v :=
  boxed_keep (n := 0) h (grownBy_putObj' W D o') (fun r e => by cases e; exact ⟨Nat.zero_le _, o, hD, hc⟩)
theorem nameM_pre {op : Int} {q r : List (Int × ByteArray)} {x : Int × ByteArray} (e : opAll = q ++ x :: r) (hq : ∀ p ∈ q, (p.1 == op) = false) (hx : (x.1 == op) = true) : nameM op = x.2 := by
  rw [nameM, e, find_pre hq hx]; rfl
theorem find_no {α : Type} {f : α → Bool} {q : List α} (h : ∀ p ∈ q, f p = false) : q.find? f = none := List.find?_eq_none.2 (fun p hp => by rw [h p hp]; decide)
theorem nameM_no {op : Int} (h : ∀ p ∈ opAll, (p.1 == op) = false) : nameM op = ⟨#[]⟩ := by rw [nameM, find_no h]; rfl
end Go.Proofs.YtfndlpfceokloaaDoorB
namespace Go.Proofs.YtfndlpfceokloaaDoor
open Go.RowKit Go.Shelf YtfndlpfceokloaaDoorB Go.Proofs.YtfndlpfceokloaaDoorW.PrintWords
attribute [local go_sem] Oper.semAt_some
theorem all_stops (F : Fence) (hd : F.depth = none) (hF : ∀ f, F.fn f) (hro : F.round = none) (hw : ∀ (f : Nat) (args : Array Value) (m : Nat) (W : World) (R : Ending → World → Prop), Calls Tryd.prog f args W R → CallsIn F m Tryd.prog f args W R)
    (n n0 n1 : Nat) (mx : Int) (hn0 : 0 < n0) (hn1 : n0 ≤ n1) (w : World) (hm : w.cell? ⟨0, 0, none⟩ = some (.int .i64 mx)) (hnW : n1 ≤ w.heap.size) :
    SeqStopsK F n Tryd.prog 33 #[] opEnc (KeepC n0 n1) (fun ys => ys = opAll) (fun pre => pre <+: opAll) opAll.length w := fun l J Jx W hW hJ _ hY h0 => by
  have hs := hW.size
  exact all1_in F hd hF hro hw n l n0 n1 mx hn0 hn1 J Jx (fun pre W' o h => hJ pre W' _ none h (World.grownBy_alloc W' o none) (fun r e => by cases e)) (fun m pre x W hj hl => anyDepth hd m (hY pre x W hj hl)) W (pw_cell_below hW hm) (by omega) h0
theorem all_in (F : Fence) (hF : ∀ f, F.fn f) (hro : F.round = none) (n : Nat) (w : World) : CallsIn F n Tryd.prog 19 #[] w fun e w' => e = .returned (.func (.func 33) #[] #[]) ∧ w' = w := by
  refine callsIn_of_wp Tryd.func19 rfl (hF _) ?_ hro
  simp only [Tryd.ntmps19, List.size_toArray, List.length_cons, List.length_nil, Nat.reduceAdd, Nat.reduceSub, Array.replicate_succ, Array.replicate_zero, List.push_toArray, List.append_toArray, List.nil_append, List.cons_append]
  gi_wp2
  go_ret
  exact ⟨rfl, rfl⟩
set_option maxRecDepth 100000 in
set_option maxHeartbeats 4000000 in
theorem Name_in (F : Fence) (hd : F.depth = none) (hF : ∀ f, F.fn f) (hro : F.round = none) (hw : ∀ (f : Nat) (args : Array Value) (m : Nat) (W : World) (R : Ending → World → Prop), Calls Tryd.prog f args W R → CallsIn F m Tryd.prog f args W R)
    (n : Nat) (hn : 6 ≤ n) (mx op : Int) (w : World) (hm : w.cell? ⟨0, 0, none⟩ = some (.int .i64 mx)) :
    CallsIn F n Tryd.prog 9 #[.int .i64 op] w fun e W' => e = .returned (.string (nameM op)) ∧ Below w.heap.size w W' := by
  have h1 : 1 ≤ n := by omega
  have hw0 : 0 < w.heap.size := World.block_lt_of_cell? _ _ hm
  have hdd : ∀ k : Nat, (F.depth.isSome = true → 1 ≤ k) := fun k h => by rw [hd] at h; cases h
  refine callsIn_of_wp_marks Tryd.func9 rfl (hF _) ?_ hro
  simp only [Tryd.ntmps9, List.size_toArray, List.length_cons, List.length_nil, Nat.reduceAdd, Nat.reduceSub, Array.replicate_succ, Array.replicate_zero, List.push_toArray, List.append_toArray, List.nil_append, List.cons_append]
  have bN := (Boxed.new w 3 (.int .i64 op)).alloc (.cells #[.string ⟨#[]⟩] 9)
  have bS := Boxed.new (w.alloc (.cells #[.int .i64 op] 3)) 9 (.string ⟨#[]⟩)
  rw [World.size_alloc] at bS
  have hB0 : Below w.heap.size w ((w.alloc (.cells #[.int .i64 op] 3)).alloc (.cells #[.string ⟨#[]⟩] 9)) := ((Below.refl _ w).alloc (Nat.le_refl _) _).alloc (by simp) _
  have hsz : ((w.alloc (.cells #[.int .i64 op] 3)).alloc (.cells #[.string ⟨#[]⟩] 9)).heap.size = w.heap.size + 2 := by simp
  gi_wp2_with ((try refine ⟨hdd _, ?_⟩); gi_at_call 19; refine (all_in F hF hro _ _).mono ?_; rintro e w' ⟨rfl, rfl⟩)
  obtain ⟨W0, hW0⟩ : ∃ W0, (w.alloc (.cells #[.int .i64 op] 3)).alloc (.cells #[.string ⟨#[]⟩] 9) = W0 := ⟨_, rfl⟩
  rw [hW0] at bN bS hB0 hsz ⊢
  clear hW0
  refine wpIn_rangeFunc_ownH hro h1 (gf := 33) (lb := #[]) rfl (hF _) (enters_of Tryd.func33 (by kernel_rfl) rfl)
    (all_stops F hd hF hro hw (n - 1) w.heap.size W0.heap.size mx hw0 (by omega) W0 (pw_cell_below hB0 hm) (Nat.le_refl _)) keepC_t (keepC_b (by omega)) (Below.refl _ _) (fun _ => rfl)
    (fun pre W => ((∀ p ∈ pre, (p.1 == op) = false) ∧ Boxed W w.heap.size 3 (.int .i64 op) ∧ Boxed W (w.heap.size + 1) 9 (.string ⟨#[]⟩)) ∧ Below w.heap.size w W)
    (fun c pre W => (c = .ret ∧ ∃ q x, pre = q ++ [x] ∧ (∀ p ∈ q, (p.1 == op) = false) ∧ (x.1 == op) = true ∧ Boxed W (w.heap.size + 1) 9 (.string x.2)) ∧ Below w.heap.size w W)
    ?c1 ?c2 ⟨⟨by simp, bN, bS⟩, hB0⟩
    (fun x a' W => a' = { tmps := #[.int .i64 op, .pointer (some ⟨w.heap.size, 0, none⟩), .pointer (some ⟨w.heap.size + 1, 0, none⟩), .int .i64 x.1, .string x.2, .func (.func 33) #[] #[], .int .i64 x.1, .string x.2, undef, undef, undef, undef], defers := [] })
    (fun x a' _ X Y row hs hg hr => hs)
    ?assign ?body ?done ?stop
  case c1 => exact OwnFrom.and (fun pre A B row hs hg hr => ⟨hs.1, boxed_keep hs.2.1 hg hr, boxed_keep hs.2.2 hg hr⟩) (ownFrom_below (Nat.le_refl _) (by omega))
  case c2 => exact fun c => OwnFrom.and (fun pre A B row hs hg hr => by obtain ⟨e, q, x, e2, h1, h2, h3⟩ := hs; exact ⟨e, q, x, e2, h1, h2, boxed_keep h3 hg hr⟩) (ownFrom_below (Nat.le_refl _) (by omega))
  case assign =>
    rintro l pre x W K ⟨⟨hp, b1, b2⟩, hB1⟩ hK
    have hK' := Lib.hid hK
    clear hK
    simp only [opEnc]
    gi_wp2
    exact hK'.out _ _ (KeepsFrom.refl _ _) (KeepC.refl _ _ _) ⟨⟨hp, b1, b2⟩, hB1⟩ rfl
  case body =>
    rintro l pre x a' W hl hrec ⟨⟨hp, b1, b2⟩, hB1⟩ rfl hlt
    have c1 := b1.cell
    have c2 := b2.cell
    have f2 := b2.frozen
    have HP := Lib.hid hp
    clear hp
    by_cases hx : (x.1 == op) = true
    · have HX := Lib.hid hx
      gi_wp2
      exact ⟨(KeepsOthers.setCell _ _ _).from _, ⟨rfl, pre, x, rfl, HP.out, HX.out, b2.set _⟩, hB1.setCell (p := ⟨w.heap.size + 1, 0, none⟩) (by simp) _⟩
    · have hx' : (x.1 == op) = false := by simpa using hx
      have HX := Lib.hid hx'
      clear hx
      gi_wp2
      exact ⟨KeepsFrom.refl _ _, KeepC.refl _ _ _, ⟨fun p hp => (List.mem_append.1 hp).elim (HP.out p) (fun e => by rw [List.mem_singleton.1 e]; exact HX.out), b1, b2⟩, hB1⟩
  case done =>
    rintro D ys W hD rfl ⟨⟨hp, b1, b2⟩, hB1⟩ hK
    have HN := Lib.hid (nameM_no hp)
    have c2 := b2.cell
    have f2 := b2.frozen
    clear hp
    gi_wp2
    have hK' := (KeepsOthers.setCell W ⟨w.heap.size + 1, 0, none⟩ (.string ⟨#[]⟩)).same D _ hK rfl
    refine ⟨by simp, .inl ⟨_, _, rfl, run_takeDeferred hK', ?_⟩⟩
    have hc5 := (boxed_put (b2.set (.string ⟨#[]⟩)) hK' rfl (.deferred none)).cell
    refine ⟨.string ⟨#[]⟩, ?_, by rw [HN.out], (hB1.setCell (p := ⟨w.heap.size + 1, 0, none⟩) (by simp) _).trans (belowK_b (w := w) (Nat.le_refl _) _ D _ _ (by omega) hK' rfl rfl)⟩
    simp [results, Tryd.f9, go_sem, hc5]
  case stop =>
    rintro D c pre W hD hpre ⟨⟨rfl, q, x, rfl, hq, hx, b2⟩, hB1⟩ hK
    obtain ⟨r, hr⟩ := hpre
    have HN := Lib.hid (nameM_pre (op := op) (q := q) (r := r) (x := x) (by rw [← hr]; simp) hq hx)
    clear hr hq hx
    gi_wp2
    refine ⟨by simp, .inl ⟨_, _, rfl, run_takeDeferred hK, ?_⟩⟩
    have hc5 := (boxed_put b2 hK rfl (.deferred none)).cell
    refine ⟨.string x.2, ?_, by rw [HN.out], hB1.trans (belowK_b (w := w) (Nat.le_refl _) W D _ _ (by omega) hK rfl rfl)⟩
    simp [results, Tryd.f9, go_sem, hc5]
theorem Name_any (mx op : Int) (w : World) (hm : w.cell? ⟨0, 0, none⟩ = some (.int .i64 mx)) : Calls Tryd.prog 9 #[.int .i64 op] w fun e W' => e = .returned (.string (nameM op)) ∧ Below w.heap.size w W' :=
  (callsIn_wide (n := 6)).1 (Name_in Fence.wide rfl (fun _ => trivial) rfl (fun f args m W R h => callsIn_wide.2 h) 6 (Nat.le_refl _) mx op w hm)
end Go.Proofs.YtfndlpfceokloaaDoor
