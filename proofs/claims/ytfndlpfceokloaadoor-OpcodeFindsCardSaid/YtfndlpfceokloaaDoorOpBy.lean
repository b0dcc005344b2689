/- Lemmas towards this claim's statement: what the functions named here come to, each under the conditions that it states itself. -/
import Derived.Test.YtfndlpfceokloaaDoorOpName
namespace Go.Proofs.YtfndlpfceokloaaDoor
open Go.RowKit Go.Shelf YtfndlpfceokloaaDoorB Go.Proofs.YtfndlpfceokloaaDoorW.PrintWords
theorem byM_pre {s : ByteArray} {q r : List (Int × ByteArray)} {x : Int × ByteArray} (e : opAll = q ++ x :: r) (hq : ∀ p ∈ q, ¬ p.2 = s) (hx : x.2 = s) : byM s = (x.1, true) := by
  rw [byM, e, find_pre (fun p hp => decide_eq_false (hq p hp)) (decide_eq_true hx)]
theorem byM_no {s : ByteArray} (h : ∀ p ∈ opAll, ¬ p.2 = s) : byM s = (0, false) := by rw [byM, find_no (fun p hp => decide_eq_false (h p hp))]
attribute [local go_sem] Oper.semAt_some
set_option maxRecDepth 100000 in
set_option maxHeartbeats 4000000 in
theorem By_in (F : Fence) (hd : F.depth = none) (hF : ∀ f, F.fn f) (hro : F.round = none) (hw : ∀ (f : Nat) (args : Array Value) (m : Nat) (W : World) (R : Ending → World → Prop), Calls Tryd.prog f args W R → CallsIn F m Tryd.prog f args W R)
    (n : Nat) (hn : 6 ≤ n) (mx : Int) (s : ByteArray) (w : World) (hm : w.cell? ⟨0, 0, none⟩ = some (.int .i64 mx)) :
    CallsIn F n Tryd.prog 14 #[.string s] w fun e W' => e = .returned (.tuple #[.int .i64 (byM s).1, .bool (byM s).2]) ∧ Below w.heap.size w W' := by
  have h1 : 1 ≤ n := by omega
  have hw0 : 0 < w.heap.size := World.block_lt_of_cell? _ _ hm
  have hdd : ∀ k : Nat, (F.depth.isSome = true → 1 ≤ k) := fun k h => by rw [hd] at h; cases h
  refine callsIn_of_wp_marks Tryd.func14 rfl (hF _) ?_ hro
  simp only [Tryd.ntmps14, List.size_toArray, List.length_cons, List.length_nil, Nat.reduceAdd, Nat.reduceSub, Array.replicate_succ, Array.replicate_zero, List.push_toArray, List.append_toArray, List.nil_append, List.cons_append]
  have bN := ((Boxed.new w 9 (.string s)).alloc (.cells #[.int .i64 0] 3)).alloc (.cells #[.bool false] 4)
  have bI := (Boxed.new (w.alloc (.cells #[.string s] 9)) 3 (.int .i64 0)).alloc (.cells #[.bool false] 4)
  have bS := Boxed.new ((w.alloc (.cells #[.string s] 9)).alloc (.cells #[.int .i64 0] 3)) 4 (.bool false)
  rw [World.size_alloc] at bI
  rw [World.size_alloc, World.size_alloc] at bS
  have hB0 : Below w.heap.size w (((w.alloc (.cells #[.string s] 9)).alloc (.cells #[.int .i64 0] 3)).alloc (.cells #[.bool false] 4)) := (((Below.refl _ w).alloc (Nat.le_refl _) _).alloc (by simp) _).alloc (by simp; omega) _
  have hsz : (((w.alloc (.cells #[.string s] 9)).alloc (.cells #[.int .i64 0] 3)).alloc (.cells #[.bool false] 4)).heap.size = w.heap.size + 3 := by simp
  gi_wp2_with ((try refine ⟨hdd _, ?_⟩); gi_at_call 19; refine (all_in F hF hro _ _).mono ?_; rintro e w' ⟨rfl, rfl⟩)
  obtain ⟨W0, hW0⟩ : ∃ W0, ((w.alloc (.cells #[.string s] 9)).alloc (.cells #[.int .i64 0] 3)).alloc (.cells #[.bool false] 4) = W0 := ⟨_, rfl⟩
  rw [hW0] at bN bI bS hB0 hsz ⊢
  clear hW0
  refine wpIn_rangeFunc_ownH hro h1 (gf := 33) (lb := #[]) rfl (hF _) (enters_of Tryd.func33 (by kernel_rfl) rfl)
    (all_stops F hd hF hro hw (n - 1) w.heap.size W0.heap.size mx hw0 (by omega) W0 (pw_cell_below hB0 hm) (Nat.le_refl _)) keepC_t (keepC_b (by omega)) (Below.refl _ _) (fun _ => rfl)
    (fun pre W => ((∀ p ∈ pre, ¬ p.2 = s) ∧ Boxed W w.heap.size 9 (.string s) ∧ Boxed W (w.heap.size + 1) 3 (.int .i64 0) ∧ Boxed W (w.heap.size + 1 + 1) 4 (.bool false)) ∧ Below w.heap.size w W)
    (fun c pre W => (c = .ret ∧ ∃ q x, pre = q ++ [x] ∧ (∀ p ∈ q, ¬ p.2 = s) ∧ x.2 = s ∧ Boxed W (w.heap.size + 1) 3 (.int .i64 x.1) ∧ Boxed W (w.heap.size + 1 + 1) 4 (.bool true)) ∧ Below w.heap.size w W)
    ?c1 ?c2 ⟨⟨by simp, bN, bI, bS⟩, hB0⟩
    (fun x a' W => a' = { tmps := #[.string s, .pointer (some ⟨w.heap.size, 0, none⟩), .pointer (some ⟨w.heap.size + 1, 0, none⟩), .pointer (some ⟨w.heap.size + 1 + 1, 0, none⟩), .int .i64 x.1, .string x.2, .func (.func 33) #[] #[], .int .i64 x.1, .string x.2, undef, undef, undef, undef], defers := [] })
    (fun x a' _ X Y row hs hg hr => hs)
    ?assign ?body ?done ?stop
  case c1 => exact OwnFrom.and (fun pre A B row hs hg hr => ⟨hs.1, boxed_keep hs.2.1 hg hr, boxed_keep hs.2.2.1 hg hr, boxed_keep hs.2.2.2 hg hr⟩) (ownFrom_below (Nat.le_refl _) (by omega))
  case c2 => exact fun c => OwnFrom.and (fun pre A B row hs hg hr => by obtain ⟨e, q, x, e2, h1, h2, h3, h4⟩ := hs; exact ⟨e, q, x, e2, h1, h2, boxed_keep h3 hg hr, boxed_keep h4 hg hr⟩) (ownFrom_below (Nat.le_refl _) (by omega))
  case assign =>
    rintro l pre x W K ⟨⟨hp, b1, b2, b3⟩, hB1⟩ hK
    have hK' := Lib.hid hK
    clear hK
    simp only [opEnc]
    gi_wp2
    exact hK'.out _ _ (KeepsFrom.refl _ _) (KeepC.refl _ _ _) ⟨⟨hp, b1, b2, b3⟩, hB1⟩ rfl
  case body =>
    rintro l pre x a' W hl hrec ⟨⟨hp, b1, b2, b3⟩, hB1⟩ rfl hlt
    have c1 := b1.cell
    have c2 := b2.cell
    have c3 := b3.cell
    have f2 := b2.frozen
    have f3 := b3.frozen
    have HP := Lib.hid hp
    clear hp
    by_cases hx : x.2 = s
    · have hx' : (x.2.toList == s.toList) = true := by rw [hx]; simp
      have HX := Lib.hid hx
      clear hx
      gi_wp2
      exact ⟨((KeepsOthers.setCell _ _ _).from _).trans ((KeepsOthers.setCell _ _ _).from _), ⟨rfl, pre, x, rfl, HP.out, HX.out, (b2.set _).other (by omega) _, (b3.other (by omega) _).set _⟩, (hB1.setCell (p := ⟨w.heap.size + 1, 0, none⟩) (by simp) _).setCell (p := ⟨w.heap.size + 1 + 1, 0, none⟩) (by simp; omega) _⟩
    · have hx' : (x.2.toList == s.toList) = false := by rw [ByteArray.toList_eq, ByteArray.toList_eq]; exact beq_eq_false_iff_ne.2 (fun e => hx (by cases hxx : x.2; cases s; simp_all [Array.ext_iff]))
      have HX := Lib.hid hx
      clear hx
      gi_wp2
      exact ⟨KeepsFrom.refl _ _, KeepC.refl _ _ _, ⟨fun p hp => (List.mem_append.1 hp).elim (HP.out p) (fun e => by rw [List.mem_singleton.1 e]; exact HX.out), b1, b2, b3⟩, hB1⟩
  case done =>
    rintro D ys W hD rfl ⟨⟨hp, b1, b2, b3⟩, hB1⟩ hK
    have HN := Lib.hid (byM_no hp)
    have c2 := b2.cell
    have f2 := b2.frozen
    have c3 := b3.cell
    have f3 := b3.frozen
    clear hp
    gi_wp2
    have hK1 := (KeepsOthers.setCell W ⟨w.heap.size + 1, 0, none⟩ (.int .i64 0)).same D _ hK rfl
    have hK' := (KeepsOthers.setCell (W.setCell ⟨w.heap.size + 1, 0, none⟩ (.int .i64 0)) ⟨w.heap.size + 1 + 1, 0, none⟩ (.bool false)).same D _ hK1 rfl
    refine ⟨by simp, .inl ⟨_, _, rfl, run_takeDeferred hK', ?_⟩⟩
    have hc5 := (boxed_put ((b2.set (.int .i64 0)).other (B' := w.heap.size + 1 + 1) (by omega) (.bool false)) hK' rfl (.deferred none)).cell
    have hc6 := (boxed_put ((b3.other (B' := w.heap.size + 1) (by omega) (.int .i64 0)).set (.bool false)) hK' rfl (.deferred none)).cell
    refine ⟨.tuple #[.int .i64 0, .bool false], ?_, by rw [HN.out], ((hB1.setCell (p := ⟨w.heap.size + 1, 0, none⟩) (by simp) _).setCell (p := ⟨w.heap.size + 1 + 1, 0, none⟩) (by simp; omega) _).trans (belowK_b (w := w) (Nat.le_refl _) _ D _ _ (by omega) hK' rfl rfl)⟩
    simp [results, Tryd.f14, go_sem, hc5, hc6]
  case stop =>
    rintro D c pre W hD hpre ⟨⟨rfl, q, x, rfl, hq, hx, b2, b3⟩, hB1⟩ hK
    obtain ⟨r, hr⟩ := hpre
    have HN := Lib.hid (byM_pre (s := s) (q := q) (r := r) (x := x) (by rw [← hr]; simp) hq hx)
    clear hr hq hx
    gi_wp2
    refine ⟨by simp, .inl ⟨_, _, rfl, run_takeDeferred hK, ?_⟩⟩
    have hc5 := (boxed_put b2 hK rfl (.deferred none)).cell
    have hc6 := (boxed_put b3 hK rfl (.deferred none)).cell
    refine ⟨.tuple #[.int .i64 x.1, .bool true], ?_, by rw [HN.out], hB1.trans (belowK_b (w := w) (Nat.le_refl _) W D _ _ (by omega) hK rfl rfl)⟩
    simp [results, Tryd.f14, go_sem, hc5, hc6]
theorem By_any (mx : Int) (s : ByteArray) (w : World) (hm : w.cell? ⟨0, 0, none⟩ = some (.int .i64 mx)) : Calls Tryd.prog 14 #[.string s] w fun e W' => e = .returned (.tuple #[.int .i64 (byM s).1, .bool (byM s).2]) ∧ Below w.heap.size w W' :=
  (callsIn_wide (n := 6)).1 (By_in Fence.wide rfl (fun _ => trivial) rfl (fun f args m W R h => callsIn_wide.2 h) 6 (Nat.le_refl _) mx s w hm)
def opFact (p : Int × ByteArray) : Prop := (nameM p.1 = p.2 ∧ byM p.2 = (p.1, true)) ∧ (0 < p.2.size ∧ p.2.size ≤ 100) ∧ (0 ≤ p.1 ∧ p.1 < 192 ∨ 64512 ≤ p.1 ∧ p.1 < 64520)
instance (p : Int × ByteArray) : Decidable (opFact p) := by unfold opFact; infer_instance
set_option maxRecDepth 100000 in
theorem opFacts : ∀ p ∈ opAll, opFact p := by decide +kernel
theorem nameM_mem {y : Int} (h : 0 < (nameM y).size) : (y, nameM y) ∈ opAll := by
  cases hf : opAll.find? (fun p => p.1 == y) with
  | none => rw [nameM, hf] at h; exact absurd h (by decide)
  | some p =>
    have h1 : p.1 = y := by simpa using List.find?_some hf
    have h2 : nameM y = p.2 := by rw [nameM, hf]; rfl
    rw [h2, ← h1]
    exact List.mem_of_find?_eq_some hf
theorem byM_of_name {y : Int} {s : ByteArray} (hs : 0 < s.size) (h : nameM y = s) : byM s = (y, true) := by
  have := nameM_mem (y := y) (by rw [h]; exact hs)
  rw [h] at this
  exact (opFacts _ this).1.2
theorem name_of_byM {x : Int} {s : ByteArray} (h : byM s = (x, true)) : nameM x = s ∧ 0 < s.size ∧ (0 ≤ x ∧ x < 192 ∨ 64512 ≤ x ∧ x < 64520) := by
  cases hf : opAll.find? (fun p => decide (p.2 = s)) with
  | none => rw [byM, hf] at h; cases h
  | some p =>
    have h1 : p.2 = s := by simpa using List.find?_some hf
    have h2 : x = p.1 := by rw [byM, hf] at h; exact (Prod.mk.inj h).1.symm
    have := opFacts _ (List.mem_of_find?_eq_some hf)
    rw [h2, ← h1]
    exact ⟨this.1.1, this.2.1.1, this.2.2⟩
end Go.Proofs.YtfndlpfceokloaaDoor
