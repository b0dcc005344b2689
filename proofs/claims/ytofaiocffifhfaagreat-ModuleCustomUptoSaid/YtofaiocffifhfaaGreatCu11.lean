/- Lemmas towards this claim's statement: what the functions named here come to, each under the conditions that it states itself. -/
import Derived.Test.YtofaiocffifhfaaGreatCu10
import Derived.Laws.Tables
import Derived.Deep.RegionHeld
import Derived.Defers
section
namespace Go.Proofs.YtofaiocffifhfaaGreat
open Go.RowKit Go.Shelf YtofaiocffifhfaaGreatB Go.Proofs.YtofaiocffifhfaaGreatW.PrintWords
def EqPost (W : World) (E : Ending) (w' : World) : Prop := E = .returned (.bool true) ∧ ∃ m, w' = W.drewN m
theorem FC.two {α : Type} {d : Kd α} {W : World} {ok1 ok2 : Nat → Prop} {A1 A2 : Option Addr} {xs : List α} (h1 : FC d W ok1 A1 xs) (h2 : FC d W ok2 A2 xs) (hs : 0 < d.sz) (i : Nat) (hi : i < xs.length) :
  ∃ b1 o1 b2 o2 x cs1 cs2, A1 = some ⟨b1, o1, none⟩ ∧ A2 = some ⟨b2, o2, none⟩ ∧ Hid (xs[i]? = some x) ∧ FK d W ok1 x cs1 ∧ FK d W ok2 x cs2 ∧
   (∀ j u, cs1[j]? = some u → W.cell? ⟨b1, o1 + i * d.sz + j, none⟩ = some u) ∧ (∀ j u, cs2[j]? = some u → W.cell? ⟨b2, o2 + i * d.sz + j, none⟩ = some u) := by
 obtain ⟨b1, o1, x, cs1, rfl, hx, hk1, hc1⟩ := FC.at_ h1 hs i hi
 obtain ⟨b2, o2, y, cs2, rfl, hy, hk2, hc2⟩ := FC.at_ h2 hs i hi
 obtain rfl : x = y := by have := hx.out.symm.trans hy.out; injection this
 exact ⟨b1, o1, b2, o2, x, cs1, cs2, rfl, rfl, hx, hk1, hk2, hc1, hc2⟩
theorem ft_openC {W : World} {ok : Nat → Prop} {x : List Int × List Int} {cs : List Value} (h : FK kFt W ok x cs) : ∃ A c A' c', cs = [.slice A x.1.length c, .slice A' x.2.length c'] ∧ (rng .u8).C W A x.1.length x.1 ∧ (rng .u8).C W A' x.2.length x.2 := by
 obtain ⟨_, _, rfl, ⟨A, c, rfl, _, h1⟩, _, _, rfl, ⟨A', c', rfl, _, h2⟩, rfl⟩ := h.now
 exact ⟨A, c, A', c', rfl, h1, h2⟩
set_option maxRecDepth 100000 in
set_option maxHeartbeats 1000000 in
theorem samePlaces_eq (W : World) (A1 A2 : Option Addr) (c1 c2 : Nat) (xs : List Int) (h1 : RdI W .u32 A1 xs) (h2 : RdI W .u32 A2 xs) :
  Calls Tryz.prog 29 #[.slice A1 xs.length c1, .slice A2 xs.length c2] W (EqPost W) := by
 have H1 := Lib.hid h1
 have H2 := Lib.hid h2
 have hl := h1.1
 clear h1 h2
 go_enter Tryz.func29, Tryz.ntmps29
 go_wp2_with fail
 go_loopw [5] (fun i wr => ∃ (j m : Nat), j ≤ xs.length ∧ i = .int .i64 j ∧ wr = W.drewN m) (fun i _ => xs.length - (intOf i).toNat)
 case atStart => exact ⟨0, 0, Nat.zero_le _, rfl, rfl⟩
 case round =>
  obtain ⟨j, m, hj, rfl, rfl⟩ := hrel
  by_cases hlt : j < xs.length
  ·have hlt2 : (j : Int) < (xs.length : Int) := by omega
   obtain ⟨b1, o1, x, rfl, hc1, hx1⟩ := H1.out.get j hlt
   obtain ⟨b2, o2, y, rfl, hc2, hx2⟩ := H2.out.get j hlt
   obtain rfl : x = y := by have := hx1.out.symm.trans hx2.out; injection this
   have hb1 := World.block_lt_of_cell? _ _ hc1
   have hb2 := World.block_lt_of_cell? _ _ hc2
   clear hx1 hx2
   go_wp2_with fail
   go_quiet (fail)
   go_wp2_with fail
   go_roundw
   case rel => exact ⟨j + 1, _, by omega, by go_num, rfl⟩
   case measure => simp [intOf]; omega
  ·have hlt2 : ¬ (j : Int) < (xs.length : Int) := by omega
   clear hlt
   go_wp2_with fail
   go_ret
   exact ⟨rfl, m, rfl⟩
set_option maxRecDepth 100000 in
set_option maxHeartbeats 1000000 in
theorem sameLimits_eq (W : World) (A1 A2 : Option Addr) (c1 c2 : Nat) (xs : List (Int × Int × Bool)) (ok1 ok2 : Nat → Prop) (h1 : FC kLim W ok1 A1 xs) (h2 : FC kLim W ok2 A2 xs) (hl : xs.length ≤ 1048576) :
  Calls Tryz.prog 27 #[.slice A1 xs.length c1, .slice A2 xs.length c2] W (EqPost W) := by
 have H1 := Lib.hid h1
 have H2 := Lib.hid h2
 clear h1 h2
 go_enter Tryz.func27, Tryz.ntmps27
 go_wp2_with fail
 go_loopw [5] (fun i wr => ∃ (j m : Nat), j ≤ xs.length ∧ i = .int .i64 j ∧ wr = W.drewN m) (fun i _ => xs.length - (intOf i).toNat)
 case atStart => exact ⟨0, 0, Nat.zero_le _, rfl, rfl⟩
 case round =>
  obtain ⟨j, m, hj, rfl, rfl⟩ := hrel
  by_cases hlt : j < xs.length
  ·have hlt2 : (j : Int) < (xs.length : Int) := by omega
   obtain ⟨b1, o1, b2, o2, x, cs1, cs2, rfl, rfl, hx, hk1, hk2, hc1, hc2⟩ := FC.two H1.out H2.out (show 0 < 3 by decide) j hlt
   obtain rfl := lim_open hk1
   obtain rfl := lim_open hk2
   have hz : kLim.sz = 3 := rfl
   have d0 := hc1 0 _ rfl
   have d1 := hc1 1 _ rfl
   have d2 := hc1 2 _ rfl
   have e0 := hc2 0 _ rfl
   have e1 := hc2 1 _ rfl
   have e2 := hc2 2 _ rfl
   simp only [hz, Nat.add_zero] at d0 d1 d2 e0 e1 e2
   have hb1 := World.block_lt_of_cell? _ _ d0
   have hb2 := World.block_lt_of_cell? _ _ e0
   clear hx hk1 hk2 hc1 hc2
   go_wp2_with fail
   go_quiet (fail)
   go_wp2_with fail
   go_roundw
   case rel => exact ⟨j + 1, _, by omega, by go_num, rfl⟩
   case measure => simp [intOf]; omega
  ·have hlt2 : ¬ (j : Int) < (xs.length : Int) := by omega
   clear hlt
   go_wp2_with fail
   go_ret
   exact ⟨rfl, m, rfl⟩
set_option maxRecDepth 100000 in
set_option maxHeartbeats 1000000 in
theorem sameTypes_eq (W : World) (A1 A2 : Option Addr) (c1 c2 : Nat) (xs : List (List Int × List Int)) (ok1 ok2 : Nat → Prop) (h1 : FC kFt W ok1 A1 xs) (h2 : FC kFt W ok2 A2 xs) (hl : xs.length ≤ 1048576) (hb : ∀ x ∈ xs, x.1.length ≤ 1048576 ∧ x.2.length ≤ 1048576) :
  Calls Tryz.prog 25 #[.slice A1 xs.length c1, .slice A2 xs.length c2] W (EqPost W) := by
 have H1 := Lib.hid h1
 have H2 := Lib.hid h2
 have HB := Lib.hid hb
 clear h1 h2 hb
 go_enter Tryz.func25, Tryz.ntmps25
 go_wp2_with fail
 go_loopw [5] (fun i wr => ∃ (j m : Nat), j ≤ xs.length ∧ i = .int .i64 j ∧ wr = W.drewN m) (fun i _ => xs.length - (intOf i).toNat)
 case atStart => exact ⟨0, 0, Nat.zero_le _, rfl, rfl⟩
 case round =>
  obtain ⟨j, m, hj, rfl, rfl⟩ := hrel
  by_cases hlt : j < xs.length
  ·have hlt2 : (j : Int) < (xs.length : Int) := by omega
   obtain ⟨b1, o1, b2, o2, x, cs1, cs2, rfl, rfl, hx, hk1, hk2, hc1, hc2⟩ := FC.two H1.out H2.out (show 0 < 2 by decide) j hlt
   obtain ⟨P1, p1, Q1, q1, rfl, g1, g2⟩ := ft_openC hk1
   obtain ⟨P2, p2, Q2, q2, rfl, g3, g4⟩ := ft_openC hk2
   obtain ⟨l1, l2⟩ := HB.out x (List.mem_of_getElem? hx.out)
   have k1 : ∀ m, (convert 22 9 (.slice P1 x.1.length p1)).run Tryz.prog (W.drewN m) = .ok (.string (strOfNums x.1)) (W.drewN m) := fun m => conv_str _ P1 x.1 p1 (rdI_drewN (C_rdI g1 (by omega)) m)
   have k2 : ∀ m, (convert 22 9 (.slice Q1 x.2.length q1)).run Tryz.prog (W.drewN m) = .ok (.string (strOfNums x.2)) (W.drewN m) := fun m => conv_str _ Q1 x.2 q1 (rdI_drewN (C_rdI g2 (by omega)) m)
   have k3 : ∀ m, (convert 22 9 (.slice P2 x.1.length p2)).run Tryz.prog (W.drewN m) = .ok (.string (strOfNums x.1)) (W.drewN m) := fun m => conv_str _ P2 x.1 p2 (rdI_drewN (C_rdI g3 (by omega)) m)
   have k4 : ∀ m, (convert 22 9 (.slice Q2 x.2.length q2)).run Tryz.prog (W.drewN m) = .ok (.string (strOfNums x.2)) (W.drewN m) := fun m => conv_str _ Q2 x.2 q2 (rdI_drewN (C_rdI g4 (by omega)) m)
   have hz : kFt.sz = 2 := rfl
   have d0 := hc1 0 _ rfl
   have d1 := hc1 1 _ rfl
   have e0 := hc2 0 _ rfl
   have e1 := hc2 1 _ rfl
   simp only [hz, Nat.add_zero] at d0 d1 e0 e1
   have hb1 := World.block_lt_of_cell? _ _ d0
   have hb2 := World.block_lt_of_cell? _ _ e0
   clear hx hk1 hk2 hc1 hc2 g1 g2 g3 g4 l1 l2
   go_wp2_with fail
   go_quiet (fail)
   go_wp2_with fail
   go_roundw
   case rel => exact ⟨j + 1, _, by omega, by go_num, rfl⟩
   case measure => simp [intOf]; omega
  ·have hlt2 : ¬ (j : Int) < (xs.length : Int) := by omega
   clear hlt
   go_wp2_with fail
   go_ret
   exact ⟨rfl, m, rfl⟩
end Go.Proofs.YtofaiocffifhfaaGreat
end
section
namespace Go.Proofs.YtofaiocffifhfaaGreatB
open Go.RowKit Go.Proofs.YtofaiocffifhfaaGreatW.PrintWords
section
variable {P : Program} {ops : Array Oper} {rest : List Oper} {o : Oper} {a : Act} {Q : Exit → Act → World → Prop} {W : World}
end
end Go.Proofs.YtofaiocffifhfaaGreatB
end
section
namespace Go.Proofs.YtofaiocffifhfaaGreatB
open Go
section
variable {P : Program} {ops : Array Oper} {Q : Exit → Act → World → Prop} {md : Region.Mode} {S : World → Prop} {fin : Nat → Bool}
def AnyE (P : Program) (md : Region.Mode) (ops : Array Oper) (Q : Exit → Act → World → Prop) (S : World → Prop) (fin : Nat → Bool) : Nat → Array Bool → Act → World → Prop
 | 0, listed, a, w => Region.ready md ops listed = [] ∧ Q .normal a w
 | n + 1, listed, a, w => (Region.ready md ops listed = [] → Q .normal a w) ∧
  ∀ i ∈ Region.ready md ops listed, wpOp P ops Q i (fun a' w' => (fin i = false → S w') ∧ AnyE P md ops Q S fin n (listed.setIfInBounds i true) a' w') a w
theorem anyE_any : ∀ (n : Nat) (listed : Array Bool) (a : Act) (w : World), AnyE P md ops Q S fin n listed a w → wpAny P md ops Q n listed a w
 | 0, _, _, _, h => h
 | n + 1, _, _, _, h => ⟨h.1, fun i hi => wpOp_mono (fun a' w' h' => anyE_any n _ a' w' h'.2) (h.2 i hi)⟩
def waits (md : Region.Mode) (ops : Array Oper) (fin : Nat → Bool) (i : Nat) : Bool :=
 (List.range ops.size).all fun j => !fin j || (match ops[j]? with | some o => o.after.any (fun e => Region.binds md e && e.on == i) | none => true)
theorem waits_spec {i j : Nat} {oj : Oper} (h : waits md ops fin i = true) (hj : ops[j]? = some oj) (hf : fin j = true) : ∃ e ∈ oj.after, Region.binds md e = true ∧ e.on = i := by
 have hlt : j < ops.size := (Array.getElem?_eq_some_iff.1 hj).1
 have h1 := List.all_eq_true.1 h j (by simpa using hlt)
 rw [hj, hf] at h1
 simp only [Bool.not_true, Bool.false_or, Array.any_eq_true'] at h1
 obtain ⟨e, he, hb⟩ := h1
 simp only [Bool.and_eq_true, beq_iff_eq] at hb
 exact ⟨e, he, hb⟩
theorem anyE_first {i : Nat} {oi : Oper} {v : Value} (hi : ops[i]? = some oi) (hsel : ∀ (j : Nat) (o : Oper) cs b, ops[j]? = some o → o.op ≠ .select cs b)
  (hQ : ∀ c a w, Q (.panic c) (a.put oi.dst v) w → Q (.panic c) a w) (hwt : waits md ops fin i = true) :
  ∀ (n : Nat) (listed : Array Bool) (a : Act) (w : World),
   (∀ j oj, ops[j]? = some oj → j ≠ i → listed.getD j true = false → (∀ e ∈ oj.after, Region.binds md e = true → e.on ≠ i) → oi.apart ops oj = true) →
   i ∈ Region.ready md ops listed → YieldsIf P ops S oi v a → S w →
   AnyE P md ops Q S fin n (listed.setIfInBounds i true) (a.put oi.dst v) w → AnyE P md ops Q S fin (n + 1) listed a w := by
 intro n
 induction n with
 | zero =>
  intro listed a w _ hr hy hS H
  refine ⟨fun h => (by rw [h] at hr; cases hr), fun j hj => ?_⟩
  by_cases e : j = i
  ·subst e; exact hy.wpOp hi hS ⟨fun _ => hS, H⟩
  ·have h1 := ready_mono hj e
   rw [H.1] at h1
   cases h1
 | succ n ih =>
  intro listed a w hfree hr hy hS H
  refine ⟨fun h => (by rw [h] at hr; cases hr), fun j hj => ?_⟩
  by_cases e : j = i
  ·subst e; exact hy.wpOp hi hS ⟨fun _ => hS, H⟩
  ·have h1 := H.2 j (ready_mono hj e)
   obtain ⟨hun, oj, hoj, hall⟩ := mem_ready.1 hj
   have hnot : ∀ d ∈ oj.after, Region.binds md d = true → d.on ≠ i := fun d hd hb heq => by
    have g1 := hall d hd hb
    have g0 := (mem_ready.1 hr).1
    rw [heq] at g1
    rcases Nat.lt_or_ge i listed.size with h' | h'
    ·simp [h'] at g0 g1; rw [g0] at g1; cases g1
    ·simp [Array.getElem?_eq_none h'] at g1
   have hfj : fin j = false := by
    cases hf : fin j with
    | false => rfl
    | true =>
     obtain ⟨d, hd, hb, ho⟩ := waits_spec hwt hoj hf
     exact absurd ho (hnot d hd hb)
   have h2 := wpOp_putIf hoj (hfree j oj hoj e hun hnot) (fun cs b => hsel i oi cs b hi) (fun cs b => hsel j oj cs b hoj) hQ hy h1
   have hfree' : ∀ k ok, ops[k]? = some ok → k ≠ i → (listed.setIfInBounds j true).getD k true = false →
     (∀ d ∈ ok.after, Region.binds md d = true → d.on ≠ i) → oi.apart ops ok = true := fun k ok hk hki hn hno => by
    refine hfree k ok hk hki ?_ hno
    by_cases hjk : j = k
    ·subst hjk; exact hun
    ·rw [getD_set_ne true hjk] at hn; exact hn
   refine wpOp_mono (fun a' w' h3 => ⟨fun _ => h3.2.1 hfj, ih (listed.setIfInBounds j true) a' w' hfree' (ready_mono hr (Ne.symm e)) h3.1 (h3.2.1 hfj) ?_⟩) h2
   rw [Array.setIfInBounds_comm _ _ e]
   exact h3.2.2
theorem anyE_take {i : Nat} {oi : Oper} {v : Value} {n : Nat} {listed : Array Bool} {a : Act} {w : World} (hi : ops[i]? = some oi)
  (hs : Region.noSelect ops = true) (hf : Region.free md ops listed i = true) (hr : (Region.ready md ops listed).contains i = true) (hwt : waits md ops fin i = true)
  (hQ : ∀ c a w, Q (.panic c) (a.put oi.dst v) w → Q (.panic c) a w) (hy : YieldsIf P ops S oi v a) (hS : S w)
  (h : AnyE P md ops Q S fin n (listed.setIfInBounds i true) (a.put oi.dst v) w) : AnyE P md ops Q S fin (n + 1) listed a w :=
 anyE_first hi (Region.noSelect_spec hs) hQ hwt n listed a w (Region.free_spec hi hf) (by simpa using hr) hy hS h
theorem anyE_one {i : Nat} {o : Oper} {n : Nat} {listed : Array Bool} {a : Act} {w : World} (hr : Region.ready md ops listed = [i]) (hi : ops[i]? = some o) (hn : fin i = false)
  (h : ∀ K' : Act → World → Prop, Shut (∀ a w, S w → (S w → AnyE P md ops Q S fin n (listed.setIfInBounds i true) a w) → K' a w) → if Region.wanted o (yielded ops a.tmps) = true then Oper.wp P o a w K' Q else K' (a.put o.dst undef) w) :
  AnyE P md ops Q S fin (n + 1) listed a w :=
 ⟨fun h => (by rw [hr] at h; cases h), fun j hj => by
  rw [hr] at hj
  obtain rfl := List.mem_singleton.1 hj
  exact wpOp_step hi (fun K' hK => h K' (fun a w hS hW => hK a w ⟨fun _ => hS, hW hS⟩))⟩
theorem anyE_fin {i : Nat} {o : Oper} {n : Nat} {listed : Array Bool} {a : Act} {w : World} (hr : Region.ready md ops listed = [i]) (hi : ops[i]? = some o) (hn : fin i = true)
  (h : ∀ K' : Act → World → Prop, Shut (∀ a w, AnyE P md ops Q S fin n (listed.setIfInBounds i true) a w → K' a w) → if Region.wanted o (yielded ops a.tmps) = true then Oper.wp P o a w K' Q else K' (a.put o.dst undef) w) :
  AnyE P md ops Q S fin (n + 1) listed a w :=
 ⟨fun h => (by rw [hr] at h; cases h), fun j hj => by
  rw [hr] at hj
  obtain rfl := List.mem_singleton.1 hj
  exact wpOp_step hi (fun K' hK => h K' (fun a w hW => hK a w ⟨fun e => (by rw [hn] at e; cases e), hW⟩))⟩
theorem anyE_done {listed : Array Bool} {a : Act} {w : World} (hr : Region.ready md ops listed = []) (h : Q .normal a w) : ∀ n, AnyE P md ops Q S fin n listed a w
 | 0 => ⟨hr, h⟩
 | _ + 1 => ⟨fun _ => h, fun i hi => (by rw [hr] at hi; cases hi)⟩
theorem region_anyE {id : Nat} {a : Act} {w : World} (S : World → Prop) (fin : Nat → Bool) (hm : P.follows .mixedOrders = true) (hS : S w.drew)
  (h : S w.drew → AnyE P .any ops Q S fin ops.size (Array.replicate ops.size false) a w.drew) : (Code.region id ops true).wp P Q a w :=
 wp_region_any hm (anyE_any _ _ _ _ (h hS))
end
end Go.Proofs.YtofaiocffifhfaaGreatB
end
