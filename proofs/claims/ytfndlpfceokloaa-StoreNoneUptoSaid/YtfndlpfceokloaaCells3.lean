/- Lemmas towards this claim's statement: what the functions named here come to, each under the conditions that it states itself. -/
import Derived.Test.YtfndlpfceokloaaCells2
namespace Go.Proofs.Ytfndlpfceokloaa
open Go.RowKit YtfndlpfceokloaaB Go.Proofs.YtfndlpfceokloaaW.PrintWords
theorem rdI_lit2 (w : World) (a b : Int) (t : TypeId) : RdI (w.alloc (.cells #[.int .i64 a, .int .i64 b] t)) .i64 (some ⟨w.heap.size, 0, none⟩) [a, b] := by
  refine ⟨by simp, fun _ => ⟨w.heap.size, 0, rfl, fun j x hj => ?_⟩⟩
  rw [(Blk.new w #[.int .i64 a, .int .i64 b] t).cell]
  match j, hj with
  | 0, h => simp at h; subst h; rfl
  | 1, h => simp at h; subst h; rfl
  | j + 2, h => simp at h
theorem IsTab.below {w w1 : World} {g p : Nat} {mn mx : Int} {has : Bool} {l : List (Bool × Int)} (h : IsTab w g p mn mx has l) (hb : Below w.heap.size w w1) : IsTab w1 g p mn mx has l :=
  ⟨Blk.below (w := w) h.hg hb (Blk.lt h.hg), Blk.below (w := w) h.hp hb (Blk.lt h.hp), h.hn⟩
theorem IsTab.grown {w w1 : World} {g p : Nat} {mn mx : Int} {has : Bool} {l : List (Bool × Int)} (h : IsTab w g p mn mx has l) {row : Option Nat} (hb : w.grownBy w1 row) (h1 : some g ≠ row) (h2 : some p ≠ row) : IsTab w1 g p mn mx has l :=
  ⟨Blk.grown (w := w) h.hg hb h1, Blk.grown (w := w) h.hp hb h2, h.hn⟩
set_option maxHeartbeats 1000000 in
theorem awake26_any (w : World) :
    Calls Try.prog 14 #[] w fun e w' => e = .returned (.bool true) ∧ Below w.heap.size w w' := by
  go_enter Try.func14, Try.ntmps14
  go_wp2_with fail
  refine (newTable_any 2 0 false (by decide) _).mono ?_
  rintro e w1 ⟨hB1, ⟨hne, _⟩ | ⟨_, g, p, rfl, hg1, hp1, ht⟩⟩
  · exact absurd (by decide) hne
  go_wp2_with fail
  refine (get_any g p 2 0 false _ 0 (by decide) _ ht).mono ?_
  rintro e w2 ⟨rfl, rfl⟩
  go_wp2_with fail
  refine (get_any g p 2 0 false _ 2 (by decide) _ ht).mono ?_
  rintro e w2 ⟨rfl, rfl⟩
  have e1 : (getF (List.replicate (2 : Int).toNat (false, 0)) 0).2 = 7 := by decide
  have e2 : (getF (List.replicate (2 : Int).toNat (false, 0)) 2).2 = 6 := by decide
  go_wp2_with fail
  have H1 := Lib.hid e1
  have H2 := Lib.hid e2
  clear e1 e2
  have ht2 := ht.below ((Below.refl _ _).alloc (Nat.le_refl _) (.cells #[.int .i64 5, .int .i64 6] 3))
  refine (set_any g p 2 0 false _ 1 (by decide) (by decide) _ 2 [5, 6] _ ht2 (rdI_lit2 _ _ _ _)).mono ?_
  rintro e w3 ⟨he, hg3, ht3⟩
  rw [show setOk (List.replicate (2 : Int).toNat (false, (0 : Int))).length 1 [5, 6] = false from by decide] at he ht3
  obtain rfl := he
  have hsz := hg3.size
  go_wp2_with fail
  have ht4 := ht3.below ((Below.refl _ _).alloc (Nat.le_refl _) (.cells #[.int .i64 5, .int .i64 6] 3))
  refine (set_any g p 2 0 false _ 0 (by decide) (by decide) _ 2 [5, 6] _ ht4 (rdI_lit2 _ _ _ _)).mono ?_
  rintro e w5 ⟨he, hg5, ht5⟩
  rw [show setOk (if false = true then setL (List.replicate (2 : Int).toNat (false, 0)) (1 : Int).toNat [5, 6] else List.replicate (2 : Int).toNat (false, (0 : Int))).length 0 [5, 6] = true from by decide] at he
  obtain rfl := he
  go_wp2_with fail
  go_ret
  refine ⟨rfl, ?_⟩
  have b3 : Below w.heap.size w w3 := (hB1.alloc hB1.size _).grown hg3 (by simp; have := hB1.size; omega) (by intro k hk; injection hk with hk; omega)
  exact (b3.alloc b3.size _).grown hg5 (by simp; have := b3.size; omega) (by intro k hk; injection hk with hk; omega)
end Go.Proofs.Ytfndlpfceokloaa
