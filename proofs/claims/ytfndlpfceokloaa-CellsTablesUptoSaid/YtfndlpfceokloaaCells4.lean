/- Lemmas towards this claim's statement: what the functions named here come to, each under the conditions that it states itself. -/
import Derived.Test.YtfndlpfceokloaaCells3
import Derived.Test.YtfndlpfceokloaaOpen
namespace Go.Proofs.Ytfndlpfceokloaa
open Go.RowKit YtfndlpfceokloaaB Go.Proofs.YtfndlpfceokloaaW.PrintWords
abbrev COp := Int × Int × Int × Int × List Int × Unit
def kCOp : Kd COp := Kd.pair (rng .i64) (Kd.pair (rng .i64) (Kd.pair (rng .u32) (Kd.pair (rng .u64) (Kd.pair (Kd.slice 3 (rng .i64)) knil))))
def bCOp (x : COp) : Nat := x.2.2.2.2.1.length
theorem opens_COp (n : Nat) : OpensAt Try.prog 26 kCOp bCOp (n + 2) := by
  refine opens_bk (opens_struct (fs := _) Try.underlying26 (by kernel_rfl) (opens_cons rfl (opens_int .i64 Try.underlying3 (by kernel_rfl) _) (opens_cons rfl (opens_int .i64 Try.underlying3 (by kernel_rfl) _)
    (opens_cons rfl (opens_int .u32 Try.underlying22 (by kernel_rfl) _) (opens_cons rfl (opens_int .u64 Try.underlying24 (by kernel_rfl) _)
    (opens_cons rfl (opens_slice (n := n) Try.underlying23 (by kernel_rfl) (opens_int .i64 Try.underlying3 (by kernel_rfl) _)) (opens_nil _ _))))))) ?_
  intro a
  show a.2.2.2.2.1.length ≤ _
  have := sum_ones a.2.2.2.2.1
  simp only [this]
  omega
theorem COp_open {w : World} {x : COp} {cs : List Value} (h : kCOp.K w x cs) : ∃ A c, cs = [.int .i64 x.1, .int .i64 x.2.1, .int .u32 x.2.2.1, .int .u64 x.2.2.2.1, .slice A x.2.2.2.2.1.length c] ∧
    (-9223372036854775808 ≤ x.2.1 ∧ x.2.1 ≤ 9223372036854775807) ∧ (0 ≤ x.2.2.1 ∧ x.2.2.1 ≤ 4294967295) ∧ (0 ≤ x.2.2.2.1 ∧ x.2.2.2.1 ≤ 18446744073709551615) ∧ (rng .i64).C w A x.2.2.2.2.1.length x.2.2.2.2.1 := by
  obtain ⟨c0, c1, rfl, ⟨rfl, _⟩, c2, c3, rfl, ⟨rfl, h2⟩, c4, c5, rfl, ⟨rfl, h3⟩, c6, c7, rfl, ⟨rfl, h4⟩, c8, c9, rfl, ⟨A, c, rfl, hl, hC⟩, rfl⟩ := h
  exact ⟨A, c, rfl, by simpa [Lit.wf, IntKind.min, IntKind.max, IntKind.signed, IntKind.bits] using h2, by simpa [Lit.wf, IntKind.min, IntKind.max, IntKind.signed, IntKind.bits] using h3, by simpa [Lit.wf, IntKind.min, IntKind.max, IntKind.signed, IntKind.bits] using h4, hC⟩
def fewC (xs : List COp) (most : Int) : Bool := xs.all (fun x => decide (x.2.2.2.2.1.length ≤ 50)) && decide (xs.length ≤ most)
set_option maxHeartbeats 1000000 in
theorem few26_any (A : Option Addr) (c : Nat) (xs : List COp) (most : Int) (w : World) (hr : kCOp.C w A xs.length xs) (hl : xs.length ≤ 1048576) :
    Calls Try.prog 18 #[.slice A xs.length c, .int .i64 most] w fun e w' => e = .returned (.bool (fewC xs most)) ∧ Below w.heap.size w w' := by
  go_enter Try.func18, Try.ntmps18
  go_wp2_with fail
  go_loopw [9] (fun k wr => ∃ j : Nat, j ≤ xs.length ∧ k = .int .i64 j ∧ Hid (∀ x ∈ xs.take j, x.2.2.2.2.1.length ≤ 50) ∧ Below w.heap.size w wr) (fun k _ => xs.length - (intOf k).toNat)
  case atStart => exact ⟨0, Nat.zero_le _, rfl, by intro x hx; simp at hx, Below.refl _ _⟩
  case round =>
    obtain ⟨j, hj, rfl, hpos, hB⟩ := hrel
    have hsz := hB.size
    by_cases hlt : j < xs.length
    · obtain ⟨b, o, x, cs, rfl, hx, hk, hc⟩ := C_at (Kd.C_below hr hB) (by decide) j hlt
      obtain ⟨A2, c2, rfl, _, _, _, hC⟩ := COp_open hk
      have c0 := hc 0 _ rfl
      have c1 := hc 1 _ rfl
      have c2 := hc 2 _ rfl
      have c3 := hc 3 _ rfl
      have c4 := hc 4 _ rfl
      have hz : kCOp.sz = 5 := rfl
      simp only [hz, Nat.add_zero] at c0 c1 c2 c3 c4
      clear hc hk hz
      have hblt : b < wr.heap.size := World.block_lt_of_cell? _ _ c0
      by_cases h50 : x.2.2.2.2.1.length ≤ 50
      · have hpos2 : Hid (∀ x ∈ xs.take (j + 1), x.2.2.2.2.1.length ≤ 50) := take_all_succ hpos.out hx.out h50
        go_wp2
        go_roundw
        case rel => exact ⟨j + 1, by omega, by go_num, hpos2, hB.alloc hsz _⟩
        case measure => simp [intOf]; omega
      · have HF := Lib.hid (show fewC xs most = false from by
          unfold fewC
          rw [Bool.and_eq_false_iff]; left
          rw [Bool.eq_false_iff]; intro hal
          have := List.all_eq_true.1 hal x (List.mem_of_getElem? hx.out)
          simp at this; omega)
        go_wp2
        go_ret
        exact ⟨by rw [HF.out]; rfl, hB.alloc hsz _⟩
    · obtain rfl : j = xs.length := by omega
      have HF := Lib.hid (show fewC xs most = decide ((xs.length : Int) ≤ most) from by
        unfold fewC
        rw [List.all_eq_true.2 (fun x hx => by have := hpos.out x (by rw [List.take_of_length_le (Nat.le_refl _)]; exact hx); simpa using this), Bool.true_and])
      go_wp2
      go_ret
      exact ⟨by rw [HF.out]; rfl, hB⟩
end Go.Proofs.Ytfndlpfceokloaa
