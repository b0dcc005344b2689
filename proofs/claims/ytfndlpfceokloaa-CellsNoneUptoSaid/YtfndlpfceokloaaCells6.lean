/- Lemmas towards this claim's statement: what the functions named here come to, each under the conditions that it states itself. -/
import Derived.Test.YtfndlpfceokloaaCells5
namespace Go.Proofs.Ytfndlpfceokloaa
open Go.RowKit YtfndlpfceokloaaB Go.Proofs.YtfndlpfceokloaaW.PrintWords
abbrev CGT := Int × Bool × Unit
def kCGT : Kd CGT := Kd.pair (rng .u8) (Kd.pair Kd.bool knil)
theorem opens_GlobalType (n : Nat) : OpensAt Try.prog 68 kCGT (fun _ => 1) (n + 1) :=
  opens_bk (opens_struct (fs := _) Try.underlying68 (by kernel_rfl) (opens_cons rfl (opens_int .u8 Try.underlying5 (by kernel_rfl) _) (opens_cons rfl (opens_bool Try.underlying4 (by kernel_rfl) _) (opens_nil _ _)))) (fun a => by simp)
theorem opens_U64s (n : Nat) : OpensAt Try.prog 76 (Kd.slice 24 (rng .u64)) (fun xs => xs.length) (n + 1) :=
  opens_bk (opens_slice Try.underlying76 (by kernel_rfl) (opens_int .u64 Try.underlying24 (by kernel_rfl) _)) (fun a => by have := sum_ones a; simp only [this]; omega)
theorem C_all {w : World} {k : IntKind} {A : Option Addr} {xs : List Int} (h : (rng k).C w A xs.length xs) : ∀ x ∈ xs, (Lit.int k x).wf = true := by
  intro x hx
  obtain ⟨i, hi, rfl⟩ := List.getElem_of_mem hx
  obtain ⟨b, o, y, cs, _, hy, ⟨_, hw⟩, _⟩ := C_at h Nat.one_pos i hi
  have := hy.out
  rw [List.getElem?_eq_getElem hi] at this
  injection this with this
  rw [this]; exact hw
theorem agg_of {cs : Array Value} {l : List Value} (h : (Value.agg cs).cells.toList = l) : cs = l.toArray := by
  simp only [Value.cells] at h
  rw [← h]
theorem cellsGlobals_walk (W : World) (a0 : CGT) (a1 : Int) (a2 : List Int) {c0 : Array Value} {n1 : Int} {A2 : Option Addr} {len2 cap2 : Nat} (h0 : kCGT.K W a0 (Value.agg c0).cells.toList) (h1 : (rng .u64).K W a1 (Value.int .u64 n1).cells.toList)
    (h2 : (Kd.slice 24 (rng .u64)).K W a2 (Value.slice A2 len2 cap2).cells.toList) (hb : a2.length ≤ 1048576) :
    Calls Try.prog 7 #[.agg c0, .int .u64 n1, .slice A2 len2 cap2] W fun e W' => e = .returned (.bool true) ∧ Below W.heap.size W W' := by
  obtain ⟨_, _, e0, ⟨rfl, _⟩, _, _, rfl, rfl, rfl⟩ := h0
  obtain rfl := agg_of e0
  obtain ⟨e1, hw1⟩ := h1
  simp [Value.cells] at e1
  subst e1
  obtain ⟨A, c, e2, hl, hC⟩ := h2
  simp [Value.cells] at e2
  obtain ⟨rfl, rfl, rfl⟩ := e2
  have w1 : 0 ≤ n1 ∧ n1 ≤ 18446744073709551615 := by simpa [Lit.wf, IntKind.min, IntKind.max, IntKind.signed, IntKind.bits] using hw1
  exact cellsGlobals_any _ _ _ (by omega) (by omega) _ _ a2 W (C_rdI hC (by omega)) (fun x hx => by
    have := C_all hC x hx
    have : 0 ≤ x ∧ x ≤ 18446744073709551615 := by simpa [Lit.wf, IntKind.min, IntKind.max, IntKind.signed, IntKind.bits] using this
    omega)
end Go.Proofs.Ytfndlpfceokloaa
