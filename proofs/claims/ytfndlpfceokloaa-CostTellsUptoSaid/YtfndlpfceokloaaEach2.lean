/- Lemmas towards this claim's statement: what the functions named here come to, each under the conditions that it states itself. -/
import Derived.Test.YtfndlpfceokloaaEach
namespace Go.Proofs.Ytfndlpfceokloaa
open Go.RowKit Go.Shelf YtfndlpfceokloaaB Go.Proofs.YtfndlpfceokloaaW.PrintWords
attribute [local go_sem] Oper.semAt_some
set_option maxHeartbeats 1000000 in
theorem each1_in (F : Fence) (hd : F.depth = none) (n : Nat) (hF1 : F.fn 99) (hF : F.fn 100) (hro : F.round = none) (l Bt n1 : Nat) (w0 : World) (hn1 : w0.heap.size ≤ n1) (A : Option Addr) (c : Nat) (ls : List Ins) (hls : bkL ls ≤ 4611686018427387904) (J Jx : List (EachX kI w0) → World → Prop)
    (hA : ∀ pre W o, J pre W → J pre (W.alloc o))
    (hY : ∀ pre (x : EachX kI w0) W, J pre W → pre.length < (eachL 0 ls).length → YieldAt F (n - 1) Try.prog l x.enc W fun e W' =>
      (e = .returned (.bool true) ∧ J (pre ++ [x]) W' ∧ KeepC w0.heap.size n1 W W') ∨ (e = .returned (.bool false) ∧ Jx (pre ++ [x]) W'))
    (W : World) (hBt : W.cell? ⟨Bt, 0, none⟩ = some (.slice A ls.length c)) (hC : kI.C w0 A ls.length ls) (hB : Below w0.heap.size w0 W) (hnW : n1 ≤ W.heap.size) (h0 : J [] W) :
    CallsIn F n Try.prog 99 #[.func (.yield l) #[] #[], .pointer (some ⟨Bt, 0, none⟩)] W fun e W' => (∃ v, e = .returned v) ∧
      ((∃ ys : List (EachX kI w0), ys.map EachX.dx = eachL 0 ls ∧ J ys W') ∨ (∃ pre : List (EachX kI w0), pre.map EachX.dx <+: eachL 0 ls ∧ Jx pre W')) := by
  have hdd : ∀ k : Nat, (F.depth.isSome = true → 1 ≤ k) := fun k h => by rw [hd] at h; cases h
  have hp := Lib.hid (each_in F hd hF hro l (eachL 0 ls).length n1 w0 hn1 J Jx hA (fun m pre x W hj hl => anyDepth hd m (hY pre x W hj hl)) (bkL ls) ls (Nat.le_refl _) (n - 1) 0 A c [] W (Int.le_refl _) (by omega) hC hB hnW h0 (by simp))
  refine callsIn_of_wp Try.func99 rfl hF1 ?_ hro
  simp only [Try.ntmps99, List.size_toArray, List.length_cons, List.length_nil, Nat.reduceAdd, Nat.reduceSub, Array.replicate_succ, Array.replicate_zero, List.push_toArray, List.append_toArray, List.nil_append, List.cons_append]
  gi_wp2_with ((try refine ⟨hdd _, ?_⟩); gi_at_call 100; refine hp.out.mono ?_; clear hp; rintro e W1 (⟨rfl, ys, hm, hJ1, _⟩ | ⟨rfl, q, hq, hx⟩))
  · go_end0
    exact ⟨⟨_, rfl⟩, .inl ⟨ys, hm, by simpa using hJ1⟩⟩
  · go_end0
    exact ⟨⟨_, rfl⟩, .inr ⟨q, hq, by simpa using hx⟩⟩
theorem Each_in (F : Fence) (n : Nat) (hF : F.fn 65) (hro : F.round = none) (v : Value) (hv : ∃ A m c, v = .slice A m c) (w : World) :
    CallsIn F n Try.prog 65 #[v] w fun e w' => e = .returned (.func (.func 99) #[] #[.pointer (some ⟨w.heap.size, 0, none⟩)]) ∧ w' = w.alloc (.cells #[v] 52) := by
  obtain ⟨A, m, c, rfl⟩ := hv
  refine callsIn_of_wp Try.func65 rfl hF ?_ hro
  simp only [Try.ntmps65, List.size_toArray, List.length_cons, List.length_nil, Nat.reduceAdd, Nat.reduceSub, Array.replicate_succ, Array.replicate_zero, List.push_toArray, List.append_toArray, List.nil_append, List.cons_append]
  gi_wp2
  go_ret
  exact ⟨rfl, rfl⟩
end Go.Proofs.Ytfndlpfceokloaa
