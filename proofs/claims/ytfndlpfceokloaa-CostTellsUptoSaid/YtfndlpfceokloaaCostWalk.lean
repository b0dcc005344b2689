/- Lemmas towards this claim's statement: what the functions named here come to, each under the conditions that it states itself. -/
import Derived.Test.YtfndlpfceokloaaCostTells
namespace Go.Proofs.Ytfndlpfceokloaa
open Go.RowKit Go.Shelf YtfndlpfceokloaaB Go.Proofs.YtfndlpfceokloaaW.PrintWords
theorem below_drewN {w : World} (m : Nat) : Below w.heap.size w (w.drewN m) := ⟨rfl, rfl, rfl, Nat.le_refl _, fun _ _ => rfl⟩
theorem below_from {W0 W W' : World} (h : Below W0.heap.size W0 W) (h' : Below W.heap.size W W') : Below W0.heap.size W0 W' := h.trans (h'.mono h.size)
set_option maxRecDepth 100000 in
set_option maxHeartbeats 2000000 in
theorem costTells_go (b : Bool) (W : World) (l : List Ins) (A : Option Addr) (c : Nat) (hC : kI.C W A l.length l) (hbk : bkL l ≤ 1048576) (hb : knL l = b) :
    Calls Try.prog 5 #[.slice A l.length c] W (AwPost W) := by
  have F0 : FC kI W (fun k => k < W.heap.size) A l := FC.of_old hC
  have hF : ∀ X, Below W.heap.size W X → kI.C X A l.length l := fun X h => (F0.below h).now
  obtain ⟨m, hm⟩ : ∃ m : Int, m = (moL l : Int) := ⟨_, rfl⟩
  obtain ⟨n, hn⟩ : ∃ n : Int, n = if b then (coL l : Int) else 0 := ⟨_, rfl⟩
  have HFew := Lib.hid (fun X h => few38_any l hbk X A c (hF X h))
  have HPlain := Lib.hid (fun X h => plain_any _ l (Nat.le_refl _) hbk (fun k => k < X.heap.size) X A c (FC.of_old (hF X h)))
  have HOf := Lib.hid (fun X h => of_lit l n b hbk hb hn X A l.length c rfl (hF X h))
  have HMost := Lib.hid (show ∀ X, Below W.heap.size W X → Calls Try.prog 31 #[.slice A l.length c] X fun e W' => e = .returned (.int .i64 m) ∧ Below X.heap.size X W' from fun X h => by rw [hm]; exact Most_any l hbk A c X (hF X h))
  have HKnown := Lib.hid (show ∀ X A' c', kR.C X A' l.length l → Calls Try.prog 30 #[.slice A' l.length c'] X fun e W' => e = .returned (.bool b) ∧ X = W' from fun X A' c' h => by rw [← hb]; exact known_any _ l (Nat.le_refl _) hbk X A' c' h)
  have HRM := Lib.hid (show ∀ X A' c', kR.C X A' l.length l → Calls Try.prog 32 #[.slice A' l.length c'] X fun e W' => e = .returned (.int .i64 m) ∧ Below X.heap.size X W' from fun X A' c' h => by rw [hm]; exact (refMost_any _ l (Nat.le_refl _) hbk X A' c' h).mono (by rintro e W' ⟨rfl, k, rfl⟩; exact ⟨rfl, below_drewN k⟩))
  have HRC := Lib.hid (show b = true → ∀ X A' c', kR.C X A' l.length l → Calls Try.prog 33 #[.slice A' l.length c'] X fun e W' => e = .returned (.int .u64 n) ∧ ∃ k, W' = X.drewN k from fun ht X A' c' h => by
    rw [ht] at hn; rw [hn, if_pos rfl]; exact refCost_any _ l (Nat.le_refl _) hbk X A' c' h)
  have HN0 := Lib.hid (show b = false → n = 0 from fun h => by rw [hn, h]; rfl)
  clear hn hm hb hF F0 hC
  by_cases h2000 : fewN l ≤ 2000
  · have HFew2 := Lib.hid (show ∀ X, Below W.heap.size W X → Calls Try.prog 27 #[.slice A l.length c] X fun e W' => e = .returned (.bool true) ∧ Below X.heap.size X W' from fun X h => (HFew.out X h).mono (by rintro e W' ⟨rfl, h'⟩; exact ⟨by rw [decide_eq_true h2000], h'⟩))
    clear HFew h2000
    go_enter Try.func5, Try.ntmps5
    go_wp2_with fail
    refine (awake38_any _).mono ?_
    rintro e1 W1 ⟨rfl, hB1⟩
    go_wp2_with fail
    refine (HFew2.out _ hB1).mono ?_
    rintro e2 W2 ⟨rfl, h2⟩
    have hB2 := below_from hB1 h2
    clear h2 hB1
    go_wp2_with fail
    refine (HPlain.out _ hB2).mono ?_
    rintro e3 W3 ⟨h3, A', c', rfl, hle, hFr⟩
    have hB3 := below_from hB2 h3
    clear h3 hB2
    go_wp2_with fail
    refine (HOf.out _ hB3).mono ?_
    rintro e4 W4 ⟨rfl, h4⟩
    have hB4 := below_from hB3 h4
    have hR4 : ∀ X, Below W4.heap.size W4 X → kR.C X A' l.length l := fun X hX => (hFr.below (below_from h4 hX)).now
    clear h4 hB3 hFr
    have HR := Lib.hid hR4
    clear hR4
    go_wp2_with fail
    refine (HKnown.out _ _ _ (HR.out _ (Below.refl _ _))).mono ?_
    rintro e5 W5 ⟨rfl, rfl⟩
    cases b
    · have hz := HN0.out rfl
      subst hz
      go_wp2_with fail
      refine (HMost.out _ (by exact hB4)).mono ?_
      rintro e6 W6 ⟨rfl, h6⟩
      have hB6 := below_from hB4 h6
      go_wp2_with fail
      refine (HRM.out _ _ _ (HR.out _ (by exact h6))).mono ?_
      rintro e7 W7 ⟨rfl, h7⟩
      have hB7 := below_from hB6 h7
      have h47 := below_from h6 h7
      go_wp2_with fail
      go_ret
      exact ⟨rfl, hB7⟩
    · have HRC2 := Lib.hid (HRC.out rfl)
      clear HRC HN0
      go_wp2_with fail
      refine (HMost.out _ (by exact hB4)).mono ?_
      rintro e6 W6 ⟨rfl, h6⟩
      have hB6 := below_from hB4 h6
      go_wp2_with fail
      refine (HRM.out _ _ _ (HR.out _ (by exact h6))).mono ?_
      rintro e7 W7 ⟨rfl, h7⟩
      have hB7 := below_from hB6 h7
      have h47 := below_from h6 h7
      go_wp2_with fail
      refine (HRC2.out _ _ _ (HR.out _ (by exact h47))).mono ?_
      rintro e8 W8 ⟨rfl, k8, rfl⟩
      go_wp2_with fail
      go_ret
      exact ⟨by simp, hB7.trans ⟨rfl, rfl, rfl, Nat.le_refl _, fun _ _ => rfl⟩⟩
  · have HFew2 := Lib.hid (show ∀ X, Below W.heap.size W X → Calls Try.prog 27 #[.slice A l.length c] X fun e W' => e = .returned (.bool false) ∧ Below X.heap.size X W' from fun X h => (HFew.out X h).mono (by rintro e W' ⟨rfl, h'⟩; exact ⟨by rw [decide_eq_false h2000], h'⟩))
    clear HFew h2000 HPlain HOf HMost HKnown HRM HRC
    go_enter Try.func5, Try.ntmps5
    go_wp2_with fail
    refine (awake38_any _).mono ?_
    rintro e1 W1 ⟨rfl, hB1⟩
    go_wp2_with fail
    refine (HFew2.out _ hB1).mono ?_
    rintro e2 W2 ⟨rfl, h2⟩
    have hB2 := below_from hB1 h2
    go_wp2_with fail
    go_ret
    exact ⟨rfl, hB2⟩
theorem costTells_walk (W : World) (a0 : List Ins) {A : Option Addr} {n c : Nat} (h0 : (Kd.slice 160 kI).K W a0 (Value.slice A n c).cells.toList) (hb : bkL a0 ≤ 1048576) :
    Calls Try.prog 5 #[.slice A n c] W fun e W' => e = .returned (.bool true) ∧ Below W.heap.size W W' := by
  obtain ⟨A', c', e, _, hC⟩ := h0
  simp [Value.cells] at e
  obtain ⟨rfl, rfl, rfl⟩ := e
  exact costTells_go _ W a0 A c hC hb rfl
end Go.Proofs.Ytfndlpfceokloaa
