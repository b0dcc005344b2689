/- Lemmas towards this claim's statement: what the functions named here come to, each under the conditions that it states itself. -/
import Derived.Test.YtfndlpfceokloaaDoorNum
namespace Go.Proofs.YtfndlpfceokloaaDoor
open Go.RowKit Go.Shelf YtfndlpfceokloaaDoorB Go.Proofs.YtfndlpfceokloaaDoorW.PrintWords
theorem results_tmp4 {fn : Func} {t u v x : Tmp} (h : fn.results = #[.tmp t, .tmp u, .tmp v, .tmp x]) (tmps : Array Value) (P : Program) (w : World) :
    (results fn tmps).run P w = .ok (.tuple #[tmps.getD t undef, tmps.getD u undef, tmps.getD v undef, tmps.getD x undef]) w := by simp [results, h]
def intT (w : Int) : Int := if w = 32 then 127 else 126
def floT (w : Int) : Int := if w = 32 then 125 else 124
theorem integer_any (W : World) (w : Int) : Calls Tryd.prog 28 #[.int .i64 w] W fun E w' => E = .returned (.int .u8 (intT w)) ∧ W = w' := by
  by_cases h : w = 32
  · subst h
    go_enter Tryd.func28, Tryd.ntmps28
    go_wp2_with fail
    go_ret
    exact ⟨rfl, rfl⟩
  · have h2 : (w == 32) = false := by simpa using h
    rw [intT, if_neg h]
    clear h
    go_enter Tryd.func28, Tryd.ntmps28
    go_wp2_with fail
    go_ret
    exact ⟨rfl, rfl⟩
theorem float_any (W : World) (w : Int) : Calls Tryd.prog 29 #[.int .i64 w] W fun E w' => E = .returned (.int .u8 (floT w)) ∧ W = w' := by
  by_cases h : w = 32
  · subst h
    go_enter Tryd.func29, Tryd.ntmps29
    go_wp2_with fail
    go_ret
    exact ⟨rfl, rfl⟩
  · have h2 : (w == 32) = false := by simpa using h
    rw [floT, if_neg h]
    clear h
    go_enter Tryd.func29, Tryd.ntmps29
    go_wp2_with fail
    go_ret
    exact ⟨rfl, rfl⟩
/-- What a conversion takes and answers. -/
def turnM (at_ : Int) : Int × Int :=
  if at_ = 0 then (126, 127) else if at_ ≤ 2 then (125, 127) else if at_ ≤ 4 then (124, 127) else if at_ ≤ 6 then (127, 126) else if at_ ≤ 8 then (125, 126) else if at_ ≤ 10 then (124, 126) else
  if at_ = 15 then (124, 125) else if at_ = 20 then (125, 124) else if at_ ≤ 12 then (127, 125) else if at_ ≤ 14 then (126, 125) else if at_ ≤ 17 then (127, 124) else if at_ ≤ 19 then (126, 124) else
  if at_ = 21 then (125, 127) else if at_ = 22 then (124, 126) else if at_ = 23 then (127, 125) else (126, 124)
def TurnPost (W : World) (r : Int × Int) (E : Ending) (w' : World) : Prop := E = .returned (.tuple #[.int .u8 r.1, .int .u8 r.2]) ∧ W = w'
set_option maxRecDepth 100000 in
theorem turned_0 (W : World) : Calls Tryd.prog 30 #[.int .i64 0] W (TurnPost W (turnM 0)) := by
  go_enter Tryd.func30, Tryd.ntmps30
  go_wp2_with (first | (go_at_call 28; refine (integer_any _ _).mono ?_; rintro e w' ⟨rfl, rfl⟩) | (go_at_call 29; refine (float_any _ _).mono ?_; rintro e w' ⟨rfl, rfl⟩))
  go_ret2
  exact ⟨rfl, rfl⟩
set_option maxRecDepth 100000 in
theorem turned_1 (W : World) : Calls Tryd.prog 30 #[.int .i64 1] W (TurnPost W (turnM 1)) := by
  go_enter Tryd.func30, Tryd.ntmps30
  go_wp2_with (first | (go_at_call 28; refine (integer_any _ _).mono ?_; rintro e w' ⟨rfl, rfl⟩) | (go_at_call 29; refine (float_any _ _).mono ?_; rintro e w' ⟨rfl, rfl⟩))
  go_ret2
  exact ⟨rfl, rfl⟩
set_option maxRecDepth 100000 in
theorem turned_2 (W : World) : Calls Tryd.prog 30 #[.int .i64 2] W (TurnPost W (turnM 2)) := by
  go_enter Tryd.func30, Tryd.ntmps30
  go_wp2_with (first | (go_at_call 28; refine (integer_any _ _).mono ?_; rintro e w' ⟨rfl, rfl⟩) | (go_at_call 29; refine (float_any _ _).mono ?_; rintro e w' ⟨rfl, rfl⟩))
  go_ret2
  exact ⟨rfl, rfl⟩
set_option maxRecDepth 100000 in
theorem turned_3 (W : World) : Calls Tryd.prog 30 #[.int .i64 3] W (TurnPost W (turnM 3)) := by
  go_enter Tryd.func30, Tryd.ntmps30
  go_wp2_with (first | (go_at_call 28; refine (integer_any _ _).mono ?_; rintro e w' ⟨rfl, rfl⟩) | (go_at_call 29; refine (float_any _ _).mono ?_; rintro e w' ⟨rfl, rfl⟩))
  go_ret2
  exact ⟨rfl, rfl⟩
set_option maxRecDepth 100000 in
theorem turned_4 (W : World) : Calls Tryd.prog 30 #[.int .i64 4] W (TurnPost W (turnM 4)) := by
  go_enter Tryd.func30, Tryd.ntmps30
  go_wp2_with (first | (go_at_call 28; refine (integer_any _ _).mono ?_; rintro e w' ⟨rfl, rfl⟩) | (go_at_call 29; refine (float_any _ _).mono ?_; rintro e w' ⟨rfl, rfl⟩))
  go_ret2
  exact ⟨rfl, rfl⟩
set_option maxRecDepth 100000 in
theorem turned_5 (W : World) : Calls Tryd.prog 30 #[.int .i64 5] W (TurnPost W (turnM 5)) := by
  go_enter Tryd.func30, Tryd.ntmps30
  go_wp2_with (first | (go_at_call 28; refine (integer_any _ _).mono ?_; rintro e w' ⟨rfl, rfl⟩) | (go_at_call 29; refine (float_any _ _).mono ?_; rintro e w' ⟨rfl, rfl⟩))
  go_ret2
  exact ⟨rfl, rfl⟩
set_option maxRecDepth 100000 in
theorem turned_6 (W : World) : Calls Tryd.prog 30 #[.int .i64 6] W (TurnPost W (turnM 6)) := by
  go_enter Tryd.func30, Tryd.ntmps30
  go_wp2_with (first | (go_at_call 28; refine (integer_any _ _).mono ?_; rintro e w' ⟨rfl, rfl⟩) | (go_at_call 29; refine (float_any _ _).mono ?_; rintro e w' ⟨rfl, rfl⟩))
  go_ret2
  exact ⟨rfl, rfl⟩
set_option maxRecDepth 100000 in
theorem turned_7 (W : World) : Calls Tryd.prog 30 #[.int .i64 7] W (TurnPost W (turnM 7)) := by
  go_enter Tryd.func30, Tryd.ntmps30
  go_wp2_with (first | (go_at_call 28; refine (integer_any _ _).mono ?_; rintro e w' ⟨rfl, rfl⟩) | (go_at_call 29; refine (float_any _ _).mono ?_; rintro e w' ⟨rfl, rfl⟩))
  go_ret2
  exact ⟨rfl, rfl⟩
set_option maxRecDepth 100000 in
theorem turned_8 (W : World) : Calls Tryd.prog 30 #[.int .i64 8] W (TurnPost W (turnM 8)) := by
  go_enter Tryd.func30, Tryd.ntmps30
  go_wp2_with (first | (go_at_call 28; refine (integer_any _ _).mono ?_; rintro e w' ⟨rfl, rfl⟩) | (go_at_call 29; refine (float_any _ _).mono ?_; rintro e w' ⟨rfl, rfl⟩))
  go_ret2
  exact ⟨rfl, rfl⟩
set_option maxRecDepth 100000 in
theorem turned_9 (W : World) : Calls Tryd.prog 30 #[.int .i64 9] W (TurnPost W (turnM 9)) := by
  go_enter Tryd.func30, Tryd.ntmps30
  go_wp2_with (first | (go_at_call 28; refine (integer_any _ _).mono ?_; rintro e w' ⟨rfl, rfl⟩) | (go_at_call 29; refine (float_any _ _).mono ?_; rintro e w' ⟨rfl, rfl⟩))
  go_ret2
  exact ⟨rfl, rfl⟩
set_option maxRecDepth 100000 in
theorem turned_10 (W : World) : Calls Tryd.prog 30 #[.int .i64 10] W (TurnPost W (turnM 10)) := by
  go_enter Tryd.func30, Tryd.ntmps30
  go_wp2_with (first | (go_at_call 28; refine (integer_any _ _).mono ?_; rintro e w' ⟨rfl, rfl⟩) | (go_at_call 29; refine (float_any _ _).mono ?_; rintro e w' ⟨rfl, rfl⟩))
  go_ret2
  exact ⟨rfl, rfl⟩
set_option maxRecDepth 100000 in
theorem turned_11 (W : World) : Calls Tryd.prog 30 #[.int .i64 11] W (TurnPost W (turnM 11)) := by
  go_enter Tryd.func30, Tryd.ntmps30
  go_wp2_with (first | (go_at_call 28; refine (integer_any _ _).mono ?_; rintro e w' ⟨rfl, rfl⟩) | (go_at_call 29; refine (float_any _ _).mono ?_; rintro e w' ⟨rfl, rfl⟩))
  go_ret2
  exact ⟨rfl, rfl⟩
set_option maxRecDepth 100000 in
theorem turned_12 (W : World) : Calls Tryd.prog 30 #[.int .i64 12] W (TurnPost W (turnM 12)) := by
  go_enter Tryd.func30, Tryd.ntmps30
  go_wp2_with (first | (go_at_call 28; refine (integer_any _ _).mono ?_; rintro e w' ⟨rfl, rfl⟩) | (go_at_call 29; refine (float_any _ _).mono ?_; rintro e w' ⟨rfl, rfl⟩))
  go_ret2
  exact ⟨rfl, rfl⟩
set_option maxRecDepth 100000 in
theorem turned_13 (W : World) : Calls Tryd.prog 30 #[.int .i64 13] W (TurnPost W (turnM 13)) := by
  go_enter Tryd.func30, Tryd.ntmps30
  go_wp2_with (first | (go_at_call 28; refine (integer_any _ _).mono ?_; rintro e w' ⟨rfl, rfl⟩) | (go_at_call 29; refine (float_any _ _).mono ?_; rintro e w' ⟨rfl, rfl⟩))
  go_ret2
  exact ⟨rfl, rfl⟩
set_option maxRecDepth 100000 in
theorem turned_14 (W : World) : Calls Tryd.prog 30 #[.int .i64 14] W (TurnPost W (turnM 14)) := by
  go_enter Tryd.func30, Tryd.ntmps30
  go_wp2_with (first | (go_at_call 28; refine (integer_any _ _).mono ?_; rintro e w' ⟨rfl, rfl⟩) | (go_at_call 29; refine (float_any _ _).mono ?_; rintro e w' ⟨rfl, rfl⟩))
  go_ret2
  exact ⟨rfl, rfl⟩
set_option maxRecDepth 100000 in
theorem turned_15 (W : World) : Calls Tryd.prog 30 #[.int .i64 15] W (TurnPost W (turnM 15)) := by
  go_enter Tryd.func30, Tryd.ntmps30
  go_wp2_with (first | (go_at_call 28; refine (integer_any _ _).mono ?_; rintro e w' ⟨rfl, rfl⟩) | (go_at_call 29; refine (float_any _ _).mono ?_; rintro e w' ⟨rfl, rfl⟩))
  go_ret2
  exact ⟨rfl, rfl⟩
set_option maxRecDepth 100000 in
theorem turned_16 (W : World) : Calls Tryd.prog 30 #[.int .i64 16] W (TurnPost W (turnM 16)) := by
  go_enter Tryd.func30, Tryd.ntmps30
  go_wp2_with (first | (go_at_call 28; refine (integer_any _ _).mono ?_; rintro e w' ⟨rfl, rfl⟩) | (go_at_call 29; refine (float_any _ _).mono ?_; rintro e w' ⟨rfl, rfl⟩))
  go_ret2
  exact ⟨rfl, rfl⟩
set_option maxRecDepth 100000 in
theorem turned_17 (W : World) : Calls Tryd.prog 30 #[.int .i64 17] W (TurnPost W (turnM 17)) := by
  go_enter Tryd.func30, Tryd.ntmps30
  go_wp2_with (first | (go_at_call 28; refine (integer_any _ _).mono ?_; rintro e w' ⟨rfl, rfl⟩) | (go_at_call 29; refine (float_any _ _).mono ?_; rintro e w' ⟨rfl, rfl⟩))
  go_ret2
  exact ⟨rfl, rfl⟩
set_option maxRecDepth 100000 in
theorem turned_18 (W : World) : Calls Tryd.prog 30 #[.int .i64 18] W (TurnPost W (turnM 18)) := by
  go_enter Tryd.func30, Tryd.ntmps30
  go_wp2_with (first | (go_at_call 28; refine (integer_any _ _).mono ?_; rintro e w' ⟨rfl, rfl⟩) | (go_at_call 29; refine (float_any _ _).mono ?_; rintro e w' ⟨rfl, rfl⟩))
  go_ret2
  exact ⟨rfl, rfl⟩
set_option maxRecDepth 100000 in
theorem turned_19 (W : World) : Calls Tryd.prog 30 #[.int .i64 19] W (TurnPost W (turnM 19)) := by
  go_enter Tryd.func30, Tryd.ntmps30
  go_wp2_with (first | (go_at_call 28; refine (integer_any _ _).mono ?_; rintro e w' ⟨rfl, rfl⟩) | (go_at_call 29; refine (float_any _ _).mono ?_; rintro e w' ⟨rfl, rfl⟩))
  go_ret2
  exact ⟨rfl, rfl⟩
set_option maxRecDepth 100000 in
theorem turned_20 (W : World) : Calls Tryd.prog 30 #[.int .i64 20] W (TurnPost W (turnM 20)) := by
  go_enter Tryd.func30, Tryd.ntmps30
  go_wp2_with (first | (go_at_call 28; refine (integer_any _ _).mono ?_; rintro e w' ⟨rfl, rfl⟩) | (go_at_call 29; refine (float_any _ _).mono ?_; rintro e w' ⟨rfl, rfl⟩))
  go_ret2
  exact ⟨rfl, rfl⟩
set_option maxRecDepth 100000 in
theorem turned_21 (W : World) : Calls Tryd.prog 30 #[.int .i64 21] W (TurnPost W (turnM 21)) := by
  go_enter Tryd.func30, Tryd.ntmps30
  go_wp2_with (first | (go_at_call 28; refine (integer_any _ _).mono ?_; rintro e w' ⟨rfl, rfl⟩) | (go_at_call 29; refine (float_any _ _).mono ?_; rintro e w' ⟨rfl, rfl⟩))
  go_ret2
  exact ⟨rfl, rfl⟩
set_option maxRecDepth 100000 in
theorem turned_22 (W : World) : Calls Tryd.prog 30 #[.int .i64 22] W (TurnPost W (turnM 22)) := by
  go_enter Tryd.func30, Tryd.ntmps30
  go_wp2_with (first | (go_at_call 28; refine (integer_any _ _).mono ?_; rintro e w' ⟨rfl, rfl⟩) | (go_at_call 29; refine (float_any _ _).mono ?_; rintro e w' ⟨rfl, rfl⟩))
  go_ret2
  exact ⟨rfl, rfl⟩
set_option maxRecDepth 100000 in
theorem turned_23 (W : World) : Calls Tryd.prog 30 #[.int .i64 23] W (TurnPost W (turnM 23)) := by
  go_enter Tryd.func30, Tryd.ntmps30
  go_wp2_with (first | (go_at_call 28; refine (integer_any _ _).mono ?_; rintro e w' ⟨rfl, rfl⟩) | (go_at_call 29; refine (float_any _ _).mono ?_; rintro e w' ⟨rfl, rfl⟩))
  go_ret2
  exact ⟨rfl, rfl⟩
set_option maxRecDepth 100000 in
theorem turned_24 (W : World) : Calls Tryd.prog 30 #[.int .i64 24] W (TurnPost W (turnM 24)) := by
  go_enter Tryd.func30, Tryd.ntmps30
  go_wp2_with (first | (go_at_call 28; refine (integer_any _ _).mono ?_; rintro e w' ⟨rfl, rfl⟩) | (go_at_call 29; refine (float_any _ _).mono ?_; rintro e w' ⟨rfl, rfl⟩))
  go_ret2
  exact ⟨rfl, rfl⟩
theorem turned_any (W : World) (a : Int) (h0 : 0 ≤ a) (h1 : a ≤ 24) : Calls Tryd.prog 30 #[.int .i64 a] W (TurnPost W (turnM a)) := by
  have : a = 0 ∨ a = 1 ∨ a = 2 ∨ a = 3 ∨ a = 4 ∨ a = 5 ∨ a = 6 ∨ a = 7 ∨ a = 8 ∨ a = 9 ∨ a = 10 ∨ a = 11 ∨ a = 12 ∨ a = 13 ∨ a = 14 ∨ a = 15 ∨ a = 16 ∨ a = 17 ∨ a = 18 ∨ a = 19 ∨ a = 20 ∨ a = 21 ∨ a = 22 ∨ a = 23 ∨ a = 24 := by omega
  rcases this with rfl | rfl | rfl | rfl | rfl | rfl | rfl | rfl | rfl | rfl | rfl | rfl | rfl | rfl | rfl | rfl | rfl | rfl | rfl | rfl | rfl | rfl | rfl | rfl | rfl
  · exact turned_0 W
  · exact turned_1 W
  · exact turned_2 W
  · exact turned_3 W
  · exact turned_4 W
  · exact turned_5 W
  · exact turned_6 W
  · exact turned_7 W
  · exact turned_8 W
  · exact turned_9 W
  · exact turned_10 W
  · exact turned_11 W
  · exact turned_12 W
  · exact turned_13 W
  · exact turned_14 W
  · exact turned_15 W
  · exact turned_16 W
  · exact turned_17 W
  · exact turned_18 W
  · exact turned_19 W
  · exact turned_20 W
  · exact turned_21 W
  · exact turned_22 W
  · exact turned_23 W
  · exact turned_24 W
/-- numeric.Kind, of what find finds. -/
def kindF (g a w : Int) : Int × Int × Int × Bool :=
  if g = 1 then (intT w, 1, 127, true) else if g = 2 then (intT w, 2, 127, true) else if g = 3 then (floT w, 2, 127, true) else if g = 4 then (intT w, 1, intT w, true) else if g = 5 then (intT w, 2, intT w, true) else
  if g = 6 then (floT w, 1, floT w, true) else if g = 7 then (floT w, 2, floT w, true) else if g = 8 then ((turnM a).1, 1, (turnM a).2, true) else if g = 9 then (floT (32 + a / 2 % 2 * 32), 1, intT (32 + a / 4 * 32), true) else (0, 0, 0, false)
def KindPost (W : World) (r : Int × Int × Int × Bool) (E : Ending) (w' : World) : Prop := E = .returned (.tuple #[.int .u8 r.1, .int .i64 r.2.1, .int .u8 r.2.2.1, .bool r.2.2.2]) ∧ Below W.heap.size W w'
set_option maxRecDepth 100000 in
set_option maxHeartbeats 1000000 in
theorem kind_1 (W : World) (op a w : Int) (hF : ∀ X, Calls Tryd.prog 27 #[.int .i64 op] X (FindPost X (1, a, w))) (h0 : 0 ≤ a) (h1 : a ≤ 24) (h9 : 1 = 9 → a ≤ 7) : Calls Tryd.prog 13 #[.int .i64 op] W (KindPost W (kindF 1 a w)) := by
  have HF := Lib.hid hF
  have HT := Lib.hid (fun X => turned_any X a h0 h1)
  have HV := Lib.hid (show kindF 1 a w = kindF 1 a w from rfl)
  have h92 := Lib.hid h9
  clear hF h9
  go_enter Tryd.func13, Tryd.ntmps13
  go_wp2_with fail
  refine (HF.out _).mono ?_
  rintro E V ⟨rfl, hB⟩
  go_wp2_with (first | (go_at_call 28; refine (integer_any _ _).mono ?_; rintro e w' ⟨rfl, rfl⟩) | (go_at_call 29; refine (float_any _ _).mono ?_; rintro e w' ⟨rfl, rfl⟩) | (go_at_call 30; refine (HT.out _).mono ?_; rintro e w' ⟨rfl, rfl⟩))
  try go_quiet (first | (go_at_call 28; exact Calls.quiet_of_same ((integer_any _ _).mono (by rintro e w' ⟨rfl, rfl⟩; exact ⟨rfl, rfl⟩))) | (go_at_call 29; exact Calls.quiet_of_same ((float_any _ _).mono (by rintro e w' ⟨rfl, rfl⟩; exact ⟨rfl, rfl⟩))))
  go_wp2_with fail
  refine bodyPost_ret (results_tmp4 rfl _ _ _) rfl ?_
  exact ⟨rfl, (hB.alloc hB.size _).trans ⟨rfl, rfl, rfl, Nat.le_refl _, fun _ _ => rfl⟩⟩
set_option maxRecDepth 100000 in
set_option maxHeartbeats 1000000 in
theorem kind_2 (W : World) (op a w : Int) (hF : ∀ X, Calls Tryd.prog 27 #[.int .i64 op] X (FindPost X (2, a, w))) (h0 : 0 ≤ a) (h1 : a ≤ 24) (h9 : 2 = 9 → a ≤ 7) : Calls Tryd.prog 13 #[.int .i64 op] W (KindPost W (kindF 2 a w)) := by
  have HF := Lib.hid hF
  have HT := Lib.hid (fun X => turned_any X a h0 h1)
  have HV := Lib.hid (show kindF 2 a w = kindF 2 a w from rfl)
  have h92 := Lib.hid h9
  clear hF h9
  go_enter Tryd.func13, Tryd.ntmps13
  go_wp2_with fail
  refine (HF.out _).mono ?_
  rintro E V ⟨rfl, hB⟩
  go_wp2_with (first | (go_at_call 28; refine (integer_any _ _).mono ?_; rintro e w' ⟨rfl, rfl⟩) | (go_at_call 29; refine (float_any _ _).mono ?_; rintro e w' ⟨rfl, rfl⟩) | (go_at_call 30; refine (HT.out _).mono ?_; rintro e w' ⟨rfl, rfl⟩))
  try go_quiet (first | (go_at_call 28; exact Calls.quiet_of_same ((integer_any _ _).mono (by rintro e w' ⟨rfl, rfl⟩; exact ⟨rfl, rfl⟩))) | (go_at_call 29; exact Calls.quiet_of_same ((float_any _ _).mono (by rintro e w' ⟨rfl, rfl⟩; exact ⟨rfl, rfl⟩))))
  go_wp2_with fail
  refine bodyPost_ret (results_tmp4 rfl _ _ _) rfl ?_
  exact ⟨rfl, (hB.alloc hB.size _).trans ⟨rfl, rfl, rfl, Nat.le_refl _, fun _ _ => rfl⟩⟩
set_option maxRecDepth 100000 in
set_option maxHeartbeats 1000000 in
theorem kind_3 (W : World) (op a w : Int) (hF : ∀ X, Calls Tryd.prog 27 #[.int .i64 op] X (FindPost X (3, a, w))) (h0 : 0 ≤ a) (h1 : a ≤ 24) (h9 : 3 = 9 → a ≤ 7) : Calls Tryd.prog 13 #[.int .i64 op] W (KindPost W (kindF 3 a w)) := by
  have HF := Lib.hid hF
  have HT := Lib.hid (fun X => turned_any X a h0 h1)
  have HV := Lib.hid (show kindF 3 a w = kindF 3 a w from rfl)
  have h92 := Lib.hid h9
  clear hF h9
  go_enter Tryd.func13, Tryd.ntmps13
  go_wp2_with fail
  refine (HF.out _).mono ?_
  rintro E V ⟨rfl, hB⟩
  go_wp2_with (first | (go_at_call 28; refine (integer_any _ _).mono ?_; rintro e w' ⟨rfl, rfl⟩) | (go_at_call 29; refine (float_any _ _).mono ?_; rintro e w' ⟨rfl, rfl⟩) | (go_at_call 30; refine (HT.out _).mono ?_; rintro e w' ⟨rfl, rfl⟩))
  try go_quiet (first | (go_at_call 28; exact Calls.quiet_of_same ((integer_any _ _).mono (by rintro e w' ⟨rfl, rfl⟩; exact ⟨rfl, rfl⟩))) | (go_at_call 29; exact Calls.quiet_of_same ((float_any _ _).mono (by rintro e w' ⟨rfl, rfl⟩; exact ⟨rfl, rfl⟩))))
  go_wp2_with fail
  refine bodyPost_ret (results_tmp4 rfl _ _ _) rfl ?_
  exact ⟨rfl, (hB.alloc hB.size _).trans ⟨rfl, rfl, rfl, Nat.le_refl _, fun _ _ => rfl⟩⟩
set_option maxRecDepth 100000 in
set_option maxHeartbeats 1000000 in
theorem kind_4 (W : World) (op a w : Int) (hF : ∀ X, Calls Tryd.prog 27 #[.int .i64 op] X (FindPost X (4, a, w))) (h0 : 0 ≤ a) (h1 : a ≤ 24) (h9 : 4 = 9 → a ≤ 7) : Calls Tryd.prog 13 #[.int .i64 op] W (KindPost W (kindF 4 a w)) := by
  have HF := Lib.hid hF
  have HT := Lib.hid (fun X => turned_any X a h0 h1)
  have HV := Lib.hid (show kindF 4 a w = kindF 4 a w from rfl)
  have h92 := Lib.hid h9
  clear hF h9
  go_enter Tryd.func13, Tryd.ntmps13
  go_wp2_with fail
  refine (HF.out _).mono ?_
  rintro E V ⟨rfl, hB⟩
  go_wp2_with (first | (go_at_call 28; refine (integer_any _ _).mono ?_; rintro e w' ⟨rfl, rfl⟩) | (go_at_call 29; refine (float_any _ _).mono ?_; rintro e w' ⟨rfl, rfl⟩) | (go_at_call 30; refine (HT.out _).mono ?_; rintro e w' ⟨rfl, rfl⟩))
  try go_quiet (first | (go_at_call 28; exact Calls.quiet_of_same ((integer_any _ _).mono (by rintro e w' ⟨rfl, rfl⟩; exact ⟨rfl, rfl⟩))) | (go_at_call 29; exact Calls.quiet_of_same ((float_any _ _).mono (by rintro e w' ⟨rfl, rfl⟩; exact ⟨rfl, rfl⟩))))
  go_wp2_with fail
  refine bodyPost_ret (results_tmp4 rfl _ _ _) rfl ?_
  exact ⟨rfl, (hB.alloc hB.size _).trans ⟨rfl, rfl, rfl, Nat.le_refl _, fun _ _ => rfl⟩⟩
set_option maxRecDepth 100000 in
set_option maxHeartbeats 1000000 in
theorem kind_5 (W : World) (op a w : Int) (hF : ∀ X, Calls Tryd.prog 27 #[.int .i64 op] X (FindPost X (5, a, w))) (h0 : 0 ≤ a) (h1 : a ≤ 24) (h9 : 5 = 9 → a ≤ 7) : Calls Tryd.prog 13 #[.int .i64 op] W (KindPost W (kindF 5 a w)) := by
  have HF := Lib.hid hF
  have HT := Lib.hid (fun X => turned_any X a h0 h1)
  have HV := Lib.hid (show kindF 5 a w = kindF 5 a w from rfl)
  have h92 := Lib.hid h9
  clear hF h9
  go_enter Tryd.func13, Tryd.ntmps13
  go_wp2_with fail
  refine (HF.out _).mono ?_
  rintro E V ⟨rfl, hB⟩
  go_wp2_with (first | (go_at_call 28; refine (integer_any _ _).mono ?_; rintro e w' ⟨rfl, rfl⟩) | (go_at_call 29; refine (float_any _ _).mono ?_; rintro e w' ⟨rfl, rfl⟩) | (go_at_call 30; refine (HT.out _).mono ?_; rintro e w' ⟨rfl, rfl⟩))
  try go_quiet (first | (go_at_call 28; exact Calls.quiet_of_same ((integer_any _ _).mono (by rintro e w' ⟨rfl, rfl⟩; exact ⟨rfl, rfl⟩))) | (go_at_call 29; exact Calls.quiet_of_same ((float_any _ _).mono (by rintro e w' ⟨rfl, rfl⟩; exact ⟨rfl, rfl⟩))))
  go_wp2_with fail
  refine bodyPost_ret (results_tmp4 rfl _ _ _) rfl ?_
  exact ⟨rfl, (hB.alloc hB.size _).trans ⟨rfl, rfl, rfl, Nat.le_refl _, fun _ _ => rfl⟩⟩
set_option maxRecDepth 100000 in
set_option maxHeartbeats 1000000 in
theorem kind_6 (W : World) (op a w : Int) (hF : ∀ X, Calls Tryd.prog 27 #[.int .i64 op] X (FindPost X (6, a, w))) (h0 : 0 ≤ a) (h1 : a ≤ 24) (h9 : 6 = 9 → a ≤ 7) : Calls Tryd.prog 13 #[.int .i64 op] W (KindPost W (kindF 6 a w)) := by
  have HF := Lib.hid hF
  have HT := Lib.hid (fun X => turned_any X a h0 h1)
  have HV := Lib.hid (show kindF 6 a w = kindF 6 a w from rfl)
  have h92 := Lib.hid h9
  clear hF h9
  go_enter Tryd.func13, Tryd.ntmps13
  go_wp2_with fail
  refine (HF.out _).mono ?_
  rintro E V ⟨rfl, hB⟩
  go_wp2_with (first | (go_at_call 28; refine (integer_any _ _).mono ?_; rintro e w' ⟨rfl, rfl⟩) | (go_at_call 29; refine (float_any _ _).mono ?_; rintro e w' ⟨rfl, rfl⟩) | (go_at_call 30; refine (HT.out _).mono ?_; rintro e w' ⟨rfl, rfl⟩))
  try go_quiet (first | (go_at_call 28; exact Calls.quiet_of_same ((integer_any _ _).mono (by rintro e w' ⟨rfl, rfl⟩; exact ⟨rfl, rfl⟩))) | (go_at_call 29; exact Calls.quiet_of_same ((float_any _ _).mono (by rintro e w' ⟨rfl, rfl⟩; exact ⟨rfl, rfl⟩))))
  go_wp2_with fail
  refine bodyPost_ret (results_tmp4 rfl _ _ _) rfl ?_
  exact ⟨rfl, (hB.alloc hB.size _).trans ⟨rfl, rfl, rfl, Nat.le_refl _, fun _ _ => rfl⟩⟩
set_option maxRecDepth 100000 in
set_option maxHeartbeats 1000000 in
theorem kind_7 (W : World) (op a w : Int) (hF : ∀ X, Calls Tryd.prog 27 #[.int .i64 op] X (FindPost X (7, a, w))) (h0 : 0 ≤ a) (h1 : a ≤ 24) (h9 : 7 = 9 → a ≤ 7) : Calls Tryd.prog 13 #[.int .i64 op] W (KindPost W (kindF 7 a w)) := by
  have HF := Lib.hid hF
  have HT := Lib.hid (fun X => turned_any X a h0 h1)
  have HV := Lib.hid (show kindF 7 a w = kindF 7 a w from rfl)
  have h92 := Lib.hid h9
  clear hF h9
  go_enter Tryd.func13, Tryd.ntmps13
  go_wp2_with fail
  refine (HF.out _).mono ?_
  rintro E V ⟨rfl, hB⟩
  go_wp2_with (first | (go_at_call 28; refine (integer_any _ _).mono ?_; rintro e w' ⟨rfl, rfl⟩) | (go_at_call 29; refine (float_any _ _).mono ?_; rintro e w' ⟨rfl, rfl⟩) | (go_at_call 30; refine (HT.out _).mono ?_; rintro e w' ⟨rfl, rfl⟩))
  try go_quiet (first | (go_at_call 28; exact Calls.quiet_of_same ((integer_any _ _).mono (by rintro e w' ⟨rfl, rfl⟩; exact ⟨rfl, rfl⟩))) | (go_at_call 29; exact Calls.quiet_of_same ((float_any _ _).mono (by rintro e w' ⟨rfl, rfl⟩; exact ⟨rfl, rfl⟩))))
  go_wp2_with fail
  refine bodyPost_ret (results_tmp4 rfl _ _ _) rfl ?_
  exact ⟨rfl, (hB.alloc hB.size _).trans ⟨rfl, rfl, rfl, Nat.le_refl _, fun _ _ => rfl⟩⟩
set_option maxRecDepth 100000 in
set_option maxHeartbeats 1000000 in
theorem kind_8 (W : World) (op a w : Int) (hF : ∀ X, Calls Tryd.prog 27 #[.int .i64 op] X (FindPost X (8, a, w))) (h0 : 0 ≤ a) (h1 : a ≤ 24) (h9 : 8 = 9 → a ≤ 7) : Calls Tryd.prog 13 #[.int .i64 op] W (KindPost W (kindF 8 a w)) := by
  have HF := Lib.hid hF
  have HT := Lib.hid (fun X => turned_any X a h0 h1)
  have HV := Lib.hid (show kindF 8 a w = kindF 8 a w from rfl)
  have h92 := Lib.hid h9
  clear hF h9
  go_enter Tryd.func13, Tryd.ntmps13
  go_wp2_with fail
  refine (HF.out _).mono ?_
  rintro E V ⟨rfl, hB⟩
  go_wp2_with (first | (go_at_call 28; refine (integer_any _ _).mono ?_; rintro e w' ⟨rfl, rfl⟩) | (go_at_call 29; refine (float_any _ _).mono ?_; rintro e w' ⟨rfl, rfl⟩) | (go_at_call 30; refine (HT.out _).mono ?_; rintro e w' ⟨rfl, rfl⟩))
  try go_quiet (first | (go_at_call 28; exact Calls.quiet_of_same ((integer_any _ _).mono (by rintro e w' ⟨rfl, rfl⟩; exact ⟨rfl, rfl⟩))) | (go_at_call 29; exact Calls.quiet_of_same ((float_any _ _).mono (by rintro e w' ⟨rfl, rfl⟩; exact ⟨rfl, rfl⟩))))
  go_wp2_with fail
  refine bodyPost_ret (results_tmp4 rfl _ _ _) rfl ?_
  exact ⟨rfl, (hB.alloc hB.size _).trans ⟨rfl, rfl, rfl, Nat.le_refl _, fun _ _ => rfl⟩⟩
set_option maxRecDepth 100000 in
set_option maxHeartbeats 1000000 in
theorem kind_9 (W : World) (op a w : Int) (hF : ∀ X, Calls Tryd.prog 27 #[.int .i64 op] X (FindPost X (9, a, w))) (h0 : 0 ≤ a) (h1 : a ≤ 24) (h9 : 9 = 9 → a ≤ 7) : Calls Tryd.prog 13 #[.int .i64 op] W (KindPost W (kindF 9 a w)) := by
  have HF := Lib.hid hF
  have HT := Lib.hid (fun X => turned_any X a h0 h1)
  have HV := Lib.hid (show kindF 9 a w = kindF 9 a w from rfl)
  have h92 := Lib.hid h9
  clear hF h9
  go_enter Tryd.func13, Tryd.ntmps13
  go_wp2_with fail
  refine (HF.out _).mono ?_
  rintro E V ⟨rfl, hB⟩
  go_wp2_with (first | (go_at_call 28; refine (integer_any _ _).mono ?_; rintro e w' ⟨rfl, rfl⟩) | (go_at_call 29; refine (float_any _ _).mono ?_; rintro e w' ⟨rfl, rfl⟩) | (go_at_call 30; refine (HT.out _).mono ?_; rintro e w' ⟨rfl, rfl⟩))
  try go_quiet (first | (go_at_call 28; exact Calls.quiet_of_same ((integer_any _ _).mono (by rintro e w' ⟨rfl, rfl⟩; exact ⟨rfl, rfl⟩))) | (go_at_call 29; exact Calls.quiet_of_same ((float_any _ _).mono (by rintro e w' ⟨rfl, rfl⟩; exact ⟨rfl, rfl⟩))))
  go_wp2_with fail
  refine bodyPost_ret (results_tmp4 rfl _ _ _) rfl ?_
  exact ⟨rfl, (hB.alloc hB.size _).trans ⟨rfl, rfl, rfl, Nat.le_refl _, fun _ _ => rfl⟩⟩
set_option maxRecDepth 100000 in
set_option maxHeartbeats 1000000 in
theorem kind_0 (W : World) (op a w : Int) (hF : ∀ X, Calls Tryd.prog 27 #[.int .i64 op] X (FindPost X (0, a, w))) (h0 : 0 ≤ a) (h1 : a ≤ 24) (h9 : 0 = 9 → a ≤ 7) : Calls Tryd.prog 13 #[.int .i64 op] W (KindPost W (kindF 0 a w)) := by
  have HF := Lib.hid hF
  have HT := Lib.hid (fun X => turned_any X a h0 h1)
  have HV := Lib.hid (show kindF 0 a w = kindF 0 a w from rfl)
  have h92 := Lib.hid h9
  clear hF h9
  go_enter Tryd.func13, Tryd.ntmps13
  go_wp2_with fail
  refine (HF.out _).mono ?_
  rintro E V ⟨rfl, hB⟩
  go_wp2_with (first | (go_at_call 28; refine (integer_any _ _).mono ?_; rintro e w' ⟨rfl, rfl⟩) | (go_at_call 29; refine (float_any _ _).mono ?_; rintro e w' ⟨rfl, rfl⟩) | (go_at_call 30; refine (HT.out _).mono ?_; rintro e w' ⟨rfl, rfl⟩))
  try go_quiet (first | (go_at_call 28; exact Calls.quiet_of_same ((integer_any _ _).mono (by rintro e w' ⟨rfl, rfl⟩; exact ⟨rfl, rfl⟩))) | (go_at_call 29; exact Calls.quiet_of_same ((float_any _ _).mono (by rintro e w' ⟨rfl, rfl⟩; exact ⟨rfl, rfl⟩))))
  go_wp2_with fail
  refine bodyPost_ret (results_tmp4 rfl _ _ _) rfl ?_
  exact ⟨rfl, (hB.alloc hB.size _).trans ⟨rfl, rfl, rfl, Nat.le_refl _, fun _ _ => rfl⟩⟩
end Go.Proofs.YtfndlpfceokloaaDoor
