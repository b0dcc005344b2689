/- Lemmas towards this claim's statement: what the functions named here come to, each under the conditions that it states itself. -/
import Derived.Test.YtfndlpfceokloaaDoorNum2
namespace Go.Proofs.YtfndlpfceokloaaDoor
open Go.RowKit Go.Shelf YtfndlpfceokloaaDoorB Go.Proofs.YtfndlpfceokloaaDoorW.PrintWords
/-- numeric.find. -/
def findM (op : Int) : Int × Int × Int :=
  if 69 ≤ op ∧ op ≤ 69 then (1, 0, 32) else
  if 70 ≤ op ∧ op ≤ 79 then (2, op - 69, 32) else
  if 80 ≤ op ∧ op ≤ 80 then (1, 0, 64) else
  if 81 ≤ op ∧ op ≤ 90 then (2, op - 69 - 11, 64) else
  if 91 ≤ op ∧ op ≤ 96 then (3, op - 91, 32) else
  if 97 ≤ op ∧ op ≤ 102 then (3, op - 91 - 6, 64) else
  if 103 ≤ op ∧ op ≤ 105 then (4, op - 103, 32) else
  if 106 ≤ op ∧ op ≤ 120 then (5, op - 103, 32) else
  if 121 ≤ op ∧ op ≤ 123 then (4, op - 103 - 18, 64) else
  if 124 ≤ op ∧ op ≤ 138 then (5, op - 103 - 18, 64) else
  if 139 ≤ op ∧ op ≤ 145 then (6, op - 139, 32) else
  if 146 ≤ op ∧ op ≤ 152 then (7, op - 139, 32) else
  if 153 ≤ op ∧ op ≤ 159 then (6, op - 139 - 14, 64) else
  if 160 ≤ op ∧ op ≤ 166 then (7, op - 139 - 14, 64) else
  if 167 ≤ op ∧ op ≤ 191 then (8, op - 167, 0) else
  if 64512 ≤ op ∧ op ≤ 64519 then (9, op - 64512, 0) else
  (0, 0, 0)
def kindM (op : Int) : Int × Int × Int × Bool := kindF (findM op).1 (findM op).2.1 (findM op).2.2
theorem Kind_any (W : World) (op : Int) (h0 : -9223372036854775808 ≤ op) (h1 : op ≤ 9223372036854775807) : Calls Tryd.prog 13 #[.int .i64 op] W (KindPost W (kindM op)) := by
  by_cases c69 : 69 ≤ op ∧ op ≤ 69
  · obtain rfl : op = 69 := by omega
    exact kind_1 W 69 0 32 (fun X => find_69 X) (by omega) (by omega) (by omega)
  by_cases c70 : 70 ≤ op ∧ op ≤ 79
  · rw [kindM, show findM op = (2, op - 69, 32) from by rw [findM, if_neg (by omega), if_pos c70]]
    exact kind_2 W op (op - 69) 32 (fun X => find_70 X op c70.1 c70.2) (by omega) (by omega) (by omega)
  by_cases c80 : 80 ≤ op ∧ op ≤ 80
  · obtain rfl : op = 80 := by omega
    exact kind_1 W 80 0 64 (fun X => find_80 X) (by omega) (by omega) (by omega)
  by_cases c81 : 81 ≤ op ∧ op ≤ 90
  · rw [kindM, show findM op = (2, op - 69 - 11, 64) from by rw [findM, if_neg (by omega), if_neg (by omega), if_neg (by omega), if_pos c81]]
    exact kind_2 W op (op - 69 - 11) 64 (fun X => find_81 X op c81.1 c81.2) (by omega) (by omega) (by omega)
  by_cases c91 : 91 ≤ op ∧ op ≤ 96
  · rw [kindM, show findM op = (3, op - 91, 32) from by rw [findM, if_neg (by omega), if_neg (by omega), if_neg (by omega), if_neg (by omega), if_pos c91]]
    exact kind_3 W op (op - 91) 32 (fun X => find_91 X op c91.1 c91.2) (by omega) (by omega) (by omega)
  by_cases c97 : 97 ≤ op ∧ op ≤ 102
  · rw [kindM, show findM op = (3, op - 91 - 6, 64) from by rw [findM, if_neg (by omega), if_neg (by omega), if_neg (by omega), if_neg (by omega), if_neg (by omega), if_pos c97]]
    exact kind_3 W op (op - 91 - 6) 64 (fun X => find_97 X op c97.1 c97.2) (by omega) (by omega) (by omega)
  by_cases c103 : 103 ≤ op ∧ op ≤ 105
  · rw [kindM, show findM op = (4, op - 103, 32) from by rw [findM, if_neg (by omega), if_neg (by omega), if_neg (by omega), if_neg (by omega), if_neg (by omega), if_neg (by omega), if_pos c103]]
    exact kind_4 W op (op - 103) 32 (fun X => find_103 X op c103.1 c103.2) (by omega) (by omega) (by omega)
  by_cases c106 : 106 ≤ op ∧ op ≤ 120
  · rw [kindM, show findM op = (5, op - 103, 32) from by rw [findM, if_neg (by omega), if_neg (by omega), if_neg (by omega), if_neg (by omega), if_neg (by omega), if_neg (by omega), if_neg (by omega), if_pos c106]]
    exact kind_5 W op (op - 103) 32 (fun X => find_106 X op c106.1 c106.2) (by omega) (by omega) (by omega)
  by_cases c121 : 121 ≤ op ∧ op ≤ 123
  · rw [kindM, show findM op = (4, op - 103 - 18, 64) from by rw [findM, if_neg (by omega), if_neg (by omega), if_neg (by omega), if_neg (by omega), if_neg (by omega), if_neg (by omega), if_neg (by omega), if_neg (by omega), if_pos c121]]
    exact kind_4 W op (op - 103 - 18) 64 (fun X => find_121 X op c121.1 c121.2) (by omega) (by omega) (by omega)
  by_cases c124 : 124 ≤ op ∧ op ≤ 138
  · rw [kindM, show findM op = (5, op - 103 - 18, 64) from by rw [findM, if_neg (by omega), if_neg (by omega), if_neg (by omega), if_neg (by omega), if_neg (by omega), if_neg (by omega), if_neg (by omega), if_neg (by omega), if_neg (by omega), if_pos c124]]
    exact kind_5 W op (op - 103 - 18) 64 (fun X => find_124 X op c124.1 c124.2) (by omega) (by omega) (by omega)
  by_cases c139 : 139 ≤ op ∧ op ≤ 145
  · rw [kindM, show findM op = (6, op - 139, 32) from by rw [findM, if_neg (by omega), if_neg (by omega), if_neg (by omega), if_neg (by omega), if_neg (by omega), if_neg (by omega), if_neg (by omega), if_neg (by omega), if_neg (by omega), if_neg (by omega), if_pos c139]]
    exact kind_6 W op (op - 139) 32 (fun X => find_139 X op c139.1 c139.2) (by omega) (by omega) (by omega)
  by_cases c146 : 146 ≤ op ∧ op ≤ 152
  · rw [kindM, show findM op = (7, op - 139, 32) from by rw [findM, if_neg (by omega), if_neg (by omega), if_neg (by omega), if_neg (by omega), if_neg (by omega), if_neg (by omega), if_neg (by omega), if_neg (by omega), if_neg (by omega), if_neg (by omega), if_neg (by omega), if_pos c146]]
    exact kind_7 W op (op - 139) 32 (fun X => find_146 X op c146.1 c146.2) (by omega) (by omega) (by omega)
  by_cases c153 : 153 ≤ op ∧ op ≤ 159
  · rw [kindM, show findM op = (6, op - 139 - 14, 64) from by rw [findM, if_neg (by omega), if_neg (by omega), if_neg (by omega), if_neg (by omega), if_neg (by omega), if_neg (by omega), if_neg (by omega), if_neg (by omega), if_neg (by omega), if_neg (by omega), if_neg (by omega), if_neg (by omega), if_pos c153]]
    exact kind_6 W op (op - 139 - 14) 64 (fun X => find_153 X op c153.1 c153.2) (by omega) (by omega) (by omega)
  by_cases c160 : 160 ≤ op ∧ op ≤ 166
  · rw [kindM, show findM op = (7, op - 139 - 14, 64) from by rw [findM, if_neg (by omega), if_neg (by omega), if_neg (by omega), if_neg (by omega), if_neg (by omega), if_neg (by omega), if_neg (by omega), if_neg (by omega), if_neg (by omega), if_neg (by omega), if_neg (by omega), if_neg (by omega), if_neg (by omega), if_pos c160]]
    exact kind_7 W op (op - 139 - 14) 64 (fun X => find_160 X op c160.1 c160.2) (by omega) (by omega) (by omega)
  by_cases c167 : 167 ≤ op ∧ op ≤ 191
  · rw [kindM, show findM op = (8, op - 167, 0) from by rw [findM, if_neg (by omega), if_neg (by omega), if_neg (by omega), if_neg (by omega), if_neg (by omega), if_neg (by omega), if_neg (by omega), if_neg (by omega), if_neg (by omega), if_neg (by omega), if_neg (by omega), if_neg (by omega), if_neg (by omega), if_neg (by omega), if_pos c167]]
    exact kind_8 W op (op - 167) 0 (fun X => find_167 X op c167.1 c167.2) (by omega) (by omega) (by omega)
  by_cases c64512 : 64512 ≤ op ∧ op ≤ 64519
  · rw [kindM, show findM op = (9, op - 64512, 0) from by rw [findM, if_neg (by omega), if_neg (by omega), if_neg (by omega), if_neg (by omega), if_neg (by omega), if_neg (by omega), if_neg (by omega), if_neg (by omega), if_neg (by omega), if_neg (by omega), if_neg (by omega), if_neg (by omega), if_neg (by omega), if_neg (by omega), if_neg (by omega), if_pos c64512]]
    exact kind_9 W op (op - 64512) 0 (fun X => find_64512 X op c64512.1 c64512.2) (by omega) (by omega) (by omega)
  rw [kindM, show findM op = (0, 0, 0) from by rw [findM, if_neg c69, if_neg c70, if_neg c80, if_neg c81, if_neg c91, if_neg c97, if_neg c103, if_neg c106, if_neg c121, if_neg c124, if_neg c139, if_neg c146, if_neg c153, if_neg c160, if_neg c167, if_neg c64512]]
  exact kind_0 W op 0 0 (fun X => find_none X op h0 h1 (by omega) (by omega)) (by omega) (by omega) (by omega)
theorem kindM_ok (op : Int) : (kindM op).2.2.2 = decide (69 ≤ op ∧ op ≤ 191 ∨ 64512 ≤ op ∧ op ≤ 64519) := by
  by_cases c69 : 69 ≤ op ∧ op ≤ 69
  · rw [kindM, show findM op = (1, 0, 32) from by rw [findM, if_pos c69], decide_eq_true (by omega)]; rfl
  by_cases c70 : 70 ≤ op ∧ op ≤ 79
  · rw [kindM, show findM op = (2, op - 69, 32) from by rw [findM, if_neg (by omega), if_pos c70], decide_eq_true (by omega)]; rfl
  by_cases c80 : 80 ≤ op ∧ op ≤ 80
  · rw [kindM, show findM op = (1, 0, 64) from by rw [findM, if_neg (by omega), if_neg (by omega), if_pos c80], decide_eq_true (by omega)]; rfl
  by_cases c81 : 81 ≤ op ∧ op ≤ 90
  · rw [kindM, show findM op = (2, op - 69 - 11, 64) from by rw [findM, if_neg (by omega), if_neg (by omega), if_neg (by omega), if_pos c81], decide_eq_true (by omega)]; rfl
  by_cases c91 : 91 ≤ op ∧ op ≤ 96
  · rw [kindM, show findM op = (3, op - 91, 32) from by rw [findM, if_neg (by omega), if_neg (by omega), if_neg (by omega), if_neg (by omega), if_pos c91], decide_eq_true (by omega)]; rfl
  by_cases c97 : 97 ≤ op ∧ op ≤ 102
  · rw [kindM, show findM op = (3, op - 91 - 6, 64) from by rw [findM, if_neg (by omega), if_neg (by omega), if_neg (by omega), if_neg (by omega), if_neg (by omega), if_pos c97], decide_eq_true (by omega)]; rfl
  by_cases c103 : 103 ≤ op ∧ op ≤ 105
  · rw [kindM, show findM op = (4, op - 103, 32) from by rw [findM, if_neg (by omega), if_neg (by omega), if_neg (by omega), if_neg (by omega), if_neg (by omega), if_neg (by omega), if_pos c103], decide_eq_true (by omega)]; rfl
  by_cases c106 : 106 ≤ op ∧ op ≤ 120
  · rw [kindM, show findM op = (5, op - 103, 32) from by rw [findM, if_neg (by omega), if_neg (by omega), if_neg (by omega), if_neg (by omega), if_neg (by omega), if_neg (by omega), if_neg (by omega), if_pos c106], decide_eq_true (by omega)]; rfl
  by_cases c121 : 121 ≤ op ∧ op ≤ 123
  · rw [kindM, show findM op = (4, op - 103 - 18, 64) from by rw [findM, if_neg (by omega), if_neg (by omega), if_neg (by omega), if_neg (by omega), if_neg (by omega), if_neg (by omega), if_neg (by omega), if_neg (by omega), if_pos c121], decide_eq_true (by omega)]; rfl
  by_cases c124 : 124 ≤ op ∧ op ≤ 138
  · rw [kindM, show findM op = (5, op - 103 - 18, 64) from by rw [findM, if_neg (by omega), if_neg (by omega), if_neg (by omega), if_neg (by omega), if_neg (by omega), if_neg (by omega), if_neg (by omega), if_neg (by omega), if_neg (by omega), if_pos c124], decide_eq_true (by omega)]; rfl
  by_cases c139 : 139 ≤ op ∧ op ≤ 145
  · rw [kindM, show findM op = (6, op - 139, 32) from by rw [findM, if_neg (by omega), if_neg (by omega), if_neg (by omega), if_neg (by omega), if_neg (by omega), if_neg (by omega), if_neg (by omega), if_neg (by omega), if_neg (by omega), if_neg (by omega), if_pos c139], decide_eq_true (by omega)]; rfl
  by_cases c146 : 146 ≤ op ∧ op ≤ 152
  · rw [kindM, show findM op = (7, op - 139, 32) from by rw [findM, if_neg (by omega), if_neg (by omega), if_neg (by omega), if_neg (by omega), if_neg (by omega), if_neg (by omega), if_neg (by omega), if_neg (by omega), if_neg (by omega), if_neg (by omega), if_neg (by omega), if_pos c146], decide_eq_true (by omega)]; rfl
  by_cases c153 : 153 ≤ op ∧ op ≤ 159
  · rw [kindM, show findM op = (6, op - 139 - 14, 64) from by rw [findM, if_neg (by omega), if_neg (by omega), if_neg (by omega), if_neg (by omega), if_neg (by omega), if_neg (by omega), if_neg (by omega), if_neg (by omega), if_neg (by omega), if_neg (by omega), if_neg (by omega), if_neg (by omega), if_pos c153], decide_eq_true (by omega)]; rfl
  by_cases c160 : 160 ≤ op ∧ op ≤ 166
  · rw [kindM, show findM op = (7, op - 139 - 14, 64) from by rw [findM, if_neg (by omega), if_neg (by omega), if_neg (by omega), if_neg (by omega), if_neg (by omega), if_neg (by omega), if_neg (by omega), if_neg (by omega), if_neg (by omega), if_neg (by omega), if_neg (by omega), if_neg (by omega), if_neg (by omega), if_pos c160], decide_eq_true (by omega)]; rfl
  by_cases c167 : 167 ≤ op ∧ op ≤ 191
  · rw [kindM, show findM op = (8, op - 167, 0) from by rw [findM, if_neg (by omega), if_neg (by omega), if_neg (by omega), if_neg (by omega), if_neg (by omega), if_neg (by omega), if_neg (by omega), if_neg (by omega), if_neg (by omega), if_neg (by omega), if_neg (by omega), if_neg (by omega), if_neg (by omega), if_neg (by omega), if_pos c167], decide_eq_true (by omega)]; rfl
  by_cases c64512 : 64512 ≤ op ∧ op ≤ 64519
  · rw [kindM, show findM op = (9, op - 64512, 0) from by rw [findM, if_neg (by omega), if_neg (by omega), if_neg (by omega), if_neg (by omega), if_neg (by omega), if_neg (by omega), if_neg (by omega), if_neg (by omega), if_neg (by omega), if_neg (by omega), if_neg (by omega), if_neg (by omega), if_neg (by omega), if_neg (by omega), if_neg (by omega), if_pos c64512], decide_eq_true (by omega)]; rfl
  rw [kindM, show findM op = (0, 0, 0) from by rw [findM, if_neg c69, if_neg c70, if_neg c80, if_neg c81, if_neg c91, if_neg c97, if_neg c103, if_neg c106, if_neg c121, if_neg c124, if_neg c139, if_neg c146, if_neg c153, if_neg c160, if_neg c167, if_neg c64512], decide_eq_false (by omega)]; rfl
/-- opcode.Imm. -/
def immM (op : Int) : Int × Bool :=
  if op = 0 ∨ op = 1 ∨ op = 15 ∨ op = 26 ∨ op = 27 then (0, true) else
  if op = 2 ∨ op = 3 ∨ op = 4 then (1, true) else
  if op = 5 ∨ op = 11 then (12, true) else
  if op = 12 ∨ op = 13 then (2, true) else
  if op = 14 then (3, true) else
  if op = 16 ∨ op = 32 ∨ op = 33 ∨ op = 34 ∨ op = 35 ∨ op = 36 then (4, true) else
  if op = 17 then (5, true) else
  if op = 63 ∨ op = 64 then (7, true) else
  if op = 65 then (8, true) else
  if op = 66 then (9, true) else
  if op = 67 then (10, true) else
  if op = 68 then (11, true) else
  if 40 ≤ op ∧ op ≤ 62 then (6, true) else (0, decide (69 ≤ op ∧ op ≤ 191 ∨ 64512 ≤ op ∧ op ≤ 64519))
def ImmPost (W : World) (r : Int × Bool) (E : Ending) (w' : World) : Prop := E = .returned (.tuple #[.int .i64 r.1, .bool r.2]) ∧ Below W.heap.size W w'
set_option maxRecDepth 100000 in
theorem imm_0 (W : World) : Calls Tryd.prog 7 #[.int .i64 0] W (ImmPost W (immM 0)) := by
  go_enter Tryd.func7, Tryd.ntmps7
  go_wp2_with fail
  go_ret2
  exact ⟨rfl, Below.refl _ _⟩
set_option maxRecDepth 100000 in
theorem imm_1 (W : World) : Calls Tryd.prog 7 #[.int .i64 1] W (ImmPost W (immM 1)) := by
  go_enter Tryd.func7, Tryd.ntmps7
  go_wp2_with fail
  go_ret2
  exact ⟨rfl, Below.refl _ _⟩
set_option maxRecDepth 100000 in
theorem imm_15 (W : World) : Calls Tryd.prog 7 #[.int .i64 15] W (ImmPost W (immM 15)) := by
  go_enter Tryd.func7, Tryd.ntmps7
  go_wp2_with fail
  go_ret2
  exact ⟨rfl, Below.refl _ _⟩
set_option maxRecDepth 100000 in
theorem imm_26 (W : World) : Calls Tryd.prog 7 #[.int .i64 26] W (ImmPost W (immM 26)) := by
  go_enter Tryd.func7, Tryd.ntmps7
  go_wp2_with fail
  go_ret2
  exact ⟨rfl, Below.refl _ _⟩
set_option maxRecDepth 100000 in
theorem imm_27 (W : World) : Calls Tryd.prog 7 #[.int .i64 27] W (ImmPost W (immM 27)) := by
  go_enter Tryd.func7, Tryd.ntmps7
  go_wp2_with fail
  go_ret2
  exact ⟨rfl, Below.refl _ _⟩
set_option maxRecDepth 100000 in
theorem imm_2 (W : World) : Calls Tryd.prog 7 #[.int .i64 2] W (ImmPost W (immM 2)) := by
  go_enter Tryd.func7, Tryd.ntmps7
  go_wp2_with fail
  go_ret2
  exact ⟨rfl, Below.refl _ _⟩
set_option maxRecDepth 100000 in
theorem imm_3 (W : World) : Calls Tryd.prog 7 #[.int .i64 3] W (ImmPost W (immM 3)) := by
  go_enter Tryd.func7, Tryd.ntmps7
  go_wp2_with fail
  go_ret2
  exact ⟨rfl, Below.refl _ _⟩
set_option maxRecDepth 100000 in
theorem imm_4 (W : World) : Calls Tryd.prog 7 #[.int .i64 4] W (ImmPost W (immM 4)) := by
  go_enter Tryd.func7, Tryd.ntmps7
  go_wp2_with fail
  go_ret2
  exact ⟨rfl, Below.refl _ _⟩
set_option maxRecDepth 100000 in
theorem imm_5 (W : World) : Calls Tryd.prog 7 #[.int .i64 5] W (ImmPost W (immM 5)) := by
  go_enter Tryd.func7, Tryd.ntmps7
  go_wp2_with fail
  go_ret2
  exact ⟨rfl, Below.refl _ _⟩
set_option maxRecDepth 100000 in
theorem imm_11 (W : World) : Calls Tryd.prog 7 #[.int .i64 11] W (ImmPost W (immM 11)) := by
  go_enter Tryd.func7, Tryd.ntmps7
  go_wp2_with fail
  go_ret2
  exact ⟨rfl, Below.refl _ _⟩
set_option maxRecDepth 100000 in
theorem imm_12 (W : World) : Calls Tryd.prog 7 #[.int .i64 12] W (ImmPost W (immM 12)) := by
  go_enter Tryd.func7, Tryd.ntmps7
  go_wp2_with fail
  go_ret2
  exact ⟨rfl, Below.refl _ _⟩
set_option maxRecDepth 100000 in
theorem imm_13 (W : World) : Calls Tryd.prog 7 #[.int .i64 13] W (ImmPost W (immM 13)) := by
  go_enter Tryd.func7, Tryd.ntmps7
  go_wp2_with fail
  go_ret2
  exact ⟨rfl, Below.refl _ _⟩
set_option maxRecDepth 100000 in
theorem imm_14 (W : World) : Calls Tryd.prog 7 #[.int .i64 14] W (ImmPost W (immM 14)) := by
  go_enter Tryd.func7, Tryd.ntmps7
  go_wp2_with fail
  go_ret2
  exact ⟨rfl, Below.refl _ _⟩
set_option maxRecDepth 100000 in
theorem imm_16 (W : World) : Calls Tryd.prog 7 #[.int .i64 16] W (ImmPost W (immM 16)) := by
  go_enter Tryd.func7, Tryd.ntmps7
  go_wp2_with fail
  go_ret2
  exact ⟨rfl, Below.refl _ _⟩
set_option maxRecDepth 100000 in
theorem imm_32 (W : World) : Calls Tryd.prog 7 #[.int .i64 32] W (ImmPost W (immM 32)) := by
  go_enter Tryd.func7, Tryd.ntmps7
  go_wp2_with fail
  go_ret2
  exact ⟨rfl, Below.refl _ _⟩
set_option maxRecDepth 100000 in
theorem imm_33 (W : World) : Calls Tryd.prog 7 #[.int .i64 33] W (ImmPost W (immM 33)) := by
  go_enter Tryd.func7, Tryd.ntmps7
  go_wp2_with fail
  go_ret2
  exact ⟨rfl, Below.refl _ _⟩
set_option maxRecDepth 100000 in
theorem imm_34 (W : World) : Calls Tryd.prog 7 #[.int .i64 34] W (ImmPost W (immM 34)) := by
  go_enter Tryd.func7, Tryd.ntmps7
  go_wp2_with fail
  go_ret2
  exact ⟨rfl, Below.refl _ _⟩
set_option maxRecDepth 100000 in
theorem imm_35 (W : World) : Calls Tryd.prog 7 #[.int .i64 35] W (ImmPost W (immM 35)) := by
  go_enter Tryd.func7, Tryd.ntmps7
  go_wp2_with fail
  go_ret2
  exact ⟨rfl, Below.refl _ _⟩
set_option maxRecDepth 100000 in
theorem imm_36 (W : World) : Calls Tryd.prog 7 #[.int .i64 36] W (ImmPost W (immM 36)) := by
  go_enter Tryd.func7, Tryd.ntmps7
  go_wp2_with fail
  go_ret2
  exact ⟨rfl, Below.refl _ _⟩
set_option maxRecDepth 100000 in
theorem imm_17 (W : World) : Calls Tryd.prog 7 #[.int .i64 17] W (ImmPost W (immM 17)) := by
  go_enter Tryd.func7, Tryd.ntmps7
  go_wp2_with fail
  go_ret2
  exact ⟨rfl, Below.refl _ _⟩
set_option maxRecDepth 100000 in
theorem imm_63 (W : World) : Calls Tryd.prog 7 #[.int .i64 63] W (ImmPost W (immM 63)) := by
  go_enter Tryd.func7, Tryd.ntmps7
  go_wp2_with fail
  go_ret2
  exact ⟨rfl, Below.refl _ _⟩
set_option maxRecDepth 100000 in
theorem imm_64 (W : World) : Calls Tryd.prog 7 #[.int .i64 64] W (ImmPost W (immM 64)) := by
  go_enter Tryd.func7, Tryd.ntmps7
  go_wp2_with fail
  go_ret2
  exact ⟨rfl, Below.refl _ _⟩
set_option maxRecDepth 100000 in
theorem imm_65 (W : World) : Calls Tryd.prog 7 #[.int .i64 65] W (ImmPost W (immM 65)) := by
  go_enter Tryd.func7, Tryd.ntmps7
  go_wp2_with fail
  go_ret2
  exact ⟨rfl, Below.refl _ _⟩
set_option maxRecDepth 100000 in
theorem imm_66 (W : World) : Calls Tryd.prog 7 #[.int .i64 66] W (ImmPost W (immM 66)) := by
  go_enter Tryd.func7, Tryd.ntmps7
  go_wp2_with fail
  go_ret2
  exact ⟨rfl, Below.refl _ _⟩
set_option maxRecDepth 100000 in
theorem imm_67 (W : World) : Calls Tryd.prog 7 #[.int .i64 67] W (ImmPost W (immM 67)) := by
  go_enter Tryd.func7, Tryd.ntmps7
  go_wp2_with fail
  go_ret2
  exact ⟨rfl, Below.refl _ _⟩
set_option maxRecDepth 100000 in
theorem imm_68 (W : World) : Calls Tryd.prog 7 #[.int .i64 68] W (ImmPost W (immM 68)) := by
  go_enter Tryd.func7, Tryd.ntmps7
  go_wp2_with fail
  go_ret2
  exact ⟨rfl, Below.refl _ _⟩
set_option maxRecDepth 100000 in
theorem imm_mem (W : World) (op : Int) (h0 : 40 ≤ op) (h1 : op ≤ 62) : Calls Tryd.prog 7 #[.int .i64 op] W (ImmPost W (6, true)) := by
  have z0 : (op == 0) = false := beq_eq_false_iff_ne.2 (by omega)
  have z1 : (op == 1) = false := beq_eq_false_iff_ne.2 (by omega)
  have z15 : (op == 15) = false := beq_eq_false_iff_ne.2 (by omega)
  have z26 : (op == 26) = false := beq_eq_false_iff_ne.2 (by omega)
  have z27 : (op == 27) = false := beq_eq_false_iff_ne.2 (by omega)
  have z2 : (op == 2) = false := beq_eq_false_iff_ne.2 (by omega)
  have z3 : (op == 3) = false := beq_eq_false_iff_ne.2 (by omega)
  have z4 : (op == 4) = false := beq_eq_false_iff_ne.2 (by omega)
  have z5 : (op == 5) = false := beq_eq_false_iff_ne.2 (by omega)
  have z11 : (op == 11) = false := beq_eq_false_iff_ne.2 (by omega)
  have z12 : (op == 12) = false := beq_eq_false_iff_ne.2 (by omega)
  have z13 : (op == 13) = false := beq_eq_false_iff_ne.2 (by omega)
  have z14 : (op == 14) = false := beq_eq_false_iff_ne.2 (by omega)
  have z16 : (op == 16) = false := beq_eq_false_iff_ne.2 (by omega)
  have z32 : (op == 32) = false := beq_eq_false_iff_ne.2 (by omega)
  have z33 : (op == 33) = false := beq_eq_false_iff_ne.2 (by omega)
  have z34 : (op == 34) = false := beq_eq_false_iff_ne.2 (by omega)
  have z35 : (op == 35) = false := beq_eq_false_iff_ne.2 (by omega)
  have z36 : (op == 36) = false := beq_eq_false_iff_ne.2 (by omega)
  have z17 : (op == 17) = false := beq_eq_false_iff_ne.2 (by omega)
  have z63 : (op == 63) = false := beq_eq_false_iff_ne.2 (by omega)
  have z64 : (op == 64) = false := beq_eq_false_iff_ne.2 (by omega)
  have z65 : (op == 65) = false := beq_eq_false_iff_ne.2 (by omega)
  have z66 : (op == 66) = false := beq_eq_false_iff_ne.2 (by omega)
  have z67 : (op == 67) = false := beq_eq_false_iff_ne.2 (by omega)
  have z68 : (op == 68) = false := beq_eq_false_iff_ne.2 (by omega)
  go_enter Tryd.func7, Tryd.ntmps7
  go_wp2_with fail
  go_ret2
  exact ⟨rfl, Below.refl _ _⟩
set_option maxRecDepth 100000 in
theorem imm_num (W : World) (op : Int) (h0 : -9223372036854775808 ≤ op) (h1 : op ≤ 9223372036854775807) (hm : op < 40 ∨ 62 < op) (hl : ¬ op = 0 ∧ ¬ op = 1 ∧ ¬ op = 15 ∧ ¬ op = 26 ∧ ¬ op = 27 ∧ ¬ op = 2 ∧ ¬ op = 3 ∧ ¬ op = 4 ∧ ¬ op = 5 ∧ ¬ op = 11 ∧ ¬ op = 12 ∧ ¬ op = 13 ∧ ¬ op = 14 ∧ ¬ op = 16 ∧ ¬ op = 32 ∧ ¬ op = 33 ∧ ¬ op = 34 ∧ ¬ op = 35 ∧ ¬ op = 36 ∧ ¬ op = 17 ∧ ¬ op = 63 ∧ ¬ op = 64 ∧ ¬ op = 65 ∧ ¬ op = 66 ∧ ¬ op = 67 ∧ ¬ op = 68) : Calls Tryd.prog 7 #[.int .i64 op] W (ImmPost W (0, decide (69 ≤ op ∧ op ≤ 191 ∨ 64512 ≤ op ∧ op ≤ 64519))) := by
  have z0 : (op == 0) = false := beq_eq_false_iff_ne.2 (by omega)
  have z1 : (op == 1) = false := beq_eq_false_iff_ne.2 (by omega)
  have z15 : (op == 15) = false := beq_eq_false_iff_ne.2 (by omega)
  have z26 : (op == 26) = false := beq_eq_false_iff_ne.2 (by omega)
  have z27 : (op == 27) = false := beq_eq_false_iff_ne.2 (by omega)
  have z2 : (op == 2) = false := beq_eq_false_iff_ne.2 (by omega)
  have z3 : (op == 3) = false := beq_eq_false_iff_ne.2 (by omega)
  have z4 : (op == 4) = false := beq_eq_false_iff_ne.2 (by omega)
  have z5 : (op == 5) = false := beq_eq_false_iff_ne.2 (by omega)
  have z11 : (op == 11) = false := beq_eq_false_iff_ne.2 (by omega)
  have z12 : (op == 12) = false := beq_eq_false_iff_ne.2 (by omega)
  have z13 : (op == 13) = false := beq_eq_false_iff_ne.2 (by omega)
  have z14 : (op == 14) = false := beq_eq_false_iff_ne.2 (by omega)
  have z16 : (op == 16) = false := beq_eq_false_iff_ne.2 (by omega)
  have z32 : (op == 32) = false := beq_eq_false_iff_ne.2 (by omega)
  have z33 : (op == 33) = false := beq_eq_false_iff_ne.2 (by omega)
  have z34 : (op == 34) = false := beq_eq_false_iff_ne.2 (by omega)
  have z35 : (op == 35) = false := beq_eq_false_iff_ne.2 (by omega)
  have z36 : (op == 36) = false := beq_eq_false_iff_ne.2 (by omega)
  have z17 : (op == 17) = false := beq_eq_false_iff_ne.2 (by omega)
  have z63 : (op == 63) = false := beq_eq_false_iff_ne.2 (by omega)
  have z64 : (op == 64) = false := beq_eq_false_iff_ne.2 (by omega)
  have z65 : (op == 65) = false := beq_eq_false_iff_ne.2 (by omega)
  have z66 : (op == 66) = false := beq_eq_false_iff_ne.2 (by omega)
  have z67 : (op == 67) = false := beq_eq_false_iff_ne.2 (by omega)
  have z68 : (op == 68) = false := beq_eq_false_iff_ne.2 (by omega)
  have HK := Lib.hid (Kind_any W op h0 h1)
  have HO := Lib.hid (kindM_ok op)
  generalize kindM op = r at *
  obtain ⟨r1, r2, r3, r4⟩ := r
  clear hl
  go_enter Tryd.func7, Tryd.ntmps7
  go_wp2_with fail
  all_goals
    refine HK.out.mono ?_
    rintro E V ⟨rfl, hB⟩
    go_wp2_with fail
    go_ret2
    exact ⟨by rw [← HO.out]; rfl, hB⟩
theorem Imm_all (W : World) (op : Int) (h0 : -9223372036854775808 ≤ op) (h1 : op ≤ 9223372036854775807) : Calls Tryd.prog 7 #[.int .i64 op] W (ImmPost W (immM op)) := by
  by_cases c0 : op = 0
  · subst c0; exact imm_0 W
  by_cases c1 : op = 1
  · subst c1; exact imm_1 W
  by_cases c15 : op = 15
  · subst c15; exact imm_15 W
  by_cases c26 : op = 26
  · subst c26; exact imm_26 W
  by_cases c27 : op = 27
  · subst c27; exact imm_27 W
  by_cases c2 : op = 2
  · subst c2; exact imm_2 W
  by_cases c3 : op = 3
  · subst c3; exact imm_3 W
  by_cases c4 : op = 4
  · subst c4; exact imm_4 W
  by_cases c5 : op = 5
  · subst c5; exact imm_5 W
  by_cases c11 : op = 11
  · subst c11; exact imm_11 W
  by_cases c12 : op = 12
  · subst c12; exact imm_12 W
  by_cases c13 : op = 13
  · subst c13; exact imm_13 W
  by_cases c14 : op = 14
  · subst c14; exact imm_14 W
  by_cases c16 : op = 16
  · subst c16; exact imm_16 W
  by_cases c32 : op = 32
  · subst c32; exact imm_32 W
  by_cases c33 : op = 33
  · subst c33; exact imm_33 W
  by_cases c34 : op = 34
  · subst c34; exact imm_34 W
  by_cases c35 : op = 35
  · subst c35; exact imm_35 W
  by_cases c36 : op = 36
  · subst c36; exact imm_36 W
  by_cases c17 : op = 17
  · subst c17; exact imm_17 W
  by_cases c63 : op = 63
  · subst c63; exact imm_63 W
  by_cases c64 : op = 64
  · subst c64; exact imm_64 W
  by_cases c65 : op = 65
  · subst c65; exact imm_65 W
  by_cases c66 : op = 66
  · subst c66; exact imm_66 W
  by_cases c67 : op = 67
  · subst c67; exact imm_67 W
  by_cases c68 : op = 68
  · subst c68; exact imm_68 W
  by_cases cm : 40 ≤ op ∧ op ≤ 62
  · rw [show immM op = (6, true) from by rw [immM, if_neg (by omega), if_neg (by omega), if_neg (by omega), if_neg (by omega), if_neg (by omega), if_neg (by omega), if_neg (by omega), if_neg (by omega), if_neg (by omega), if_neg (by omega), if_neg (by omega), if_neg (by omega), if_pos cm]]; exact imm_mem W op cm.1 cm.2
  rw [show immM op = (0, decide (69 ≤ op ∧ op ≤ 191 ∨ 64512 ≤ op ∧ op ≤ 64519)) from by rw [immM, if_neg (by omega), if_neg (by omega), if_neg (by omega), if_neg (by omega), if_neg (by omega), if_neg (by omega), if_neg (by omega), if_neg (by omega), if_neg (by omega), if_neg (by omega), if_neg (by omega), if_neg (by omega), if_neg cm]]
  exact imm_num W op h0 h1 (by omega) ⟨c0, c1, c15, c26, c27, c2, c3, c4, c5, c11, c12, c13, c14, c16, c32, c33, c34, c35, c36, c17, c63, c64, c65, c66, c67, c68⟩
theorem Imm_any (W : World) (op : Int) (h0 : 0 ≤ op) (h1 : op ≤ 5000000000) : Calls Tryd.prog 7 #[.int .i64 op] W (ImmPost W (immM op)) := Imm_all W op (by omega) (by omega)
end Go.Proofs.YtfndlpfceokloaaDoor
