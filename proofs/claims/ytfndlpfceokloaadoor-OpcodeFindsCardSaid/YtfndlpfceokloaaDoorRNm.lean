/- Lemmas towards this claim's statement: what the functions named here come to, each under the conditions that it states itself. -/
import Derived.Test.YtfndlpfceokloaaDoorRNmL
import Derived.Test.YtfndlpfceokloaaDoorRCodes
namespace Go.Proofs.YtfndlpfceokloaaDoorB
open Go.RowKit
def gF : List ByteArray := [⟨#[105, 51, 50, 46]⟩, ⟨#[105, 54, 52, 46]⟩, ⟨#[102, 51, 50, 46]⟩, ⟨#[102, 54, 52, 46]⟩, ⟨#[105, 51, 50, 46]⟩, ⟨#[105, 54, 52, 46]⟩, ⟨#[102, 51, 50, 46]⟩, ⟨#[102, 54, 52, 46]⟩, ⟨#[]⟩]
def gL : List (List ByteArray) := [rl_relations, rl_relations, rl_floats, rl_floats, rl_wholes, rl_wholes, rl_doubles, rl_doubles, rl_turns]
end Go.Proofs.YtfndlpfceokloaaDoorB
namespace Go.Proofs.YtfndlpfceokloaaDoor
open Go.RowKit Go.Shelf YtfndlpfceokloaaDoorB Go.Proofs.YtfndlpfceokloaaDoorW.PrintWords
def GroupX (W : World) (g : Nat) (E : Ending) (w' : World) : Prop := (∃ A, E = .returned (.tuple #[.string (gF.getD g ⟨#[]⟩), .slice A (lenG g) (lenG g)]) ∧ StrL w' A (gL.getD g [])) ∧ Below W.heap.size W w'
def gFC : Array Value := (gF.map Value.string).toArray
set_option maxRecDepth 100000 in
set_option maxHeartbeats 1000000 in
theorem groupX_0 (W : World) : Calls Tryd.prog 32 #[.int .i64 0] W (GroupX W 0) := by
  go_enter Tryd.func32, Tryd.ntmps32
  go_wp2_with fail
  have hsz := World.size_alloc W (.cells gFC 9)
  have hB0 := (Below.refl W.heap.size W).alloc (Nat.le_refl _) (.cells gFC 9)
  have c0 : (W.alloc (.cells gFC 9)).cell? ⟨W.heap.size, 0, none⟩ = some (.string (gF.getD 0 ⟨#[]⟩)) := by rw [(Blk.new W gFC 9).cell]; rfl
  change Code.wp _ _ _ _ (W.alloc (.cells gFC 9))
  obtain ⟨f, hf⟩ : ∃ f, gF.getD 0 ⟨#[]⟩ = f := ⟨_, rfl⟩
  rw [hf] at c0
  have HF := Lib.hid hf
  clear hf
  generalize W.alloc (.cells gFC 9) = W0 at *
  have hB0' := Lib.hid hB0
  have hz := Lib.hid hsz
  clear hB0 hsz
  go_region_held3 (fun w' => w'.cell? ⟨W.heap.size, 0, none⟩ = some (.string f) ∧ Below W0.heap.size W0 w')
    (first | exact ⟨c0, (Below.refl _ _).drew⟩ | exact ⟨pw_cell_below (w := W0.drew) hB3 c0, ((Below.refl _ _).drew).trans hB3⟩)
    (first | (go_at_call 39; refine (rl_relations_any _).mono ?_; rintro E w3 ⟨⟨A, rfl, hS3⟩, hB3⟩))
  all_goals
    rename_i hS
    obtain ⟨d0, hB4⟩ := hS
    have HS3 := Lib.hid hS3
    have HB := Lib.hid (hB0'.out.trans (hB4.mono (by have := hz.out; omega)))
    clear hS3 hB3 hB4
    go_wp2_with fail
    go_ret2
    exact ⟨⟨A, by rw [HF.out]; rfl, HS3.out⟩, HB.out⟩
set_option maxRecDepth 100000 in
set_option maxHeartbeats 1000000 in
theorem groupX_1 (W : World) : Calls Tryd.prog 32 #[.int .i64 1] W (GroupX W 1) := by
  go_enter Tryd.func32, Tryd.ntmps32
  go_wp2_with fail
  have hsz := World.size_alloc W (.cells gFC 9)
  have hB0 := (Below.refl W.heap.size W).alloc (Nat.le_refl _) (.cells gFC 9)
  have c0 : (W.alloc (.cells gFC 9)).cell? ⟨W.heap.size, 1, none⟩ = some (.string (gF.getD 1 ⟨#[]⟩)) := by rw [(Blk.new W gFC 9).cell]; rfl
  change Code.wp _ _ _ _ (W.alloc (.cells gFC 9))
  obtain ⟨f, hf⟩ : ∃ f, gF.getD 1 ⟨#[]⟩ = f := ⟨_, rfl⟩
  rw [hf] at c0
  have HF := Lib.hid hf
  clear hf
  generalize W.alloc (.cells gFC 9) = W0 at *
  have hB0' := Lib.hid hB0
  have hz := Lib.hid hsz
  clear hB0 hsz
  go_region_held3 (fun w' => w'.cell? ⟨W.heap.size, 1, none⟩ = some (.string f) ∧ Below W0.heap.size W0 w')
    (first | exact ⟨c0, (Below.refl _ _).drew⟩ | exact ⟨pw_cell_below (w := W0.drew) hB3 c0, ((Below.refl _ _).drew).trans hB3⟩)
    (first | (go_at_call 39; refine (rl_relations_any _).mono ?_; rintro E w3 ⟨⟨A, rfl, hS3⟩, hB3⟩))
  all_goals
    rename_i hS
    obtain ⟨d0, hB4⟩ := hS
    have HS3 := Lib.hid hS3
    have HB := Lib.hid (hB0'.out.trans (hB4.mono (by have := hz.out; omega)))
    clear hS3 hB3 hB4
    go_wp2_with fail
    go_ret2
    exact ⟨⟨A, by rw [HF.out]; rfl, HS3.out⟩, HB.out⟩
set_option maxRecDepth 100000 in
set_option maxHeartbeats 1000000 in
theorem groupX_2 (W : World) : Calls Tryd.prog 32 #[.int .i64 2] W (GroupX W 2) := by
  go_enter Tryd.func32, Tryd.ntmps32
  go_wp2_with fail
  have hsz := World.size_alloc W (.cells gFC 9)
  have hB0 := (Below.refl W.heap.size W).alloc (Nat.le_refl _) (.cells gFC 9)
  have c0 : (W.alloc (.cells gFC 9)).cell? ⟨W.heap.size, 2, none⟩ = some (.string (gF.getD 2 ⟨#[]⟩)) := by rw [(Blk.new W gFC 9).cell]; rfl
  change Code.wp _ _ _ _ (W.alloc (.cells gFC 9))
  obtain ⟨f, hf⟩ : ∃ f, gF.getD 2 ⟨#[]⟩ = f := ⟨_, rfl⟩
  rw [hf] at c0
  have HF := Lib.hid hf
  clear hf
  generalize W.alloc (.cells gFC 9) = W0 at *
  have hB0' := Lib.hid hB0
  have hz := Lib.hid hsz
  clear hB0 hsz
  go_region_held3 (fun w' => w'.cell? ⟨W.heap.size, 2, none⟩ = some (.string f) ∧ Below W0.heap.size W0 w')
    (first | exact ⟨c0, (Below.refl _ _).drew⟩ | exact ⟨pw_cell_below (w := W0.drew) hB3 c0, ((Below.refl _ _).drew).trans hB3⟩)
    (first | (go_at_call 40; refine (rl_floats_any _).mono ?_; rintro E w3 ⟨⟨A, rfl, hS3⟩, hB3⟩))
  all_goals
    rename_i hS
    obtain ⟨d0, hB4⟩ := hS
    have HS3 := Lib.hid hS3
    have HB := Lib.hid (hB0'.out.trans (hB4.mono (by have := hz.out; omega)))
    clear hS3 hB3 hB4
    go_wp2_with fail
    go_ret2
    exact ⟨⟨A, by rw [HF.out]; rfl, HS3.out⟩, HB.out⟩
set_option maxRecDepth 100000 in
set_option maxHeartbeats 1000000 in
theorem groupX_3 (W : World) : Calls Tryd.prog 32 #[.int .i64 3] W (GroupX W 3) := by
  go_enter Tryd.func32, Tryd.ntmps32
  go_wp2_with fail
  have hsz := World.size_alloc W (.cells gFC 9)
  have hB0 := (Below.refl W.heap.size W).alloc (Nat.le_refl _) (.cells gFC 9)
  have c0 : (W.alloc (.cells gFC 9)).cell? ⟨W.heap.size, 3, none⟩ = some (.string (gF.getD 3 ⟨#[]⟩)) := by rw [(Blk.new W gFC 9).cell]; rfl
  change Code.wp _ _ _ _ (W.alloc (.cells gFC 9))
  obtain ⟨f, hf⟩ : ∃ f, gF.getD 3 ⟨#[]⟩ = f := ⟨_, rfl⟩
  rw [hf] at c0
  have HF := Lib.hid hf
  clear hf
  generalize W.alloc (.cells gFC 9) = W0 at *
  have hB0' := Lib.hid hB0
  have hz := Lib.hid hsz
  clear hB0 hsz
  go_region_held3 (fun w' => w'.cell? ⟨W.heap.size, 3, none⟩ = some (.string f) ∧ Below W0.heap.size W0 w')
    (first | exact ⟨c0, (Below.refl _ _).drew⟩ | exact ⟨pw_cell_below (w := W0.drew) hB3 c0, ((Below.refl _ _).drew).trans hB3⟩)
    (first | (go_at_call 40; refine (rl_floats_any _).mono ?_; rintro E w3 ⟨⟨A, rfl, hS3⟩, hB3⟩))
  all_goals
    rename_i hS
    obtain ⟨d0, hB4⟩ := hS
    have HS3 := Lib.hid hS3
    have HB := Lib.hid (hB0'.out.trans (hB4.mono (by have := hz.out; omega)))
    clear hS3 hB3 hB4
    go_wp2_with fail
    go_ret2
    exact ⟨⟨A, by rw [HF.out]; rfl, HS3.out⟩, HB.out⟩
set_option maxRecDepth 100000 in
set_option maxHeartbeats 1000000 in
theorem groupX_4 (W : World) : Calls Tryd.prog 32 #[.int .i64 4] W (GroupX W 4) := by
  go_enter Tryd.func32, Tryd.ntmps32
  go_wp2_with fail
  have hsz := World.size_alloc W (.cells gFC 9)
  have hB0 := (Below.refl W.heap.size W).alloc (Nat.le_refl _) (.cells gFC 9)
  have c0 : (W.alloc (.cells gFC 9)).cell? ⟨W.heap.size, 4, none⟩ = some (.string (gF.getD 4 ⟨#[]⟩)) := by rw [(Blk.new W gFC 9).cell]; rfl
  change Code.wp _ _ _ _ (W.alloc (.cells gFC 9))
  obtain ⟨f, hf⟩ : ∃ f, gF.getD 4 ⟨#[]⟩ = f := ⟨_, rfl⟩
  rw [hf] at c0
  have HF := Lib.hid hf
  clear hf
  generalize W.alloc (.cells gFC 9) = W0 at *
  have hB0' := Lib.hid hB0
  have hz := Lib.hid hsz
  clear hB0 hsz
  go_region_held3 (fun w' => w'.cell? ⟨W.heap.size, 4, none⟩ = some (.string f) ∧ Below W0.heap.size W0 w')
    (first | exact ⟨c0, (Below.refl _ _).drew⟩ | exact ⟨pw_cell_below (w := W0.drew) hB3 c0, ((Below.refl _ _).drew).trans hB3⟩)
    (first | (go_at_call 41; refine (rl_wholes_any _).mono ?_; rintro E w3 ⟨⟨A, rfl, hS3⟩, hB3⟩))
  all_goals
    rename_i hS
    obtain ⟨d0, hB4⟩ := hS
    have HS3 := Lib.hid hS3
    have HB := Lib.hid (hB0'.out.trans (hB4.mono (by have := hz.out; omega)))
    clear hS3 hB3 hB4
    go_wp2_with fail
    go_ret2
    exact ⟨⟨A, by rw [HF.out]; rfl, HS3.out⟩, HB.out⟩
set_option maxRecDepth 100000 in
set_option maxHeartbeats 1000000 in
theorem groupX_5 (W : World) : Calls Tryd.prog 32 #[.int .i64 5] W (GroupX W 5) := by
  go_enter Tryd.func32, Tryd.ntmps32
  go_wp2_with fail
  have hsz := World.size_alloc W (.cells gFC 9)
  have hB0 := (Below.refl W.heap.size W).alloc (Nat.le_refl _) (.cells gFC 9)
  have c0 : (W.alloc (.cells gFC 9)).cell? ⟨W.heap.size, 5, none⟩ = some (.string (gF.getD 5 ⟨#[]⟩)) := by rw [(Blk.new W gFC 9).cell]; rfl
  change Code.wp _ _ _ _ (W.alloc (.cells gFC 9))
  obtain ⟨f, hf⟩ : ∃ f, gF.getD 5 ⟨#[]⟩ = f := ⟨_, rfl⟩
  rw [hf] at c0
  have HF := Lib.hid hf
  clear hf
  generalize W.alloc (.cells gFC 9) = W0 at *
  have hB0' := Lib.hid hB0
  have hz := Lib.hid hsz
  clear hB0 hsz
  go_region_held3 (fun w' => w'.cell? ⟨W.heap.size, 5, none⟩ = some (.string f) ∧ Below W0.heap.size W0 w')
    (first | exact ⟨c0, (Below.refl _ _).drew⟩ | exact ⟨pw_cell_below (w := W0.drew) hB3 c0, ((Below.refl _ _).drew).trans hB3⟩)
    (first | (go_at_call 41; refine (rl_wholes_any _).mono ?_; rintro E w3 ⟨⟨A, rfl, hS3⟩, hB3⟩))
  all_goals
    rename_i hS
    obtain ⟨d0, hB4⟩ := hS
    have HS3 := Lib.hid hS3
    have HB := Lib.hid (hB0'.out.trans (hB4.mono (by have := hz.out; omega)))
    clear hS3 hB3 hB4
    go_wp2_with fail
    go_ret2
    exact ⟨⟨A, by rw [HF.out]; rfl, HS3.out⟩, HB.out⟩
set_option maxRecDepth 100000 in
set_option maxHeartbeats 1000000 in
theorem groupX_6 (W : World) : Calls Tryd.prog 32 #[.int .i64 6] W (GroupX W 6) := by
  go_enter Tryd.func32, Tryd.ntmps32
  go_wp2_with fail
  have hsz := World.size_alloc W (.cells gFC 9)
  have hB0 := (Below.refl W.heap.size W).alloc (Nat.le_refl _) (.cells gFC 9)
  have c0 : (W.alloc (.cells gFC 9)).cell? ⟨W.heap.size, 6, none⟩ = some (.string (gF.getD 6 ⟨#[]⟩)) := by rw [(Blk.new W gFC 9).cell]; rfl
  change Code.wp _ _ _ _ (W.alloc (.cells gFC 9))
  obtain ⟨f, hf⟩ : ∃ f, gF.getD 6 ⟨#[]⟩ = f := ⟨_, rfl⟩
  rw [hf] at c0
  have HF := Lib.hid hf
  clear hf
  generalize W.alloc (.cells gFC 9) = W0 at *
  have hB0' := Lib.hid hB0
  have hz := Lib.hid hsz
  clear hB0 hsz
  go_region_held3 (fun w' => w'.cell? ⟨W.heap.size, 6, none⟩ = some (.string f) ∧ Below W0.heap.size W0 w')
    (first | exact ⟨c0, (Below.refl _ _).drew⟩ | exact ⟨pw_cell_below (w := W0.drew) hB3 c0, ((Below.refl _ _).drew).trans hB3⟩)
    (first | (go_at_call 42; refine (rl_doubles_any _).mono ?_; rintro E w3 ⟨⟨A, rfl, hS3⟩, hB3⟩))
  all_goals
    rename_i hS
    obtain ⟨d0, hB4⟩ := hS
    have HS3 := Lib.hid hS3
    have HB := Lib.hid (hB0'.out.trans (hB4.mono (by have := hz.out; omega)))
    clear hS3 hB3 hB4
    go_wp2_with fail
    go_ret2
    exact ⟨⟨A, by rw [HF.out]; rfl, HS3.out⟩, HB.out⟩
set_option maxRecDepth 100000 in
set_option maxHeartbeats 1000000 in
theorem groupX_7 (W : World) : Calls Tryd.prog 32 #[.int .i64 7] W (GroupX W 7) := by
  go_enter Tryd.func32, Tryd.ntmps32
  go_wp2_with fail
  have hsz := World.size_alloc W (.cells gFC 9)
  have hB0 := (Below.refl W.heap.size W).alloc (Nat.le_refl _) (.cells gFC 9)
  have c0 : (W.alloc (.cells gFC 9)).cell? ⟨W.heap.size, 7, none⟩ = some (.string (gF.getD 7 ⟨#[]⟩)) := by rw [(Blk.new W gFC 9).cell]; rfl
  change Code.wp _ _ _ _ (W.alloc (.cells gFC 9))
  obtain ⟨f, hf⟩ : ∃ f, gF.getD 7 ⟨#[]⟩ = f := ⟨_, rfl⟩
  rw [hf] at c0
  have HF := Lib.hid hf
  clear hf
  generalize W.alloc (.cells gFC 9) = W0 at *
  have hB0' := Lib.hid hB0
  have hz := Lib.hid hsz
  clear hB0 hsz
  go_region_held3 (fun w' => w'.cell? ⟨W.heap.size, 7, none⟩ = some (.string f) ∧ Below W0.heap.size W0 w')
    (first | exact ⟨c0, (Below.refl _ _).drew⟩ | exact ⟨pw_cell_below (w := W0.drew) hB3 c0, ((Below.refl _ _).drew).trans hB3⟩)
    (first | (go_at_call 42; refine (rl_doubles_any _).mono ?_; rintro E w3 ⟨⟨A, rfl, hS3⟩, hB3⟩))
  all_goals
    rename_i hS
    obtain ⟨d0, hB4⟩ := hS
    have HS3 := Lib.hid hS3
    have HB := Lib.hid (hB0'.out.trans (hB4.mono (by have := hz.out; omega)))
    clear hS3 hB3 hB4
    go_wp2_with fail
    go_ret2
    exact ⟨⟨A, by rw [HF.out]; rfl, HS3.out⟩, HB.out⟩
set_option maxRecDepth 100000 in
set_option maxHeartbeats 1000000 in
theorem groupX_8 (W : World) : Calls Tryd.prog 32 #[.int .i64 8] W (GroupX W 8) := by
  go_enter Tryd.func32, Tryd.ntmps32
  go_wp2_with fail
  have hsz := World.size_alloc W (.cells gFC 9)
  have hB0 := (Below.refl W.heap.size W).alloc (Nat.le_refl _) (.cells gFC 9)
  have c0 : (W.alloc (.cells gFC 9)).cell? ⟨W.heap.size, 8, none⟩ = some (.string (gF.getD 8 ⟨#[]⟩)) := by rw [(Blk.new W gFC 9).cell]; rfl
  change Code.wp _ _ _ _ (W.alloc (.cells gFC 9))
  obtain ⟨f, hf⟩ : ∃ f, gF.getD 8 ⟨#[]⟩ = f := ⟨_, rfl⟩
  rw [hf] at c0
  have HF := Lib.hid hf
  clear hf
  generalize W.alloc (.cells gFC 9) = W0 at *
  have hB0' := Lib.hid hB0
  have hz := Lib.hid hsz
  clear hB0 hsz
  go_region_held3 (fun w' => w'.cell? ⟨W.heap.size, 8, none⟩ = some (.string f) ∧ Below W0.heap.size W0 w')
    (first | exact ⟨c0, (Below.refl _ _).drew⟩ | exact ⟨pw_cell_below (w := W0.drew) hB3 c0, ((Below.refl _ _).drew).trans hB3⟩)
    (first | (go_at_call 43; refine (rl_turns_any _).mono ?_; rintro E w3 ⟨⟨A, rfl, hS3⟩, hB3⟩))
  all_goals
    rename_i hS
    obtain ⟨d0, hB4⟩ := hS
    have HS3 := Lib.hid hS3
    have HB := Lib.hid (hB0'.out.trans (hB4.mono (by have := hz.out; omega)))
    clear hS3 hB3 hB4
    go_wp2_with fail
    go_ret2
    exact ⟨⟨A, by rw [HF.out]; rfl, HS3.out⟩, HB.out⟩
theorem groupX_any (W : World) (g : Nat) (hg : g ≤ 8) : Calls Tryd.prog 32 #[.int .i64 g] W (GroupX W g) := by
  have : g = 0 ∨ g = 1 ∨ g = 2 ∨ g = 3 ∨ g = 4 ∨ g = 5 ∨ g = 6 ∨ g = 7 ∨ g = 8 := by omega
  rcases this with rfl | rfl | rfl | rfl | rfl | rfl | rfl | rfl | rfl
  · exact groupX_0 W
  · exact groupX_1 W
  · exact groupX_2 W
  · exact groupX_3 W
  · exact groupX_4 W
  · exact groupX_5 W
  · exact groupX_6 W
  · exact groupX_7 W
  · exact groupX_8 W
set_option maxRecDepth 100000 in
theorem nm_group : ∀ j, j < 9 → ∀ k, k < lenG j → ∃ s, (gL.getD j [])[k]? = some s ∧ nameM (69 + ((cumG j + k : Nat) : Int)) = gF.getD j ⟨#[]⟩ ++ s ∧ (gF.getD j ⟨#[]⟩).size ≤ 100 ∧ s.size ≤ 100 := by
  have h : ∀ j, j < 9 → ∀ k, k < lenG j → (match (gL.getD j [])[k]? with | some s => decide (nameM (69 + ((cumG j + k : Nat) : Int)) = gF.getD j ⟨#[]⟩ ++ s ∧ (gF.getD j ⟨#[]⟩).size ≤ 100 ∧ s.size ≤ 100) | none => false) = true := by decide +kernel
  intro j hj k hk
  have := h j hj k hk
  cases hx : (gL.getD j [])[k]? with
  | none => rw [hx] at this; cases this
  | some s => rw [hx] at this; exact ⟨s, rfl, of_decide_eq_true this⟩
set_option maxRecDepth 100000 in
theorem nm_sat : ∀ k, k < 8 → ∃ s, rl_sats[k]? = some s ∧ nameM (64512 + ((k : Nat) : Int)) = s := by
  have h : ∀ k, k < 8 → (match rl_sats[k]? with | some s => decide (nameM (64512 + ((k : Nat) : Int)) = s) | none => false) = true := by decide +kernel
  intro k hk
  have := h k hk
  cases hx : rl_sats[k]? with
  | none => rw [hx] at this; cases this
  | some s => rw [hx] at this; exact ⟨s, rfl, of_decide_eq_true this⟩
/-- What is an opcode. -/
def isOp (op : Int) : Bool := decide (op ∈ lCodes) || decide (40 ≤ op ∧ op ≤ 62) || numOp op
set_option maxRecDepth 100000 in
theorem opAll_is : ∀ p ∈ opAll, isOp p.1 = true := by decide +kernel
theorem nameM_none {op : Int} (h : isOp op = false) : nameM op = ⟨#[]⟩ := nameM_no (fun p hp => by
  rw [beq_eq_false_iff_ne]
  intro e
  have := opAll_is p hp
  rw [e, h] at this
  cases this)
end Go.Proofs.YtfndlpfceokloaaDoor
