/- Lemmas towards this claim's statement: what the functions named here come to, each under the conditions that it states itself. -/
import Derived.Test.YtfndlpfceokloaaDoorOpAcc
namespace Go.Proofs.YtfndlpfceokloaaDoor
open Go.RowKit Go.Shelf YtfndlpfceokloaaDoorB Go.Proofs.YtfndlpfceokloaaDoorW.PrintWords
def Yes (W : World) (E : Ending) (w' : World) : Prop := E = .returned (.bool true) ∧ Below W.heap.size W w'
set_option maxRecDepth 100000 in
theorem nm_48 : nameM 48 = ⟨#[105, 54, 52, 46, 108, 111, 97, 100, 56, 95, 115]⟩ := by decide +kernel
set_option maxRecDepth 100000 in
theorem nm_106 : nameM 106 = ⟨#[105, 51, 50, 46, 97, 100, 100]⟩ := by decide +kernel
set_option maxRecDepth 100000 in
set_option maxHeartbeats 1000000 in
theorem awake18_any (mx : Int) (W : World) (hm : W.cell? ⟨0, 0, none⟩ = some (.int .i64 mx)) : Calls Tryd.prog 6 #[] W (Yes W) := by
  have hw0 : 0 < W.heap.size := World.block_lt_of_cell? _ _ hm
  have HA := Lib.hid (show Calls Tryd.prog 11 #[.int .i64 48] W (AccPost W 126 1 true false true) from Access_yes mx 48 _ W 126 true false true false false rfl (by omega) (by omega) hm nm_48 (by decide) (by decide) (by decide +kernel) (by decide +kernel) (by decide +kernel) (by decide +kernel) (by decide +kernel) (by decide +kernel))
  have HN := Lib.hid (fun X (hX : X.cell? ⟨0, 0, none⟩ = some (.int .i64 mx)) => by rw [nm_106.symm]; exact Name_any mx 106 X hX : ∀ X, X.cell? ⟨0, 0, none⟩ = some (.int .i64 mx) → Calls Tryd.prog 9 #[.int .i64 106] X fun e W' => e = .returned (.string ⟨#[105, 51, 50, 46, 97, 100, 100]⟩) ∧ Below X.heap.size X W')
  go_enter Tryd.func6, Tryd.ntmps6
  go_wp2_with fail
  refine HA.out.mono ?_
  rintro E W1 ⟨rfl, hB⟩
  have hm1 := pw_cell_below hB hm
  have hB0 := hB.alloc hB.size (.cells #[.int .u8 126, .int .i64 1, .bool true, .bool false] 28)
  have hx := Blk.new W1 #[.int .u8 126, .int .i64 1, .bool true, .bool false] 28
  have hm2 := pw_cell_below ((Below.refl W1.heap.size W1).alloc (Nat.le_refl _) (.cells #[.int .u8 126, .int .i64 1, .bool true, .bool false] 28)) hm1
  have hs2 : (W1.alloc (.cells #[.int .u8 126, .int .i64 1, .bool true, .bool false] 28)).heap.size = W1.heap.size + 1 := World.size_alloc _ _
  have h0 := hx.cell 0
  have h1 := hx.cell 1
  have h2 := hx.cell 2
  have h3 := hx.cell 3
  have HB := Lib.hid hB0
  have HZ := Lib.hid hs2
  clear hB hB0 hs2 hx
  go_wp2_with fail
  refine (HN.out _ (by exact hm2)).mono ?_
  rintro E W3 ⟨rfl, hB3⟩
  have d0 := pw_cell_below hB3 h0
  have d1 := pw_cell_below hB3 h1
  have d2 := pw_cell_below hB3 h2
  have d3 := pw_cell_below hB3 h3
  have HB5 := Lib.hid (HB.out.trans (hB3.mono (by have := HZ.out; have := HB.out.size; omega)))
  clear hB3 h0 h1 h2 h3 hm1 hm2 hm
  simp at d0 d1 d2 d3
  go_wp2_with fail
  go_ret
  exact ⟨rfl, HB5.out⟩
def kWords : List ByteArray := [⟨#[102, 54, 52, 46]⟩, ⟨#[102, 51, 50, 46]⟩, ⟨#[105, 54, 52, 46]⟩, ⟨#[105, 51, 50, 46]⟩]
def kT (op : Int) : Int := if 69 ≤ op ∧ op ≤ 102 then (kindM op).1 else (kindM op).2.2.1
def kGood (op : Int) : Prop := (124 ≤ kT op ∧ kT op ≤ 127) ∧ (4 < (nameM op).size ∧ (nameM op).size ≤ 1000) ∧ (nameM op).extract 0 4 = kWords.getD (kT op - 124).toNat ⟨#[]⟩ ∧ immM op = (0, true)
instance (op : Int) : Decidable (kGood op) := by unfold kGood; infer_instance
set_option maxRecDepth 100000 in
theorem kGood1 : ∀ k, k < 123 → kGood (69 + ((k : Nat) : Int)) := by decide +kernel
set_option maxRecDepth 100000 in
theorem kGood2 : ∀ k, k < 8 → kGood (64512 + ((k : Nat) : Int)) := by decide +kernel
theorem kGood_any {op : Int} (h : 69 ≤ op ∧ op ≤ 191 ∨ 64512 ≤ op ∧ op ≤ 64519) : kGood op := by
  rcases h with h | h
  · have := kGood1 (op - 69).toNat (by omega)
    rwa [show 69 + (((op - 69).toNat : Nat) : Int) = op by omega] at this
  · have := kGood2 (op - 64512).toNat (by omega)
    rwa [show 64512 + (((op - 64512).toNat : Nat) : Int) = op by omega] at this
end Go.Proofs.YtfndlpfceokloaaDoor
