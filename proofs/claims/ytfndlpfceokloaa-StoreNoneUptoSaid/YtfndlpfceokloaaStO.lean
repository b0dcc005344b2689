/- Lemmas towards this claim's statement: what the functions named here come to, each under the conditions that it states itself. -/
import Derived.Test.YtfndlpfceokloaaStN4
import Derived.Test.YtfndlpfceokloaaOpen
namespace Go.Proofs.YtfndlpfceokloaaB
open Go.RowKit Go.Proofs.YtfndlpfceokloaaW.PrintWords Go.Proofs.Ytfndlpfceokloaa
/-- Any slice, as its three words. -/
def kS : Kd Sl where
  sz := 1
  E := []
  K := fun _ x cs => cs = [.slice x.A x.n x.c]
  M := fun _ _ _ x cs => cs = [.slice x.A x.n x.c]
  K_len := fun h => by rw [h]; rfl
  K_one := fun h u hu => by
    rw [h] at hu
    rw [List.mem_singleton.1 hu]
    rfl
  K_below := fun _ h => h
  K_of_M := fun h => h
  M_mono := fun _ h => h
  M_bound := fun h => h
  M_move := fun _ h => h
  M_lower := fun _ h => h
theorem one_bulk {H : Type} (d : DataW H) : 1 ≤ Rows.uptoBulk d := by
  cases d
  case lit l => cases l <;> simp [Rows.uptoBulk]
  all_goals simp [Rows.uptoBulk]
theorem len_bulk {H : Type} : ∀ l : List (DataW H), l.length ≤ Rows.uptoBulkAll l
  | [] => Nat.zero_le _
  | d :: r => by
    have h1 := one_bulk d
    have h2 := len_bulk r
    simp only [Rows.uptoBulkAll, List.length_cons]
    omega
theorem opens_sl {P : Program} {t e : TypeId} (ht : P.underlying t = some (.slice e)) (hs : P.cellsOf t = 1) (n : Nat) : OpensAt P t kS (fun x => x.n) n :=
  ⟨hs, fun {H} enc w base spare held fuel cs x hle h => by
    rcases DataW.trod_slice ht h with ⟨rfl, rfl⟩ | ⟨a, len, cap, elems, rest, m, rfl, rfl, rfl, hb, hl, hm, hlen, hel, hsp, hns⟩
    · exact ⟨⟨none, 0, 0⟩, rfl, Nat.zero_le _⟩
    · refine ⟨⟨some a, len, cap⟩, rfl, ?_⟩
      have hb2 := len_bulk (elems.map (·.1))
      rw [List.length_map, hlen] at hb2
      simp only [Rows.uptoBulk]
      omega⟩
def kTyW := Kd.pair kS (Kd.pair kS knil)
def kCodeW := Kd.pair (rng .i64) (Kd.pair (rng .i64) (Kd.pair kS (Kd.pair kS (Kd.pair (rng .i64) knil))))
def kFnW := Kd.pair kTyW (Kd.pair Kd.bool (Kd.pair Kd.string (Kd.pair (rng .i64) (Kd.pair kCodeW knil))))
def kLimW := Kd.pair (rng .u32) (Kd.pair (rng .u32) (Kd.pair Kd.bool knil))
def kGtW := Kd.pair (rng .u8) (Kd.pair Kd.bool knil)
def kInstW := Kd.pair kS (Kd.pair kS (Kd.pair kS (Kd.pair kS (Kd.pair kS (Kd.pair kS knil)))))
def kOpW := Kd.pair (rng .i64) (Kd.pair (rng .i64) (Kd.pair (rng .i64) (Kd.pair kFnW (Kd.pair kLimW (Kd.pair kGtW (Kd.pair (rng .u64) (Kd.pair kInstW (Kd.pair Kd.string knil))))))))
end Go.Proofs.YtfndlpfceokloaaB
namespace Go.Proofs.Ytfndlpfceokloaa
open Go.RowKit YtfndlpfceokloaaB Go.Proofs.YtfndlpfceokloaaW.PrintWords
theorem o_int (n : Nat) : OpensAt Try.prog 3 (rng .i64) (fun _ => 1) n := opens_int .i64 Try.underlying3 (by kernel_rfl) n
theorem o_u8 (n : Nat) : OpensAt Try.prog 5 (rng .u8) (fun _ => 1) n := opens_int .u8 Try.underlying5 (by kernel_rfl) n
theorem o_u32 (n : Nat) : OpensAt Try.prog 22 (rng .u32) (fun _ => 1) n := opens_int .u32 Try.underlying22 (by kernel_rfl) n
theorem o_u64 (n : Nat) : OpensAt Try.prog 24 (rng .u64) (fun _ => 1) n := opens_int .u64 Try.underlying24 (by kernel_rfl) n
theorem o_bool (n : Nat) : OpensAt Try.prog 4 Kd.bool (fun _ => 1) n := opens_bool Try.underlying4 (by kernel_rfl) n
theorem o_str (n : Nat) : OpensAt Try.prog 9 Kd.string (fun s => s.size + 1) n := opens_string Try.underlying9 (by kernel_rfl) n
theorem o_b8 (n : Nat) : OpensAt Try.prog 85 kS (fun x => x.n) n := opens_sl Try.underlying85 (by kernel_rfl) n
theorem o_ints (n : Nat) : OpensAt Try.prog 23 kS (fun x => x.n) n := opens_sl Try.underlying23 (by kernel_rfl) n
theorem o_steps (n : Nat) : OpensAt Try.prog 88 kS (fun x => x.n) n := opens_sl Try.underlying88 (by kernel_rfl) n
theorem o_tys (n : Nat) : OpensAt Try.prog 93 kS (fun x => x.n) n := opens_sl Try.underlying93 (by kernel_rfl) n
theorem o_exs (n : Nat) : OpensAt Try.prog 94 kS (fun x => x.n) n := opens_sl Try.underlying94 (by kernel_rfl) n
theorem o_ty (n : Nat) : OpensAt Try.prog 87 kTyW (fun x => x.1.n + (x.2.1.n + 0) + 1) (n + 1) := by
  have h := opens_struct (P := Try.prog) (fs := _) Try.underlying87 (by kernel_rfl) (opens_cons rfl (o_b8 n) (opens_cons rfl (o_b8 n) (opens_nil _ _)))
  exact h
theorem o_code (n : Nat) : OpensAt Try.prog 90 kCodeW (fun x => 1 + (1 + (x.2.2.1.n + (x.2.2.2.1.n + (1 + 0)))) + 1) (n + 1) := by
  have h := opens_struct (P := Try.prog) (fs := _) Try.underlying90 (by kernel_rfl) (opens_cons rfl (o_int n) (opens_cons rfl (o_int n) (opens_cons rfl (o_b8 n) (opens_cons rfl (o_steps n) (opens_cons rfl (o_int n) (opens_nil _ _))))))
  exact h
theorem o_fn (n : Nat) : OpensAt Try.prog 92 kFnW (fun x => (x.1.1.n + (x.1.2.1.n + 0) + 1) + (1 + ((x.2.2.1.size + 1) + (1 + ((1 + (1 + (x.2.2.2.2.1.2.2.1.n + (x.2.2.2.2.1.2.2.2.1.n + (1 + 0)))) + 1) + 0)))) + 1) (n + 2) := by
  have h := opens_struct (P := Try.prog) (fs := _) Try.underlying92 (by kernel_rfl) (opens_cons rfl (o_ty n) (opens_cons rfl (o_bool (n + 1)) (opens_cons rfl (o_str (n + 1)) (opens_cons rfl (o_int (n + 1)) (opens_cons rfl (o_code n) (opens_nil _ _))))))
  exact h
theorem o_lim (n : Nat) : OpensAt Try.prog 33 kLimW (fun _ => 1 + (1 + (1 + 0)) + 1) (n + 1) := by
  have h := opens_struct (P := Try.prog) (fs := _) Try.underlying33 (by kernel_rfl) (opens_cons rfl (o_u32 n) (opens_cons rfl (o_u32 n) (opens_cons rfl (o_bool n) (opens_nil _ _))))
  exact h
theorem o_gt (n : Nat) : OpensAt Try.prog 68 kGtW (fun _ => 1 + (1 + 0) + 1) (n + 1) := by
  have h := opens_struct (P := Try.prog) (fs := _) Try.underlying68 (by kernel_rfl) (opens_cons rfl (o_u8 n) (opens_cons rfl (o_bool n) (opens_nil _ _)))
  exact h
theorem o_inst (n : Nat) : OpensAt Try.prog 96 kInstW (fun x => x.1.n + (x.2.1.n + (x.2.2.1.n + (x.2.2.2.1.n + (x.2.2.2.2.1.n + (x.2.2.2.2.2.1.n + 0))))) + 1) (n + 1) := by
  have h := opens_struct (P := Try.prog) (fs := _) Try.underlying96 (by kernel_rfl) (opens_cons rfl (o_tys n) (opens_cons rfl (o_ints n) (opens_cons rfl (o_ints n) (opens_cons rfl (o_ints n) (opens_cons rfl (o_ints n) (opens_cons rfl (o_exs n) (opens_nil _ _)))))))
  exact h
def bOp28 (a : (Int × Int × Int × ((Sl × Sl × Unit) × Bool × ByteArray × Int × (Int × Int × Sl × Sl × Int × Unit) × Unit) × (Int × Int × Bool × Unit) × (Int × Bool × Unit) × Int × (Sl × Sl × Sl × Sl × Sl × Sl × Unit) × ByteArray × Unit)) : Nat :=
  a.2.2.2.1.1.1.n + a.2.2.2.1.1.2.1.n + a.2.2.2.2.2.2.2.1.1.n + a.2.2.2.2.2.2.2.1.2.1.n + a.2.2.2.2.2.2.2.1.2.2.2.2.2.1.n
theorem opens_Op28 (n : Nat) : OpensAt Try.prog 99 kOpW bOp28 (n + 3) :=
  opens_bk (opens_struct (fs := _) Try.underlying99 (by kernel_rfl) (opens_cons rfl (o_int (n + 2)) (opens_cons rfl (o_int (n + 2)) (opens_cons rfl (o_int (n + 2)) (opens_cons rfl (o_fn n) (opens_cons rfl (o_lim (n + 1)) (opens_cons rfl (o_gt (n + 1)) (opens_cons rfl (o_u64 (n + 2)) (opens_cons rfl (o_inst (n + 1)) (opens_cons rfl (o_str (n + 2)) (opens_nil _ _))))))))))) (fun a => by unfold bOp28; omega)
theorem op28_open {w : World} {x : _} {cs : List Value} (h : kOpW.K w x cs) (hb : bOp28 x ≤ 1048576) : ∃ o : O28, cs = o.cells ∧ o.ok := by
  obtain ⟨x1, x2, x3, ⟨⟨x4, x5, u1⟩, x6, x7, x8, ⟨x9, x10, x11, x12, x13, u2⟩, u3⟩, ⟨x14, x15, x16, u4⟩, ⟨x17, x18, u5⟩, x19, ⟨x20, x21, x22, x23, x24, x25, u6⟩, x26, u7⟩ := x
  simp only [bOp28] at hb
  obtain ⟨_, _, rfl, ⟨rfl, _⟩, _, _, rfl, ⟨rfl, _⟩, _, _, rfl, ⟨rfl, _⟩, _, _, rfl, ⟨_, _, rfl, ⟨_, _, rfl, rfl, _, _, rfl, rfl, rfl⟩, _, _, rfl, rfl, _, _, rfl, rfl, _, _, rfl, ⟨rfl, _⟩, _, _, rfl, ⟨_, _, rfl, ⟨rfl, _⟩, _, _, rfl, ⟨rfl, _⟩, _, _, rfl, rfl, _, _, rfl, rfl, _, _, rfl, ⟨rfl, _⟩, rfl⟩, rfl⟩, _, _, rfl, ⟨_, _, rfl, ⟨rfl, _⟩, _, _, rfl, ⟨rfl, _⟩, _, _, rfl, rfl, rfl⟩, _, _, rfl, ⟨_, _, rfl, ⟨rfl, _⟩, _, _, rfl, rfl, rfl⟩, _, _, rfl, ⟨rfl, _⟩, _, _, rfl, ⟨_, _, rfl, rfl, _, _, rfl, rfl, _, _, rfl, rfl, _, _, rfl, rfl, _, _, rfl, rfl, _, _, rfl, rfl, rfl⟩, _, _, rfl, rfl, rfl⟩ := h
  exact ⟨⟨x1, x2, x3, x4, x5, x6, x7, x8, x9, x10, x11, x12, x13, x14, x15, x16, x17, x18, x19, x20, x21, x22, x23, x24, x25, x26⟩, rfl, by show x4.n ≤ _; omega, by show x5.n ≤ _; omega, by show x20.n ≤ _; omega, by show x21.n ≤ _; omega, by show x25.n ≤ _; omega⟩
end Go.Proofs.Ytfndlpfceokloaa
