/- Lemmas towards this claim's statement: what the functions named here come to, each under the conditions that it states itself. -/
import Derived.Test.YtfndlpfceokloaaStN3
import Derived.Deep.MidRow
import Derived.Deep.WholeRow
namespace Go.Proofs.YtfndlpfceokloaaB
open Go.RowKit Go.Proofs.YtfndlpfceokloaaW.PrintWords
section
variable {P : Program} {ops : Array Oper} {rest : List Oper} {o : Oper} {a : Act} {Q : Exit → Act → World → Prop} {W : World}
/-- A whole value into the block that was made last. -/
theorem wpList_store_new (hgd : o.guard = none) (ty : TypeId) (x y : Operand) (ho : o.op = .store ty x y) (c c' : Array Value) (hx : a.eval x = .pointer (some ⟨W.heap.size, 0, none⟩)) (hy : a.eval y = .agg c')
    (hi : (P.info? ty).map (·.size) = some c'.size) (hs : c.size = c'.size) (h1 : c'.all (·.oneCell') = true) (h : wpList P ops Q rest (a.put o.dst undef) (W.alloc (.cells c' ty))) : wpList P ops Q (o :: rest) a (W.alloc (.cells c ty)) := by
  refine wpList_plain hgd fun K hK => ?_
  unfold Oper.wp execOp
  simp only [ho, hx, hy, Sem.run_bind, Sem.run_pure, Result.andThen_ok, run_storeAt_new W ty c c' hi hs h1]
  exact hK _ _ h
theorem rangeAt_blk {w : World} {g : Nat} {cs : List Value} {t : TypeId} (h : Blk w g cs.toArray t) : w.rangeAt g 0 cs := fun j v hj => by
  rw [Nat.zero_add, h.cell]; simpa using hj
end
structure Sl where
  A : Option Addr
  n : Nat
  c : Nat
/-- A step of StoreNone: its cells. -/
structure O28 where
  k : Int
  at_ : Int
  of_ : Int
  a : Sl
  b : Sl
  host : Bool
  nm : ByteArray
  inst : Int
  cp : Int
  cr : Int
  lo : Sl
  st : Sl
  h : Int
  mn : Int
  mx : Int
  has : Bool
  gt : Int
  gm : Bool
  v : Int
  ty : Sl
  fu : Sl
  ta : Sl
  me : Sl
  gl : Sl
  ex : Sl
  name : ByteArray
def O28.cells (o : O28) : List Value := [.int .i64 o.k, .int .i64 o.at_, .int .i64 o.of_, .slice o.a.A o.a.n o.a.c, .slice o.b.A o.b.n o.b.c, .bool o.host, .string o.nm, .int .i64 o.inst, .int .i64 o.cp, .int .i64 o.cr, .slice o.lo.A o.lo.n o.lo.c, .slice o.st.A o.st.n o.st.c, .int .i64 o.h,
  .int .u32 o.mn, .int .u32 o.mx, .bool o.has, .int .u8 o.gt, .bool o.gm, .int .u64 o.v, .slice o.ty.A o.ty.n o.ty.c, .slice o.fu.A o.fu.n o.fu.c, .slice o.ta.A o.ta.n o.ta.c, .slice o.me.A o.me.n o.me.c, .slice o.gl.A o.gl.n o.gl.c, .slice o.ex.A o.ex.n o.ex.c, .string o.name]
theorem O28.sz (o : O28) : o.cells.length = 26 := rfl
theorem O28.g0 (o : O28) : o.cells[0]? = some (.int .i64 o.k) := rfl
theorem O28.g1 (o : O28) : o.cells[1]? = some (.int .i64 o.at_) := rfl
theorem O28.g2 (o : O28) : o.cells[2]? = some (.int .i64 o.of_) := rfl
theorem O28.g3 (o : O28) : o.cells[3]? = some (.slice o.a.A o.a.n o.a.c) := rfl
theorem O28.g4 (o : O28) : o.cells[4]? = some (.slice o.b.A o.b.n o.b.c) := rfl
theorem O28.g5 (o : O28) : o.cells[5]? = some (.bool o.host) := rfl
theorem O28.g6 (o : O28) : o.cells[6]? = some (.string o.nm) := rfl
theorem O28.g7 (o : O28) : o.cells[7]? = some (.int .i64 o.inst) := rfl
theorem O28.g8 (o : O28) : o.cells[8]? = some (.int .i64 o.cp) := rfl
theorem O28.g9 (o : O28) : o.cells[9]? = some (.int .i64 o.cr) := rfl
theorem O28.g10 (o : O28) : o.cells[10]? = some (.slice o.lo.A o.lo.n o.lo.c) := rfl
theorem O28.g11 (o : O28) : o.cells[11]? = some (.slice o.st.A o.st.n o.st.c) := rfl
theorem O28.g12 (o : O28) : o.cells[12]? = some (.int .i64 o.h) := rfl
theorem O28.g13 (o : O28) : o.cells[13]? = some (.int .u32 o.mn) := rfl
theorem O28.g14 (o : O28) : o.cells[14]? = some (.int .u32 o.mx) := rfl
theorem O28.g15 (o : O28) : o.cells[15]? = some (.bool o.has) := rfl
theorem O28.g16 (o : O28) : o.cells[16]? = some (.int .u8 o.gt) := rfl
theorem O28.g17 (o : O28) : o.cells[17]? = some (.bool o.gm) := rfl
theorem O28.g18 (o : O28) : o.cells[18]? = some (.int .u64 o.v) := rfl
theorem O28.g19 (o : O28) : o.cells[19]? = some (.slice o.ty.A o.ty.n o.ty.c) := rfl
theorem O28.g20 (o : O28) : o.cells[20]? = some (.slice o.fu.A o.fu.n o.fu.c) := rfl
theorem O28.g21 (o : O28) : o.cells[21]? = some (.slice o.ta.A o.ta.n o.ta.c) := rfl
theorem O28.g22 (o : O28) : o.cells[22]? = some (.slice o.me.A o.me.n o.me.c) := rfl
theorem O28.g23 (o : O28) : o.cells[23]? = some (.slice o.gl.A o.gl.n o.gl.c) := rfl
theorem O28.g24 (o : O28) : o.cells[24]? = some (.slice o.ex.A o.ex.n o.ex.c) := rfl
theorem O28.g25 (o : O28) : o.cells[25]? = some (.string o.name) := rfl
theorem O28.ones (o : O28) : o.cells.toArray.all (·.oneCell') = true := by simp [O28.cells, Value.oneCell']
def O28.ok (o : O28) : Prop := o.a.n ≤ 140737488355328 ∧ o.b.n ≤ 140737488355328 ∧ o.ty.n ≤ 140737488355328 ∧ o.fu.n ≤ 140737488355328 ∧ o.ex.n ≤ 140737488355328
end Go.Proofs.YtfndlpfceokloaaB
namespace Go.Proofs.Ytfndlpfceokloaa
open Go.RowKit Go.Shelf YtfndlpfceokloaaB Go.Proofs.YtfndlpfceokloaaW.PrintWords
attribute [local go_sem] O28.g3 O28.g4 O28.g11 O28.g19 O28.g20 O28.g24 O28.g25
def SomeB (W : World) (E : Ending) (W' : World) : Prop := (∃ b, E = .returned (.bool b)) ∧ Below W.heap.size W W'
set_option maxRecDepth 100000 in
set_option maxHeartbeats 1000000 in
theorem few28_one (W : World) (g : Nat) (c : Nat) (o : O28) (h : Blk W g o.cells.toArray 99) (ho : o.ok) : Calls Try.prog 42 #[.slice (some ⟨g, 0, none⟩) 1 c, .int .i64 1] W (SomeB W) := by
  obtain ⟨h1, h2, h3, h4, h5⟩ := ho
  have hg := h.lt
  have HC := Lib.hid h
  clear h
  go_enter Try.func42, Try.ntmps42
  go_wp2_with fail
  go_loopw [9] (fun i wr => (i = .int .i64 0 ∧ wr = W) ∨ (i = .int .i64 1 ∧ Hid (Below W.heap.size W wr))) (fun i _ => 1 - (intOf i).toNat)
  case atStart => exact .inl ⟨rfl, rfl⟩
  case round =>
    rcases hrel with ⟨rfl, rfl⟩ | ⟨rfl, HZ⟩
    · have hR := Lib.hid (rangeAt_blk (cs := o.cells) HC.out)
      go_wp2_with (first
        | (refine wpList_load_mid rfl 99 (.tmp 11) rfl g 0 rfl o.cells _ hR.out Try.underlying99 rfl (by kernel_rfl) ?_)
        | (refine wpList_store_new rfl 99 (.tmp 6) (.tmp 12) rfl _ o.cells.toArray rfl rfl (by kernel_rfl) rfl o.ones ?_))
      all_goals first
        | (go_ret; exact ⟨⟨_, rfl⟩, (Below.refl _ _).alloc (Nat.le_refl _) _⟩)
        | (go_roundw
           case rel => exact .inr ⟨rfl, (Below.refl _ _).alloc (Nat.le_refl _) _⟩
           case measure => simp [intOf])
    · go_wp2_with fail
      go_ret
      exact ⟨⟨_, rfl⟩, HZ.out⟩
theorem inside_none (W : World) (g : Nat) (i : Int) (hi : W.cell? ⟨g, 1, none⟩ = some (.int .i64 i)) : Calls Try.prog 88 #[.int .i64 0, .pointer (some ⟨g, 0, none⟩)] W fun E w' => E = .returned (.bool false) ∧ W = w' := by
  by_cases h : 0 ≤ i
  · have h2 : ¬ i < 0 := by omega
    go_enter Try.func88, Try.ntmps88
    go_wp2_with fail
    go_ret
    exact ⟨rfl, rfl⟩
  · go_enter Try.func88, Try.ntmps88
    go_wp2_with fail
    go_ret
    exact ⟨rfl, rfl⟩
theorem ent_inside : Enters Try.prog 88 := enters_of Try.func88 (by kernel_rfl) rfl
end Go.Proofs.Ytfndlpfceokloaa
