/- Lemmas towards this claim's statement: what the functions named here come to, each under the conditions that it states itself. -/
import Derived.Test.YtfndlpfceokloaaStN5a
namespace Go.Proofs.Ytfndlpfceokloaa
open Go.RowKit Go.Shelf YtfndlpfceokloaaB Go.Proofs.YtfndlpfceokloaaW.PrintWords
set_option maxRecDepth 100000 in
set_option maxHeartbeats 4000000 in
theorem asked_none (W : World) (p r : Value) (o : O28) (hp : NoneS W p) (hr : NoneR W r) : Calls Try.prog 52 #[p, r, .agg o.cells.toArray] W fun E w' => E = .returned (.bool true) ∧ Below W.heap.size W w' := by
  have hb0 : Below W.heap.size W (W.alloc (.cells o.cells.toArray 99)) := (Below.refl _ _).alloc (Nat.le_refl _) _
  have HP0 := Lib.hid (⟨Blk.new _ _ _, hp.below hb0, hr.below hb0, hb0⟩ : Pk W p r o (W.alloc (.cells o.cells.toArray 99)))
  have hin : ∀ args w, Sem.run Try.prog (callFunc 88 args) w = .ok (.enter 88 args) w := ent_inside
  obtain ⟨c1, c2, c25, hlt0⟩ := HP0.out.c1
  clear hp hr hb0
  go_enter Try.func52, Try.ntmps52
  go_wp2_with fail
  refine (extern_none _ p o.of_ o.at_ HP0.out.s).mono ?_
  rintro E W1 ⟨rfl, hB1⟩
  have HP1 := Lib.hid (HP0.out.below hB1)
  have hs1 := hB1.size
  obtain ⟨d1, d2, d25, hlt1⟩ := HP1.out.c1
  simp only [zExt]
  clear c1 c2 c25 hB1
  go_wp2_with fail
  have HA1 := Lib.hid (HP1.out.alloc (.cells #[.int .i64 0, .slice none 0 0, .slice none 0 0, .int .u32 0, .int .u32 0, .bool false, .int .u8 0, .bool false] 180))
  refine (rextern_none _ r o.of_ o.at_ HA1.out.r).mono ?_
  rintro E W2 ⟨rfl, hB2⟩
  have HP2 := Lib.hid (HA1.out.below hB2)
  have hs2 := hB2.size
  rw [World.size_alloc] at hs2
  obtain ⟨e1, e2, e25, hlt2⟩ := HP2.out.c1
  have HX := Lib.hid ((Blk.new W1 #[.int .i64 0, .slice none 0 0, .slice none 0 0, .int .u32 0, .int .u32 0, .bool false, .int .u8 0, .bool false] 180).below hB2 (by simp))
  simp only [zExtR]
  clear d1 d2 d25 hB2 hs1 hlt0
  go_upto_region 3 with (fail)
  obtain ⟨W3, hW3⟩ : ∃ W3, W2.alloc (.cells #[.int .i64 0, .slice none 0 0, .slice none 0 0, .int .u32 0, .int .u32 0, .bool false, .int .u8 0, .bool false] 194) = W3 := ⟨_, rfl⟩
  have HP3 := Lib.hid (hW3 ▸ HP2.out.alloc (.cells #[.int .i64 0, .slice none 0 0, .slice none 0 0, .int .u32 0, .int .u32 0, .bool false, .int .u8 0, .bool false] 194) : Pk W p r o W3)
  have HX3 := Lib.hid (hW3 ▸ HX.out.alloc (.cells #[.int .i64 0, .slice none 0 0, .slice none 0 0, .int .u32 0, .int .u32 0, .bool false, .int .u8 0, .bool false] 194) : Blk W3 W1.heap.size #[.int .i64 0, .slice none 0 0, .slice none 0 0, .int .u32 0, .int .u32 0, .bool false, .int .u8 0, .bool false] 180)
  have HY3 := Lib.hid (hW3 ▸ Blk.new W2 #[.int .i64 0, .slice none 0 0, .slice none 0 0, .int .u32 0, .int .u32 0, .bool false, .int .u8 0, .bool false] 194 : Blk W3 W2.heap.size #[.int .i64 0, .slice none 0 0, .slice none 0 0, .int .u32 0, .int .u32 0, .bool false, .int .u8 0, .bool false] 194)
  rw [hW3]
  clear hW3 e1 e2 e25
  obtain ⟨f1, f2, f25, hlt3⟩ := HP3.out.c1
  have x0 : W3.cell? ⟨W1.heap.size, 0, none⟩ = some (.int .i64 0) := HX3.out.cell 0
  have y0 : W3.cell? ⟨W2.heap.size, 0, none⟩ = some (.int .i64 0) := HY3.out.cell 0
  have x1 : W3.cell? ⟨W1.heap.size, 1, none⟩ = some (.slice none 0 0) := HX3.out.cell 1
  have y1 : W3.cell? ⟨W2.heap.size, 1, none⟩ = some (.slice none 0 0) := HY3.out.cell 1
  have x2 : W3.cell? ⟨W1.heap.size, 2, none⟩ = some (.slice none 0 0) := HX3.out.cell 2
  have y2 : W3.cell? ⟨W2.heap.size, 2, none⟩ = some (.slice none 0 0) := HY3.out.cell 2
  have x3 : W3.cell? ⟨W1.heap.size, 3, none⟩ = some (.int .u32 0) := HX3.out.cell 3
  have y3 : W3.cell? ⟨W2.heap.size, 3, none⟩ = some (.int .u32 0) := HY3.out.cell 3
  have x4 : W3.cell? ⟨W1.heap.size, 4, none⟩ = some (.int .u32 0) := HX3.out.cell 4
  have y4 : W3.cell? ⟨W2.heap.size, 4, none⟩ = some (.int .u32 0) := HY3.out.cell 4
  have x5 : W3.cell? ⟨W1.heap.size, 5, none⟩ = some (.bool false) := HX3.out.cell 5
  have y5 : W3.cell? ⟨W2.heap.size, 5, none⟩ = some (.bool false) := HY3.out.cell 5
  have x6 : W3.cell? ⟨W1.heap.size, 6, none⟩ = some (.int .u8 0) := HX3.out.cell 6
  have y6 : W3.cell? ⟨W2.heap.size, 6, none⟩ = some (.int .u8 0) := HY3.out.cell 6
  have x7 : W3.cell? ⟨W1.heap.size, 7, none⟩ = some (.bool false) := HX3.out.cell 7
  have y7 : W3.cell? ⟨W2.heap.size, 7, none⟩ = some (.bool false) := HY3.out.cell 7
  refine asked_reg W1.heap.size W2.heap.size W3 x0 y0 x1 y1 x2 y2 x3 y3 x4 y4 x5 y5 x6 y6 x7 y7 _ _ _ _ _ _ _ _ _ _ _ _ _ _ _ _ _ _ _ _ _ _ _ _ _ _ _ _ _ _ _ _ _ _ _ _ _ _ _ _ _ _ _ _ _ _ _ _ _ _ _ _ _ _ _ _ _ _ _ _ _ _ _ _ _ _ _ _ _ _ _ _ _ _ _ _ _ _ _ _ _ _ _ _ _ _ _ _ _ _ _ _ _ _ _ _ _ _ _ _ _ _ _ _ _ _ _ _ _ _ _ _ _ _ _ _ _ _ _ _ _ _ _ _ _ _ _ _ _ _ _ _ _ _ _ _ _ _ _ _ _ _ _ _ _ _ _ _ _ _ _ _ _ _ _ _ _ _ _ _ _ _ _ _ _ _ _ _ _ _ _ _ _ _ _ _ _ _ _ _ _ _ _ _ _ _ _ _ _ _ _ _ _ _ _ _ _ _ _ _ _ _ _ _ _ _ _ _ _ _ _ _ _ _ _ _ _ _ _ _ _ _ _ _ _ _ _ _ _ _ _ _ _ _ _ _ _ _ _ _ _ _ _ _ _ _ _ _ _ _ _ _ _ _ _ _ _ _ _ _ _ _ _ _ _ _ _ _ _ _ _ _ _ _ _ _ _ _ _ _ _ _ _ _ _ _ _ _ _ _ _ _ _ _ _ _ _ _ _ (fun s46 s47 s48 s49 s50 s51 s52 s53 s54 s55 s56 wc hq => ?_)
  have HP4 := Lib.hid (HP3.out.below hq)
  clear f1 f2 f25 x0 x1 x2 x3 x4 x5 x6 x7 y0 y1 y2 y3 y4 y5 y6 y7 HX3 HY3 HX
  obtain ⟨c1, c2, c25, hlt4⟩ := HP4.out.c1
  go_wp2_with fail
  refine (export_none _ p o.at_ o.name HP4.out.s).mono ?_
  rintro E W5 ⟨rfl, hB5⟩
  have HP5 := Lib.hid (HP4.out.below hB5)
  clear c1 c2 c25 hB5
  obtain ⟨c1, c2, c25, hlt5⟩ := HP5.out.c1
  go_wp2_with fail
  have HP6 := Lib.hid (HP5.out.alloc (.cells #[.int .i64 0, .int .i64 0] 184))
  refine (rexport_none _ r o.at_ o.name HP6.out.r).mono ?_
  rintro E W7 ⟨rfl, hB7⟩
  have HP7 := Lib.hid (HP6.out.below hB7)
  have hs7 := hB7.size
  rw [World.size_alloc] at hs7
  have hb := (Blk.new W5 #[.int .i64 0, .int .i64 0] 184).below hB7 (by simp)
  have r0 : W7.cell? ⟨W5.heap.size, 0, none⟩ = some (.int .i64 0) := hb.cell 0
  have r1 : W7.cell? ⟨W5.heap.size, 1, none⟩ = some (.int .i64 0) := hb.cell 1
  clear c1 c2 c25 hB7 hb
  obtain ⟨c1, c2, c25, hlt7⟩ := HP7.out.c1
  go_wp2_with fail
  refine (func_none _ p o.at_ HP7.out.s).mono ?_
  rintro E W8 ⟨rfl, hB8⟩
  have HP8 := Lib.hid (HP7.out.below hB8)
  clear c1 c2 c25 hB8 r0 r1
  obtain ⟨c1, c2, c25, hlt8⟩ := HP8.out.c1
  simp only [zFn]
  go_wp2_with fail
  have HP9 := Lib.hid (HP8.out.alloc (.cells #[.slice none 0 0, .slice none 0 0, .bool false, .string ⟨#[]⟩, .int .i64 0, .int .i64 0, .int .i64 0, .slice none 0 0, .slice none 0 0, .int .i64 0] 92))
  refine (inst_none _ p o.at_ HP9.out.s).mono ?_
  rintro E W9 ⟨rfl, hB9⟩
  have HP10 := Lib.hid (HP9.out.below hB9)
  clear c1 c2 c25 hB9
  obtain ⟨c1, c2, c25, hlt9⟩ := HP10.out.c1
  simp only [zInst]
  obtain ⟨g, hrg, r0, r1, r2, r3, r4⟩ := HP10.out.r
  subst hrg
  have hgl := World.block_lt_of_cell? _ _ r0
  have HP11 := Lib.hid (HP10.out.alloc (.cells #[.slice none 0 0, .slice none 0 0, .slice none 0 0, .slice none 0 0, .slice none 0 0, .slice none 0 0] 96))
  clear hlt1 hs2 hlt2 hlt3 hq hlt4 hlt5 hs7 hlt7 hlt8
  go_wp2_with fail
  go_quiet (first
    | (go_at_call 88; exact Calls.quiet_of (qz (inside_none _ _ _ (HP11.out.drewN _).c1.1)))
    | (go_at_call 89; exact Calls.quiet_of (qz (table_none _ p o.at_ (HP11.out.drewN _).s)))
    | (go_at_call 90; exact Calls.quiet_of (qz (memory_none _ p o.at_ (HP11.out.drewN _).s)))
    | (go_at_call 91; exact Calls.quiet_of (qz (global_none _ p o.at_ (HP11.out.drewN _).s))))
  have HP12 := Lib.hid (HP11.out.drewN nq)
  obtain ⟨W12, hW⟩ : ∃ W12, World.drewN (W9.alloc (.cells #[.slice none 0 0, .slice none 0 0, .slice none 0 0, .slice none 0 0, .slice none 0 0, .slice none 0 0] 96)) nq = W12 := ⟨_, rfl⟩
  rw [hW] at HP12 ⊢
  clear hW c1 c2 c25 r0 r1 r2 r3 r4 hgl HP11
  obtain ⟨c1, c2, c25, hlt12⟩ := HP12.out.c1
  obtain ⟨g', hrg, r0, r1, r2, r3, r4⟩ := HP12.out.r
  injection hrg with hrg
  injection hrg with hrg
  injection hrg with hrg
  subst hrg
  have hgl := World.block_lt_of_cell? _ _ r0
  go_wp2_with fail
  go_quiet (fail)
  have HP13 := Lib.hid (HP12.out.drewN nq)
  go_wp2_with (first
    | (go_at_call 91; refine (global_none _ p o.at_ HP13.out.s).mono ?_; rintro E w' ⟨rfl, rfl⟩)
    | (go_at_call 92; refine (count_none _ p HP13.out.s).mono ?_; rintro E w' ⟨rfl, rfl⟩))
  go_quiet (fail)
  go_wp2_with (go_at_call 92; refine (count_none _ p (HP12.out.drewN _).s).mono ?_; rintro E w' ⟨rfl, rfl⟩)
  go_ret
  exact ⟨rfl, (HP12.out.drewN _).b⟩
end Go.Proofs.Ytfndlpfceokloaa
