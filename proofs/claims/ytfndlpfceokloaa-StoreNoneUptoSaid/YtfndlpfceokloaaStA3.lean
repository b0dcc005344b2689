/- Lemmas towards this claim's statement: what the functions named here come to, each under the conditions that it states itself. -/
import Derived.Test.YtfndlpfceokloaaStA2
namespace Go.Proofs.Ytfndlpfceokloaa
open Go.RowKit Go.Shelf YtfndlpfceokloaaB Go.Proofs.YtfndlpfceokloaaW.PrintWords
theorem made_below {W X : World} {g : Nat} {v : Value} (h : MadeS W g v) (hb : Below W.heap.size W X) : MadeS X g v := Blk.below h hb h.lt
set_option maxHeartbeats 1000000 in
theorem awake28_any (W : World) : Calls Try.prog 41 #[] W fun E w' => E = .returned (.bool true) ∧ Below W.heap.size W w' := by
  obtain ⟨W1, hW1⟩ : ∃ W1, W.alloc (.cells #[.bool true, .slice none 0 0, .slice none 0 0, .slice none 0 0, .slice none 0 0, .slice none 0 0] 129) = W1 := ⟨_, rfl⟩
  have hM1 : MadeS W1 W.heap.size (.slice none 0 0) := hW1 ▸ Blk.new W _ _
  have hs1 : W1.heap.size = W.heap.size + 1 := by rw [← hW1]; simp
  have hB1 : Below W.heap.size W W1 := hW1 ▸ (Below.refl _ _).alloc (Nat.le_refl _) _
  have H0 := Lib.hid (store_new W)
  have H1 := Lib.hid (addTable_made W1 W.heap.size W1.heap.size 1 (.slice none 0 0) [] hM1 YtfndlpfceokloaaB.Own.nil (by simp [Value.ownBlock]) (Nat.le_refl _) (by simp) (by omega))
  have HW1 := Lib.hid hW1
  have HS1 := Lib.hid hs1
  have HB1 := Lib.hid hB1
  clear hM1 hs1 hB1 hW1
  go_enter Try.func41, Try.ntmps41
  go_wp2_with fail
  refine H0.out.mono ?_
  rintro E w' ⟨rfl, rfl⟩
  rw [HW1.out]
  go_wp2_with fail
  refine H1.out.mono ?_
  rintro E W2 ⟨v2, t1, p1, rfl, hM2, hO2, hg2, ht1, hp1, hn1, hn2, hT1, hs2, ho1, ho2, ho3, ho4⟩
  have HB2 := Lib.hid (⟨ho1.trans HB1.out.os, ho2.trans HB1.out.tape, ho3.trans HB1.out.output, by have := HB1.out.size; omega, fun k hk => (ho4 k (by have := HS1.out; omega) (by omega) (by simp [Value.ownBlock])).trans (HB1.out.block k hk)⟩ : Below W.heap.size W W2)
  have H2 := Lib.hid (addTable_made W2 W.heap.size W1.heap.size 2 v2 [t1] hM2 hO2 hg2 hs2 (by simp) (by omega))
  have HO2 := Lib.hid hO2
  clear hM2 hO2 hg2 ht1 hp1 hn1 hn2 hT1 ho1 ho2 ho3 ho4 H1
  go_wp2_with fail
  refine H2.out.mono ?_
  rintro E W3 ⟨v3, t2, p2, rfl, hM3, hO3, hg3, ht2, hp2, hn1, hn2, hT2, hs3, ho1, ho2, ho3, ho4⟩
  have HB3 := Lib.hid (⟨ho1.trans HB2.out.os, ho2.trans HB2.out.tape, ho3.trans HB2.out.output, by have := HB2.out.size; omega, fun k hk => (ho4 k (by have := HB2.out.size; omega) (by omega) (fun e => by have := (HO2.out.block e.symm).1; have := HS1.out; omega)).trans (HB2.out.block k hk)⟩ : Below W.heap.size W W3)
  have HA := Lib.hid (fun X (hX : Below W3.heap.size W3 X) => table_made X W.heap.size 2 v3 (.pointer none) false (made_below hM3 hX) (tat_no X W.heap.size 2 v3 _ _ _ ((made_below hM3 hX).cell 2) (YtfndlpfceokloaaB.Own.below hO3 hX) (by simp) (by simp)))
  have HA2 := Lib.hid (fun X (hX : Below W3.heap.size W3 X) => table_made X W.heap.size 1 v3 (.pointer (some ⟨t2, 0, none⟩)) true (made_below hM3 hX) (tat_yes X W.heap.size 1 v3 _ _ _ ((made_below hM3 hX).cell 2) (YtfndlpfceokloaaB.Own.below hO3 hX) t2 rfl (by simp)))
  have HX1 := Lib.hid (extern_tab_no W3 W.heap.size 2 HA.out)
  have HT2 := Lib.hid hT2
  clear hM3 hO3 hg3 ht2 hp2 hn1 hn2 hT2 ho1 ho2 ho3 ho4 H2
  go_wp2_with fail
  refine HX1.out.mono ?_
  rintro E W4 ⟨rfl, hB4⟩
  have HX2 := Lib.hid (fun X (hX : Below W3.heap.size W3 X) => extern_tab_yes X W.heap.size t2 p2 2 1 (by omega) (fun Y hY => HA2.out Y (below_from hX hY)) (HT2.out.below hX))
  have HB4 := Lib.hid hB4
  simp only [zExt]
  clear hB4
  go_wp2_with fail
  refine (HX2.out _ (HB4.out.alloc HB4.out.size _)).mono ?_
  rintro E W5 ⟨rfl, hB5⟩
  have HB5 := Lib.hid (below_from (below_from HB3.out (HB4.out.alloc HB4.out.size _)) hB5)
  clear hB5
  go_wp2_with fail
  go_ret
  exact ⟨rfl, HB5.out.alloc HB5.out.size _⟩
end Go.Proofs.Ytfndlpfceokloaa
