/- Lemmas towards this claim's statement: what the functions named here come to, each under the conditions that it states itself. -/
import Derived.Test.YtfndlpfceokloaaDoorKeep
import Derived.Test.YtfndlpfceokloaaDoorOpR
namespace Go.Proofs.YtfndlpfceokloaaDoorB
open Go.RowKit
def opEnc (x : Int × ByteArray) : Array Value := #[.int .i64 x.1, .string x.2]
def opAll : List (Int × ByteArray) := opAllR opRows 0 ++ opStopL opStops 64512
end Go.Proofs.YtfndlpfceokloaaDoorB
namespace Go.Proofs.YtfndlpfceokloaaDoor
open Go.RowKit Go.Shelf YtfndlpfceokloaaDoorB Go.Proofs.YtfndlpfceokloaaDoorW.PrintWords
attribute [local go_sem] Oper.semAt_some
theorem opRows_cells (w : World) (g : Nat) (h : Blk w g opRowC 61) (k : Nat) (hk : k < 10) :
    ∃ x, opRows[k]? = some x ∧ w.cell? ⟨g, k * 2, none⟩ = some (.string x.1) ∧ w.cell? ⟨g, k * 2 + 1, none⟩ = some (.string x.2.1) := by
  match k, hk with
  | 0, _ => exact ⟨_, rfl, by rw [h.cell]; rfl, by rw [h.cell]; rfl⟩
  | 1, _ => exact ⟨_, rfl, by rw [h.cell]; rfl, by rw [h.cell]; rfl⟩
  | 2, _ => exact ⟨_, rfl, by rw [h.cell]; rfl, by rw [h.cell]; rfl⟩
  | 3, _ => exact ⟨_, rfl, by rw [h.cell]; rfl, by rw [h.cell]; rfl⟩
  | 4, _ => exact ⟨_, rfl, by rw [h.cell]; rfl, by rw [h.cell]; rfl⟩
  | 5, _ => exact ⟨_, rfl, by rw [h.cell]; rfl, by rw [h.cell]; rfl⟩
  | 6, _ => exact ⟨_, rfl, by rw [h.cell]; rfl, by rw [h.cell]; rfl⟩
  | 7, _ => exact ⟨_, rfl, by rw [h.cell]; rfl, by rw [h.cell]; rfl⟩
  | 8, _ => exact ⟨_, rfl, by rw [h.cell]; rfl, by rw [h.cell]; rfl⟩
  | 9, _ => exact ⟨_, rfl, by rw [h.cell]; rfl, by rw [h.cell]; rfl⟩
/-- A row's names, split; they are short. -/
theorem opRows_split {k : Nat} {x : ByteArray × ByteArray × List ByteArray} (h : opRows[k]? = some x) :
    Lib.countB x.2.1 ⟨#[32]⟩ + 1 = x.2.2.length ∧ Lib.splitB ⟨#[32]⟩ 0 (Lib.countB x.2.1 ⟨#[32]⟩) x.2.1 = x.2.2 ∧ x.2.1.size ≤ 2000 ∧ x.1.size ≤ 10 ∧ x.2.2.length ≤ 100 ∧ ∀ n ∈ x.2.2, n.size ≤ 100 := by
  have key : ∀ (S : ByteArray) (L : List ByteArray) (m : Nat) (f : ByteArray), (Lib.countB S ⟨#[32]⟩ = m ∧ Lib.splitB ⟨#[32]⟩ 0 (Lib.countB S ⟨#[32]⟩) S = L) → L.length = m + 1 → S.size ≤ 2000 → f.size ≤ 10 → L.length ≤ 100 → (∀ n ∈ L, n.size ≤ 100) →
      Lib.countB S ⟨#[32]⟩ + 1 = L.length ∧ Lib.splitB ⟨#[32]⟩ 0 (Lib.countB S ⟨#[32]⟩) S = L ∧ S.size ≤ 2000 ∧ f.size ≤ 10 ∧ L.length ≤ 100 ∧ ∀ n ∈ L, n.size ≤ 100 := fun S L m f h hm h1 h2 h3 h4 => ⟨by rw [h.1, hm], h.2, h1, h2, h3, h4⟩
  match k, h with
  | 0, h => cases h; exact key _ _ _ _ nm0_split rfl (by decide +kernel) (by decide) (by decide) (by decide +kernel)
  | 1, h => cases h; exact key _ _ _ _ nm1_split rfl (by decide +kernel) (by decide) (by decide) (by decide +kernel)
  | 2, h => cases h; exact key _ _ _ _ nm1_split rfl (by decide +kernel) (by decide) (by decide) (by decide +kernel)
  | 3, h => cases h; exact key _ _ _ _ nm2_split rfl (by decide +kernel) (by decide) (by decide) (by decide +kernel)
  | 4, h => cases h; exact key _ _ _ _ nm2_split rfl (by decide +kernel) (by decide) (by decide) (by decide +kernel)
  | 5, h => cases h; exact key _ _ _ _ nm3_split rfl (by decide +kernel) (by decide) (by decide) (by decide +kernel)
  | 6, h => cases h; exact key _ _ _ _ nm3_split rfl (by decide +kernel) (by decide) (by decide) (by decide +kernel)
  | 7, h => cases h; exact key _ _ _ _ nm4_split rfl (by decide +kernel) (by decide) (by decide) (by decide +kernel)
  | 8, h => cases h; exact key _ _ _ _ nm4_split rfl (by decide +kernel) (by decide) (by decide) (by decide +kernel)
  | 9, h => cases h; exact key _ _ _ _ nm5_split rfl (by decide +kernel) (by decide) (by decide) (by decide +kernel)
  | k + 10, h => exact absurd h (by simp [opRows])
theorem opPre {k : Nat} {x : ByteArray × ByteArray × List ByteArray} (hx : opRows[k]? = some x) (j : Nat) : opAllR (opRows.take k) 0 ++ opEmit x.1 (x.2.2.take j) (opLen (opRows.take k)) <+: opAll := by
  have h1 : opRows = opRows.take k ++ (x :: opRows.drop (k + 1)) := by
    have h := (List.take_append_drop (k + 1) opRows).symm
    rw [take_snoc_get hx, List.append_assoc] at h
    exact h
  have h2 : opAllR opRows 0 = opAllR (opRows.take k) 0 ++ opAllR (x :: opRows.drop (k + 1)) (0 + opLen (opRows.take k)) := by
    rw [← opAllR_append, ← h1]
  have h3 : opEmit x.1 x.2.2 (opLen (opRows.take k)) = opEmit x.1 (x.2.2.take j) (opLen (opRows.take k)) ++ opEmit x.1 (x.2.2.drop j) (opLen (opRows.take k) + (x.2.2.take j).length) := by
    rw [← opEmit_append, List.take_append_drop]
  refine ⟨opEmit x.1 (x.2.2.drop j) (opLen (opRows.take k) + (x.2.2.take j).length) ++ opAllR (opRows.drop (k + 1)) (opLen (opRows.take k) + x.2.2.length) ++ opStopL opStops 64512, ?_⟩
  rw [opAll, h2, opAllR, Nat.zero_add, h3]
  simp only [List.append_assoc]
theorem stopPre {j : Nat} : opAllR opRows 0 ++ opStopL (opStops.take j) 64512 <+: opAll := by
  refine ⟨opStopL (opStops.drop j) (64512 + (opStops.take j).length), ?_⟩
  rw [opAll, List.append_assoc, ← opStopL_append, List.take_append_drop]
theorem opLen_small (k : Nat) : opLen (opRows.take k) ≤ 300 := by
  have h : ∀ j, j ≤ 10 → opLen (opRows.take j) ≤ 300 := by decide +kernel
  rcases Nat.lt_or_ge k 10 with hk | hk
  · exact h k (by omega)
  · rw [List.take_of_length_le (by exact hk)]; exact h 10 (by omega)
def AllPost (J Jx : List (Int × ByteArray) → World → Prop) (e : Ending) (W' : World) : Prop := (∃ v, e = .returned v) ∧ ((∃ ys, ys = opAll ∧ J ys W') ∨ (∃ pre, pre <+: opAll ∧ Jx pre W'))
set_option maxRecDepth 100000 in
set_option maxHeartbeats 4000000 in
theorem all1_in (F : Fence) (hd : F.depth = none) (hF : ∀ f, F.fn f) (hro : F.round = none) (hw : ∀ (f : Nat) (args : Array Value) (m : Nat) (W : World) (R : Ending → World → Prop), Calls Tryd.prog f args W R → CallsIn F m Tryd.prog f args W R)
    (n l n0 n1 : Nat) (mx : Int) (hn0 : 0 < n0) (hn1 : n0 ≤ n1) (J Jx : List (Int × ByteArray) → World → Prop) (hA : ∀ pre W o, J pre W → J pre (W.alloc o))
    (hY : ∀ m pre (x : Int × ByteArray) W, J pre W → pre.length < opAll.length → YieldAt F m Tryd.prog l (opEnc x) W fun e W' =>
      (e = .returned (.bool true) ∧ J (pre ++ [x]) W' ∧ KeepC n0 n1 W W') ∨ (e = .returned (.bool false) ∧ Jx (pre ++ [x]) W'))
    (W : World) (hm : W.cell? ⟨0, 0, none⟩ = some (.int .i64 mx)) (hnW : n1 ≤ W.heap.size) (h0 : J [] W) :
    CallsIn F n Tryd.prog 33 #[.func (.yield l) #[] #[]] W (AllPost J Jx) := by
  have hdd : ∀ k : Nat, (F.depth.isSome = true → 1 ≤ k) := fun k h => by rw [hd] at h; cases h
  refine callsIn_of_wp Tryd.func33 rfl (hF _) ?_ hro
  simp only [Tryd.ntmps33, List.size_toArray, List.length_cons, List.length_nil, Nat.reduceAdd, Nat.reduceSub, Array.replicate_succ, Array.replicate_zero, List.push_toArray, List.append_toArray, List.nil_append, List.cons_append]
  have hrows := Lib.hid (fun m => hw _ _ m _ _ (rows_any W))
  have hSp := Lib.hid (fun m (S : ByteArray) (w : World) (hs : S.size ≤ 2000) (hm : w.cell? ⟨0, 0, none⟩ = some (.int .i64 mx)) => hw _ _ m _ _ (Tryd.strings_Split S ⟨#[32]⟩ mx w (by omega) hm (by decide)))
  have hY' := Lib.hid hY
  have hbk := Blk.new W opRowC 61
  have hK0 := KeepC.alloc (KeepC.refl n0 n1 W) (.cells opRowC 61) (by omega)
  have hm0 : (W.alloc (.cells opRowC 61)).cell? ⟨0, 0, none⟩ = some (.int .i64 mx) := pw_cell_below ((Below.refl _ W).alloc (Nat.le_refl _) _) hm
  have hJ0 := hA _ _ (.cells opRowC 61) h0
  have hs0 : (W.alloc (.cells opRowC 61)).heap.size = W.heap.size + 1 := World.size_alloc _ _
  have hA' := Lib.hid hA
  clear hY hA hw
  gi_wp2_with ((try refine ⟨hdd _, ?_⟩); gi_at_call 34; refine (hrows.out _).mono ?_; rintro e w' ⟨rfl, rfl⟩)
  obtain ⟨W1, hW1⟩ : ∃ W1, W.alloc (.cells opRowC 61) = W1 := ⟨_, rfl⟩
  rw [hW1] at hbk hK0 hm0 hJ0 hs0 ⊢
  have HB := Lib.hid hbk
  clear hrows hW1 h0 hm hbk
  gi_loopw [2, 11] (fun op i wr => ∃ k : Nat, k ≤ 10 ∧ i = .int .i64 k ∧ op = .int .i64 (opLen (opRows.take k) : Int) ∧ J (opAllR (opRows.take k) 0) wr ∧ KeepC n0 n1 W1 wr) (fun _ i _ => 10 - (intOf i).toNat)
  case atStart => exact ⟨0, by omega, rfl, rfl, hJ0, KeepC.refl _ _ _⟩
  case round =>
    obtain ⟨k, hk, rfl, rfl, hJk, hKk⟩ := hrel
    have hsz := hKk.1.size
    have hle : opLen (opRows.take k) ≤ 300 := opLen_small k
    by_cases hlt : k < 10
    · obtain ⟨x, hx, c0, c1⟩ := opRows_cells wr W.heap.size (hKk.blk (by omega) HB.out) k hlt
      obtain ⟨q1, q2, q3, q4, q5, q6⟩ := opRows_split hx
      have hOL := Lib.hid (show opLen (opRows.take (k + 1)) = opLen (opRows.take k) + x.2.2.length from by rw [take_snoc_get hx, opLen_append]; simp [opLen])
      have hAR := Lib.hid (show opAllR (opRows.take (k + 1)) 0 = opAllR (opRows.take k) 0 ++ opEmit x.1 x.2.2 (opLen (opRows.take k)) from by rw [take_snoc_get hx, opAllR_append]; simp [opAllR])
      have hPre := Lib.hid (show ∀ j, opAllR (opRows.take k) 0 ++ opEmit x.1 (x.2.2.take j) (opLen (opRows.take k)) <+: opAll from opPre hx)
      obtain ⟨f, S, L⟩ := x
      simp only at c0 c1 q1 q2 q3 q4 q5 q6 hOL hAR hPre
      have hmk : (wr.alloc (.cells #[.string f, .string S] 61)).cell? ⟨0, 0, none⟩ = some (.int .i64 mx) := pw_cell_below ((Below.refl _ wr).alloc (Nat.le_refl _) _) ((hKk.1.cell (p := ⟨0, 0, none⟩) (by omega)).trans hm0)
      have hbr := Blk.new wr #[.string f, .string S] 61
      have hKa := KeepC.alloc hKk (.cells #[.string f, .string S] 61) (by omega)
      have hJa := hA'.out _ _ (.cells #[.string f, .string S] 61) hJk
      have hsa : (wr.alloc (.cells #[.string f, .string S] 61)).heap.size = wr.heap.size + 1 := World.size_alloc _ _
      have hSk0 := fun m => hSp.out m S _ q3 hmk
      rw [q1, q2, hsa] at hSk0
      have hSk := Lib.hid hSk0
      have hbp := Blk.new (wr.alloc (.cells #[.string f, .string S] 61)) (L.map Value.string).toArray 9
      rw [hsa] at hbp
      have hbr2 := hbr.alloc (.cells (L.map Value.string).toArray 9)
      have hKb := KeepC.alloc hKa (.cells (L.map Value.string).toArray 9) (by omega)
      have hJb := hA'.out _ _ (.cells (L.map Value.string).toArray 9) hJa
      have hsb : ((wr.alloc (.cells #[.string f, .string S] 61)).alloc (.cells (L.map Value.string).toArray 9)).heap.size = wr.heap.size + 2 := by rw [World.size_alloc, hsa]
      have hbl : W.heap.size < wr.heap.size := by omega
      generalize opLen (opRows.take k) = off at *
      generalize opAllR (opRows.take k) 0 = pk at *
      clear hJk hKk hmk hx hSk0 hbr hKa hJa
      gi_wp2_with ((try refine ⟨hdd _, ?_⟩); gi_at_call 35; refine (hSk.out _).mono ?_; rintro e w' ⟨rfl, rfl⟩)
      obtain ⟨W2, hW2⟩ : ∃ W2, (wr.alloc (.cells #[.string f, .string S] 61)).alloc (.cells (L.map Value.string).toArray 9) = W2 := ⟨_, rfl⟩
      rw [hW2] at hbp hbr2 hKb hJb hsb ⊢
      have HP := Lib.hid hbp
      have HR := Lib.hid hbr2
      have HK2 := Lib.hid hKb
      clear hW2 hbp hbr2 hKb hSk
      obtain ⟨g1, hg1⟩ : ∃ g1, wr.heap.size = g1 := ⟨_, rfl⟩
      rw [hg1] at HP HR hsb hsz hbl hsa ⊢
      clear hg1 hsa
      gi_loopw [2, 19] (fun op i wr2 => ∃ j : Nat, j ≤ L.length ∧ i = .int .i64 j ∧ op = .int .i64 ((off + j : Nat) : Int) ∧ J (pk ++ opEmit f (L.take j) off) wr2 ∧ KeepC n0 n1 W2 wr2) (fun _ i _ => L.length - (intOf i).toNat)
      case atStart => exact ⟨0, Nat.zero_le _, rfl, rfl, by simpa [opEmit] using hJb, KeepC.refl _ _ _⟩
      case round =>
        obtain ⟨j, hj, rfl, rfl, hJj, hKj⟩ := hrel
        have hsj := hKj.1.size
        by_cases hlt2 : j < L.length
        · have hp0 := (hKj.blk (by omega) HP.out).cell j
          have hr0 := (hKj.blk (by omega) HR.out).cell 0
          obtain ⟨nm, hnm⟩ : ∃ nm, L[j]? = some nm := ⟨_, List.getElem?_eq_getElem hlt2⟩
          have hp1 : wr.cell? ⟨g1 + 1, j, none⟩ = some (.string nm) := by rw [hp0]; simp [hnm]
          have hr1 : wr.cell? ⟨g1, 0, none⟩ = some (.string f) := by rw [hr0]; rfl
          have hns := q6 nm (List.mem_of_getElem? hnm)
          have hfn : f.size + nm.size ≤ 9223372036854775807 := by omega
          have hTE := Lib.hid (show opEmit f (L.take (j + 1)) off = opEmit f (L.take j) off ++ opEmit f [nm] (off + j) from by rw [take_snoc_get hnm, opEmit_append, List.length_take, Nat.min_eq_left (by omega)])
          clear hp0 hr0 hnm
          by_cases hdash : nm = ⟨#[45]⟩
          · have hE := Lib.hid (show opEmit f [nm] (off + j) = [] from by simp [opEmit, hdash])
            subst hdash
            gi_wp2
            go_roundw
            case rel => exact ⟨j + 1, by omega, by go_num, by go_num, by rw [hTE.out, hE.out, List.append_nil]; exact hJj, hKj⟩
            case measure => simp [intOf]; omega
          · have hE := Lib.hid (show opEmit f [nm] (off + j) = [(((off + j : Nat) : Int), f ++ nm)] from by simp [opEmit, hdash])
            obtain ⟨x0, hx0⟩ : ∃ x0 : Int × ByteArray, x0 = (((off + j : Nat) : Int), f ++ nm) := ⟨_, rfl⟩
            have heE : opEnc x0 = #[.int .i64 ((off : Int) + j), .string (f ++ nm)] := by rw [hx0]; simp [opEnc]
            have hlen : (pk ++ opEmit f (L.take j) off).length < opAll.length := by
              have h := (hPre.out (j + 1)).length_le
              rw [hTE.out, hE.out] at h
              simp only [List.length_append, List.length_singleton] at h ⊢
              omega
            have H1 := hY'.out (n - 1) (pk ++ opEmit f (L.take j) off) x0 _ hJj hlen
            obtain ⟨fn, tmps, assign, body, hy, hR⟩ := H1
            rw [heE] at hy
            have hR' := Lib.hid hR
            have hJj' := Lib.hid hJj
            have hdb : (nm.toList == [45]) = false := beq_eq_false_iff_ne.2 (fun e => hdash (bts_ext (by rw [← ByteArray.toList_eq, e])))
            clear hR hJj hdash
            gi_wp2
            refine hR'.out.mono ?_
            rintro e W3 (⟨rfl, hJ3, hk3⟩ | ⟨rfl, hJx3⟩)
            · rw [List.append_assoc, hx0, ← hE.out, ← hTE.out] at hJ3
              have hJ4 := Lib.hid hJ3
              clear hJ3
              gi_wp2
              go_roundw
              case rel => exact ⟨j + 1, by omega, by go_num, by go_num, hJ4.out, hKj.trans hk3⟩
              case measure => simp [intOf]; omega
            · rw [List.append_assoc, hx0, ← hE.out, ← hTE.out] at hJx3
              have hJ4 := Lib.hid hJx3
              clear hJx3
              gi_wp2
              refine bodyPost_ret (results_none rfl _ _ _) rfl ?_
              exact ⟨⟨_, rfl⟩, .inr ⟨_, hPre.out (j + 1), hJ4.out⟩⟩
        · obtain rfl : j = L.length := by omega
          rw [List.take_length] at hJj
          have hJj' := Lib.hid hJj
          clear hJj
          gi_wp2
          go_roundw
          case rel => exact ⟨k + 1, by omega, by go_num, by rw [hOL.out], by rw [hAR.out]; exact hJj'.out, HK2.out.trans hKj⟩
          case measure => simp [intOf]; omega
    · obtain rfl : k = 10 := by omega
      rw [List.take_of_length_le (by exact Nat.le_refl 10)] at hJk
      have hmk : wr.cell? ⟨0, 0, none⟩ = some (.int .i64 mx) := (hKk.1.cell (p := ⟨0, 0, none⟩) (by omega)).trans hm0
      have hSk0 := fun m => hSp.out m opStopsS _ (by decide +kernel) hmk
      have hst : Lib.countB opStopsS ⟨#[32]⟩ + 1 = opStops.length ∧ Lib.splitB ⟨#[32]⟩ 0 (Lib.countB opStopsS ⟨#[32]⟩) opStopsS = opStops := ⟨by rw [show Lib.countB opStopsS ⟨#[32]⟩ = _ from nm6_split.1]; rfl, nm6_split.2⟩
      rw [hst.1, hst.2] at hSk0
      have hSk := Lib.hid hSk0
      have hbp := Blk.new wr (opStops.map Value.string).toArray 9
      have hKb := KeepC.alloc hKk (.cells (opStops.map Value.string).toArray 9) (by omega)
      have hJb := hA'.out _ _ (.cells (opStops.map Value.string).toArray 9) hJk
      have hsb : (wr.alloc (.cells (opStops.map Value.string).toArray 9)).heap.size = wr.heap.size + 1 := World.size_alloc _ _
      have hss : opStopsS = bts (joinW nm6W) := rfl
      clear hSk0 hst hJk hmk
      gi_wp2_with ((try refine ⟨hdd _, ?_⟩); gi_at_call 35; refine (hSk.out _).mono ?_; rintro e w' ⟨rfl, rfl⟩)
      obtain ⟨W2, hW2⟩ : ∃ W2, wr.alloc (.cells (opStops.map Value.string).toArray 9) = W2 := ⟨_, rfl⟩
      rw [hW2] at hbp hKb hJb hsb ⊢
      have HP := Lib.hid hbp
      clear hW2 hbp hKb hSk hss
      obtain ⟨g1, hg1⟩ : ∃ g1, wr.heap.size = g1 := ⟨_, rfl⟩
      rw [hg1] at HP hsb hsz ⊢
      clear hg1
      have hSl : opStops.length ≤ 8 := by decide
      have hSs : ∀ n ∈ opStops, n.size ≤ 100 := by decide +kernel
      generalize hOS : opStops = L at *
      have HOS := Lib.hid hOS
      clear hOS
      gi_loopw [41] (fun i wr2 => ∃ j : Nat, j ≤ L.length ∧ i = .int .i64 j ∧ J (opAllR opRows 0 ++ opStopL (L.take j) 64512) wr2 ∧ KeepC n0 n1 W2 wr2) (fun i _ => L.length - (intOf i).toNat)
      case atStart => exact ⟨0, Nat.zero_le _, rfl, by simpa [opStopL] using hJb, KeepC.refl _ _ _⟩
      case round =>
        obtain ⟨j, hj, rfl, hJj, hKj⟩ := hrel
        have hsj := hKj.1.size
        by_cases hlt2 : j < L.length
        · have hp0 := (hKj.blk (by omega) HP.out).cell j
          obtain ⟨nm, hnm⟩ : ∃ nm, L[j]? = some nm := ⟨_, List.getElem?_eq_getElem hlt2⟩
          have hp1 : wr.cell? ⟨g1, j, none⟩ = some (.string nm) := by rw [hp0]; simp [hnm]
          have hTE := Lib.hid (show opStopL (L.take (j + 1)) 64512 = opStopL (L.take j) 64512 ++ [(((64512 + j : Nat) : Int), nm)] from by rw [take_snoc_get hnm, opStopL_append, List.length_take, Nat.min_eq_left (by omega)]; rfl)
          have hPre := Lib.hid (show opAllR opRows 0 ++ opStopL (L.take (j + 1)) 64512 <+: opAll from by rw [← HOS.out]; exact stopPre)
          obtain ⟨x0, hx0⟩ : ∃ x0 : Int × ByteArray, x0 = (((64512 + j : Nat) : Int), nm) := ⟨_, rfl⟩
          have heE : opEnc x0 = #[.int .i64 (64512 + (j : Int)), .string nm] := by rw [hx0]; simp [opEnc]
          have hlen : (opAllR opRows 0 ++ opStopL (L.take j) 64512).length < opAll.length := by
            have h := hPre.out.length_le
            rw [hTE.out] at h
            simp only [List.length_append, List.length_singleton] at h ⊢
            omega
          have H1 := hY'.out (n - 1) (opAllR opRows 0 ++ opStopL (L.take j) 64512) x0 _ hJj hlen
          obtain ⟨fn, tmps, assign, body, hy, hR⟩ := H1
          rw [heE] at hy
          have hR' := Lib.hid hR
          have hJj' := Lib.hid hJj
          clear hR hJj hp0 hnm
          gi_wp2
          refine hR'.out.mono ?_
          rintro e W3 (⟨rfl, hJ3, hk3⟩ | ⟨rfl, hJx3⟩)
          · rw [List.append_assoc, hx0, ← hTE.out] at hJ3
            have hJ4 := Lib.hid hJ3
            clear hJ3
            gi_wp2
            go_roundw
            case rel => exact ⟨j + 1, by omega, by go_num, hJ4.out, hKj.trans hk3⟩
            case measure => simp [intOf]; omega
          · rw [List.append_assoc, hx0, ← hTE.out] at hJx3
            have hJ4 := Lib.hid hJx3
            clear hJx3
            gi_wp2
            refine bodyPost_ret (results_none rfl _ _ _) rfl ?_
            exact ⟨⟨_, rfl⟩, .inr ⟨_, hPre.out, hJ4.out⟩⟩
        · obtain rfl : j = L.length := by omega
          rw [List.take_length] at hJj
          have hJj' := Lib.hid hJj
          clear hJj
          gi_wp2
          go_end0
          exact ⟨⟨_, rfl⟩, .inl ⟨_, rfl, by rw [opAll, HOS.out]; exact hJj'.out⟩⟩
end Go.Proofs.YtfndlpfceokloaaDoor
