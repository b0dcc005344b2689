/- Lemmas towards this claim's statement: what the functions named here come to, each under the conditions that it states itself. -/
import Derived.Test.YtfndlpfceokloaaCk10
namespace Go.Proofs.Ytfndlpfceokloaa
open Go.RowKit Go.Shelf YtfndlpfceokloaaB Go.Proofs.YtfndlpfceokloaaW.PrintWords
/-- A cursor's bytes do not lie in another cursor. -/
theorem cur_two {W : World} {p q p2 q2 : Nat} {B B2 : List Int} {a a2 : Nat} {e e2 : Int} (h : Cur W p q B a e) (h2 : Cur W p2 q2 B2 a2 e2) : ∃ q', Cur W p2 q' B2 a2 e2 ∧ q' ≠ p := by
  rcases Nat.eq_zero_or_pos B2.length with hz | hz
  · obtain rfl : B2 = [] := List.eq_nil_of_length_eq_zero hz
    exact ⟨p + p2 + 1, h2.anyq (by omega), by omega⟩
  · refine ⟨q2, h2, fun e => ?_⟩
    subst e
    obtain ⟨_, _, A, c, _, hb, _⟩ := h
    obtain ⟨_, _, A2, c2, _, _, hq⟩ := h2
    obtain ⟨o, _, hc⟩ := hq hz
    have h0 := hc 0 _ (List.getElem?_eq_getElem hz)
    rw [hb.cell] at h0
    match o, h0 with
    | 0, h0 => simp at h0
    | 1, h0 => simp at h0
    | 2, h0 => simp at h0
    | o + 3, h0 => simp at h0
theorem fc_off {V X : World} {ok : Nat → Prop} {A : Option Addr} {l : List Ins} {d : Kd Ins} (h : FC d V (fun k => ok k ∧ k < V.heap.size) A l) (hb : Below V.heap.size V X) (v : Value) (hv : ∀ k, v.ownBlock = some k → V.heap.size ≤ k) : FC d X (fun k => True ∧ some k ≠ v.ownBlock) A l :=
  Ft.mono (Ft.below h hb) (fun k hk => ⟨trivial, fun e => by have := hv k e.symm; have := hk.2; omega⟩)
theorem cur_kept {n : Nat} {W W' : World} {p q : Nat} {B : List Int} {a : Nat} {e : Int} (h : Cur W p q B a e) (hb : Below n W W') (hn : n = W.heap.size) : Cur W' p q B a e := by subst hn; exact h.below hb
set_option maxRecDepth 100000 in
set_option maxHeartbeats 4000000 in
theorem codeJoins_go (W : World) (A A2 : Option Addr) (c c2 : Nat) (B M : List Int) (hR : RdI W .u8 A B) (hB : Byts B) (hle : B.length ≤ c) (hR2 : RdI W .u8 A2 M) (hM : Byts M) :
    Calls Try.prog 13 #[.slice A B.length c, .slice A2 M.length c2] W (AwPost W) := by
  have hbl := hB.1
  have hml := hM.1
  by_cases c1 : (2000 : Int) < (B.length : Int)
  · go_enter Try.func13, Try.ntmps13
    go_wp2_with fail
    refine (awake19_any _).mono ?_
    rintro e1 W1 ⟨rfl, hB1⟩
    go_wp2_with fail
    go_ret
    exact ⟨rfl, hB1⟩
  by_cases c3 : (2000 : Int) < (M.length : Int)
  · go_enter Try.func13, Try.ntmps13
    go_wp2_with fail
    refine (awake19_any _).mono ?_
    rintro e1 W1 ⟨rfl, hB1⟩
    go_wp2_with fail
    go_ret
    exact ⟨rfl, hB1⟩
  have HR := Lib.hid hR
  have HR2 := Lib.hid hR2
  have HB := Lib.hid hB
  have HM := Lib.hid hM
  have hLB : B.length ≤ 2000 := by omega
  have hLM : M.length ≤ 2000 := by omega
  have HK := Lib.hid (show bkL (exprM true B 0 0).1 ≤ 2000 from Nat.le_trans expr_bk hLB)
  have HK2 := Lib.hid (show bkL (exprM true M 0 0).1 ≤ 2000 from Nat.le_trans expr_bk hLM)
  have HJ := Lib.hid (fun h h' => joins_plain (sat := true) (A := B) (B := M) h h')
  have HE1 := Lib.hid (show (exprM true B 0 0).2.2 = 0 → 1 ≤ (exprM true B 0 0).2.1 ∧ (exprM true B 0 0).2.1 ≤ B.length from fun h => ⟨(keeps_plain h []).1, (keeps_plain h []).2.1⟩)
  clear hR hR2 hB hM
  go_enter Try.func13, Try.ntmps13
  go_wp2_with fail
  refine (awake19_any _).mono ?_
  rintro e1 W1 ⟨rfl, hB1⟩
  go_wp2_with fail
  refine (New_any W1 A c B (HR.out.below hB1) HB.out).mono ?_
  rintro e2 W2 ⟨p, q, hp, rfl, hC, hB2⟩
  have hB02 := below_from hB1 hB2
  have HC := Lib.hid hC
  have hp0 := Nat.le_trans hB1.size hp
  clear hC hB1 hB2 hp
  go_wp2_with fail
  refine (New_any W2 A2 c2 M (HR2.out.below hB02) HM.out).mono ?_
  rintro e3 W3 ⟨p2, q2, hp2, rfl, hC2, hB3⟩
  have hB03 := Lib.hid (below_from hB02 hB3)
  have hp20 := Nat.le_trans hB02.size hp2
  have hpp : p2 ≠ p := by have := HC.out.lt; omega
  have hC3 := HC.out.below hB3
  have hp3lt := hC2.lt
  obtain ⟨q2', hC2', hq2⟩ := cur_two hC3 hC2
  have HX := Lib.hid (Expr_any W3 p q true B 0 0 hC3 HB.out)
  have HC2 := Lib.hid hC2'
  clear hC2 hC2' hC3 hB02 hp2 hB3 HC
  generalize exprM true B 0 0 = t at *
  obtain ⟨l, a1, e1⟩ := t
  go_wp2_with fail
  refine HX.out.mono ?_
  rintro e4 W4 ⟨⟨A4, c4, rfl, hl4, hF4⟩, hG4⟩
  have hG4' : Goes W3 W4 p q B a1 e1 := hG4
  have hF4' : FC kI W4 (fun k => W3.heap.size ≤ k) A4 l := hF4
  have hB04 := below_goes hB03.out hG4'.2 hp0 hB03.out.size
  have hs4 := hG4'.2.size
  have hC24 := HC2.out.grown hG4'.2 (by simp; omega) (by simp; omega)
  obtain ⟨q', hC4, hq'⟩ := cur_two hC24 hG4'.1
  have HX2 := Lib.hid (Expr_any W4 p2 q2' true M 0 0 hC24 HM.out)
  have HC4 := Lib.hid hC4
  have HF4 := Lib.hid hF4'
  clear hG4 hG4' hF4 hF4' hC4 HX HC2 hC24 hB03
  generalize exprM true M 0 0 = t at *
  obtain ⟨m, a2, e2⟩ := t
  go_wp2_with fail
  refine HX2.out.mono ?_
  rintro e5 V ⟨⟨A5, c5, rfl, hl5, hF5⟩, hG5⟩
  have hG5' : Goes W4 V p2 q2' M a2 e2 := hG5
  have HV := Lib.hid (show Below W.heap.size W V from below_goes hB04 hG5'.2 hp20 hB04.size)
  have hs5 := hG5'.2.size
  have HCx := Lib.hid (HC4.out.grown hG5'.2 (by simp; omega) (by simp; omega))
  have HCy := Lib.hid hG5'.1
  have HFl := Lib.hid (fc_bounded (Ft.grown HF4.out hG5'.2 (fun k hk e => by injection e with e; omega)))
  have HFm := Lib.hid (fc_bounded (show FC kI V (fun k => W4.heap.size ≤ k) A5 m from hF5))
  have HEx := Lib.hid (err_any _ _ _ _ _ _ HCx.out)
  have HEy := Lib.hid (err_any _ _ _ _ _ _ HCy.out)
  clear hG5 hG5' hF5 HX2 HC4 HF4 hB04
  by_cases he : e1 = 0
  · subst he
    by_cases hf : e2 = 0
    · subst hf
      have hj := HJ.out rfl rfl
      obtain ⟨k1, k2⟩ := HE1.out rfl
      obtain ⟨k, rfl⟩ : ∃ k, a1 = k + 1 := ⟨a1 - 1, by omega⟩
      rw [Nat.add_sub_cancel] at hj
      obtain ⟨nn, hnn⟩ : ∃ nn, l ++ m = nn := ⟨_, rfl⟩
      rw [hnn] at hj
      have HYtfndlpfceokloaa := Lib.hid hnn
      have HJ2 := Lib.hid hj
      have hkl : bkL l ≤ 2000 := HK.out
      have hkm : bkL m ≤ 2000 := HK2.out
      have hll := bkL_len l
      have hlm := bkL_len m
      have hkB : (B.take k).length = k := by rw [List.length_take]; omega
      have HkB := Lib.hid hkB
      have hkc : k ≤ c := by omega
      have ha2 : a2 ≤ 2000 := Nat.le_trans HCy.out.2.1 hLM
      have hk2 : k ≤ 2000 := by omega
      have hBel := Lib.hid (Bel.mk HV.out (Below.refl V.heap.size V))
      have hVa := (Below.refl V.heap.size V).alloc (Nat.le_refl _) (.cells #[] 5)
      have HAx := Lib.hid (show ∀ X, Below V.heap.size V X → Calls Try.prog 59 #[.pointer (some ⟨p, 0, none⟩)] X fun E w' => E = .returned (.int .i64 ((k : Int) + 1)) ∧ X = w' from fun X h => (at_any X p q' B (k + 1) 0 (HCx.out.below h)).mono (by rintro E w' ⟨rfl, rfl⟩; exact ⟨by simp, rfl⟩))
      have HAy := Lib.hid (show ∀ X, Below V.heap.size V X → Calls Try.prog 59 #[.pointer (some ⟨p2, 0, none⟩)] X fun E w' => E = .returned (.int .i64 (a2 : Int)) ∧ X = w' from fun X h => at_any X p2 q2' M a2 0 (HCy.out.below h))
      have HT := Lib.hid (rdI_take ((HR.out.below HV.out).below hVa) k).src
      clear hj HJ hkB HE1 hnn
      go_wp2_with (first
        | (go_at_call_of 58 (Value.pointer (some ⟨p, 0, none⟩)); refine HEx.out.mono ?_; rintro e w' ⟨rfl, rfl⟩)
        | (go_at_call_of 58 (Value.pointer (some ⟨p2, 0, none⟩)); refine HEy.out.mono ?_; rintro e w' ⟨rfl, rfl⟩)
        | (go_at_call_of 59 (Value.pointer (some ⟨p, 0, none⟩)); refine (HAx.out _ hVa).mono ?_; rintro e w' ⟨rfl, rfl⟩)
        | (at_builtin; refine wpList_append_src V.heap.size rfl (.tmp 38) (.tmp 43) 85 5 (.int .u8 0) 1 1 rfl Try.underlying85 infoB8 rfl (by decide) (by decide) (.slice (some ⟨V.heap.size, 0, none⟩) 0 0) 0 [] (nums .u8 (B.take k)) A k c (by rfl) (by rfl) (World.ownsRow_made V #[] 0 (Nat.le_refl _) (by decide) rfl) (by simp [nums]; omega) (fun hp => HT.out (by rw [List.length_take]; omega)) (nums_one _ _) (by simp) (by omega) ?_; intro v1 w1 hown1 hg1 hat1; rw [Nat.zero_add, List.nil_append] at hown1; have HO1 := Lib.hid hown1; have hw1s := hg1.size; have HB6 := Lib.hid ((hBel.out.grown (World.grownBy_alloc V (.cells #[] 5) none) (fun k e => by cases e)).grown hg1 (fun k e => by cases e; exact Nat.le_refl _)); clear hown1 hg1 hat1)
        | (at_builtin; refine wpList_append_src V.heap.size rfl (.tmp 44) (.tmp 45) 85 5 (.int .u8 0) 1 1 rfl Try.underlying85 infoB8 rfl (by decide) (by decide) v1 k (nums .u8 (B.take k)) (nums .u8 M) A2 M.length c2 (by rfl) (by rfl) HO1.out (by simp [nums]) (HR2.out.below HB6.out.all).src (nums_one _ _) (by simp at hw1s; omega) (by omega) ?_; intro v2 w2 hown2 hg2 hat2; have HB7 := Lib.hid (HB6.out.grown hg2 (fun k e => own_base HO1.out e)); rw [nums_app] at hown2; obtain ⟨A3, c3, rfl, hl3, hR3⟩ := own_rdI hown2 (by omega); have HR3 := Lib.hid hR3; have hl3' := Lib.hid hl3; clear hown2 hg2 hat2 hl3 hR3))
      refine (New_n _ A3 _ c3 (B.take k ++ M) hl3'.out.symm HR3.out (byts_append (byts_take HB.out k) HM.out (by rw [hl3'.out]; omega))).mono ?_
      rintro e8 W8 ⟨p8, q8, hp8, rfl, hC8, hB8⟩
      have hp8' := Nat.le_trans HB7.out.h1.size hp8
      have HB8 := Lib.hid (HB7.out.step hB8)
      have HX8 := Lib.hid (Expr_any W8 p8 q8 true _ 0 0 hC8 (byts_append (byts_take HB.out k) HM.out (by rw [hl3'.out]; omega)))
      rw [HJ2.out] at HX8
      clear hp8 hB8 hC8 HR3 HJ2 HO1 HB6 HB7
      go_wp2_with fail
      refine HX8.out.mono ?_
      rintro e9 X ⟨⟨A9, c9, rfl, hl9, hF9⟩, hG9⟩
      have hG9' : Goes W8 X p8 q8 (B.take k ++ M) (k + a2) 0 := hG9
      have HF9 := Lib.hid (fc_bounded (show FC kI X (fun k => W8.heap.size ≤ k) A9 nn from hF9))
      have HBX := Lib.hid (HB8.out.goes hG9'.2 hp8')
      have HC9 := Lib.hid hG9'.1
      have hlX : l.length ≤ 2000 ∧ m.length ≤ 2000 := ⟨by omega, by omega⟩
      clear hF9 hG9 hG9' HX8
      have hXa := (Below.refl X.heap.size X).alloc (Nat.le_refl _) (.cells #[] 160)
      have hVX := HBX.out.h1.size
      have HL1 := Lib.hid (fc_off HFl.out (below_from HBX.out.h1 hXa) (.slice (some ⟨X.heap.size, 0, none⟩) 0 0) (fun k e => by cases e; exact hVX))
      have HO0 := Lib.hid (Own.made (d := kI) (e := 160) (W := X) (base := X.heap.size) (ok := fun _ => True) (cur := #[]) (c := 0) rfl (by decide) (Nat.le_refl _))
      go_wp2_with (first
        | (at_builtin; refine Own.append_row (d := kI) X.heap.size rfl (.tmp 50) (.tmp 51) 52 160 _ 112 rfl Try.underlying52 infoI rfl (by decide) (by decide) (.slice (some ⟨X.heap.size, 0, none⟩) 0 0) [] l A4 c4 (fun _ => True) (by rfl) (by rfl) HL1.out HO0.out (by simp) (by have := hlX.1; simp only [List.length_nil]; omega) ?_; intro v1 w1 hown1 hg1 hat1; rw [List.nil_append] at hown1; have HO1 := Lib.hid hown1; have hw1s := hg1.size; rw [World.size_alloc] at hw1s; have HB6 := Lib.hid ((HBX.out.grown (World.grownBy_alloc X (.cells #[] 160) none) (fun k e => by cases e)).grown hg1 (fun k e => by cases e; exact hVX)); have HX6 := Lib.hid (((Below.refl X.heap.size X).alloc (Nat.le_refl _) (.cells #[] 160)).grown hg1 (by simp) (fun k e => by cases e; exact Nat.le_refl _)); have HM1 := Lib.hid (fc_off HFm.out HB6.out.h1 v1 (fun k e => Nat.le_trans hVX (Own.block HO1.out e).1)); clear hown1 hg1 hat1)
        | (at_builtin; refine Own.append_row (d := kI) X.heap.size rfl (.tmp 52) (.tmp 53) 52 160 _ 112 rfl Try.underlying52 infoI rfl (by decide) (by decide) v1 l m A5 c5 (fun _ => True) (by rfl) (by rfl) HM1.out HO1.out (by omega) (by have := hlX.1; have := hlX.2; omega) ?_; intro v2 w2 hown2 hg2 hat2; have HB7 := Lib.hid (HB6.out.grown hg2 (fun k e => Nat.le_trans hVX (Own.block HO1.out e).1)); have HX7 := Lib.hid (HX6.out.grown hg2 HX6.out.size (fun k e => (Own.block HO1.out e).1)); rw [HYtfndlpfceokloaa.out] at hown2; obtain ⟨AA, cA, rfl, hlA, hFA⟩ := Own.reads hown2; have HFA := Lib.hid hFA; have HEz := Lib.hid (err_any _ _ _ _ _ _ (cur_kept HC9.out HX7.out rfl)); have HAz := Lib.hid (show Calls Try.prog 59 #[.pointer (some ⟨p8, 0, none⟩)] w2 fun E w' => E = .returned (.int .i64 ((k : Int) + a2)) ∧ w2 = w' from (at_any _ _ _ _ _ _ (cur_kept HC9.out HX7.out rfl)).mono (by rintro E w' ⟨rfl, rfl⟩; exact ⟨by simp, rfl⟩)); clear hown2 hg2 hat2 hlA hFA)
        | (go_at_call_of 58 (Value.pointer (some ⟨p8, 0, none⟩)); refine HEz.out.mono ?_; rintro e w' ⟨rfl, rfl⟩)
        | (go_at_call_of 59 (Value.pointer (some ⟨p8, 0, none⟩)); refine HAz.out.mono ?_; rintro e w' ⟨rfl, rfl⟩)
        | (go_at_call_of 59 (Value.pointer (some ⟨p, 0, none⟩)); refine (HAx.out _ HB7.out.h1).mono ?_; rintro e w' ⟨rfl, rfl⟩)
        | (go_at_call_of 59 (Value.pointer (some ⟨p2, 0, none⟩)); refine (HAy.out _ HB7.out.h1).mono ?_; rintro e w' ⟨rfl, rfl⟩))
      have hbn : bkL nn ≤ 1048576 := by rw [← HYtfndlpfceokloaa.out, bkL_append]; omega
      have hsl := szL_bk l
      have hsm := szL_bk m
      have hsl2 : szL l ≤ 2000 := by omega
      have hsm2 : szL m ≤ 2000 := by omega
      have HRl := Lib.hid (show ∀ Y, Below w2.heap.size w2 Y → kI.C Y A4 l.length l from fun Y h => (fc_kept HFl.out (below_from HB7.out.h1 h) rfl).now)
      have HRm := Lib.hid (show ∀ Y, Below w2.heap.size w2 Y → kI.C Y A5 m.length m from fun Y h => (fc_kept HFm.out (below_from HB7.out.h1 h) rfl).now)
      have HRn := Lib.hid (show ∀ Y, Below w2.heap.size w2 Y → kI.C Y A9 nn.length nn from fun Y h => (fc_kept HF9.out (below_from HX7.out h) rfl).now)
      have HS1 := Lib.hid (show ∀ Y, Below w2.heap.size w2 Y → Calls Try.prog 61 #[.slice A9 nn.length c9] Y fun e W' => e = .returned (.int .i64 ((szL l : Int) + (szL m : Int))) ∧ Below Y.heap.size Y W' from fun Y h => (Size_any nn hbn A9 c9 Y (HRn.out Y h)).mono (by rintro e W' ⟨rfl, h⟩; exact ⟨by rw [← HYtfndlpfceokloaa.out, szL_append]; simp, h⟩))
      have HS2 := Lib.hid (show ∀ Y, Below w2.heap.size w2 Y → Calls Try.prog 61 #[.slice A4 l.length c4] Y fun e W' => e = .returned (.int .i64 (szL l : Int)) ∧ Below Y.heap.size Y W' from fun Y h => Size_any l (by omega) A4 c4 Y (HRl.out Y h))
      have HS3 := Lib.hid (show ∀ Y, Below w2.heap.size w2 Y → Calls Try.prog 61 #[.slice A5 m.length c5] Y fun e W' => e = .returned (.int .i64 (szL m : Int)) ∧ Below Y.heap.size Y W' from fun Y h => Size_any m (by omega) A5 c5 Y (HRm.out Y h))
      have HD1 := Lib.hid (show ∀ Y, Below w2.heap.size w2 Y → Calls Try.prog 63 #[.slice A9 nn.length c9] Y fun e W' => e = .returned (.int .i64 (if (dpL l : Int) < (dpL m : Int) then (dpL m : Int) else (dpL l : Int))) ∧ Below Y.heap.size Y W' from fun Y h => (Depth_any nn hbn A9 c9 Y (HRn.out Y h)).mono (by rintro e W' ⟨rfl, h⟩; exact ⟨by rw [← HYtfndlpfceokloaa.out, dpL_append]; congr 2; split <;> omega, h⟩))
      have HD2 := Lib.hid (show ∀ Y, Below w2.heap.size w2 Y → Calls Try.prog 63 #[.slice A4 l.length c4] Y fun e W' => e = .returned (.int .i64 (dpL l : Int)) ∧ Below Y.heap.size Y W' from fun Y h => Depth_any l (by omega) A4 c4 Y (HRl.out Y h))
      have HD3 := Lib.hid (show ∀ Y, Below w2.heap.size w2 Y → Calls Try.prog 63 #[.slice A5 m.length c5] Y fun e W' => e = .returned (.int .i64 (dpL m : Int)) ∧ Below Y.heap.size Y W' from fun Y h => Depth_any m (by omega) A5 c5 Y (HRm.out Y h))
      have hB0 := Lib.hid (HB7.out.all)
      refine (plain_any (bkL nn) nn (Nat.le_refl _) hbn _ w2 A9 c9 (FC.of_old (HRn.out _ (Below.refl _ _)))).mono ?_
      rintro f1 Y1 ⟨hy1, A11, c11, rfl, hl11, hF11⟩
      have HF11 := Lib.hid hF11
      have HP2 := Lib.hid (plain_any (bkL nn) nn (Nat.le_refl _) hbn _ Y1 AA cA (HFA.out.below hy1))
      clear hF11 hl11
      go_wp2_with fail
      refine HP2.out.mono ?_
      rintro f2 Y2 ⟨hy2, A12, c12, rfl, hl12, hF12⟩
      have HSa := Lib.hid (same_eq (bkL nn) nn (Nat.le_refl _) hbn Y2 A11 A12 c11 c12 (HF11.out.below hy2).now hF12.now)
      have hy02 := below_from hy1 hy2
      clear hF12 hl12 HP2 HF11 hy1 hy2
      go_wp2_with fail
      refine HSa.out.mono ?_
      rintro f3 Y3 ⟨rfl, hy3⟩
      have hy03 := below_from hy02 hy3
      clear hy02 hy3 HSa
      by_cases hdd : (dpL l : Int) < (dpL m : Int)
      all_goals
        first | rw [if_pos hdd] at HD1 | rw [if_neg hdd] at HD1
        go_wp2_with fail
        refine (HS1.out _ hy03).mono ?_
        rintro f4 Y4 ⟨rfl, hy4⟩
        have hy04 := below_from hy03 hy4
        go_wp2_with fail
        refine (HS2.out _ hy04).mono ?_
        rintro f5 Y5 ⟨rfl, hy5⟩
        have hy05 := below_from hy04 hy5
        go_wp2_with fail
        refine (HS3.out _ hy05).mono ?_
        rintro f6 Y6 ⟨rfl, hy6⟩
        have hy06 := below_from hy05 hy6
        go_wp2_with fail
        refine (HD1.out _ hy06).mono ?_
        rintro f7 Y7 ⟨rfl, hy7⟩
        have hy07 := below_from hy06 hy7
        go_wp2_with fail
        refine (HD2.out _ hy07).mono ?_
        rintro f8 Y8 ⟨rfl, hy8⟩
        have hy08 := below_from hy07 hy8
        go_wp2_with fail
        refine (HD3.out _ hy08).mono ?_
        rintro f9 Y9 ⟨rfl, hy9⟩
        have hy09 := below_from hy08 hy9
        go_wp2_with fail
        go_ret
        exact ⟨rfl, below_from hB0.out hy09⟩
    · have he2 : (e2 != 0) = true := by simpa using hf
      clear hf
      go_wp2_with (first
        | (go_at_call_of 58 (Value.pointer (some ⟨p, 0, none⟩)); refine HEx.out.mono ?_; rintro e w' ⟨rfl, rfl⟩)
        | (go_at_call_of 58 (Value.pointer (some ⟨p2, 0, none⟩)); refine HEy.out.mono ?_; rintro e w' ⟨rfl, rfl⟩))
      go_ret
      exact ⟨rfl, HV.out⟩
  · have he2 : (e1 != 0) = true := by simpa using he
    clear he
    go_wp2_with (go_at_call 58; refine HEx.out.mono ?_; rintro e w' ⟨rfl, rfl⟩)
    go_ret
    exact ⟨rfl, HV.out⟩
theorem codeJoins_walk (W : World) (a0 a1 : List Int) {A A2 : Option Addr} {n c n2 c2 : Nat} (h0 : (Kd.slice 5 (rng .u8)).K W a0 (Value.slice A n c).cells.toList) (h1 : (Kd.slice 5 (rng .u8)).K W a1 (Value.slice A2 n2 c2).cells.toList) (hb : a0.length + a1.length ≤ 1048576) :
    Calls Try.prog 13 #[.slice A n c, .slice A2 n2 c2] W fun e W' => e = .returned (.bool true) ∧ Below W.heap.size W W' := by
  obtain ⟨rfl, hR, hB, hle⟩ := bytes_open h0 (by omega)
  obtain ⟨rfl, hR2, hB2, hle2⟩ := bytes_open h1 (by omega)
  exact codeJoins_go W A A2 c c2 a0 a1 hR hB hle hR2 hB2
end Go.Proofs.Ytfndlpfceokloaa
