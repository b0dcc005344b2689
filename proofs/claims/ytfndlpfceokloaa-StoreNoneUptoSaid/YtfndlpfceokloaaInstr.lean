/- Lemmas towards this claim's statement: what the functions named here come to, each under the conditions that it states itself. -/
import Derived.Test.YtfndlpfceokloaaOpen
namespace Go.Proofs.YtfndlpfceokloaaB
open Go.RowKit Go.Proofs.YtfndlpfceokloaaW.PrintWords Go.Proofs.Ytfndlpfceokloaa
/-- An instruction. -/
inductive Ins where
  | mk (op ty a b bits : Int) (list : List Int) (th el : List Ins) (has : Bool)
instance : Inhabited Ins := ⟨.mk 0 0 0 0 0 [] [] [] false⟩
namespace Ins
def op : Ins → Int | mk o _ _ _ _ _ _ _ _ => o
def ty : Ins → Int | mk _ o _ _ _ _ _ _ _ => o
def a : Ins → Int | mk _ _ o _ _ _ _ _ _ => o
def b : Ins → Int | mk _ _ _ o _ _ _ _ _ => o
def bits : Ins → Int | mk _ _ _ _ o _ _ _ _ => o
def list : Ins → List Int | mk _ _ _ _ _ o _ _ _ => o
def th : Ins → List Ins | mk _ _ _ _ _ _ o _ _ => o
def el : Ins → List Ins | mk _ _ _ _ _ _ _ o _ => o
def has : Ins → Bool | mk _ _ _ _ _ _ _ _ o => o
end Ins
abbrev InsT := Int × Int × Int × Int × Int × List Int × List Ins × List Ins × Bool × Unit
def unIns : Ins → InsT | .mk o t a b n l th el h => (o, t, a, b, n, l, th, el, h, ())
def mkIns : InsT → Ins | (o, t, a, b, n, l, th, el, h, _) => .mk o t a b n l th el h
mutual
def bkI : Ins → Nat | .mk _ _ _ _ _ l t e _ => 1 + l.length + bkL t + bkL e
def bkL : List Ins → Nat | [] => 0 | x :: r => bkI x + bkL r
end
theorem bkL_sum : ∀ l : List Ins, bkL l = (l.map bkI).sum
  | [] => by simp [bkL]
  | x :: r => by rw [bkL, bkL_sum r]; simp
theorem bkI_pos (x : Ins) : 1 ≤ bkI x := by cases x; rw [bkI]; omega
theorem bkL_mem {l : List Ins} {x : Ins} (h : x ∈ l) : bkI x ≤ bkL l := by rw [bkL_sum]; exact sum_mem bkI l h
theorem bkL_get {l : List Ins} {i : Nat} {x : Ins} (h : l[i]? = some x) : bkI x ≤ bkL l := bkL_mem (List.mem_of_getElem? h)
theorem bkL_len (l : List Ins) : l.length ≤ bkL l := by rw [bkL_sum]; exact sum_len bkI l bkI_pos
theorem bkL_th (x : Ins) : bkL x.th < bkI x := by cases x; rw [bkI]; simp only [Ins.th]; omega
theorem bkL_el (x : Ins) : bkL x.el < bkI x := by cases x; rw [bkI]; simp only [Ins.el]; omega
theorem bkL_list (x : Ins) : x.list.length < bkI x := by cases x; rw [bkI]; simp only [Ins.list]; omega
def insF (tU tE : Nat) (d : Kd Ins) : Kd Ins :=
  Kd.iso (Kd.pair (rng .i64) (Kd.pair (rng .u8) (Kd.pair (rng .u32) (Kd.pair (rng .u32) (Kd.pair (rng .u64) (Kd.pair (Kd.slice tU (rng .u32)) (Kd.pair (Kd.slice tE d) (Kd.pair (Kd.slice tE d) (Kd.pair Kd.bool knil))))))))) unIns
theorem insF_sz (tU tE : Nat) (d : Kd Ins) : (insF tU tE d).sz = 9 := rfl
theorem upto_ins_sz (tU tE : Nat) (n : Nat) : (Kd.upto (insF tU tE) 9 [tU, tE] n).sz = 9 := by cases n <;> rfl
theorem upto_ins_E (tU tE : Nat) : ∀ (n q : Nat), q ∈ (Kd.upto (insF tU tE) 9 [tU, tE] n).E → q ∈ [tU, tE]
  | 0, _, h => h
  | n + 1, q, h => by
    have ih := upto_ins_E tU tE n q
    have h' : q ∈ ([] ++ ([] ++ ([] ++ ([] ++ ([] ++ ((tU :: []) ++ ((tE :: (Kd.upto (insF tU tE) 9 [tU, tE] n).E) ++ ((tE :: (Kd.upto (insF tU tE) 9 [tU, tE] n).E) ++ ([] ++ []))))))))) := h
    simp only [List.nil_append, List.append_nil, List.mem_append, List.mem_cons, List.mem_nil_iff, or_false] at h' ⊢
    rcases h' with h' | (h' | h') | (h' | h')
    · exact .inl h'
    · exact .inr h'
    · simpa using ih h'
    · exact .inr h'
    · simpa using ih h'
def kIns (tU tE : Nat) : Kd Ins := Kd.fix (insF tU tE) 9 [tU, tE] (upto_ins_sz tU tE) (upto_ins_E tU tE)
theorem mono_insF (tU tE : Nat) : Kd.Mono (insF tU tE) :=
  Kd.mono_iso unIns (Kd.mono_pair (Kd.mono_const _) (Kd.mono_pair (Kd.mono_const _) (Kd.mono_pair (Kd.mono_const _) (Kd.mono_pair (Kd.mono_const _) (Kd.mono_pair (Kd.mono_const _) (Kd.mono_pair (Kd.mono_const _)
    (Kd.mono_pair (Kd.mono_slice tE Kd.mono_id) (Kd.mono_pair (Kd.mono_slice tE Kd.mono_id) (Kd.mono_pair (Kd.mono_const _) (Kd.mono_const _))))))))))
/-- An instruction's nine cells. -/
theorem ins_open {tU tE : Nat} {w : World} {x : Ins} {cs : List Value} (h : (kIns tU tE).K w x cs) :
    ∃ AL cL AT cT AE cE, cs = [.int .i64 x.op, .int .u8 x.ty, .int .u32 x.a, .int .u32 x.b, .int .u64 x.bits, .slice AL x.list.length cL, .slice AT x.th.length cT, .slice AE x.el.length cE, .bool x.has] ∧
      (Lit.int .i64 x.op).wf = true ∧ (Lit.int .u8 x.ty).wf = true ∧ (Lit.int .u32 x.a).wf = true ∧ (Lit.int .u32 x.b).wf = true ∧ (Lit.int .u64 x.bits).wf = true ∧
      (rng .u32).C w AL x.list.length x.list ∧ (kIns tU tE).C w AT x.th.length x.th ∧ (kIns tU tE).C w AE x.el.length x.el := by
  obtain ⟨n, h⟩ := h
  cases n with
  | zero => exact h.elim
  | succ n =>
    obtain ⟨op, ty, a, b, bits, list, th, el, has⟩ := x
    obtain ⟨_, _, rfl, ⟨rfl, h1⟩, _, _, rfl, ⟨rfl, h2⟩, _, _, rfl, ⟨rfl, h3⟩, _, _, rfl, ⟨rfl, h4⟩, _, _, rfl, ⟨rfl, h5⟩, _, _, rfl, ⟨AL, cL, rfl, _, hL⟩, _, _, rfl, ⟨AT, cT, rfl, _, hT⟩, _, _, rfl, ⟨AE, cE, rfl, _, hE⟩, _, _, rfl, rfl, rfl⟩ := h
    exact ⟨AL, cL, AT, cT, AE, cE, rfl, h1, h2, h3, h4, h5, hL, Kd.fix_C hT, Kd.fix_C hE⟩
theorem ins_openC {tU tE : Nat} {w : World} {x : Ins} {cs : List Value} (h : (kIns tU tE).K w x cs) :
    ∃ AL cL AT cT AE cE, cs = [.int .i64 x.op, .int .u8 x.ty, .int .u32 x.a, .int .u32 x.b, .int .u64 x.bits, .slice AL x.list.length cL, .slice AT x.th.length cT, .slice AE x.el.length cE, .bool x.has] ∧
      (Lit.int .i64 x.op).wf = true ∧ (Lit.int .u8 x.ty).wf = true ∧ (Lit.int .u32 x.a).wf = true ∧ (Lit.int .u32 x.b).wf = true ∧ (Lit.int .u64 x.bits).wf = true ∧
      (rng .u32).C w AL x.list.length x.list ∧ (kIns tU tE).C w AT x.th.length x.th ∧ (kIns tU tE).C w AE x.el.length x.el ∧ x.list.length ≤ cL ∧ x.th.length ≤ cT ∧ x.el.length ≤ cE := by
  obtain ⟨n, h⟩ := h
  cases n with
  | zero => exact h.elim
  | succ n =>
    obtain ⟨op, ty, a, b, bits, list, th, el, has⟩ := x
    obtain ⟨_, _, rfl, ⟨rfl, h1⟩, _, _, rfl, ⟨rfl, h2⟩, _, _, rfl, ⟨rfl, h3⟩, _, _, rfl, ⟨rfl, h4⟩, _, _, rfl, ⟨rfl, h5⟩, _, _, rfl, ⟨AL, cL, rfl, l1, hL⟩, _, _, rfl, ⟨AT, cT, rfl, l2, hT⟩, _, _, rfl, ⟨AE, cE, rfl, l3, hE⟩, _, _, rfl, rfl, rfl⟩ := h
    exact ⟨AL, cL, AT, cT, AE, cE, rfl, h1, h2, h3, h4, h5, hL, Kd.fix_C hT, Kd.fix_C hE, l1, l2, l3⟩
/-- Made: out of its parts. -/
theorem ins_mk {tU tE : Nat} {w : World} {base : Nat} {ok : Nat → Prop} {x : Ins} {vL vT vE : Value} (h1 : (Lit.int .i64 x.op).wf = true) (h2 : (Lit.int .u8 x.ty).wf = true) (h3 : (Lit.int .u32 x.a).wf = true) (h4 : (Lit.int .u32 x.b).wf = true) (h5 : (Lit.int .u64 x.bits).wf = true)
    (hL : (rng .u32).R tU w base ok vL x.list) (hT : (kIns tU tE).R tE w base ok vT x.th) (hE : (kIns tU tE).R tE w base ok vE x.el) :
    (kIns tU tE).M w base ok x [.int .i64 x.op, .int .u8 x.ty, .int .u32 x.a, .int .u32 x.b, .int .u64 x.bits, vL, vT, vE, .bool x.has] := by
  obtain ⟨n, hn⟩ := Kd.fix_R_back (mono_insF tU tE) hT
  obtain ⟨m, hm⟩ := Kd.fix_R_back (mono_insF tU tE) hE
  have hn' := Kd.upto_R_le (mono_insF tU tE) (upto_ins_sz tU tE) (Nat.le_max_left n m) hn
  have hm' := Kd.upto_R_le (mono_insF tU tE) (upto_ins_sz tU tE) (Nat.le_max_right n m) hm
  obtain ⟨op, ty, a, b, bits, list, th, el, has⟩ := x
  exact ⟨max n m + 1, _, _, rfl, ⟨rfl, h1⟩, _, _, rfl, ⟨rfl, h2⟩, _, _, rfl, ⟨rfl, h3⟩, _, _, rfl, ⟨rfl, h4⟩, _, _, rfl, ⟨rfl, h5⟩, _, _, rfl, ⟨vL, rfl, hL⟩, _, _, rfl, ⟨vT, rfl, hn'⟩, _, _, rfl, ⟨vE, rfl, hm'⟩, _, _, rfl, rfl, rfl⟩
theorem kIns_sz (tU tE : Nat) : (kIns tU tE).sz = 9 := rfl
theorem opens_Ins {P : Program} {tU tE tI tUs tEs tB t8 t64 : TypeId} {fs : Array Field} (hU : P.underlying tU = some (.int .u32)) (hI : P.underlying tI = some (.int .i64)) (h8 : P.underlying t8 = some (.int .u8)) (h64 : P.underlying t64 = some (.int .u64)) (hB : P.underlying tB = some .bool)
    (hUs : P.underlying tUs = some (.slice tU)) (hEs : P.underlying tEs = some (.slice tE)) (hE : P.underlying tE = some (.struct fs)) (hc : [tU, tI, t8, t64, tB, tUs, tEs].map P.cellsOf = [1, 1, 1, 1, 1, 1, 1]) (hcE : P.cellsOf tE = 9)
    (hfs : fs.toList.map (fun f => (f.type, f.offset)) = [(tI, 0), (t8, 1), (tU, 2), (tU, 3), (t64, 4), (tUs, 5), (tEs, 6), (tEs, 7), (tB, 8)]) :
    ∀ k, OpensAt P tE (Kd.upto (insF tU tE) 9 [tU, tE] k) bkI (2 * k)
  | 0 => ⟨hcE, fun enc w base spare held fuel cs x hle h => by
      obtain rfl : fuel = 0 := by omega
      simp [DataW.trod] at h⟩
  | k + 1 => by
    have ih := opens_Ins hU hI h8 h64 hB hUs hEs hE hc hcE hfs k
    simp only [List.map_cons, List.map_nil, List.cons.injEq, and_true] at hc
    obtain ⟨c1, c2, c3, c4, c5, c6, c7⟩ := hc
    obtain ⟨f0, f1, f2, f3, f4, f5, f6, f7, f8, hf⟩ : ∃ f0 f1 f2 f3 f4 f5 f6 f7 f8, fs.toList = [f0, f1, f2, f3, f4, f5, f6, f7, f8] := by
      have hl : fs.toList.length = 9 := by
        have := congrArg List.length hfs
        simpa using this
      match h : fs.toList, hl with
      | [f0, f1, f2, f3, f4, f5, f6, f7, f8], _ => exact ⟨f0, f1, f2, f3, f4, f5, f6, f7, f8, rfl⟩
    rw [hf] at hfs
    simp only [List.map_cons, List.map_nil, List.cons.injEq, Prod.mk.injEq, and_true] at hfs
    obtain ⟨⟨a0, b0⟩, ⟨a1, b1⟩, ⟨a2, b2⟩, ⟨a3, b3⟩, ⟨a4, b4⟩, ⟨a5, b5⟩, ⟨a6, b6⟩, ⟨a7, b7⟩, ⟨a8, b8⟩⟩ := hfs
    have hslice : OpensAt P tEs (Kd.slice tE (Kd.upto (insF tU tE) 9 [tU, tE] k)) (fun xs => (xs.map bkI).sum + 1) (2 * k + 1) := opens_slice hEs c7 ih
    have hlist : OpensAt P tUs (Kd.slice tU (rng .u32)) (fun xs => (xs.map (fun _ => 1)).sum + 1) (2 * k + 1) := opens_slice hUs c6 (opens_int .u32 hU c1 (2 * k))
    have hF := opens_cons b0 (show OpensAt P f0.type _ _ (2 * k + 1) from by rw [a0]; exact opens_int .i64 hI c2 _)
      (opens_cons b1 (show OpensAt P f1.type _ _ (2 * k + 1) from by rw [a1]; exact opens_int .u8 h8 c3 _)
      (opens_cons b2 (show OpensAt P f2.type _ _ (2 * k + 1) from by rw [a2]; exact opens_int .u32 hU c1 _)
      (opens_cons b3 (show OpensAt P f3.type _ _ (2 * k + 1) from by rw [a3]; exact opens_int .u32 hU c1 _)
      (opens_cons b4 (show OpensAt P f4.type _ _ (2 * k + 1) from by rw [a4]; exact opens_int .u64 h64 c4 _)
      (opens_cons b5 (show OpensAt P f5.type _ _ (2 * k + 1) from by rw [a5]; exact hlist)
      (opens_cons b6 (show OpensAt P f6.type _ _ (2 * k + 1) from by rw [a6]; exact hslice)
      (opens_cons b7 (show OpensAt P f7.type _ _ (2 * k + 1) from by rw [a7]; exact hslice)
      (opens_cons b8 (show OpensAt P f8.type _ _ (2 * k + 1) from by rw [a8]; exact opens_bool hB c5 _) (opens_nil _ _)))))))))
    refine opens_bk (opens_iso (opens_struct hE hcE (by rw [hf]; exact hF)) unIns mkIns (fun a => rfl)) ?_
    rintro ⟨op, ty, a, b, bits, list, th, el, has⟩
    have e1 := sum_ones list
    have e2 := bkL_sum th
    have e3 := bkL_sum el
    simp only [unIns, bkI, e1]
    omega
theorem opens_Ins_fix {P : Program} {tU tE : TypeId} (h : ∀ k, OpensAt P tE (Kd.upto (insF tU tE) 9 [tU, tE] k) bkI (2 * k)) (n : Nat) : OpensAt P tE (kIns tU tE) bkI n :=
  ⟨(h n).size.trans (upto_ins_sz tU tE n), fun enc w base spare held fuel cs x hle hx => by
    obtain ⟨a, ha, hb⟩ := (h n).opens enc w base spare held fuel cs x (by omega) hx
    exact ⟨a, ⟨n, ha⟩, hb⟩⟩
end Go.Proofs.YtfndlpfceokloaaB
