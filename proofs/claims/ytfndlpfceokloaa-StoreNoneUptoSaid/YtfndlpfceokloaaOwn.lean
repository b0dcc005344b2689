/- Lemmas towards this claim's statement: what the functions named here come to, each under the conditions that it states itself. -/
import Derived.Test.YtfndlpfceokloaaInstr
namespace Go.Proofs.YtfndlpfceokloaaB
open Go.RowKit Go.Proofs.YtfndlpfceokloaaW.PrintWords
/-- W' has what W has, but for blocks that are not ok. -/
structure Agr (ok : Nat → Prop) (W W' : World) : Prop where
  os : W'.os = W.os
  tape : W'.tape = W.tape
  output : W'.output = W.output
  size : W.heap.size ≤ W'.heap.size
  block : ∀ k, ok k → k < W.heap.size → W'.heap[k]? = W.heap[k]?
theorem Agr.of_below {W W' : World} {ok : Nat → Prop} (h : Below W.heap.size W W') : Agr ok W W' := ⟨h.os, h.tape, h.output, h.size, fun k _ hk => h.block k hk⟩
theorem Agr.of_grown {W W' : World} {ok : Nat → Prop} {row : Option Nat} (h : W.grownBy W' row) (hok : ∀ k, ok k → some k ≠ row) : Agr ok W W' := ⟨h.os, h.tape, h.output, h.size, fun k hk hlt => h.block k hlt (hok k hk)⟩
theorem Agr.trans {W W1 W2 : World} {ok : Nat → Prop} (h : Agr ok W W1) (h' : Agr ok W1 W2) : Agr ok W W2 :=
  ⟨h'.os.trans h.os, h'.tape.trans h.tape, h'.output.trans h.output, Nat.le_trans h.size h'.size, fun k hk hlt => (h'.block k hk (Nat.lt_of_lt_of_le hlt h.size)).trans (h.block k hk hlt)⟩
/-- P holds in W and in every world that has W's blocks of ok. -/
def Ft (P : World → Prop) (W : World) (ok : Nat → Prop) : Prop := ∀ W' : World, Agr ok W W' → P W'
namespace Ft
variable {P Q : World → Prop} {W W1 : World} {ok ok' : Nat → Prop}
theorem now (h : Ft P W ok) : P W := h W ⟨rfl, rfl, rfl, Nat.le_refl _, fun _ _ _ => rfl⟩
theorem bound (h : Ft P W ok) (hb : ∀ k, ok k → k < W.heap.size → ok' k) : Ft P W ok' := fun W' hW => h W' ⟨hW.os, hW.tape, hW.output, hW.size, fun k hk hlt => hW.block k (hb k hk hlt) hlt⟩
theorem mono (h : Ft P W ok) (hok : ∀ k, ok k → ok' k) : Ft P W ok' := h.bound (fun k hk _ => hok k hk)
theorem step (h : Ft P W ok) (ha : Agr ok W W1) : Ft P W1 ok := fun W' hW => h W' (ha.trans hW)
theorem imp (h : Ft P W ok) (hi : ∀ W', P W' → Q W') : Ft Q W ok := fun W' hW => hi W' (h W' hW)
theorem and (h : Ft P W ok) (h' : Ft Q W ok) : Ft (fun W => P W ∧ Q W) W ok := fun W' hW => ⟨h W' hW, h' W' hW⟩
theorem below (h : Ft P W ok) (hb : Below W.heap.size W W1) : Ft P W1 ok := h.step (Agr.of_below hb)
theorem grown (h : Ft P W ok) {row : Option Nat} (hg : W.grownBy W1 row) (hok : ∀ k, ok k → some k ≠ row) : Ft P W1 ok := h.step (Agr.of_grown hg hok)
/-- Behind a call that turned nothing old: what it leads to was there, or was ok. -/
theorem old (h : Ft P W ok) (hb : Below W.heap.size W W1) : Ft P W1 (fun k => ok k ∧ k < W.heap.size) := (h.bound (fun k hk hlt => ⟨hk, hlt⟩)).below hb
end Ft
/-- A row that is read, and what it leads to lies in ok. -/
def FC {α : Type} (d : Kd α) (W : World) (ok : Nat → Prop) (A : Option Addr) (xs : List α) : Prop := Ft (fun W => d.C W A xs.length xs) W ok
/-- An element's cells. -/
def FK {α : Type} (d : Kd α) (W : World) (ok : Nat → Prop) (x : α) (cs : List Value) : Prop := Ft (fun W => d.K W x cs) W ok
section
variable {α : Type} {d : Kd α} {W W1 : World} {ok ok' : Nat → Prop} {A : Option Addr} {xs : List α} {x : α} {cs : List Value} {base e : Nat} {v v1 : Value}
theorem FC.of_old (h : d.C W A xs.length xs) : FC d W (fun k => k < W.heap.size) A xs := fun W' hW => Kd.C_below h ⟨hW.os, hW.tape, hW.output, hW.size, fun k hk => hW.block k hk hk⟩
theorem FK.of_old (h : d.K W x cs) : FK d W (fun k => k < W.heap.size) x cs := fun W' hW => d.K_below ⟨hW.os, hW.tape, hW.output, hW.size, fun k hk => hW.block k hk hk⟩ h
theorem FC.nil : FC d W ok none ([] : List α) := fun _ _ => Kd.C_nil d _
/-- Element i: its cells, and what they lead to. -/
theorem FC.at_ (h : FC d W ok A xs) (h1 : 0 < d.sz) (i : Nat) (hi : i < xs.length) :
    ∃ b o x cs, A = some ⟨b, o, none⟩ ∧ Hid (xs[i]? = some x) ∧ FK d W ok x cs ∧ ∀ j u, cs[j]? = some u → W.cell? ⟨b, o + i * d.sz + j, none⟩ = some u := by
  obtain ⟨b, o, x, cs, rfl, hx, hk, hc⟩ := C_at h.now h1 i hi
  have hblt : b < W.heap.size := by
    have h0 : 0 < cs.length := by rw [d.K_len hk]; exact h1
    exact World.block_lt_of_cell? _ _ (hc 0 _ (List.getElem?_eq_getElem h0))
  -- the block of the row itself is ok: in a world without it the row could not be read
  have hok : ok b := by
    apply Classical.byContradiction
    intro hn
    have hW : Agr ok W { W with heap := W.heap.set b (.cells #[] 0 (0, 0)) } := ⟨rfl, rfl, rfl, by simp, fun k hk hlt => by
      have hne : b ≠ k := fun e => hn (e ▸ hk)
      simp [Array.getElem?_set, hne]⟩
    obtain ⟨b', o', x', cs', e, _, hk', hc'⟩ := C_at (h _ hW) h1 i hi
    injection e with e
    injection e with e1 e2
    subst e1 e2
    have h0 : 0 < cs'.length := by rw [d.K_len hk']; exact h1
    have := hc' 0 _ (List.getElem?_eq_getElem h0)
    simp [World.cell?, hblt] at this
  refine ⟨b, o, x, cs, rfl, hx, fun W' hW => ?_, hc⟩
  obtain ⟨b', o', x', cs', e, hx', hk', hc'⟩ := C_at (h W' hW) h1 i hi
  injection e with e
  injection e with e1 e2
  subst e1 e2
  obtain rfl : x = x' := by
    have := hx.out
    rw [hx'.out] at this
    injection this with this
    exact this.symm
  have hcs : cs = cs' := by
    apply List.ext_getElem?
    intro j
    by_cases hj : j < d.sz
    · have l1 : j < cs.length := by rw [d.K_len hk]; exact hj
      have l2 : j < cs'.length := by rw [d.K_len hk']; exact hj
      have a1 := hc j _ (List.getElem?_eq_getElem l1)
      have a2 := hc' j _ (List.getElem?_eq_getElem l2)
      have hb := hW.block b hok hblt
      have a3 : W'.cell? ⟨b, o + i * d.sz + j, none⟩ = W.cell? ⟨b, o + i * d.sz + j, none⟩ := by simp [World.cell?, hb]
      rw [a3, a1] at a2
      rw [List.getElem?_eq_getElem l1, List.getElem?_eq_getElem l2]
      exact a2
    · rw [List.getElem?_eq_none (by rw [d.K_len hk]; omega), List.getElem?_eq_none (by rw [d.K_len hk']; omega)]
  rw [hcs]
  exact hk'
/-- A row of one's own: its elements' rows are none of its block, and lie in ok. -/
def Own (d : Kd α) (e : Nat) (W : World) (base : Nat) (ok : Nat → Prop) (v : Value) (xs : List α) : Prop :=
  ∃ inner, W.ownsRow base e d.sz v xs.length inner ∧ Reps (fun x c => FK d W (fun k => ok k ∧ some k ≠ v.ownBlock) x c) d.sz xs inner
theorem Own.nil : Own d e W base ok (.slice none 0 0) [] := ⟨[], own_nil _ _ _ _, Reps.none _ _⟩
theorem Own.made {cur : Array Value} {c : Nat} (hs : cur.size = c * d.sz) (hc : c ≤ maxLen) (hb : base ≤ W.heap.size) : Own d e (W.alloc (.cells cur e)) base ok (.slice (some ⟨W.heap.size, 0, none⟩) 0 c) ([] : List α) :=
  ⟨[], World.ownsRow_made W cur c hb hc hs, Reps.none _ _⟩
theorem Own.below (h : Own d e W base ok v xs) (hb : Below W.heap.size W W1) : Own d e W1 base ok v xs := by
  obtain ⟨inner, ho, hr⟩ := h
  exact ⟨inner, pw_own_below ho hb, hr.imp_ (fun _ _ hp => Ft.below hp hb)⟩
/-- Another block has been written. -/
theorem Own.grown (h : Own d e W base ok v xs) {row : Option Nat} (hg : W.grownBy W1 row) (hne : v.ownBlock = none ∨ v.ownBlock ≠ row) (hok : ∀ k, ok k → some k ≠ row) : Own d e W1 base ok v xs := by
  obtain ⟨inner, ho, hr⟩ := h
  exact ⟨inner, ho.kept hg hne, hr.imp_ (fun _ _ hp => Ft.grown hp hg (fun k hk => hok k hk.1))⟩
theorem Own.mono (h : Own d e W base ok v xs) (hok : ∀ k, ok k → ok' k) : Own d e W base ok' v xs := by
  obtain ⟨inner, ho, hr⟩ := h
  exact ⟨inner, ho, hr.imp_ (fun _ _ hp => Ft.mono hp (fun k hk => ⟨hok k hk.1, hk.2⟩))⟩
theorem Own.block (h : Own d e W base ok v xs) {k : Nat} (hk : v.ownBlock = some k) : base ≤ k ∧ k < W.heap.size := by
  obtain ⟨inner, ⟨h1, h2⟩, hr⟩ := h
  rcases h2 with ⟨rfl, h0⟩ | ⟨g, cap, cur, rfl, hg, hh, h3, h4, h5, h6⟩
  · cases hk
  · injection hk with hk
    subst hk
    exact ⟨hg, (Array.getElem?_eq_some_iff.1 hh).1⟩
/-- As a slice that is read. -/
theorem Own.reads (h : Own d e W base ok v xs) : ∃ A c, v = .slice A xs.length c ∧ xs.length ≤ c ∧ FC d W (fun k => ok k ∨ base ≤ k) A xs := by
  obtain ⟨inner, ho, hr⟩ := h
  have ho' := ho
  obtain ⟨h1, h2⟩ := ho
  rcases h2 with ⟨rfl, h0⟩ | ⟨g, cap, cur, rfl, hg, hh, h3, h4, h5, h6⟩
  · obtain rfl : xs = [] := List.eq_nil_of_length_eq_zero h0
    exact ⟨none, 0, rfl, Nat.le_refl _, FC.nil⟩
  · refine ⟨_, cap, rfl, h3, fun W' hW => ⟨rfl, ?_, fun hp => ⟨_, rfl, fun j p hj => ?_⟩⟩⟩
    · simp only [maxLen] at h4
      omega
    · have hjl : j < xs.length := (List.getElem?_eq_some_iff.1 hj).1
      have hk := hr.2 j p hj
      have hlt : g < W.heap.size := (Array.getElem?_eq_some_iff.1 hh).1
      have hg' : W'.heap[g]? = some (.cells cur e (0, 0)) := (hW.block g (.inr hg) hlt).trans hh
      have hkn := hk W' ⟨hW.os, hW.tape, hW.output, hW.size, fun k hk hlt => hW.block k (.inl hk.1) hlt⟩
      refine ⟨_, d.K_len hkn, hkn, fun i u hu => ?_⟩
      rw [add_plain, cell_of_row W' g _ cur e (0, 0) hg']
      have hi : i < d.sz := by
        have := (List.getElem?_eq_some_iff.1 hu).1
        rw [d.K_len hkn] at this
        exact this
      rw [List.getElem?_take, if_pos hi, List.getElem?_drop, ← h6, List.getElem?_take] at hu
      split at hu
      · simpa using hu
      · cases hu
end
section
variable {α : Type} {d : Kd α} {P : Program} {ops : Array Oper} {rest : List Oper} {o : Oper} {a : Act} {Q : Exit → Act → World → Prop} {W : World}
/-- append(v, x), x just built in a block of its own. -/
theorem Own.run_append (base : Nat) (t e ty : TypeId) (z : Value) (bytes : Nat)
    (ht : P.underlying t = some (.slice e)) (hinfo : (P.info? e).map (fun i => (i.zero, i.size, i.bytes)) = some (some z, d.sz, bytes)) (hz : z.cells.size = d.sz) (hs0 : 0 < d.sz) (hb0 : 0 < bytes)
    (v : Value) (xs : List α) (p : α) (cs : List Value) (ok : Nat → Prop) (hp : FK d W (fun k => ok k ∧ some k ≠ v.ownBlock) p cs)
    (HO : Own d e W base ok v xs) (hbase : base ≤ W.heap.size) (hl : (xs.length + 1) * bytes ≤ 140737488355328) :
    ∃ v1 w1, (Builtin.append_ #[t, t] ty #[v, .slice (some ⟨W.heap.size, 0, none⟩) 1 1]).run P (W.alloc (.cells cs.toArray e)) = .ok v1 w1 ∧ Own d e w1 base ok v1 (xs ++ [p]) ∧ W.grownBy w1 v.ownBlock ∧ (v1.ownBlock = v.ownBlock ∨ v1.ownBlock = some (W.heap.size + 1)) := by
  obtain ⟨inner, hown, hr⟩ := HO
  obtain ⟨i0, hi, hzz⟩ := Option.map_eq_some_iff.1 hinfo
  simp only [Prod.mk.injEq] at hzz
  obtain ⟨hz0, hz1, hz2⟩ := hzz
  have hlen : xs.length + 1 ≤ 140737488355328 := Nat.le_trans (Nat.le_mul_of_pos_right _ hb0) hl
  have hcl := d.K_len hp.now
  obtain ⟨v1, w1, hrun, hown1, hg, _, hat⟩ := run_append_own_at (P := P) (W.alloc (.cells cs.toArray e)) base t ty e i0 z d.sz bytes ht hi hz0 hz1 hz2 hz hs0 v xs.length inner (hown.alloc _) ⟨W.heap.size, 0, none⟩ 1 1 cs (by rw [hcl]; simp)
    (by simpa using World.news_of_block (cs := cs.toArray) (t := e) (fr := (0, 0)) (heap_alloc_new W (.cells cs.toArray e))) (d.K_one hp.now) (by simp only [maxLen]; omega) hl (by simp; omega)
  have hgW : W.grownBy w1 v.ownBlock := World.grownBy.trans (World.grownBy_alloc W _ _) hg
  refine ⟨v1, w1, hrun, ⟨inner ++ cs, by simpa using hown1, ?_⟩, hgW, ?_⟩
  · have hnew : ∀ k, k < W.heap.size → some k ≠ v.ownBlock → some k ≠ v1.ownBlock := by
      intro k hk hne
      rcases hat with hat | hat
      · rw [hat]; exact hne
      · rw [hat]
        intro e
        injection e with e
        simp at e
        omega
    have hmove : ∀ p c, FK d W (fun k => ok k ∧ some k ≠ v.ownBlock) p c → FK d w1 (fun k => ok k ∧ some k ≠ v1.ownBlock) p c := fun p c hp =>
      Ft.grown (Ft.bound hp (fun k hk hlt => (⟨⟨hk.1, hnew k hlt hk.2⟩, hk.2⟩ : (ok k ∧ some k ≠ v1.ownBlock) ∧ some k ≠ v.ownBlock))) hgW (fun k hk => hk.2) |>.mono (fun k hk => hk.1)
    exact Reps.snoc (hr.imp_ hmove) (hmove _ _ hp) hcl
  · rcases hat with hat | hat
    · exact .inl hat
    · exact .inr (by simpa using hat)
theorem Own.append (base : Nat) (hgd : o.guard = none) (s x : Operand) (t e : TypeId) (z : Value) (bytes : Nat)
    (ho : o.op = .call { callee := .builtin .append, args := #[s, x], argTypes := #[t, t] })
    (ht : P.underlying t = some (.slice e)) (hinfo : (P.info? e).map (fun i => (i.zero, i.size, i.bytes)) = some (some z, d.sz, bytes)) (hz : z.cells.size = d.sz) (hs0 : 0 < d.sz) (hb0 : 0 < bytes)
    (v : Value) (xs : List α) (p : α) (cs : List Value) (ok : Nat → Prop) (hs : a.eval s = v) (hx : a.eval x = .slice (some ⟨W.heap.size, 0, none⟩) 1 1) (hp : FK d W (fun k => ok k ∧ some k ≠ v.ownBlock) p cs)
    (HO : Own d e W base ok v xs) (hbase : base ≤ W.heap.size) (hl : (xs.length + 1) * bytes ≤ 140737488355328)
    (h : ∀ v1 w1, Own d e w1 base ok v1 (xs ++ [p]) → W.grownBy w1 v.ownBlock → (v1.ownBlock = v.ownBlock ∨ v1.ownBlock = some (W.heap.size + 1)) → wpList P ops Q rest (a.put o.dst v1) w1) :
    wpList P ops Q (o :: rest) a (W.alloc (.cells cs.toArray e)) := by
  obtain ⟨v1, w1, hr, h2, h3, h5⟩ := Own.run_append (P := P) base t e o.type z bytes ht hinfo hz hs0 hb0 v xs p cs ok hp HO hbase hl
  refine wpList_plain hgd fun K hK => ?_
  unfold Oper.wp execOp
  simp only [ho, resolve, invoke, builtin, Sem.run_bind, Sem.run_pure, Result.andThen_ok, List.map_toArray, List.map_cons, List.map_nil, hs, hx, hr]
  exact hK _ _ (h v1 w1 h2 h3 h5)
theorem Own.append_step (base : Nat) {E : Prop} {Kc : Act → World → Prop} (hgd : o.guard = none) (s x : Operand) (t e : TypeId) (z : Value) (bytes : Nat)
    (ho : o.op = .call { callee := .builtin .append, args := #[s, x], argTypes := #[t, t] })
    (ht : P.underlying t = some (.slice e)) (hinfo : (P.info? e).map (fun i => (i.zero, i.size, i.bytes)) = some (some z, d.sz, bytes)) (hz : z.cells.size = d.sz) (hs0 : 0 < d.sz) (hb0 : 0 < bytes)
    (v : Value) (xs : List α) (p : α) (cs : List Value) (ok : Nat → Prop) (hs : a.eval s = v) (hx : a.eval x = .slice (some ⟨W.heap.size, 0, none⟩) 1 1) (hp : FK d W (fun k => ok k ∧ some k ≠ v.ownBlock) p cs)
    (HO : Own d e W base ok v xs) (hbase : base ≤ W.heap.size) (hl : (xs.length + 1) * bytes ≤ 140737488355328)
    (h : ∀ v1 w1, Own d e w1 base ok v1 (xs ++ [p]) → W.grownBy w1 v.ownBlock → (v1.ownBlock = v.ownBlock ∨ v1.ownBlock = some (W.heap.size + 1)) → Kc (a.put o.dst v1) w1) :
    if Region.wanted o (yielded ops a.tmps) = true then Oper.wp P o a (W.alloc (.cells cs.toArray e)) Kc Q else E := by
  have hw : Region.wanted o (yielded ops a.tmps) = true := by simp [Region.wanted, hgd]
  rw [if_pos hw]
  obtain ⟨v1, w1, hr, h2, h3, h5⟩ := Own.run_append (P := P) base t e o.type z bytes ht hinfo hz hs0 hb0 v xs p cs ok hp HO hbase hl
  unfold Oper.wp execOp
  simp only [ho, resolve, invoke, builtin, Sem.run_bind, Sem.run_pure, Result.andThen_ok, List.map_toArray, List.map_cons, List.map_nil, hs, hx, hr]
  exact h v1 w1 h2 h3 h5
end
/-- An instruction's nine cells, and what they lead to. -/
theorem ins_openF {tU tE : Nat} {w : World} {ok : Nat → Prop} {x : Ins} {cs : List Value} (h : FK (kIns tU tE) w ok x cs) :
    ∃ AL cL AT cT AE cE, cs = [.int .i64 x.op, .int .u8 x.ty, .int .u32 x.a, .int .u32 x.b, .int .u64 x.bits, .slice AL x.list.length cL, .slice AT x.th.length cT, .slice AE x.el.length cE, .bool x.has] ∧
      (Lit.int .i64 x.op).wf = true ∧ (Lit.int .u8 x.ty).wf = true ∧ (Lit.int .u32 x.a).wf = true ∧ (Lit.int .u32 x.b).wf = true ∧ (Lit.int .u64 x.bits).wf = true ∧
      FC (rng .u32) w ok AL x.list ∧ FC (kIns tU tE) w ok AT x.th ∧ FC (kIns tU tE) w ok AE x.el ∧ x.list.length ≤ cL ∧ x.th.length ≤ cT ∧ x.el.length ≤ cE := by
  obtain ⟨AL, cL, AT, cT, AE, cE, rfl, h1, h2, h3, h4, h5, _, _, _, l1, l2, l3⟩ := ins_openC h.now
  refine ⟨AL, cL, AT, cT, AE, cE, rfl, h1, h2, h3, h4, h5, fun W' hW => ?_, fun W' hW => ?_, fun W' hW => ?_, l1, l2, l3⟩
  all_goals
    obtain ⟨AL', cL', AT', cT', AE', cE', e, _, _, _, _, _, a, b, c, _⟩ := ins_openC (h W' hW)
    simp only [List.cons.injEq, Value.slice.injEq, and_true, true_and] at e
    obtain ⟨⟨rfl, _⟩, ⟨rfl, _⟩, rfl, _⟩ := e
    assumption
/-- An instruction is read where its parts are. -/
theorem ins_mkF {tU tE : Nat} {w : World} {ok : Nat → Prop} {x : Ins} {AL AT AE : Option Addr} {cL cT cE : Nat} (h1 : (Lit.int .i64 x.op).wf = true) (h2 : (Lit.int .u8 x.ty).wf = true) (h3 : (Lit.int .u32 x.a).wf = true) (h4 : (Lit.int .u32 x.b).wf = true) (h5 : (Lit.int .u64 x.bits).wf = true)
    (hL : FC (rng .u32) w ok AL x.list) (hT : FC (kIns tU tE) w ok AT x.th) (hE : FC (kIns tU tE) w ok AE x.el) (l1 : x.list.length ≤ cL) (l2 : x.th.length ≤ cT) (l3 : x.el.length ≤ cE) :
    FK (kIns tU tE) w ok x [.int .i64 x.op, .int .u8 x.ty, .int .u32 x.a, .int .u32 x.b, .int .u64 x.bits, .slice AL x.list.length cL, .slice AT x.th.length cT, .slice AE x.el.length cE, .bool x.has] := fun W' hW => by
  obtain ⟨n, hn⟩ := Kd.fix_C_back (mono_insF tU tE) (hT W' hW)
  obtain ⟨m, hm⟩ := Kd.fix_C_back (mono_insF tU tE) (hE W' hW)
  have hn' := Kd.upto_C_le (mono_insF tU tE) (upto_ins_sz tU tE) (Nat.le_max_left n m) hn
  have hm' := Kd.upto_C_le (mono_insF tU tE) (upto_ins_sz tU tE) (Nat.le_max_right n m) hm
  have hL' := hL W' hW
  obtain ⟨op, ty, a, b, bits, list, th, el, has⟩ := x
  exact ⟨max n m + 1, _, _, rfl, ⟨rfl, h1⟩, _, _, rfl, ⟨rfl, h2⟩, _, _, rfl, ⟨rfl, h3⟩, _, _, rfl, ⟨rfl, h4⟩, _, _, rfl, ⟨rfl, h5⟩, _, _, rfl, ⟨AL, cL, rfl, l1, hL'⟩, _, _, rfl, ⟨AT, cT, rfl, l2, hn'⟩, _, _, rfl, ⟨AE, cE, rfl, l3, hm'⟩, _, _, rfl, rfl, rfl⟩
end Go.Proofs.YtfndlpfceokloaaB
