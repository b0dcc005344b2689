/- Lemmas towards this claim's statement: what the functions named here come to, each under the conditions that it states itself. -/
import Derived.Test.YtfndlpfceokloaaRows
import Derived.Test.YtfndlpfceokloaaBase
import Derived.ProofKit
import Derived.OpenShut
import Derived.ShutString
import Derived.ChangeOld
import Derived.SizedLaws
import Derived.JoinedCond
import Derived.Deep.Slices
namespace Go.Proofs.YtfndlpfceokloaaB
open Go.RowKit Go.Proofs.YtfndlpfceokloaaW.PrintWords Go.Proofs.Ytfndlpfceokloaa

/-- Whole numbers of a kind, with their bounds. -/
def rng (k : IntKind) : Kd Int where
  sz := 1
  E := []
  K := fun _ x cs => cs = [.int k x] ∧ (Lit.int k x).wf = true
  M := fun _ _ _ x cs => cs = [.int k x] ∧ (Lit.int k x).wf = true
  K_len := fun h => by rw [h.1]; rfl
  K_one := fun h u hu => by
    rw [h.1] at hu
    rw [List.mem_singleton.1 hu]
    rfl
  K_below := fun _ h => h
  K_of_M := fun h => h
  M_mono := fun _ h => h
  M_bound := fun h => h
  M_move := fun _ h => h
  M_lower := fun _ h => h
/-- No cell. -/
def knil : Kd Unit where
  sz := 0
  E := []
  K := fun _ _ cs => cs = []
  M := fun _ _ _ _ cs => cs = []
  K_len := fun h => by rw [h]; rfl
  K_one := fun h u hu => by rw [h] at hu; cases hu
  K_below := fun _ h => h
  K_of_M := fun h => h
  M_mono := fun _ h => h
  M_bound := fun h => h
  M_move := fun _ h => h
  M_lower := fun _ h => h

/-- What a type's cells read as, to fuel n; bk: how much it weighs. -/
structure OpensAt {α : Type} (P : Program) (t : TypeId) (d : Kd α) (bk : α → Nat) (n : Nat) : Prop where
  size : P.cellsOf t = d.sz
  opens : ∀ {H : Type} (enc : TypeId × Value → H) (w : World) (base : Nat) (spare : Nat → Bool) (held : Bool) (fuel : Nat) (cs : List Value) (x : DataW H × List MemPlace), fuel ≤ n →
    DataW.trod enc P w base spare held fuel t cs = some x → ∃ a, d.K w a cs ∧ bk a ≤ Rows.uptoBulk x.1
section
variable {P : Program} {t e : TypeId}
theorem opens_int (k : IntKind) (ht : P.underlying t = some (.int k)) (hs : P.cellsOf t = 1) (n : Nat) : OpensAt P t (rng k) (fun _ => 1) n :=
  ⟨hs, fun enc w base spare held fuel cs x _ h => by
    obtain ⟨a, rfl, rfl, hw⟩ := DataW.trod_int ht h
    exact ⟨a, ⟨rfl, hw⟩, by simp [Rows.uptoBulk]⟩⟩
theorem opens_bool (ht : P.underlying t = some .bool) (hs : P.cellsOf t = 1) (n : Nat) : OpensAt P t Kd.bool (fun _ => 1) n :=
  ⟨hs, fun enc w base spare held fuel cs x _ h => by
    obtain ⟨a, rfl, rfl⟩ := DataW.trod_bool ht h
    exact ⟨a, rfl, by simp [Rows.uptoBulk]⟩⟩
theorem opens_string (ht : P.underlying t = some .string) (hs : P.cellsOf t = 1) (n : Nat) : OpensAt P t Kd.string (fun s => s.size + 1) n :=
  ⟨hs, fun enc w base spare held fuel cs x _ h => by
    obtain ⟨a, rfl, rfl, _⟩ := DataW.trod_string ht h
    exact ⟨a, rfl, by simp [Rows.uptoBulk, data_length]⟩⟩
theorem bulk_get {H : Type} : ∀ (l : List (DataW H)) (f : Nat → Nat), (∀ i d, l[i]? = some d → f i ≤ Rows.uptoBulk d) → ((List.range l.length).map f).sum ≤ Rows.uptoBulkAll l
  | [], _, _ => by simp
  | d :: r, f, h => by
    have h0 := h 0 d rfl
    have ih := bulk_get r (fun i => f (i + 1)) (fun i d hd => h (i + 1) d (by simpa using hd))
    rw [List.length_cons, List.range_succ_eq_map, List.map_cons, List.sum_cons, List.map_map]
    simp only [Rows.uptoBulkAll]
    have : ((List.range r.length).map (f ∘ Nat.succ)).sum = ((List.range r.length).map (fun i => f (i + 1))).sum := rfl
    omega
theorem opens_slice {α : Type} [Inhabited α] {d : Kd α} {bk : α → Nat} {n : Nat} (ht : P.underlying t = some (.slice e)) (hs : P.cellsOf t = 1) (hd : OpensAt P e d bk n) : OpensAt P t (Kd.slice e d) (fun xs => (xs.map bk).sum + 1) (n + 1) :=
  ⟨hs, fun {H} enc w base spare held fuel cs x hle h => by
    rcases DataW.trod_slice ht h with ⟨rfl, rfl⟩ | ⟨a, len, cap, elems, rest, m, rfl, rfl, rfl, hb, hl, hm, hlen, hel, hsp, hns⟩
    · exact ⟨[], ⟨none, 0, rfl, Nat.le_refl _, rfl, by simp, fun h => absurd h (Nat.lt_irrefl 0)⟩, by simp [Rows.uptoBulk]⟩
    · have hall : ∀ i, i < len → ∃ y : α, ∃ cs', cs'.length = d.sz ∧ d.K w y cs' ∧ (∀ j u, cs'[j]? = some u → w.cell? (a.add (i * d.sz + j)) = some u) ∧ ∃ z, elems[i]? = some z ∧ bk y ≤ Rows.uptoBulk z.1 := by
        intro i hi
        have hi' : i < elems.length := by omega
        have he := hel i hi
        rw [List.getElem?_eq_getElem hi'] at he
        obtain ⟨cs', h1, h2⟩ := Option.bind_eq_some_iff.1 he
        obtain ⟨_, hl1, hc⟩ := World.cells?_some h1
        obtain ⟨y, hy, hbk⟩ := hd.opens enc w base spare held m cs' _ (by omega) h2
        refine ⟨y, cs', by rw [hl1, hd.size], hy, fun j u hu => ?_, _, List.getElem?_eq_getElem hi', hbk⟩
        have hj : j < cs'.length := by
          rcases Nat.lt_or_ge j cs'.length with hj | hj
          · exact hj
          · rw [List.getElem?_eq_none hj] at hu; cases hu
        have := hc j (by omega)
        rw [Go.Deep.add_add, hd.size] at this
        rw [this, hu]
      obtain ⟨f, hf⟩ := Go.Deep.choose_lt hall
      refine ⟨(List.range len).map f, ⟨some a, cap, by simp, by simpa using hl, ?_⟩, ?_⟩
      · refine ⟨rfl, by simp only [List.length_map, List.length_range, maxLen] at hm ⊢; omega, fun _ => ⟨a, rfl, fun j p hp => ?_⟩⟩
        have hj : j < len := by
          rcases Nat.lt_or_ge j len with hj | hj
          · exact hj
          · rw [List.getElem?_eq_none (by simpa using hj)] at hp; cases hp
        have hpe : p = f j := by simp [hj] at hp; exact hp.symm
        subst hpe
        obtain ⟨cs', h1, h2, h3, _⟩ := hf j hj
        exact ⟨cs', h1, h2, h3⟩
      · have hb2 := bulk_get (elems.map (·.1)) (fun i => bk (f i)) (fun i z hz => by
          rw [List.getElem?_map] at hz
          obtain ⟨z', hz', rfl⟩ := Option.map_eq_some_iff.1 hz
          have hi : i < len := by
            rcases Nat.lt_or_ge i elems.length with hj | hj
            · omega
            · rw [List.getElem?_eq_none hj] at hz'; cases hz'
          obtain ⟨_, _, _, _, z2, hz2, hbk⟩ := hf i hi
          rw [hz'] at hz2
          injection hz2 with hz2
          subst hz2
          exact hbk)
        rw [List.length_map, hlen] at hb2
        simp only [Rows.uptoBulk, List.map_map]
        have : ((List.range len).map (bk ∘ f)).sum = ((List.range len).map (fun i => bk (f i))).sum := rfl
        omega⟩
/-- A struct's fields, from a cell on. -/
structure OpensFs {α : Type} (P : Program) (fs : List Field) (off : Nat) (d : Kd α) (bk : α → Nat) (n : Nat) : Prop where
  opens : ∀ {H : Type} (enc : TypeId × Value → H) (w : World) (base : Nat) (spare : Nat → Bool) (held : Bool) (fuel : Nat) (cs : List Value) (xs : List (DataW H × List MemPlace)), fuel ≤ n → cs.length = off + d.sz → xs.length = fs.length →
    (∀ (i : Nat) (f : Field), fs[i]? = some f → DataW.trod enc P w base spare held fuel f.type ((cs.drop f.offset).take (P.cellsOf f.type)) = xs[i]?) → ∃ a, d.K w a (cs.drop off) ∧ bk a ≤ Rows.uptoBulkAll (xs.map (·.1))
theorem opens_nil (off n : Nat) : OpensFs P [] off knil (fun _ => 0) n :=
  ⟨fun enc w base spare held fuel cs xs _ hl hx _ => by
    obtain rfl : xs = [] := List.eq_nil_of_length_eq_zero hx
    exact ⟨(), List.eq_nil_of_length_eq_zero (by rw [List.length_drop, hl]; show off + 0 - off = 0; omega), by simp⟩⟩
theorem opens_cons {α β : Type} {f : Field} {fs : List Field} {off : Nat} {d : Kd α} {d' : Kd β} {bk : α → Nat} {bk' : β → Nat} {n : Nat} (ho : f.offset = off) (h : OpensAt P f.type d bk n) (h' : OpensFs P fs (off + d.sz) d' bk' n) :
    OpensFs P (f :: fs) off (Kd.pair d d') (fun x => bk x.1 + bk' x.2) n :=
  ⟨fun enc w base spare held fuel cs xs hn hl hx hf => by
    match xs, hx with
    | x :: xs, hx =>
      have h0 := hf 0 f rfl
      obtain ⟨a, ha, hba⟩ := h.opens enc w base spare held fuel _ _ hn (h0.trans rfl)
      have hl' : cs.length = off + (d.sz + d'.sz) := hl
      obtain ⟨b, hb, hbb⟩ := h'.opens enc w base spare held fuel cs xs hn (by omega) (by simpa using hx) (fun i g hg => by simpa using hf (i + 1) g (by simpa using hg))
      refine ⟨(a, b), ⟨_, _, ?_, ha, hb⟩, ?_⟩
      · rw [ho, h.size, ← List.drop_drop, List.take_append_drop]
      · simp only [List.map_cons, Rows.uptoBulkAll]
        omega⟩
theorem opens_struct {α : Type} {fs : Array Field} {d : Kd α} {bk : α → Nat} {n : Nat} (ht : P.underlying t = some (.struct fs)) (hs : P.cellsOf t = d.sz) (h : OpensFs P fs.toList 0 d bk n) : OpensAt P t d (fun x => bk x + 1) (n + 1) :=
  ⟨hs, fun enc w base spare held fuel cs x hle hx => by
    obtain ⟨xs, m, rfl, rfl, hl, hxl, hf⟩ := DataW.trod_struct ht hx
    obtain ⟨a, ha, hb⟩ := h.opens enc w base spare held m cs xs (by omega) (by rw [hl, hs]; omega) (by simpa using hxl) (fun i f hi => hf i f (by simpa using hi))
    exact ⟨a, by simpa using ha, by simp only [Rows.uptoBulk]; omega⟩⟩
theorem opens_iso {α β : Type} {d : Kd α} {bk : α → Nat} {n : Nat} (h : OpensAt P t d bk n) (f : β → α) (g : α → β) (hfg : ∀ a, f (g a) = a) : OpensAt P t (Kd.iso d f) (fun b => bk (f b)) n :=
  ⟨h.size, fun enc w base spare held fuel cs x hle hx => by
    obtain ⟨a, ha, hb⟩ := h.opens enc w base spare held fuel cs x hle hx
    exact ⟨g a, by show d.K w (f (g a)) cs; rw [hfg]; exact ha, by rw [hfg]; exact hb⟩⟩
theorem opens_mono {α : Type} {d : Kd α} {bk : α → Nat} {n m : Nat} (h : OpensAt P t d bk n) (hm : m ≤ n) : OpensAt P t d bk m :=
  ⟨h.size, fun enc w base spare held fuel cs x hle hx => h.opens enc w base spare held fuel cs x (by omega) hx⟩
theorem opens_bk {α : Type} {d : Kd α} {bk bk' : α → Nat} {n : Nat} (h : OpensAt P t d bk n) (hb : ∀ a, bk' a ≤ bk a) : OpensAt P t d bk' n :=
  ⟨h.size, fun enc w base spare held fuel cs x hle hx => by
    obtain ⟨a, ha, hb'⟩ := h.opens enc w base spare held fuel cs x hle hx
    exact ⟨a, ha, by have := hb a; omega⟩⟩
end
/-- An element of a row that is read, its address written out. -/
theorem C_at {α : Type} {d : Kd α} {w : World} {A : Option Addr} {xs : List α} (h : d.C w A xs.length xs) (h1 : 0 < d.sz) (i : Nat) (hi : i < xs.length) :
    ∃ b o x cs, A = some ⟨b, o, none⟩ ∧ Hid (xs[i]? = some x) ∧ d.K w x cs ∧ ∀ j u, cs[j]? = some u → w.cell? ⟨b, o + i * d.sz + j, none⟩ = some u := by
  obtain ⟨ad, e, hc⟩ := h.2.2 (by omega)
  obtain ⟨cs, hl, hk, hcell⟩ := hc i _ (List.getElem?_eq_getElem hi)
  obtain ⟨cs0, hl0, _, hcell0⟩ := hc 0 _ (List.getElem?_eq_getElem (by omega))
  have h0 := hcell0 0 _ (List.getElem?_eq_getElem (by omega))
  obtain ⟨b, o, s⟩ := ad
  have hs : s = none := by
    cases s with
    | none => rfl
    | some s =>
      exfalso
      rw [show 0 * d.sz + 0 = 0 from by omega, Addr.add_zero'] at h0
      unfold World.cell? at h0
      split at h0 <;> simp_all
  subst hs
  refine ⟨b, o, xs[i], cs, e, List.getElem?_eq_getElem hi, hk, fun j u hu => ?_⟩
  have := hcell j u hu
  rwa [show (⟨b, o, none⟩ : Addr).add (i * d.sz + j) = ⟨b, o + i * d.sz + j, none⟩ from by unfold Addr.add; split <;> simp_all [Nat.add_assoc]] at this
/-- A row of whole numbers that is read. -/
theorem C_rdI {w : World} {k : IntKind} {A : Option Addr} {xs : List Int} (h : (rng k).C w A xs.length xs) (hl : xs.length ≤ 140737488351232) : RdI w k A xs := by
  refine ⟨hl, fun hp => ?_⟩
  obtain ⟨b, o, x, cs, rfl, hx, ⟨rfl, _⟩, hc⟩ := C_at h Nat.one_pos 0 hp
  refine ⟨b, o, rfl, fun j y hj => ?_⟩
  have hj' : j < xs.length := (List.getElem?_eq_some_iff.1 hj).1
  obtain ⟨b', o', y', cs', e, hy, ⟨rfl, _⟩, hc'⟩ := C_at h Nat.one_pos j hj'
  injection e with e
  injection e with e1 e2
  subst e1 e2
  rw [hy.out] at hj
  injection hj with hj
  subst hj
  have := hc' 0 _ rfl
  simpa [rng] using this
theorem C_all {w : World} {k : IntKind} {A : Option Addr} {xs : List Int} (h : (rng k).C w A xs.length xs) : ∀ x ∈ xs, (Lit.int k x).wf = true := by
  intro x hx
  obtain ⟨i, hi, rfl⟩ := List.getElem_of_mem hx
  obtain ⟨b, o, y, cs, _, hy, ⟨_, hw⟩, _⟩ := C_at h Nat.one_pos i hi
  have := hy.out
  rw [List.getElem?_eq_getElem hi] at this
  injection this with this
  rw [this]; exact hw
theorem agg_of {cs : Array Value} {l : List Value} (h : (Value.agg cs).cells.toList = l) : cs = l.toArray := by
  simp only [Value.cells] at h
  rw [← h]
theorem wf_bounds {k : IntKind} {n : Int} (h : (Lit.int k n).wf = true) : k.min ≤ n ∧ n ≤ k.max := by simpa [Lit.wf] using h
end Go.Proofs.YtfndlpfceokloaaB
