/- Lemmas towards this claim's statement: what the functions named here come to, each under the conditions that it states itself. -/
import Derived.Test.YtfndlpfceokloaaDoorOwn
import Derived.Test.YtfndlpfceokloaaDoorShelf
namespace Go.Proofs.YtfndlpfceokloaaDoorB
open Go.RowKit
/-- What comes of a row's names, from an opcode on: those that are none are passed over. -/
def opEmit (first : ByteArray) : List ByteArray → Nat → List (Int × ByteArray)
  | [], _ => []
  | n :: r, op => if n = ⟨#[45]⟩ then opEmit first r (op + 1) else ((op : Int), first ++ n) :: opEmit first r (op + 1)
def opAllR : List (ByteArray × ByteArray × List ByteArray) → Nat → List (Int × ByteArray)
  | [], _ => []
  | x :: r, op => opEmit x.1 x.2.2 op ++ opAllR r (op + x.2.2.length)
def opStopL : List ByteArray → Nat → List (Int × ByteArray)
  | [], _ => []
  | n :: r, op => ((op : Int), n) :: opStopL r (op + 1)
theorem opEmit_append (first : ByteArray) : ∀ (l r : List ByteArray) (op : Nat), opEmit first (l ++ r) op = opEmit first l op ++ opEmit first r (op + l.length)
  | [], r, op => by simp [opEmit]
  | n :: l, r, op => by
    have ih := opEmit_append first l r (op + 1)
    rw [show op + 1 + l.length = op + (n :: l).length from by simp; omega] at ih
    rw [List.cons_append, opEmit, opEmit]
    split
    · exact ih
    · rw [ih]; rfl
theorem opStopL_append : ∀ (l r : List ByteArray) (op : Nat), opStopL (l ++ r) op = opStopL l op ++ opStopL r (op + l.length)
  | [], r, op => by simp [opStopL]
  | n :: l, r, op => by
    have ih := opStopL_append l r (op + 1)
    rw [show op + 1 + l.length = op + (n :: l).length from by simp; omega] at ih
    rw [List.cons_append, opStopL, opStopL, ih]; rfl
def opLen : List (ByteArray × ByteArray × List ByteArray) → Nat
  | [] => 0
  | x :: r => x.2.2.length + opLen r
theorem opLen_append : ∀ l r, opLen (l ++ r) = opLen l + opLen r
  | [], r => by simp [opLen]
  | x :: l, r => by rw [List.cons_append, opLen, opLen, opLen_append l r]; omega
theorem opAllR_append : ∀ (l r : List (ByteArray × ByteArray × List ByteArray)) (op : Nat), opAllR (l ++ r) op = opAllR l op ++ opAllR r (op + opLen l)
  | [], r, op => by simp [opAllR, opLen]
  | x :: l, r, op => by
    have ih := opAllR_append l r (op + x.2.2.length)
    rw [List.cons_append, opAllR, opAllR, ih, List.append_assoc, opLen, Nat.add_assoc]
theorem take_snoc_get {α : Type} {l : List α} {k : Nat} {x : α} (h : l[k]? = some x) : l.take (k + 1) = l.take k ++ [x] := by rw [List.take_add_one, h]; rfl
-- Names with a blank between them.
def bts (l : List UInt8) : ByteArray := ⟨l.toArray⟩
theorem bts_data (l : List UInt8) : (bts l).data.toList = l := rfl
theorem bts_ext {a b : ByteArray} (h : a.data.toList = b.data.toList) : a = b := by
  obtain ⟨⟨a⟩⟩ := a
  obtain ⟨⟨b⟩⟩ := b
  simp at h
  subst h
  rfl
def joinW : List (List UInt8) → List UInt8
  | [] => []
  | [x] => x
  | x :: y :: r => x ++ 32 :: joinW (y :: r)
theorem index_blank : ∀ (n rest : List UInt8), 32 ∉ n → Lib.index (n ++ 32 :: rest) [32] = n.length
  | [], rest, _ => by simp [Lib.index]
  | b :: n, rest, h => by
    have hb : ¬ (32 : UInt8) = b := fun e => h (by simp [e])
    have hn : 32 ∉ n := fun e => h (by simp [e])
    have ih := index_blank n rest hn
    rw [List.cons_append]
    unfold Lib.index
    rw [ih]
    have hp : ([32] : List UInt8).isPrefixOf (b :: (n ++ 32 :: rest)) = false := by simp [List.isPrefixOf, hb]
    have h1 : ((n.length : Int) == -1) = false := beq_eq_false_iff_ne.2 (by omega)
    simp [hp, h1]
theorem index_noblank : ∀ (n : List UInt8), 32 ∉ n → Lib.index n [32] = -1
  | [], _ => by simp [Lib.index]
  | b :: n, h => by
    have hb : ¬ (32 : UInt8) = b := fun e => h (by simp [e])
    have hn : 32 ∉ n := fun e => h (by simp [e])
    have ih := index_noblank n hn
    unfold Lib.index
    rw [ih]
    have hp : ([32] : List UInt8).isPrefixOf (b :: n) = false := by simp [List.isPrefixOf, hb]
    simp [hp]
theorem split_words : ∀ (L : List (List UInt8)), L ≠ [] → (∀ n ∈ L, 32 ∉ n) →
    Lib.countB (bts (joinW L)) (bts [32]) = L.length - 1 ∧ Lib.splitB (bts [32]) 0 (L.length - 1) (bts (joinW L)) = L.map bts
  | [], h, _ => absurd rfl h
  | [x], _, h => by
    have hx : Lib.indexB (bts (joinW [x])) (bts [32]) = -1 := index_noblank x (h x (by simp))
    exact ⟨Lib.countB_miss _ _ hx, rfl⟩
  | x :: y :: r, _, h => by
    obtain ⟨i1, i2⟩ := split_words (y :: r) (by simp) (fun n hn => h n (by simp at hn ⊢; right; exact hn))
    have hx : Lib.indexB (bts (joinW (x :: y :: r))) (bts [32]) = ((x.length : Nat) : Int) := index_blank x (joinW (y :: r)) (h x (by simp))
    have he : (bts (joinW (x :: y :: r))).extract (x.length + (bts [32]).size) (bts (joinW (x :: y :: r))).size = bts (joinW (y :: r)) := by
      apply bts_ext
      rw [Lib.extract_to_end, bts_data, bts_data, joinW, show x.length + (bts [32]).size = x.length + 1 from rfl]
      rw [List.drop_append, List.drop_eq_nil_of_le (by omega), List.nil_append, show x.length + 1 - x.length = 1 from by omega]
      rfl
    have h0 : (bts (joinW (x :: y :: r))).extract 0 (x.length + 0) = bts x := by
      apply bts_ext
      rw [Lib.extract_data, bts_data, bts_data, joinW]
      simp
    have hc := Lib.countB_hit _ _ x.length (by decide) hx
    rw [he, i1] at hc
    refine ⟨by rw [hc]; simp; omega, ?_⟩
    rw [show (x :: y :: r).length - 1 = ((y :: r).length - 1) + 1 from by simp, Lib.splitB_hit _ _ _ _ _ hx, he, h0, i2]
    rfl
end Go.Proofs.YtfndlpfceokloaaDoorB
