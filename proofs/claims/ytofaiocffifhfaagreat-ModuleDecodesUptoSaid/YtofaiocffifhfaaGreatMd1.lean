/- Lemmas towards this claim's statement, each under the conditions that it states itself. -/
import Derived.Lib.Hide
import Derived.Below
import Derived.Deep.Draws
import Derived.Deep.AppendLies
import Derived.Maps.AppendAt
import Derived.OwnWalk
import Derived.Laws.BytesArg
import Derived.Laws.MakeOwn
import Derived.Laws.OwnMore
import Derived.Deep.OwnRows
import Derived.Tactics
import Derived.Lib.ConvBytes
import Derived.Laws.Slices
import Derived.WalkKit
import Derived.KernelRfl
import Derived.RowKit3
import Derived.Deep.LoopGhost
import Derived.Deep.QuietTactic
import Derived.BigQuiet
import Derived.WideLaws
import Derived.Deep.DeepCutAuto
import Derived.Deep.CutBlock
import Derived.Deep.RegionHeld3
import Derived.Laws.Rows
import Derived.Lib.AppendStr
import Derived.ArgAppend
import Derived.Laws.IdiomCopy
import Derived.RowKit
import Derived.WalkSpells
import Derived.WalkLawsBesides
import Derived.BigRegion
import Derived.Deep.RegionWith
import Derived.StillTailTactics
import Derived.Laws.CopyOwn
import Derived.Test.YtofaiocffifhfaaGreatRows
import Derived.ProofKit
import Derived.OpenShut
import Derived.ShutString
import Derived.ChangeOld
import Derived.SizedLaws
import Derived.JoinedCond
import Derived.Deep.Slices
import Derived.Shelf.Abstract
set_option maxRecDepth 100000
set_option maxHeartbeats 8000000
set_option linter.unusedVariables false
set_option linter.unusedSimpArgs false
section
set_option linter.unusedVariables false
set_option linter.unusedSimpArgs false
namespace Go
theorem aa {p : Prop} (h : p) : RowKit.Hid p := h
theorem ae {α : Type _} (l : List α) (i : Nat) (a : α) : l.toArray.setIfInBounds i a = (l.set i a).toArray := List.setIfInBounds_toArray l i a
theorem af {α : Type _} {xs : List α} {i : Nat} : xs.toArray[i]? = xs[i]? := List.getElem?_toArray
theorem ag {α : Type _} {a : α} {i : Nat} {l : List α} : (a :: l)[i + 1]? = l[i]? := List.getElem?_cons_succ
theorem ah {α : Type _} {a : α} {l : List α} : (a :: l)[0]? = some a := List.getElem?_cons_zero
theorem aj {α : Type _} {x : α} {xs : List α} {a : α} : (x :: xs).set 0 a = a :: xs := List.set_cons_zero
theorem ak {α : Type _} {x : α} {xs : List α} {i : Nat} {a : α} : (x :: xs).set (i + 1) a = x :: xs.set i a := List.set_cons_succ
theorem au (w : World) (o : Obj) : (w.alloc o).heap.size = w.heap.size + 1 := World.size_alloc w o
theorem av (n : Nat) : n ≤ n := Nat.le_refl n
theorem ax {a : Int} (h : 0 ≤ a) : ∃ n : Nat, a = n := Int.eq_ofNat_of_zero_le h
theorem ay (w : World) (o : Obj) (row : Option Nat) : w.grownBy (w.alloc o) row := World.grownBy_alloc w o row
end Go
namespace Go.Proofs.YtofaiocffifhfaaGreatW.PrintWords
open Go.RowKit
structure JD (p:Prop):Prop where mk::(out:p)
structure kZ (w w' :World):Prop where mk::(out:∃n,w' =w.drewN n)
theorem kZ.refl (w:World):kZ w w:=⟨⟨0,rfl⟩⟩
theorem kZ.step {w w' :World} (h:kZ w w') (n:Nat):kZ w (w'.drewN n):=by
 obtain ⟨m,rfl⟩:=h;exact ⟨⟨m+n,World.drewN_drewN ..⟩⟩
theorem kZ.grown {w w' :World} (h:kZ w w'):Grown w w' :=by
 obtain ⟨n,rfl⟩:=h
 induction n with
 |zero=>exact Grown.refl _
 |succ n ih=>rw [←World.drew_drewN];exact Grown.drew ih
theorem kZ.below {w w' :World} (h:kZ w w'):Below w.heap.size w w' :=by
 obtain ⟨n,rfl⟩:=h
 induction n with
 |zero=>exact Below.refl _ _
 |succ n ih=>rw [←World.drew_drewN];exact ih.drew
/-! ### 1. Values and lists -/
def rd (xs:List Int) (i:Int):Int:=xs.getD i.toNat 0
def bt (s:ByteArray) (i:Int):Int:=if h:i.toNat< s.size then ((s[i.toNat]'h).toNat:Int)else 0
def nums (k:IntKind) (xs:List Int):List Value:=xs.map fun x=> .int k x
/-! ### 2. The world -/
theorem rD {w w1:World} (h:Below w.heap.size w w1) (row:Option Nat):w.grownBy w1 row:=⟨h.os,h.tape,h.output,h.size,fun i hi _=>h.block i hi⟩
theorem aB {w w1:World} (h:Below w.heap.size w w1) {a:Addr} {v:Value} (hc:w.cell? a=some v):w1.cell? a=some v:=(h.cell (World.block_lt_of_cell? w a hc)).trans hc
theorem add_plain (g j:Nat):(⟨g,0,none⟩:Addr).add j=⟨g,j,none⟩:=by unfold Addr.add;split<;>simp_all
/-! ### 3. A slice of whole numbers that is read; nil, empty and other slices alike -/
def gT (w:World) (k:IntKind) (A:Option Addr) (n:Nat) (xs:List Int):Prop:=
 xs.length=n∧n≤9223372036854775807∧(0< n→∃ad,A=some ad∧∀j,j< n→w.cell? (ad.add j)=some (.int k (xs.getD j 0)))
theorem gT.at_ {w:World} {k:IntKind} {A:Option Addr} {n:Nat} {xs:List Int} (h:gT w k A n xs) (i:Int) (h0:0≤i) (h1:i< n):∃ad,A=some ad∧w.cell? (ad.add i.toNat)=some (.int k (rd xs i)):=by
 obtain ⟨ad,e,hc⟩:=h.2.2 (by omega);exact ⟨ad,e,hc _ (by omega)⟩
theorem gT.below {w w1:World} {k:IntKind} {A:Option Addr} {n:Nat} {xs:List Int} (h:gT w k A n xs) (hb:Below w.heap.size w w1):gT w1 k A n xs:=
 ⟨h.1,h.2.1,fun hn=>by
  obtain ⟨ad,e,hc⟩:=h.2.2 hn
  exact ⟨ad,e,fun j hj=>aB hb (hc j hj)⟩⟩
/-! ### 4. A row of the call's own -/
theorem yX (W:World) (base:Nat) (e:TypeId) (size:Nat):W.ownsRow base e size (.slice none 0 0) 0 []:=⟨by simp, .inl ⟨rfl,rfl⟩⟩
theorem ma {w:World} {base:Nat} {e:TypeId} {size n:Nat} {v:Value} {xs:List Value} (h:w.ownsRow base e size v n xs) (k:Nat) (hk:v.ownBlock=some k):base≤k:=by
 rcases h.2 with ⟨rfl,_⟩|⟨g,cap,cur,rfl,hb,_⟩
 ·simp [Value.ownBlock]at hk
 ·have:g=k:=by simpa [Value.ownBlock] using hk
  omega
theorem IM {w:World} {base:Nat} {e:TypeId} {size n:Nat} {v:Value} {xs:List Value} (h:w.ownsRow base e size v n xs) (k:Nat) (hk:v.ownBlock=some k):k< w.heap.size:=by
 rcases h.2 with ⟨rfl,_⟩|⟨g,cap,cur,rfl,hb,hh,_⟩
 ·simp [Value.ownBlock]at hk
 ·have:g=k:=by simpa [Value.ownBlock] using hk
  subst this;exact (Array.getElem?_eq_some_iff.1 hh).1
theorem nP {w w1:World} {base:Nat} {e:TypeId} {size n:Nat} {v:Value} {xs:List Value} (h:w.ownsRow base e size v n xs) (hb:Below w.heap.size w w1):w1.ownsRow base e size v n xs:=
 h.kept (rD hb none) (by cases v.ownBlock<;>simp)
theorem Al {w w1:World} {base:Nat} {e:TypeId} {size n:Nat} {v:Value} {xs:List Value} (h:w.ownsRow base e size v n xs) {row:Option Nat} (hg:w.grownBy w1 row) (hne:v.ownBlock=none∨v.ownBlock≠row):w1.ownsRow base e size v n xs:=h.kept hg hne
theorem AR {w:World} {base n:Nat} {e:TypeId} {size:Nat} {v:Value} {xs:List Value} (h:w.ownsRow base e size v n xs):∃A c,v= .slice A n c:=by
 rcases h.2 with ⟨rfl,rfl⟩|⟨g,cap,cur,rfl,_⟩
 ·exact ⟨none,0,rfl⟩
 ·exact ⟨_,cap,rfl⟩
/-! ### 5. append(v, x): behind 'at_builtin'; the goal's world is 'W.alloc' of the variadic's box -/
section
variable {P:Program} {ops:Array Oper} {rest:List Oper} {o:Oper} {a:Act} {Q:Exit→Act→World→Prop}
end
/-! ### 6. make([]T, n), n an Int; a literal -/
section
variable {P:Program}
end
theorem zi (W:World) (base:Nat) (e:TypeId) (k:IntKind) (xs:List Int) (hb:base≤W.heap.size) (hm:xs.length≤9223372036854775807):
  (W.alloc (.cells (nums k xs).toArray e)).ownsRow base e 1 (.slice (some ⟨W.heap.size,0,none⟩) xs.length xs.length) xs.length (nums k xs):=by
 have h:=World.ownsRow_lit (base:=base) (e:=e) (size:=1) W (nums k xs).toArray xs.length hb (by simpa [maxLen] using hm) (by simp [nums]);simpa using h
/-! ### 7. v[i] read and v[i] = x, v a row of the call's own: 'obtain ⟨g, cap, rfl, hgb, hgl⟩ := HO.out.form (by omega)' first -/
/-! ### 8. append(v, ys...): ys a slice that is read, nil let in; behind 'at_builtin' -/
section
variable {P:Program} {ops:Array Oper} {rest:List Oper} {o:Oper} {a:Act} {Q:Exit→Act→World→Prop}
end
/-! ### 9. []byte(s): a slice that is read (its row bears a conversion's mark: no row of one's own); cuts of a slice that is read -/
/-! ### 10. Rounds: more rounds give the same answer; what ends gives a number of rounds -/
def LeO {α:Type} (a b:Option α):Prop:=∀r,a=some r→b=some r
theorem LeO.refl {α:Type} (a:Option α):LeO a a:=fun _ h=>h
theorem LeO.none {α:Type} (b:Option α):LeO Option.none b:=fun _ h=>by cases h
theorem LeO.trans {α:Type} {a b c:Option α} (h:LeO a b) (k:LeO b c):LeO a c:=fun r hr=>k r (h r hr)
theorem LeO.ite {α:Type} {c:Prop} [Decidable c] {a a' b b' :Option α} (h:LeO a a') (k:LeO b b'):LeO (if c then a else b) (if c then a' else b'):=by
 split
 ·exact h
 ·exact k
theorem LeO.bind {α β:Type} {a a' :Option α} {f f' :α→Option β} (h:LeO a a') (k:∀x,LeO (f x) (f' x)):LeO (a.bind f) (a'.bind f'):=by
 intro r hr;obtain ⟨x,hx,hf⟩:=Option.bind_eq_some_iff.1 hr;exact Option.bind_eq_some_iff.2 ⟨x,h x hx,k x r hf⟩
theorem LeO.map {α β:Type} {a a' :Option α} (f:α→β) (h:LeO a a'):LeO (a.map f) (a'.map f):=by
 intro r hr;obtain ⟨x,hx,hf⟩:=Option.map_eq_some_iff.1 hr;exact Option.map_eq_some_iff.2 ⟨x,h x hx,hf⟩
theorem pJ {α:Type} {g:Nat→Option α} (h:∀k,LeO (g k) (g (k+1))) (k:Nat):∀j,LeO (g k) (g (k+j))
 |0=>LeO.refl _
 |j+1=>(pJ h k j).trans (h (k+j))
theorem oz {α:Type} {g:Nat→Option α} (h:∀k,LeO (g k) (g (k+1))) {k k' :Nat} (hk:k≤k') {r:α} (hr:g k=some r):g k' =some r:=by
 have:=pJ h k (k' - k) r hr
 rwa [Nat.add_sub_cancel' hk]at this
theorem together {α β:Type} {g:Nat→Option α} {f:Nat→Option β} (hg:∀k,LeO (g k) (g (k+1))) (hf:∀k,LeO (f k) (f (k+1))) {r:α} {q:β} (h:∃k,g k=some r) (h' :∃k,f k=some q):∃k,g k=some r∧f k=some q:=by
 obtain ⟨k,hk⟩:=h;obtain ⟨k',hk'⟩:=h';exact ⟨max k k',oz hg (Nat.le_max_left _ _) hk,oz hf (Nat.le_max_right _ _) hk'⟩
/-! ### 11. Rows of elements of several cells (structs): read, made. R: what an element's cells say ('RepItem w': printed for each type) -/
def iW {α:Type} (R:α→List Value→Prop) (size:Nat) (ps:List α) (cs:List Value):Prop:=
 cs.length=ps.length * size∧∀j p,ps[j]? =some p→R p ((cs.drop (j * size)).take size)
theorem iW.none {α:Type} (R:α→List Value→Prop) (size:Nat):iW R size [] []:=⟨by simp,fun j p h=>by simp at h⟩
theorem iW.snoc {α:Type} {R:α→List Value→Prop} {size:Nat} {ps:List α} {cs c:List Value} {p:α} (h:iW R size ps cs) (hp:R p c) (hc:c.length=size):iW R size (ps++ [p]) (cs++c):=by
 refine ⟨by rw [List.length_append,h.1,hc,List.length_append,List.length_singleton,Nat.add_mul,Nat.one_mul],fun j q hq=> ?_⟩;rcases Nat.lt_or_ge j ps.length with hj|hj
 ·rw [List.getElem?_append_left hj]at hq;have h1:j * size+size≤cs.length:=by rw [h.1,←Nat.succ_mul];exact Nat.mul_le_mul_right _ hj
  have h2:=h.2 j q hq;rw [List.drop_append_of_le_length (by omega),List.take_append_of_le_length (by rw [List.length_drop];omega)];exact h2
 ·have hj' :j=ps.length:=by
   have:=(List.getElem?_eq_some_iff.1 hq).1;rw [List.length_append,List.length_singleton]at this;omega
  subst hj';have hq' :p=q:=by simpa using hq
  subst hq';rw [←h.1,List.drop_left,←hc,List.take_length];exact hp
theorem iW.jV {α:Type} {R R' :α→List Value→Prop} {size:Nat} {ps:List α} {cs:List Value} (h:iW R size ps cs) (hR:∀p c,R p c→R' p c):iW R' size ps cs:=⟨h.1,fun j p hj=>hR _ _ (h.2 j p hj)⟩
def jD {α:Type} (R:α→List Value→Prop) (size:Nat) (w:World) (A:Option Addr) (n:Nat) (ps:List α):Prop:=
 ps.length=n∧n≤9223372036854775807∧(0< n→∃ad,A=some ad∧∀j p,ps[j]? =some p→∃c,c.length=size∧R p c∧∀i u,c[i]? =some u→w.cell? (ad.add (j * size+i))=some u)
theorem jD.jV {α:Type} {R R' :α→List Value→Prop} {size:Nat} {w w1:World} {A:Option Addr} {n:Nat} {ps:List α} (h:jD R size w A n ps) (hb:Below w.heap.size w w1) (hR:∀p c,R p c→R' p c):jD R' size w1 A n ps:=
 ⟨h.1,h.2.1,fun hn=>by
  obtain ⟨ad,e,hc⟩:=h.2.2 hn;refine ⟨ad,e,fun j p hj=> ?_⟩;obtain ⟨c,hs,hr,hcell⟩:=hc j p hj
  exact ⟨c,hs,hR _ _ hr,fun i u hu=>aB hb (hcell i u hu)⟩⟩
theorem rT {α:Type} {R:α→List Value→Prop} {w:World} {base n size:Nat} {e:TypeId} {v:Value} {ps:List α} {cs:List Value} (h:w.ownsRow base e size v n cs) (hR:iW R size ps cs) (hn:ps.length=n):
  ∃A c,v= .slice A n c∧jD R size w A n ps:=by
 rcases Nat.eq_zero_or_pos n with h0|h0
 ·rcases h.2 with ⟨rfl,rfl⟩|⟨g,cap,cur,rfl,_⟩
  ·exact ⟨none,0,rfl,hn,by omega,fun hp=>absurd hp (by omega)⟩
  ·exact ⟨_,cap,rfl,hn,by omega,fun hp=>absurd hp (by omega)⟩
 ·obtain ⟨g,cap,rfl,_,_⟩:=h.form h0
  have hm:n≤9223372036854775807:=by
   rcases h.2 with ⟨_,h1⟩|⟨g',cap',cur,he,_,_,h1,h2,_⟩
   ·omega
   ·simp only [maxLen]at h2;omega
  refine ⟨_,cap,rfl,hn,hm,fun _=>⟨_,rfl,fun j p hj=>⟨(cs.drop (j * size)).take size, ?_,hR.2 j p hj,fun i u hu=> ?_⟩⟩⟩
  ·have hjl:=(List.getElem?_eq_some_iff.1 hj).1;have h1:j * size+size≤cs.length:=by rw [hR.1,←Nat.succ_mul];exact Nat.mul_le_mul_right _ hjl
   rw [List.length_take,List.length_drop];omega
  ·refine h.cells (g:=g) rfl _ u ?_;rw [List.getElem?_take]at hu;split at hu
   ·rw [List.getElem?_drop]at hu;exact hu
   ·cases hu
section
variable {P:Program} {ops:Array Oper} {rest:List Oper} {o:Oper} {a:Act} {Q:Exit→Act→World→Prop}
theorem nA {w0 W:World} (base:Nat) (hgd:o.guard=none) (s x:Operand) (t e:TypeId) (z:Value) (size bytes:Nat)
  (ho:o.op= .call {callee:= .builtin .append,args:=#[s,x],argTypes:=#[t,t]})
  (ht:P.underlying t=some (.slice e)) (hinfo:(P.info? e).map (fun i=>(i.zero,i.size,i.bytes))=some (some z,size,bytes)) (hz:z.cells.size=size) (hs0:0< size) (hb0:0< bytes)
  (v:Value) (n:Nat) (xs ys:List Value) (hs:a.eval s=v) (hx:a.eval x= .slice (some ⟨W.heap.size,0,none⟩) 1 1) (hys:ys.length=size) (h1:∀u∈ys,u.oneCell' =true)
  (HO:W.ownsRow base e size v n xs) (HB:Below base w0 W) (hbase:base≤W.heap.size) (hl:(n+1) * bytes≤140737488355328)
  (h:∀v1 w1,w1.ownsRow base e size v1 (n+1) (xs++ys)→Below base w0 w1→W.grownBy w1 v.ownBlock→(v1.ownBlock=v.ownBlock∨∃b,v1.ownBlock=some b∧W.heap.size≤b)→wpList P ops Q rest (a.put o.dst v1) w1):
  wpList P ops Q (o::rest) a (W.alloc (.cells ys.toArray e)):=by
 obtain ⟨i0,hi,hzz⟩:=Option.map_eq_some_iff.1 hinfo;simp only [Prod.mk.injEq]at hzz;obtain ⟨hz0,hz1,hz2⟩:=hzz;have hlen:n+1≤140737488355328:=Nat.le_trans (Nat.le_mul_of_pos_right _ hb0) hl
 refine wpList_append_own_at (W.alloc (.cells ys.toArray e)) hgd s x t ho base e i0 z size bytes ht hi hz0 hz1 hz2 hz hs0 v n xs hs (HO.alloc _) ⟨W.heap.size,0,none⟩ 1 1 ys hx (by rw [hys];simp)
  (by simpa using World.news_of_block (cs:=ys.toArray) (t:=e) (fr:=(0,0)) (heap_alloc_new W (.cells ys.toArray e))) h1 (by simp only [maxLen];omega) hl (by simp;omega) ?_
 intro v1 w1 hown hg _ hat;refine h v1 w1 hown ((HB.alloc hbase _).grown hg (by simp;omega) (ma HO)) (World.grownBy.trans (World.grownBy_alloc W _ _) hg) ?_;rcases hat with hat|hat
 ·exact .inl hat
 ·exact .inr ⟨_,hat,by simp⟩
end
/-! ### 12. A block of one's own that is a state: its cells, what a store leaves -/
theorem own_ne {w:World} {base:Nat} {e t:TypeId} {size n g:Nat} {v:Value} {xs:List Value} {cs:Array Value} (h:w.ownsRow base e size v n xs) (hg:w.heap[g]? =some (.cells cs t (0,0))) (hne:e≠t):some g≠v.ownBlock:=by
 rcases h.2 with ⟨rfl,_⟩|⟨g',cap,cur,rfl,_,hh,_⟩
 ·simp [Value.ownBlock]
 ·intro he;have:g=g' :=by simpa [Value.ownBlock] using he
  subst this;rw [hg]at hh;injection hh with hh;injection hh with _ ht;exact hne ht.symm
theorem IG {w:World} {g:Nat} {o:Obj} (h:w.heap[g]? =some o):g< w.heap.size:=(Array.getElem?_eq_some_iff.1 h).1
/-! ### 13. Two states at once: what a call on the state at block g (its row before: 'row') has turned -/
def fO (w w' :World) (g:Nat) (row:Option Nat):Prop:=w.heap.size≤w'.heap.size∧∀i,i< w.heap.size→i≠g→some i≠row→w'.heap[i]? =w.heap[i]?
theorem fO.refl (w:World) (g:Nat) (row:Option Nat):fO w w g row:=⟨Nat.le_refl _,fun _ _ _ _=>rfl⟩
theorem fO.iP {w w1:World} {row:Option Nat} (h:w.grownBy w1 row) (g:Nat):fO w w1 g row:=⟨h.size,fun i hi _ hr=>h.block i hi hr⟩
theorem fO.of_below {w w1:World} (h:Below w.heap.size w w1) (g:Nat) (row:Option Nat):fO w w1 g row:=⟨h.size,fun i hi _ _=>h.block i hi⟩
theorem fO.trans {w w1 w2:World} {g:Nat} {row row1:Option Nat} (h:fO w w1 g row) (k:fO w1 w2 g row1) (hr:row1=row∨∃b,row1=some b∧w.heap.size≤b):fO w w2 g row:=
 ⟨Nat.le_trans h.1 k.1,fun i hi hg hn=>by
  refine (k.2 i (Nat.lt_of_lt_of_le hi h.1) hg ?_).trans (h.2 i hi hg hn);rcases hr with rfl|⟨b,rfl,hb⟩
  ·exact hn
  ·intro e;injection e with e
   omega⟩
theorem fO.blk {w w1:World} {g g' :Nat} {row:Option Nat} {o:Obj} (h:fO w w1 g row) (hb:w.heap[g']? =some o) (hg:g' ≠g) (hr:some g' ≠row):w1.heap[g']? =some o:=(h.2 g' (IG hb) hg hr).trans hb
theorem fO.own {w w1:World} {g:Nat} {row:Option Nat} {base:Nat} {e:TypeId} {size n:Nat} {v:Value} {xs:List Value} (h:fO w w1 g row) (ho:w.ownsRow base e size v n xs) (hg:v.ownBlock≠some g) (hr:v.ownBlock=none∨v.ownBlock≠row):w1.ownsRow base e size v n xs:=by
 obtain ⟨h1,h2⟩:=ho;refine ⟨h1, ?_⟩;rcases h2 with h2|⟨b,cap,cur,rfl,hb,hh,r⟩
 ·exact .inl h2
 ·refine .inr ⟨b,cap,cur,rfl,hb,h.blk hh ?_ ?_,r⟩
  ·intro e;exact hg (by rw [←e];rfl)
  ·rcases hr with hr|hr
   ·simp [Value.ownBlock]at hr
   ·exact hr
/-! ### 10b. From some number of rounds on -/
def Ev {α:Type} (g:Nat→Option α) (r:α):Prop:=∃K,∀k,K≤k→g k=some r
theorem Ev.of {α:Type} {g:Nat→Option α} {r:α} (hg:∀k,LeO (g k) (g (k+1))) {k:Nat} (h:g k=some r):Ev g r:=⟨k,fun _ hk=>oz hg hk h⟩
theorem Ev.now {α:Type} (r:α):Ev (fun _=>some r) r:=⟨0,fun _ _=>rfl⟩
theorem Ev.rounds {α:Type} {g:Nat→Option α} {r:α} (h:Ev g r):∃k,g k=some r:=by
 obtain ⟨K,h⟩:=h;exact ⟨K,h K (Nat.le_refl _)⟩
theorem Ev.bind {α β:Type} {g:Nat→Option α} {f:Nat→α→Option β} {a:α} {r:β} (h:Ev g a) (k:Ev (fun n=>f n a) r):Ev (fun n=>(g n).bind (f n)) r:=by
 obtain ⟨K,h⟩:=h;obtain ⟨K',k⟩:=k;refine ⟨max K K',fun n hn=> ?_⟩;have h1:=h n (by omega);have h2:=k n (by omega);simp only [h1,Option.bind_some];exact h2
theorem Ev.step {α:Type} {g f:Nat→Option α} {r:α} (h:∀k,g (k+1)=f k) (k:Ev f r):Ev g r:=by
 obtain ⟨K,k⟩:=k;refine ⟨K+1,fun n hn=> ?_⟩;obtain ⟨m,rfl⟩:∃m,n=m+1:=⟨n - 1,by omega⟩;rw [h];exact k m (by omega)
theorem Ev.congr {α:Type} {g f:Nat→Option α} {r:α} (h:∀k,g k=f k) (k:Ev f r):Ev g r:=by
 obtain ⟨K,k⟩:=k;exact ⟨K,fun n hn=>(h n).trans (k n hn)⟩
/-! ### 14. append as_ one step of a region that draws its order: for 'go_region_law' (and a region walked by hand) -/
section
variable {P:Program} {ops:Array Oper} {o:Oper} {a:Act} {Q:Exit→Act→World→Prop} {K:Act→World→Prop}
theorem nU {w0 W:World} (base:Nat) (hw:Region.wanted o (yielded ops a.tmps)=true) (s x:Operand) (t e:TypeId) (z:Value) (size bytes:Nat)
  (ho:o.op= .call {callee:= .builtin .append,args:=#[s,x],argTypes:=#[t,t]})
  (ht:P.underlying t=some (.slice e)) (hinfo:(P.info? e).map (fun i=>(i.zero,i.size,i.bytes))=some (some z,size,bytes)) (hz:z.cells.size=size) (hs0:0< size) (hb0:0< bytes)
  (v:Value) (n:Nat) (xs ys:List Value) (hs:a.eval s=v) (hx:a.eval x= .slice (some ⟨W.heap.size,0,none⟩) 1 1) (hys:ys.length=size) (h1:∀u∈ys,u.oneCell' =true)
  (HO:W.ownsRow base e size v n xs) (HB:Below base w0 W) (hbase:base≤W.heap.size) (hl:(n+1) * bytes≤140737488355328)
  (h:∀v1 w1,w1.ownsRow base e size v1 (n+1) (xs++ys)→Below base w0 w1→W.grownBy w1 v.ownBlock→(v1.ownBlock=v.ownBlock∨∃b,v1.ownBlock=some b∧W.heap.size≤b)→K (a.put o.dst v1) w1):
  if Region.wanted o (yielded ops a.tmps)=true then Oper.wp P o a (W.alloc (.cells ys.toArray e)) K Q else K (a.put o.dst undef) (W.alloc (.cells ys.toArray e)):=by
 obtain ⟨i0,hi,hzz⟩:=Option.map_eq_some_iff.1 hinfo;simp only [Prod.mk.injEq]at hzz;obtain ⟨hz0,hz1,hz2⟩:=hzz;have hlen:n+1≤140737488355328:=Nat.le_trans (Nat.le_mul_of_pos_right _ hb0) hl;rw [if_pos hw]
 obtain ⟨v1,w1,hr,hown,hg,_,hat⟩:=run_append_own_at (P:=P) (W.alloc (.cells ys.toArray e)) base t o.type e i0 z size bytes ht hi hz0 hz1 hz2 hz hs0 v n xs (HO.alloc _) ⟨W.heap.size,0,none⟩ 1 1 ys (by rw [hys];simp)
  (by simpa using World.news_of_block (cs:=ys.toArray) (t:=e) (fr:=(0,0)) (heap_alloc_new W (.cells ys.toArray e))) h1 (by simp only [maxLen];omega) hl (by simp;omega)
 unfold Oper.wp execOp;simp only [ho,resolve,invoke,builtin,Sem.run_bind,Sem.run_pure,Result.andThen_ok,List.map_toArray,List.map_cons,List.map_nil,hs,hx,hr];refine h v1 w1 hown ((HB.alloc hbase _).grown hg (by simp;omega) (ma HO)) (World.grownBy.trans (World.grownBy_alloc W _ _) hg) ?_;rcases hat with hat|hat
 ·exact .inl hat
 ·exact .inr ⟨_,hat,by simp⟩
end
/-! ### 15. A row's base may be lowered -/
theorem xP {w:World} {base base' :Nat} {e:TypeId} {size n:Nat} {v:Value} {xs:List Value} (h:w.ownsRow base e size v n xs) (hb:base' ≤base):w.ownsRow base' e size v n xs:=by
 obtain ⟨h1,h2⟩:=h;refine ⟨h1, ?_⟩;rcases h2 with h2|⟨g,cap,cur,rfl,hg,r⟩
 ·exact .inl h2
 ·exact .inr ⟨g,cap,cur,rfl,Nat.le_trans hb hg,r⟩
/-! ### 16. Parts 3 to 9 for ANY element of one cell: 'enc' (Value.int k, Value.string, Value.bool), a default 'd' -/
section
variable {α:Type} {enc:α→Value} {d:α}
def az (d:α) (xs:List α) (i:Int):α:=xs.getD i.toNat d
def iJ (enc:α→Value) (d:α) (w:World) (A:Option Addr) (n:Nat) (xs:List α):Prop:=
 xs.length=n∧n≤9223372036854775807∧(0< n→∃ad,A=some ad∧∀j,j< n→w.cell? (ad.add j)=some (enc (xs.getD j d)))
theorem iJ.at_ {w:World} {A:Option Addr} {n:Nat} {xs:List α} (h:iJ enc d w A n xs) (i:Int) (h0:0≤i) (h1:i< n):∃ad,A=some ad∧w.cell? (ad.add i.toNat)=some (enc (az d xs i)):=by
 obtain ⟨ad,e,hc⟩:=h.2.2 (by omega);exact ⟨ad,e,hc _ (by omega)⟩
theorem iJ.below {w w1:World} {A:Option Addr} {n:Nat} {xs:List α} (h:iJ enc d w A n xs) (hb:Below w.heap.size w w1):iJ enc d w1 A n xs:=
 ⟨h.1,h.2.1,fun hn=>by
  obtain ⟨ad,e,hc⟩:=h.2.2 hn
  exact ⟨ad,e,fun j hj=>aB hb (hc j hj)⟩⟩
end
section
variable {α:Type} {P:Program} {ops:Array Oper} {rest:List Oper} {o:Oper} {a:Act} {Q:Exit→Act→World→Prop}
end
/-! ### 17. Rows of one element type held at once: no two share a block -/
/-! ### 18. A block behind a new one; behind a draw -/
/-! ### 19. Results that lie in memory beside others -/
section
variable {P:Program}
end
/-! ### 20. Rows of elements of any kind: R is what an element's cells say -/
theorem IV {w:World} {base n m c size:Nat} {e:TypeId} {A:Option Addr} {xs:List Value} (h:w.ownsRow base e size (.slice A m c) n xs):m≤c:=by
 rcases h.2 with ⟨he,_⟩|⟨g,cap,cur,he,_,_,hnc,_⟩
 ·injection he with _ h2 h3;omega
 ·injection he with _ h2 h3;omega
def eZ {α:Type} (R:α→List Value→Prop) (e:TypeId) (size:Nat) (w:World) (base:Nat) (v:Value) (ps:List α):Prop:=
 ∃inner,w.ownsRow base e size v ps.length inner∧iW R size ps inner
section
variable {α:Type} {R R' :α→List Value→Prop} {e:TypeId} {size:Nat} {w w1:World} {base:Nat} {v:Value} {ps:List α}
theorem eZ.jV (h:eZ R e size w base v ps) (hR:∀p c,R p c→R' p c):eZ R' e size w base v ps:=by
 obtain ⟨inner,ho,hr⟩:=h;exact ⟨inner,ho,hr.jV hR⟩
theorem eZ.below (h:eZ R e size w base v ps) (hb:Below w.heap.size w w1):eZ R e size w1 base v ps:=by
 obtain ⟨inner,ho,hr⟩:=h;exact ⟨inner,nP ho hb,hr⟩
theorem eZ.other (h:eZ R e size w base v ps) {row:Option Nat} (hg:w.grownBy w1 row) (hne:v.ownBlock=none∨v.ownBlock≠row):eZ R e size w1 base v ps:=by
 obtain ⟨inner,ho,hr⟩:=h;exact ⟨inner,Al ho hg hne,hr⟩
theorem eZ.reads (h:eZ R e size w base v ps):∃A c,v= .slice A ps.length c∧ps.length≤c∧jD R size w A ps.length ps:=by
 obtain ⟨inner,ho,hr⟩:=h;obtain ⟨A,c,rfl,hrow⟩:=rT ho hr rfl;exact ⟨A,c,rfl,IV ho,hrow⟩
theorem eZ.lit (W:World) (base:Nat) {inner:List Value} (hr:iW R size ps inner) (hb:base≤W.heap.size) (hm:ps.length≤9223372036854775807):
  eZ R e size (W.alloc (.cells inner.toArray e)) base (.slice (some ⟨W.heap.size,0,none⟩) ps.length ps.length) ps:=by
 have h:=World.ownsRow_lit (base:=base) (e:=e) (size:=size) W inner.toArray ps.length hb (by simpa [maxLen] using hm) (by simpa using hr.1);exact ⟨inner,by simpa using h,hr⟩
end
section
variable {P:Program} {ops:Array Oper} {rest:List Oper} {o:Oper} {a:Act} {Q:Exit→Act→World→Prop} {α:Type} {R:α→List Value→Prop}
theorem eZ.append {w0 W:World} (base:Nat) (hgd:o.guard=none) (s x:Operand) (t e:TypeId) (z:Value) (size bytes:Nat)
  (ho:o.op= .call {callee:= .builtin .append,args:=#[s,x],argTypes:=#[t,t]})
  (ht:P.underlying t=some (.slice e)) (hinfo:(P.info? e).map (fun i=>(i.zero,i.size,i.bytes))=some (some z,size,bytes)) (hz:z.cells.size=size) (hs0:0< size) (hb0:0< bytes)
  (v:Value) (ps:List α) (p:α) (cs:List Value) (hs:a.eval s=v) (hx:a.eval x= .slice (some ⟨W.heap.size,0,none⟩) 1 1) (hp:R p cs) (hcs:cs.length=size) (h1:∀u∈cs,u.oneCell' =true)
  (HO:eZ R e size W base v ps) (HB:Below base w0 W) (hbase:base≤W.heap.size) (hl:(ps.length+1) * bytes≤140737488355328)
  (h:∀v1 w1,eZ R e size w1 base v1 (ps++ [p])→Below base w0 w1→W.grownBy w1 v.ownBlock→(v1.ownBlock=v.ownBlock∨∃b,v1.ownBlock=some b∧W.heap.size≤b)→wpList P ops Q rest (a.put o.dst v1) w1):
  wpList P ops Q (o::rest) a (W.alloc (.cells cs.toArray e)):=by
 obtain ⟨inner,hown,hr⟩:=HO;refine nA base hgd s x t e z size bytes ho ht hinfo hz hs0 hb0 v ps.length inner cs hs hx hcs h1 hown HB hbase hl ?_;intro v1 w1 hown1 hb1 hg1 hat1;exact h v1 w1 ⟨inner++cs,by rw [List.length_append,List.length_singleton];exact hown1,hr.snoc hp hcs⟩ hb1 hg1 hat1
end
section
variable {P:Program} {ops:Array Oper} {o:Oper} {a:Act} {Q:Exit→Act→World→Prop} {K:Act→World→Prop} {α:Type} {R:α→List Value→Prop}
theorem eZ.bY {w0 W:World} (base:Nat) (hw:Region.wanted o (yielded ops a.tmps)=true) (s x:Operand) (t e:TypeId) (z:Value) (size bytes:Nat)
  (ho:o.op= .call {callee:= .builtin .append,args:=#[s,x],argTypes:=#[t,t]})
  (ht:P.underlying t=some (.slice e)) (hinfo:(P.info? e).map (fun i=>(i.zero,i.size,i.bytes))=some (some z,size,bytes)) (hz:z.cells.size=size) (hs0:0< size) (hb0:0< bytes)
  (v:Value) (ps:List α) (p:α) (cs:List Value) (hs:a.eval s=v) (hx:a.eval x= .slice (some ⟨W.heap.size,0,none⟩) 1 1) (hp:R p cs) (hcs:cs.length=size) (h1:∀u∈cs,u.oneCell' =true)
  (HO:eZ R e size W base v ps) (HB:Below base w0 W) (hbase:base≤W.heap.size) (hl:(ps.length+1) * bytes≤140737488355328)
  (h:∀v1 w1,eZ R e size w1 base v1 (ps++ [p])→Below base w0 w1→W.grownBy w1 v.ownBlock→(v1.ownBlock=v.ownBlock∨∃b,v1.ownBlock=some b∧W.heap.size≤b)→K (a.put o.dst v1) w1):
  if Region.wanted o (yielded ops a.tmps)=true then Oper.wp P o a (W.alloc (.cells cs.toArray e)) K Q else K (a.put o.dst undef) (W.alloc (.cells cs.toArray e)):=by
 obtain ⟨inner,hown,hr⟩:=HO;refine nU base hw s x t e z size bytes ho ht hinfo hz hs0 hb0 v ps.length inner cs hs hx hcs h1 hown HB hbase hl ?_;intro v1 w1 hown1 hb1 hg1 hat1;exact h v1 w1 ⟨inner++cs,by rw [List.length_append,List.length_singleton];exact hown1,hr.snoc hp hcs⟩ hb1 hg1 hat1
end
/-! ### 21. Cuts of a slice that came in, lengths spelled as_ the lists' -/
section
variable {α:Type} {P:Program}
end
/-! ### 22. append([]byte, s...), s a string; behind 'at_builtin'. (No word on where the new row lies: two rows of bytes at once don't go by it.) -/
section
variable {P:Program} {ops:Array Oper} {rest:List Oper} {o:Oper} {a:Act} {Q:Exit→Act→World→Prop}
end
/-! ### 23. KINDS: what a value's cells say, read (K) and made (M), kind by kind; every mover proved once -/
structure Kd (α:Type) where
 sz:Nat
 E:List Nat
 K:World→α→List Value→Prop
 M:World→Nat→(Nat→Prop)→α→List Value→Prop
 K_len:∀{w x cs},K w x cs→cs.length=sz
 K_one:∀{w x cs},K w x cs→∀u∈cs,u.oneCell' =true
 K_below:∀{w w1:World} {x cs},Below w.heap.size w w1→K w x cs→K w1 x cs
 K_of_M:∀{w base ok x cs},M w base ok x cs→K w x cs
 M_mono:∀{w base ok ok' x cs},(∀k,ok k→ok' k)→M w base ok x cs→M w base ok' x cs
 M_bound:∀{w:World} {base ok x cs},M w base ok x cs→M w base (fun k=>ok k∧base≤k∧k< w.heap.size∧∃q,q∈E∧∃cells,w.heap[k]? =some (.cells cells q (0,0))) x cs
 M_move:∀{w w1:World} {base ok x cs},(∀k,ok k→w1.heap[k]? =w.heap[k]?)→M w base ok x cs→M w1 base ok x cs
 M_lower:∀{w base base' ok x cs},base' ≤base→M w base ok x cs→M w base' ok x cs
theorem vC {w w1:World} {base:Nat} {e:TypeId} {size n:Nat} {v:Value} {xs:List Value} (h:w.ownsRow base e size v n xs) (hm:∀k,v.ownBlock=some k→w1.heap[k]? =w.heap[k]?):w1.ownsRow base e size v n xs:=by
 obtain ⟨h1,h2⟩:=h;refine ⟨h1, ?_⟩;rcases h2 with h2|⟨g,cap,cur,rfl,hg,hh,r⟩
 ·exact .inl h2
 ·exact .inr ⟨g,cap,cur,rfl,hg,(hm g (by simp [Value.ownBlock])).trans hh,r⟩
theorem cK {w:World} {base:Nat} {e:TypeId} {size n:Nat} {v:Value} {xs:List Value} (h:w.ownsRow base e size v n xs) (k:Nat) (hk:v.ownBlock=some k):∃cells,w.heap[k]? =some (.cells cells e (0,0)):=by
 rcases h.2 with ⟨rfl,_⟩|⟨g,cap,cur,rfl,hg,hh,r⟩
 ·simp [Value.ownBlock]at hk
 ·have:g=k:=by simpa [Value.ownBlock] using hk
  subst this;exact ⟨cur,hh⟩
namespace Kd
def C {α:Type} (d:Kd α) (w:World) (A:Option Addr) (n:Nat) (xs:List α):Prop:=jD (d.K w) d.sz w A n xs
def R {α:Type} (d:Kd α) (e:Nat) (w:World) (base:Nat) (ok:Nat→Prop) (v:Value) (xs:List α):Prop:=
 (∀k,v.ownBlock=some k→ok k)∧eZ (d.M w base (fun k=>ok k∧some k≠v.ownBlock)) e d.sz w base v xs
section
variable {α:Type} {d:Kd α} {e:Nat} {w w1:World} {base:Nat} {ok ok' :Nat→Prop} {v:Value} {xs:List α}
theorem nH {A:Option Addr} {n:Nat} (h:d.C w A n xs) (hb:Below w.heap.size w w1):d.C w1 A n xs:=jD.jV h hb (fun _ _ hp=>d.K_below hb hp)
theorem Ib (h:d.R e w base ok v xs) (hok:∀k,ok k→ok' k):d.R e w base ok' v xs:=⟨fun k hk=>hok k (h.1 k hk),h.2.jV (fun _ _ hp=>d.M_mono (fun k hk=>⟨hok k hk.1,hk.2⟩) hp)⟩
theorem Gj (h:d.R e w base ok v xs):d.R e w base (fun k=>ok k∧base≤k∧k< w.heap.size∧∃q,q∈e::d.E∧∃cells,w.heap[k]? =some (.cells cells q (0,0))) v xs:=by
 obtain ⟨h0,inner,ho,hr⟩:=h;refine ⟨fun k hk=> ?_,inner,ho,hr.jV (fun _ _ hp=>d.M_mono (fun k hk=> ?_) (d.M_bound hp))⟩
 ·obtain ⟨cells,hc⟩:=cK ho k hk;exact ⟨h0 k hk,ma ho k hk,IM ho k hk,e,List.mem_cons_self,cells,hc⟩
 ·obtain ⟨⟨h1,h2⟩,h3,h4,q,hq,hc⟩:=hk;exact ⟨⟨h1,h3,h4,q,List.mem_cons_of_mem _ hq,hc⟩,h2⟩
theorem IE (h:d.R e w base ok v xs) (hm:∀k,ok k→w1.heap[k]? =w.heap[k]?):d.R e w1 base ok v xs:=by
 obtain ⟨h0,inner,ho,hr⟩:=h;exact ⟨h0,inner,vC ho (fun k hk=>hm k (h0 k hk)),hr.jV (fun _ _ hp=>d.M_move (fun k hk=>hm k hk.1) hp)⟩
theorem GU {base' :Nat} (h:d.R e w base ok v xs) (hb:base' ≤base):d.R e w base' ok v xs:=by
 obtain ⟨h0,inner,ho,hr⟩:=h;exact ⟨h0,inner,xP ho hb,hr.jV (fun _ _ hp=>d.M_lower hb hp)⟩
theorem Gb (h:d.R e w base ok v xs):∃A c,v= .slice A xs.length c∧xs.length≤c∧d.C w A xs.length xs:=by
 obtain ⟨A,c,he,hl,hr⟩:=eZ.reads h.2;exact ⟨A,c,he,hl,hr.jV (Below.refl _ _) (fun _ _ hp=>d.K_of_M hp)⟩
end
/-! #### the kinds -/
def scalar {α:Type} (enc:α→Value) (h1:∀x,(enc x).oneCell' =true):Kd α where
 sz:=1
 E:= []
 K:=fun _ x cs=>cs= [enc x]
 M:=fun _ _ _ x cs=>cs= [enc x]
 K_len:=fun h=>by rw [h];rfl
 K_one:=fun h u hu=>by
  rw [h]at hu;rw [List.mem_singleton.1 hu];exact h1 _
 K_below:=fun _ h=>h
 K_of_M:=fun h=>h
 M_mono:=fun _ h=>h
 M_bound:=fun h=>h
 M_move:=fun _ h=>h
 M_lower:=fun _ h=>h
def int (k:IntKind):Kd Int:=scalar (Value.int k) (fun _=>rfl)
def bool:Kd Bool:=scalar Value.bool (fun _=>rfl)
def string:Kd ByteArray:=scalar Value.string (fun _=>rfl)
def slice {α:Type} (e:Nat) (d:Kd α):Kd (List α) where
 sz:=1
 E:=e::d.E
 K:=fun w xs cs=>∃A c,cs= [.slice A xs.length c]∧xs.length≤c∧d.C w A xs.length xs
 M:=fun w base ok xs cs=>∃v,cs= [v]∧d.R e w base ok v xs
 K_len:=by
  rintro w x cs ⟨A,c,rfl,_⟩;rfl
 K_one:=by
  rintro w x cs ⟨A,c,rfl,_⟩ u hu;rw [List.mem_singleton.1 hu];rfl
 K_below:=by
  rintro w w1 x cs hb ⟨A,c,rfl,hl,hr⟩;exact ⟨A,c,rfl,hl,nH hr hb⟩
 K_of_M:=by
  rintro w base ok x cs ⟨v,rfl,h⟩;obtain ⟨A,c,rfl,hl,hr⟩:=Gb h;exact ⟨A,c,rfl,hl,hr⟩
 M_mono:=by
  rintro w base ok ok' x cs hok ⟨v,rfl,h⟩;exact ⟨v,rfl,Ib h hok⟩
 M_bound:=by
  rintro w base ok x cs ⟨v,rfl,h⟩;exact ⟨v,rfl,Gj h⟩
 M_move:=by
  rintro w w1 base ok x cs hm ⟨v,rfl,h⟩;exact ⟨v,rfl,IE h hm⟩
 M_lower:=by
  rintro w base base' ok x cs hb ⟨v,rfl,h⟩;exact ⟨v,rfl,GU h hb⟩
def pair {α β:Type} (a:Kd α) (b:Kd β):Kd (α×β) where
 sz:=a.sz+b.sz
 E:=a.E++b.E
 K:=fun w x cs=>∃c0 c1,cs=c0++c1∧a.K w x.1 c0∧b.K w x.2 c1
 M:=fun w base ok x cs=>∃c0 c1,cs=c0++c1∧a.M w base ok x.1 c0∧b.M w base ok x.2 c1
 K_len:=by
  rintro w x cs ⟨c0,c1,rfl,h0,h1⟩;rw [List.length_append,a.K_len h0,b.K_len h1]
 K_one:=by
  rintro w x cs ⟨c0,c1,rfl,h0,h1⟩ u hu;rcases List.mem_append.1 hu with hu|hu
  ·exact a.K_one h0 u hu
  ·exact b.K_one h1 u hu
 K_below:=by
  rintro w w1 x cs hb ⟨c0,c1,rfl,h0,h1⟩;exact ⟨c0,c1,rfl,a.K_below hb h0,b.K_below hb h1⟩
 K_of_M:=by
  rintro w base ok x cs ⟨c0,c1,rfl,h0,h1⟩;exact ⟨c0,c1,rfl,a.K_of_M h0,b.K_of_M h1⟩
 M_mono:=by
  rintro w base ok ok' x cs hok ⟨c0,c1,rfl,h0,h1⟩;exact ⟨c0,c1,rfl,a.M_mono hok h0,b.M_mono hok h1⟩
 M_bound:=by
  rintro w base ok x cs ⟨c0,c1,rfl,h0,h1⟩;refine ⟨c0,c1,rfl,a.M_mono ?_ (a.M_bound h0),b.M_mono ?_ (b.M_bound h1)⟩
  ·rintro k ⟨h2,h3,h4,q,hq,hc⟩;exact ⟨h2,h3,h4,q,List.mem_append_left _ hq,hc⟩
  ·rintro k ⟨h2,h3,h4,q,hq,hc⟩;exact ⟨h2,h3,h4,q,List.mem_append_right _ hq,hc⟩
 M_move:=by
  rintro w w1 base ok x cs hm ⟨c0,c1,rfl,h0,h1⟩;exact ⟨c0,c1,rfl,a.M_move hm h0,b.M_move hm h1⟩
 M_lower:=by
  rintro w base base' ok x cs hb ⟨c0,c1,rfl,h0,h1⟩;exact ⟨c0,c1,rfl,a.M_lower hb h0,b.M_lower hb h1⟩
def iso {α β:Type} (d:Kd α) (f:β→α):Kd β where
 sz:=d.sz
 E:=d.E
 K:=fun w x cs=>d.K w (f x) cs
 M:=fun w base ok x cs=>d.M w base ok (f x) cs
 K_len:=d.K_len
 K_one:=d.K_one
 K_below:=d.K_below
 K_of_M:=d.K_of_M
 M_mono:=d.M_mono
 M_bound:=d.M_bound
 M_move:=d.M_move
 M_lower:=d.M_lower
def bot {α:Type} (sz:Nat) (E:List Nat):Kd α where
 sz:=sz
 E:=E
 K:=fun _ _ _=>False
 M:=fun _ _ _ _ _=>False
 K_len:=fun h=>h.elim
 K_one:=fun h=>h.elim
 K_below:=fun _ h=>h
 K_of_M:=fun h=>h
 M_mono:=fun _ h=>h
 M_bound:=fun h=>h
 M_move:=fun _ h=>h
 M_lower:=fun _ h=>h
def upto {α:Type} (F:Kd α→Kd α) (sz:Nat) (E:List Nat):Nat→Kd α
 |0=>bot sz E
 |n+1=>F (upto F sz E n)
def fix {α:Type} (F:Kd α→Kd α) (sz:Nat) (E:List Nat) (hs:∀n,(upto F sz E n).sz=sz) (hE:∀n q,q∈(upto F sz E n).E→q∈E):Kd α where
 sz:=sz
 E:=E
 K:=fun w x cs=>∃n,(upto F sz E n).K w x cs
 M:=fun w base ok x cs=>∃n,(upto F sz E n).M w base ok x cs
 K_len:=by
  rintro w x cs ⟨n,h⟩;rw [(upto F sz E n).K_len h,hs n]
 K_one:=by
  rintro w x cs ⟨n,h⟩;exact (upto F sz E n).K_one h
 K_below:=by
  rintro w w1 x cs hb ⟨n,h⟩;exact ⟨n,(upto F sz E n).K_below hb h⟩
 K_of_M:=by
  rintro w base ok x cs ⟨n,h⟩;exact ⟨n,(upto F sz E n).K_of_M h⟩
 M_mono:=by
  rintro w base ok ok' x cs hok ⟨n,h⟩;exact ⟨n,(upto F sz E n).M_mono hok h⟩
 M_bound:=by
  rintro w base ok x cs ⟨n,h⟩;refine ⟨n,(upto F sz E n).M_mono ?_ ((upto F sz E n).M_bound h)⟩;rintro k ⟨h2,h3,h4,q,hq,hc⟩;exact ⟨h2,h3,h4,q,hE n q hq,hc⟩
 M_move:=by
  rintro w w1 base ok x cs hm ⟨n,h⟩;exact ⟨n,(upto F sz E n).M_move hm h⟩
 M_lower:=by
  rintro w base base' ok x cs hb ⟨n,h⟩;exact ⟨n,(upto F sz E n).M_lower hb h⟩
/-! #### an element of a row that is read; an element appended -/
section
variable {P:Program} {ops:Array Oper} {rest:List Oper} {o:Oper} {a:Act} {Q:Exit→Act→World→Prop} {α:Type}
end
section
variable {P:Program} {ops:Array Oper} {o:Oper} {a:Act} {Q:Exit→Act→World→Prop} {Kc:Act→World→Prop} {α:Type}
end
end Kd
/-! ### 24. Kinds nested in themselves -/
namespace Kd
structure nO {α β:Type} (F:Kd α→Kd β):Prop where
 sz:∀d d' :Kd α,d.sz=d'.sz→(F d).sz=(F d').sz
 K:∀d d' :Kd α,d.sz=d'.sz→(∀w x cs,d.K w x cs→d'.K w x cs)→∀w x cs,(F d).K w x cs→(F d').K w x cs
 M:∀d d' :Kd α,d.sz=d'.sz→(∀w base ok x cs,d.M w base ok x cs→d'.M w base ok x cs)→∀w base ok x cs,(F d).M w base ok x cs→(F d').M w base ok x cs
theorem fU {α β:Type} (k:Kd β):nO (fun _:Kd α=>k):=⟨fun _ _ _=>rfl,fun _ _ _ _ _ _ _ h=>h,fun _ _ _ _ _ _ _ _ _ h=>h⟩
theorem yR {α:Type}:nO (fun d:Kd α=>d):=⟨fun _ _ h=>h,fun _ _ _ h=>h,fun _ _ _ h=>h⟩
theorem Eb {α:Type} {d d' :Kd α} (hs:d.sz=d'.sz) (h:∀w x cs,d.K w x cs→d'.K w x cs) {w:World} {A:Option Addr} {n:Nat} {xs:List α} (hc:d.C w A n xs):d'.C w A n xs:=by
 unfold C at hc ⊢;rw [←hs];exact hc.jV (Below.refl _ _) (fun _ _ hp=>h _ _ _ hp)
theorem JB {α:Type} {d d' :Kd α} (hs:d.sz=d'.sz) (h:∀w base ok x cs,d.M w base ok x cs→d'.M w base ok x cs) {e:Nat} {w:World} {base:Nat} {ok:Nat→Prop} {v:Value} {xs:List α} (hr:d.R e w base ok v xs):d'.R e w base ok v xs:=by
 unfold R at hr ⊢;rw [←hs];exact ⟨hr.1,hr.2.jV (fun _ _ hp=>h _ _ _ _ _ hp)⟩
theorem qj {α β:Type} (e:Nat) {G:Kd α→Kd β} (hG:nO G):nO (fun d=>slice e (G d)):=by
 refine ⟨fun _ _ _=>rfl, ?_, ?_⟩
 ·rintro d d' hs h w x cs ⟨A,c,rfl,hl,hr⟩;exact ⟨A,c,rfl,hl,Eb (hG.sz d d' hs) (hG.K d d' hs h) hr⟩
 ·rintro d d' hs h w base ok x cs ⟨v,rfl,hr⟩;exact ⟨v,rfl,JB (hG.sz d d' hs) (hG.M d d' hs h) hr⟩
theorem gB {α β γ:Type} {G:Kd α→Kd β} {H:Kd α→Kd γ} (hG:nO G) (hH:nO H):nO (fun d=>pair (G d) (H d)):=by
 refine ⟨fun d d' hs=> ?_, ?_, ?_⟩
 ·show (G d).sz+(H d).sz=(G d').sz+(H d').sz
  rw [hG.sz d d' hs,hH.sz d d' hs]
 ·rintro d d' hs h w x cs ⟨c0,c1,rfl,h0,h1⟩;exact ⟨c0,c1,rfl,hG.K d d' hs h _ _ _ h0,hH.K d d' hs h _ _ _ h1⟩
 ·rintro d d' hs h w base ok x cs ⟨c0,c1,rfl,h0,h1⟩;exact ⟨c0,c1,rfl,hG.M d d' hs h _ _ _ _ _ h0,hH.M d d' hs h _ _ _ _ _ h1⟩
theorem Ez {α β γ:Type} {G:Kd α→Kd β} (f:γ→β) (hG:nO G):nO (fun d=>iso (G d) f):=
 ⟨hG.sz,fun d d' hs h w x cs=>hG.K d d' hs h w (f x) cs,fun d d' hs h w base ok x cs=>hG.M d d' hs h w base ok (f x) cs⟩
section
variable {α:Type} {F:Kd α→Kd α} {sz:Nat} {E:List Nat} {hs:∀n,(upto F sz E n).sz=sz} {hE:∀n q,q∈(upto F sz E n).E→q∈E}
theorem CS (hm:nO F) (hs:∀n,(upto F sz E n).sz=sz):∀n {w x cs},(upto F sz E n).K w x cs→(upto F sz E (n+1)).K w x cs
 |0,_,_,_,h=>h.elim
 |n+1,_,_,_,h=>hm.K _ _ (by rw [hs n,hs (n+1)]) (fun _ _ _ hk=>CS hm hs n hk) _ _ _ h
theorem tT (hm:nO F) (hs:∀n,(upto F sz E n).sz=sz) {n m:Nat} (hnm:n≤m) {w x cs} (h:(upto F sz E n).K w x cs):(upto F sz E m).K w x cs:=by
 obtain ⟨j,rfl⟩:=Nat.exists_eq_add_of_le hnm
 induction j with
 |zero=>exact h
 |succ j ih=>exact CS hm hs _ (ih (by omega))
theorem Hf {n:Nat} {w:World} {A:Option Addr} {m:Nat} {xs:List α} (h:(upto F sz E n).C w A m xs):(fix F sz E hs hE).C w A m xs:=Eb (d' :=fix F sz E hs hE) (hs n) (fun w x cs hp=>(⟨n,hp⟩:∃n,(upto F sz E n).K w x cs)) h
theorem bounded {P:Nat→Nat→Prop} (hP:∀n m j,n≤m→P n j→P m j):∀m,(∀j,j< m→∃n,P n j)→∃N,∀j,j< m→P N j
 |0,_=>⟨0,fun j hj=>absurd hj (Nat.not_lt_zero j)⟩
 |m+1,h=>by
  obtain ⟨N,hN⟩:=bounded hP m (fun j hj=>h j (by omega));obtain ⟨n,hn⟩:=h m (by omega);refine ⟨max N n,fun j hj=> ?_⟩;rcases Nat.lt_or_ge j m with hj' |hj'
  ·exact hP N _ j (Nat.le_max_left _ _) (hN j hj')
  ·have:j=m:=by omega
   subst this;exact hP n _ j (Nat.le_max_right _ _) hn
theorem qo (hm:nO F) {w:World} {A:Option Addr} {m:Nat} {xs:List α} (h:(fix F sz E hs hE).C w A m xs):∃n,(upto F sz E n).C w A m xs:=by
 rcases Nat.eq_zero_or_pos m with hz|hpos
 ·subst hz;exact ⟨0,h.1,h.2.1,fun hp=>absurd hp (Nat.lt_irrefl 0)⟩
 ·obtain ⟨ad,e,hc⟩:=h.2.2 hpos
  obtain ⟨N,hN⟩:=bounded (P:=fun n j=>∀p,xs[j]? =some p→∃c,c.length=sz∧(upto F sz E n).K w p c∧∀i u,c[i]? =some u→w.cell? (ad.add (j * sz+i))=some u)
   (fun n n' j hnm hp p hj=>by
    obtain ⟨c,h1,h2,h3⟩:=hp p hj
    exact ⟨c,h1,tT hm hs hnm h2,h3⟩) xs.length
   (fun j hj=>by
    obtain ⟨c,h1,⟨n,h2⟩,h3⟩:=hc j _ (List.getElem?_eq_getElem hj);refine ⟨n,fun p hp=> ?_⟩;rw [List.getElem?_eq_getElem hj]at hp;injection hp with hp;rw [←hp]
    exact ⟨c,h1,h2,h3⟩)
  refine ⟨N,h.1,h.2.1,fun _=>⟨ad,e,fun j p hj=> ?_⟩⟩;rw [hs N];exact hN j (List.getElem?_eq_some_iff.1 hj).1 p hj
theorem tF (hm:nO F) (hs:∀n,(upto F sz E n).sz=sz) {n m:Nat} (hnm:n≤m) {w:World} {A:Option Addr} {l:Nat} {xs:List α} (h:(upto F sz E n).C w A l xs):(upto F sz E m).C w A l xs:=Eb (by rw [hs n,hs m]) (fun _ _ _ hp=>tT hm hs hnm hp) h
end
end Kd
/-! ### 25. What is held while another row is written: 'ok' says that its rows are none of that row's block -/
namespace Kd
end Kd
/-! ### 26. Words for a printer that takes every slice by its kind -/
namespace Kd
section
variable {α β:Type} {d:Kd α} {d' :Kd β} {e e' :Nat} {w w1 W:World} {base b b' :Nat} {ok ok' okv oku:Nat→Prop} {v u:Value} {xs:List α} {ys:List β}
theorem Jy (d:Kd α) (w:World):d.C w none ([]:List α).length []:=⟨rfl,by simp,fun h=>absurd h (Nat.lt_irrefl 0)⟩
end
/-! #### scalars -/
section
variable {w W:World} {A:Option Addr} {n:Nat}
variable {α:Type} {enc:α→Value} {h1:∀x,(enc x).oneCell' =true} {e base g cap:Nat} {ok:Nat→Prop} {xs:List α}
end
/-! #### events: a letter for what make and a literal leave -/
section
variable {P:Program} {ops:Array Oper} {rest:List Oper} {o:Oper} {a:Act} {Q:Exit→Act→World→Prop}
variable {α:Type}
end
end Kd
/-! ### 27. Cuts of a row of one's own: 'xs = xs[:n]' stays a row (Ee); 'xs = xs[k:]' is a row that begins inside its block (Kd.Q), append goes on it too -/
theorem Dj {w:World} {base n m c size:Nat} {e:TypeId} {A:Option Addr} {xs:List Value} (h:w.ownsRow base e size (.slice A n c) n xs) (hm:m≤n):w.ownsRow base e size (.slice A m c) m (xs.take (m * size)):=by
 obtain ⟨h1,h2⟩:=h;refine ⟨by rw [List.length_take,h1];exact Nat.min_eq_left (Nat.mul_le_mul_right _ hm), ?_⟩;rcases h2 with ⟨he,h0⟩|⟨g,cap,cur,he,hb,hh,hnc,hcm,hcs,ht⟩
 ·injection he with ha _ hc;subst ha;subst hc;exact .inl ⟨by rw [show m=0 by omega],by omega⟩
 ·injection he with ha _ hc;subst ha;subst hc;refine .inr ⟨g,c,cur,rfl,hb,hh,by omega,hcm,hcs, ?_⟩;rw [←ht,List.take_take,Nat.min_eq_left (Nat.mul_le_mul_right _ hm)]
section
variable {P:Program}
end
def JL (w:World) (base:Nat) (e:TypeId) (size:Nat) (v:Value) (n:Nat) (xs:List Value):Prop:=
 xs.length=n * size∧
 ((n=0∧∃A,v= .slice A 0 0∧∀a,A=some a→base≤a.block∧∃cur,w.heap[a.block]? =some (.cells cur e (0,0)))∨
  ∃g off cap cur,v= .slice (some ⟨g,off * size,none⟩) n cap∧base≤g∧w.heap[g]? =some (.cells cur e (0,0))∧n≤cap∧off+cap≤maxLen∧cur.size=(off+cap) * size∧(cur.toList.drop (off * size)).take (n * size)=xs)
section
variable {w w1:World} {base n size:Nat} {e:TypeId} {v:Value} {xs:List Value}
end
section
variable {P:Program}
end
/-! ### 28. The kinds' words for cuts: Ee; Q (a row that may begin inside its block) with all of R's movers -/
namespace Kd
theorem Bc {α:Type} {R:α→List Value→Prop} {size m:Nat} {ps:List α} {cs:List Value} (h:iW R size ps cs) (hm:m≤ps.length):iW R size (ps.take m) (cs.take (m * size)):=by
 refine ⟨by rw [List.length_take,List.length_take,h.1,Nat.min_eq_left hm,Nat.min_eq_left (Nat.mul_le_mul_right _ hm)],fun j p hj=> ?_⟩;rw [List.getElem?_take]at hj;split at hj
 ·rename_i hjm;have:=h.2 j p hj;have hle:j * size+size≤m * size:=by rw [←Nat.succ_mul];exact Nat.mul_le_mul_right _ hjm
  rw [List.drop_take,List.take_take,Nat.min_eq_left (by omega)];exact this
 ·cases hj
theorem Ee {α:Type} {d:Kd α} {e m n c:Nat} {w:World} {base:Nat} {ok:Nat→Prop} {A:Option Addr} {xs:List α} (h:d.R e w base ok (.slice A n c) xs) (hm:m≤xs.length):d.R e w base ok (.slice A m c) (xs.take m):=by
 obtain ⟨h0,inner,ho,hr⟩:=h
 have hn:n=xs.length:=by
  obtain ⟨A',c',he⟩:=AR ho;injection he
 subst hn
 have hb:∀x y:Nat,(Value.slice A x c).ownBlock=(Value.slice A y c).ownBlock:=by
  intro x y;cases A<;>rfl
 refine ⟨fun k hk=>h0 k (by rw [hb _ m];exact hk),inner.take (m * d.sz), ?_, ?_⟩
 ·rw [List.length_take,Nat.min_eq_left hm];exact Dj ho hm
 ·rw [hb m xs.length];exact Bc hr hm
def Q {α:Type} (d:Kd α) (e:Nat) (w:World) (base:Nat) (ok:Nat→Prop) (v:Value) (xs:List α):Prop:=
 (∀k,v.ownBlock=some k→ok k)∧∃inner,JL w base e d.sz v xs.length inner∧iW (d.M w base (fun k=>ok k∧some k≠v.ownBlock)) d.sz xs inner
section
variable {α:Type} {d:Kd α} {e:Nat} {w w1 W:World} {base:Nat} {ok ok' :Nat→Prop} {v:Value} {xs:List α}
end
section
variable {P:Program} {ops:Array Oper} {rest:List Oper} {o:Oper} {a:Act} {Q' :Exit→Act→World→Prop} {Kc:Act→World→Prop} {α:Type}
end
end Kd
/-! ### 29. Movers that ask of another row no more than they need: for R and for Q -/
namespace Kd
section
variable {α:Type} {d:Kd α} {e e' :Nat} {w w1 W:World} {base:Nat} {ok:Nat→Prop} {u v:Value} {xs:List α}
end
end Kd
/-! ### 30. Elements written: x[i] = T{..}, x[i].f = v, swaps, in a row of elements of any kind -/
namespace Kd
section
variable {α:Type} {d:Kd α} {e base g n cap:Nat} {ok okp:Nat→Prop} {W:World} {xs:List α}
end
end Kd
/-! ### 31. What came in, put into what is made: 'fixed d w0' (read in w0, whatever happens since), 'or_ a b', 'mix' (a slice that came in, or one that is made) -/
namespace Kd
def fixed {α:Type} (d:Kd α) (w0:World):Kd α where
 sz:=d.sz
 E:= []
 K:=fun _ x cs=>d.K w0 x cs
 M:=fun _ _ _ x cs=>d.K w0 x cs
 K_len:=d.K_len
 K_one:=d.K_one
 K_below:=fun _ h=>h
 K_of_M:=fun h=>h
 M_mono:=fun _ h=>h
 M_bound:=fun h=>h
 M_move:=fun _ h=>h
 M_lower:=fun _ h=>h
def or_ {α:Type} (a b:Kd α) (h:b.sz=a.sz):Kd α where
 sz:=a.sz
 E:=a.E++b.E
 K:=fun w x cs=>a.K w x cs∨b.K w x cs
 M:=fun w base ok x cs=>a.M w base ok x cs∨b.M w base ok x cs
 K_len:=fun hk=>hk.elim a.K_len (fun hk=>(b.K_len hk).trans h)
 K_one:=fun hk=>hk.elim a.K_one b.K_one
 K_below:=fun hb hk=>hk.imp (a.K_below hb) (b.K_below hb)
 K_of_M:=fun hk=>hk.imp a.K_of_M b.K_of_M
 M_mono:=fun hok hk=>hk.imp (a.M_mono hok) (b.M_mono hok)
 M_bound:=fun hk=>hk.imp
  (fun hk=>a.M_mono (fun _ ⟨h1,h2,h3,q,hq,hc⟩=>⟨h1,h2,h3,q,List.mem_append_left _ hq,hc⟩) (a.M_bound hk))
  (fun hk=>b.M_mono (fun _ ⟨h1,h2,h3,q,hq,hc⟩=>⟨h1,h2,h3,q,List.mem_append_right _ hq,hc⟩) (b.M_bound hk))
 M_move:=fun hm hk=>hk.imp (a.M_move hm) (b.M_move hm)
 M_lower:=fun hb hk=>hk.imp (a.M_lower hb) (b.M_lower hb)
section
variable {α:Type} {F:Kd α→Kd α} {sz:Nat} {E:List Nat} {hs:∀n,(upto F sz E n).sz=sz} {hE:∀n q,q∈(upto F sz E n).E→q∈E}
end
end Kd
/-! ### 32. A whole row appended, of elements of any kind; copy onto a row of scalars of one's own -/
namespace Kd
theorem wU {α:Type} {R:α→List Value→Prop} {size:Nat} {ps qs:List α} {cs ds:List Value} (h:iW R size ps cs) (h' :iW R size qs ds):iW R size (ps++qs) (cs++ds):=by
 refine ⟨by rw [List.length_append,List.length_append,h.1,h'.1,Nat.add_mul],fun j p hj=> ?_⟩;rcases Nat.lt_or_ge j ps.length with hlt|hge
 ·rw [List.getElem?_append_left hlt]at hj;have hle:j * size+size≤cs.length:=by rw [h.1,←Nat.succ_mul];exact Nat.mul_le_mul_right _ hlt
  rw [List.drop_append_of_le_length (by omega),List.take_append_of_le_length (by rw [List.length_drop];omega)];exact h.2 j p hj
 ·rw [List.getElem?_append_right hge]at hj;have h2:=h'.2 (j - ps.length) p hj;have hle:ps.length * size≤j * size:=Nat.mul_le_mul_right _ hge;rw [List.drop_append,List.drop_eq_nil_of_le (by rw [h.1];exact hle),List.nil_append,h.1,←Nat.sub_mul];exact h2
section
variable {P:Program} {ops:Array Oper} {rest:List Oper} {o:Oper} {a:Act} {Q:Exit→Act→World→Prop} {α:Type}
end
end Kd
/-! ### 33. A store into a row of one's own, as_ an event: no go_simp -/
namespace Kd
section
variable {P:Program} {ops:Array Oper} {rest:List Oper} {o:Oper} {a:Act} {Q:Exit→Act→World→Prop} {α:Type}
end
end Kd
/-! ### 34. Cuts that are only read, of any row -/
theorem add_add (a:Addr) (i j:Nat):(a.add i).add j=a.add (i+j):=by
 unfold Addr.add;by_cases h1:i=0<;>by_cases h2:j=0<;>simp [h1,h2,Nat.add_assoc]
namespace Kd
section
variable {α:Type} {k:Kd α} {w:World} {A:Option Addr} {xs:List α} {m c:Nat}
end
end Kd
section
variable {P:Program}
end
/-! ### 35. string(b), b read (a cut too) -/
/-! ### 6. What the printer adds -/
theorem gT.nil (W:World) (k:IntKind):gT W k none ([]:List Int).length []:=⟨rfl,by simp,fun h=>absurd h (Nat.lt_irrefl 0)⟩
theorem gT.drewN {W:World} {k:IntKind} {A:Option Addr} {n:Nat} {xs:List Int} (h:gT W k A n xs) (m:Nat):gT (W.drewN m) k A n xs:=h
theorem iJ.nil {α:Type} (enc:α→Value) (d:α) (W:World):iJ enc d W none ([]:List α).length []:=⟨rfl,by simp,fun h=>absurd h (Nat.lt_irrefl 0)⟩
theorem iJ.drewN {α:Type} {enc:α→Value} {d:α} {W:World} {A:Option Addr} {n:Nat} {xs:List α} (h:iJ enc d W A n xs) (m:Nat):iJ enc d (W.drewN m) A n xs:=h
namespace Kd
section
variable {α β:Type} {d:Kd α} {d' :Kd β} {e e' base base' n:Nat} {ok ok' :Nat→Prop} {w W w1 W1:World} {v u:Value} {xs:List α} {ys:List β} {A:Option Addr} {c:Nat}
end
section
variable {α:Type} {enc:α→Value} {h1:∀x,(enc x).oneCell' =true} {w W:World} {A:Option Addr} {n g:Nat} {xs:List α}
end
end Kd
namespace Kd
section
variable {α:Type} {d:Kd α} {e base g:Nat} {ok:Nat→Prop} {w w1:World} {v:Value} {xs:List α} {o:Obj}
end
end Kd
section
variable {P:Program} {ops:Array Oper} {rest:List Oper} {o:Oper} {a:Act} {Q:Exit→Act→World→Prop}
end
namespace Kd
section
variable {α:Type} {enc:α→Value} {h1:∀x,(enc x).oneCell' =true} {e base g n cap:Nat} {ok:Nat→Prop} {W:World} {xs:List α}
end
end Kd
section
variable {P:Program} {ops:Array Oper} {rest:List Oper} {o:Oper} {a:Act} {Q:Exit→Act→World→Prop}
end
namespace Kd
section
variable {α:Type} {enc:α→Value} {h1:∀x,(enc x).oneCell' =true} {e base g n cap:Nat} {ok:Nat→Prop} {W:World} {xs:List α}
end
end Kd
section
variable {P:Program} {ops:Array Oper} {rest:List Oper} {o:Oper} {a:Act} {Q:Exit→Act→World→Prop} {W:World}
end
/-! ### 36. Events as_ one step of a region that draws (for one_, two_, three_) -/
section
variable {P:Program} {ops:Array Oper} {o:Oper} {a:Act} {Q:Exit→Act→World→Prop} {Kc:Act→World→Prop}
namespace Kd
variable {α:Type}
end Kd
end
/-! ### 37. Results of any shape -/
inductive Dt (P:Program) (tmps:Array Value) (w:World):List ResultVar→List Value→Prop where
 |nil:Dt P tmps w [] []
 |tmp {u:Tmp} {rs:List ResultVar} {vs:List Value} (h:Dt P tmps w rs vs):Dt P tmps w (.tmp u::rs) (tmps.getD u undef::vs)
 |cell {p:Tmp} {ty:TypeId} {rs:List ResultVar} {vs:List Value} (g:Nat) (t:TypeId) (cs:Array Value) (fr:Nat×Nat) (d:TypeDesc)
   (hp:tmps.getD p undef= .pointer (some ⟨g,0,none⟩)) (hg:w.heap[g]? =some (.cells cs t fr))
   (hu:P.underlying ty=some d) (hd:(match d with| .struct _| .array _ _=>true|_=>false)=true) (hi:(P.info? ty).map (·.size)=some cs.size)
   (h:Dt P tmps w rs vs):Dt P tmps w (.cell p ty::rs) (.agg cs::vs)
section
variable {P:Program} {tmps:Array Value} {w:World}
end
/-! ### 38. 'out = append(out[:k], out[k+1:]...)': an element taken out of a row of one's own, in place -/
namespace Kd
section
variable {P:Program} {α:Type}
end
section
variable {P:Program} {ops:Array Oper} {rest:List Oper} {o:Oper} {a:Act} {Q:Exit→Act→World→Prop} {Kc:Act→World→Prop} {α:Type}
end
end Kd
end Go.Proofs.YtofaiocffifhfaaGreatW.PrintWords
end
section
namespace Go.Proofs.YtofaiocffifhfaaGreatB
open Go.RowKit Go.Proofs.YtofaiocffifhfaaGreatW.PrintWords
def Blk (w:World) (g:Nat) (cs:Array Value) (t:TypeId):Prop:=w.heap[g]? =some (.cells cs t (0,0))
theorem Blk.cell {w:World} {g:Nat} {cs:Array Value} {t:TypeId} (h:Blk w g cs t) (j:Nat):w.cell? ⟨g,j,none⟩=cs[j]? :=cell_of_row w g j cs t (0,0) h
theorem Blk.frozen {w:World} {g:Nat} {cs:Array Value} {t:TypeId} (h:Blk w g cs t) (j:Nat):w.frozen? ⟨g,j,none⟩=false:=frozen_of_row w g j cs t h
theorem Blk.lt {w:World} {g:Nat} {cs:Array Value} {t:TypeId} (h:Blk w g cs t):g< w.heap.size:=(Array.getElem?_eq_some_iff.1 h).1
theorem Blk.below {w w' :World} {g:Nat} {cs:Array Value} {t:TypeId} (h:Blk w g cs t) {B:Nat} (hb:Below B w w') (hB:g< B):Blk w' g cs t:=(hb.block g hB).trans h
theorem Blk.grown {w w' :World} {g:Nat} {cs:Array Value} {t:TypeId} (h:Blk w g cs t) {row:Option Nat} (hb:w.grownBy w' row) (hB:some g≠row):Blk w' g cs t:=(hb.block g h.lt hB).trans h
theorem Blk.new (w:World) (cs:Array Value) (t:TypeId):Blk (w.alloc (.cells cs t)) w.heap.size cs t:=heap_alloc_new w _
theorem Blk.alloc {w:World} {g:Nat} {cs:Array Value} {t:TypeId} (h:Blk w g cs t) (o:Obj):Blk (w.alloc o) g cs t:=(Below.heap_alloc w o g h.lt).trans h
theorem Blk.drew {w:World} {g:Nat} {cs:Array Value} {t:TypeId} (h:Blk w g cs t):Blk w.drew g cs t:=h
theorem Blk.set {w:World} {g:Nat} {cs:Array Value} {t:TypeId} (h:Blk w g cs t) (j:Nat) (v:Value):Blk (w.setCell ⟨g,j,none⟩ v) g (cs.setIfInBounds j v) t:=heap_setCell_same w g j cs t v h
theorem Blk.aJ {w:World} {g:Nat} {cs:Array Value} {t:TypeId} (h:Blk w g cs t) (a:Addr) (v:Value) (hne:g≠a.block):Blk (w.setCell a v) g cs t:=(Below.heap_setCell w a v g hne).trans h
theorem aL {w w1:World} (h:Below w.heap.size w w1) (row:Option Nat):w.grownBy w1 row:=⟨h.os,h.tape,h.output,h.size,fun i hi _=>h.block i hi⟩
def RdI (w:World) (k:IntKind) (A:Option Addr) (xs:List Int):Prop:=
 xs.length≤140737488351232∧(0< xs.length→∃b o,A=some ⟨b,o,none⟩∧∀j x,xs[j]? =some x→w.cell? ⟨b,o+j,none⟩=some (.int k x))
theorem RdI.get {w:World} {k:IntKind} {A:Option Addr} {xs:List Int} (h:RdI w k A xs) (i:Nat) (hi:i< xs.length):
  ∃b o x,A=some ⟨b,o,none⟩∧w.cell? ⟨b,o+i,none⟩=some (.int k x)∧Hid (xs[i]? =some x):=by
 obtain ⟨b,o,e,hc⟩:=h.2 (by omega);exact ⟨b,o,xs[i],e,hc i _ (List.getElem?_eq_getElem hi),List.getElem?_eq_getElem hi⟩
theorem RdI.below {w w1:World} {k:IntKind} {A:Option Addr} {xs:List Int} (h:RdI w k A xs) (hb:Below w.heap.size w w1):RdI w1 k A xs:=
 ⟨h.1,fun hn=>by
  obtain ⟨b,o,e,hc⟩:=h.2 hn
  exact ⟨b,o,e,fun j x hj=>aB hb (hc j x hj)⟩⟩
theorem jU {α:Type} {p:α→Prop} {xs:List α} {j:Nat} {x:α} (h:∀y∈xs.take j,p y) (hx:xs[j]? =some x) (hp:p x):∀y∈xs.take (j+1),p y:=by
 intro y hy;rw [List.take_add_one,hx]at hy;rcases List.mem_append.1 hy with hy|hy
 ·exact h y hy
 ·simp at hy;rw [hy];exact hp
theorem Cy {P:Program} (t e:TypeId) (kl:IntKind) (sz:Nat) (ht:P.underlying t=some (.slice e)) (hs:(P.info? e).map (·.size)=some sz) (A:Option Addr) (n c m:Nat) (hm:m≤n):
  ∃A' :Option Addr,(∀W:World,(Instr.slice t (.slice A n c) (some (.int kl (m:Int))) none none).run P W= .ok (.slice A' (n - m) (c - m)) W)∧(m≠c→A' =A.map (·.add (m * sz))):=by
 cases hq:P.info? e with
 |none=>simp [hq]at hs
 |some i=>
  have hsz:i.size=sz:=by simpa [hq] using hs
  refine ⟨if c=m then A else A.map (·.add (m * sz)),fun W=> ?_,fun h=>by rw [if_neg (fun e=>h e.symm)]⟩;have hel:P.elem t=e:=by simp [Program.elem,ht]
  have hu:P.underlying t=some (.slice (P.elem t)):=by rw [hel];exact ht
  rw [run_slice_l W t A n c hu kl (m:Int) (Int.natCast_nonneg _) (by omega),hel];simp [sizeOf,typeInfo,hq,hsz,sliced,Result.andThen]
theorem BR {P:Program} (t e:TypeId) (kl kh:IntKind) (sz:Nat) (ht:P.underlying t=some (.slice e)) (hs:(P.info? e).map (·.size)=some sz) (A:Option Addr) (n c m k:Nat) (hm:m≤k) (hk:k≤c):
  ∃A' :Option Addr,(∀W:World,(Instr.slice t (.slice A n c) (some (.int kl (m:Int))) (some (.int kh (k:Int))) none).run P W= .ok (.slice A' (k - m) (c - m)) W)∧(m≠c→A' =A.map (·.add (m * sz))):=by
 cases hq:P.info? e with
 |none=>simp [hq]at hs
 |some i=>
  have hsz:i.size=sz:=by simpa [hq] using hs
  refine ⟨if c=m then A else A.map (·.add (m * sz)),fun W=> ?_,fun h=>by rw [if_neg (fun e=>h e.symm)]⟩;have hel:P.elem t=e:=by simp [Program.elem,ht]
  have hu:P.underlying t=some (.slice (P.elem t)):=by rw [hel];exact ht
  rw [run_slice_lh W t A n c hu kl kh (m:Int) (k:Int) (Int.natCast_nonneg _) (by omega) (by omega),hel];simp [sizeOf,typeInfo,hq,hsz,sliced,Result.andThen]
theorem Eo {α:Type} (l:List α):(l.map (fun _=>1)).sum=l.length:=by
 induction l with
 |nil=>rfl
 |cons a l ih=>simp [ih];omega
theorem lC {P:Program} {W:World} (base:Nat) (t e ty:TypeId) (z:Value) (sz bytes:Nat)
  (ht:P.underlying t=some (.slice e)) (hinfo:(P.info? e).map (fun i=>(i.zero,i.size,i.bytes))=some (some z,sz,bytes)) (hz:z.cells.size=sz) (hs0:0< sz) (hb0:0< bytes)
  (v:Value) (n:Nat) (xs news:List Value) (A:Option Addr) (m c:Nat) (HO:W.ownsRow base e sz v n xs) (hl:news.length=m * sz) (hsrc:0< m→∃ad,A=some ad∧∀j u,news[j]? =some u→W.cell? (ad.add j)=some u)
  (h1:∀u∈news,u.oneCell' =true) (hbase:base≤W.heap.size) (hle:(n+m) * bytes≤140737488355328):
  ∃v1 w1,(Builtin.append_ #[t,t] ty #[v, .slice A m c]).run P W= .ok v1 w1∧w1.ownsRow base e sz v1 (n+m) (xs++news)∧W.grownBy w1 v.ownBlock∧(v1.ownBlock=v.ownBlock∨v1.ownBlock=some W.heap.size):=by
 obtain ⟨i0,hi,hzz⟩:=Option.map_eq_some_iff.1 hinfo;simp only [Prod.mk.injEq]at hzz;obtain ⟨hz0,hz1,hz2⟩:=hzz;have hlen:n+m≤140737488355328:=Nat.le_trans (Nat.le_mul_of_pos_right _ hb0) hle;rcases A with _|ad
 ·have h0:m=0:=by
   rcases Nat.eq_zero_or_pos m with h0|h0
   ·exact h0
   ·obtain ⟨ad,h,_⟩:=hsrc h0;cases h
  subst h0;obtain rfl:news= []:=List.eq_nil_of_length_eq_zero (by rw [hl,Nat.zero_mul]);refine ⟨v,W, ?_,by simpa using HO,World.grownBy.refl W _, .inl rfl⟩;rcases HO.2 with ⟨rfl,hn⟩|⟨g,cap,cur,rfl,_,_,hnc,_⟩
  ·simp [Builtin.append_,run_underlying ht,sizeOf,typeInfo,hi,Builtin.lenOf,Builtin.firstCells]
  ·simp [Builtin.append_,run_underlying ht,sizeOf,typeInfo,hi,Builtin.lenOf,Builtin.firstCells,hnc,storeCells]
 ·have hnews:∀j u,news[j]? =some u→W.cell? (ad.add j)=some u:=by
   intro j u hu;rcases Nat.eq_zero_or_pos m with h0|h0
   ·subst h0;have hnil:news= []:=List.eq_nil_of_length_eq_zero (by rw [hl,Nat.zero_mul]);rw [hnil]at hu;simp at hu
   ·obtain ⟨ad',h',hc⟩:=hsrc h0;injection h' with h';subst h';exact hc j u hu
  obtain ⟨v1,w1,hr,h2,h3,_,h5⟩:=run_append_own_at (P:=P) W base t ty e i0 z sz bytes ht hi hz0 hz1 hz2 hz hs0 v n xs HO ad m c news hl hnews h1 (by simp only [maxLen];omega) hle hbase;exact ⟨v1,w1,hr,h2,h3,h5⟩
section
variable {P:Program} {ops:Array Oper} {rest:List Oper} {o:Oper} {a:Act} {Q:Exit→Act→World→Prop} {Kc:Act→World→Prop} {W:World}
theorem nQ (base:Nat) (hgd:o.guard=none) (s x:Operand) (t e:TypeId) (z:Value) (sz bytes:Nat)
  (ho:o.op= .call {callee:= .builtin .append,args:=#[s,x],argTypes:=#[t,t]})
  (ht:P.underlying t=some (.slice e)) (hinfo:(P.info? e).map (fun i=>(i.zero,i.size,i.bytes))=some (some z,sz,bytes)) (hz:z.cells.size=sz) (hs0:0< sz) (hb0:0< bytes)
  (v:Value) (n:Nat) (xs news:List Value) (A:Option Addr) (m c:Nat) (hs:a.eval s=v) (hx:a.eval x= .slice A m c) (HO:W.ownsRow base e sz v n xs) (hl:news.length=m * sz) (hsrc:0< m→∃ad,A=some ad∧∀j u,news[j]? =some u→W.cell? (ad.add j)=some u)
  (h1:∀u∈news,u.oneCell' =true) (hbase:base≤W.heap.size) (hle:(n+m) * bytes≤140737488355328)
  (h:∀v1 w1,w1.ownsRow base e sz v1 (n+m) (xs++news)→W.grownBy w1 v.ownBlock→(v1.ownBlock=v.ownBlock∨v1.ownBlock=some W.heap.size)→wpList P ops Q rest (a.put o.dst v1) w1):
  wpList P ops Q (o::rest) a W:=by
 obtain ⟨v1,w1,hr,h2,h3,h5⟩:=lC (P:=P) base t e o.type z sz bytes ht hinfo hz hs0 hb0 v n xs news A m c HO hl hsrc h1 hbase hle;refine wpList_plain hgd fun K hK=> ?_
 unfold Oper.wp execOp;simp only [ho,resolve,invoke,builtin,Sem.run_bind,Sem.run_pure,Result.andThen_ok,List.map_toArray,List.map_cons,List.map_nil,hs,hx,hr];exact hK _ _ (h v1 w1 h2 h3 h5)
end
theorem RdI.src {w:World} {k:IntKind} {A:Option Addr} {xs:List Int} (h:RdI w k A xs):0< xs.length→∃ad,A=some ad∧∀j u,(nums k xs)[j]? =some u→w.cell? (ad.add j)=some u:=by
 intro hp;obtain ⟨b,o,rfl,hc⟩:=h.2 hp;refine ⟨_,rfl,fun j u hu=> ?_⟩;simp only [nums,List.getElem?_map,Option.map_eq_some_iff]at hu;obtain ⟨x,hx,rfl⟩:=hu;rw [show (⟨b,o,none⟩:Addr).add j=⟨b,o+j,none⟩from by unfold Addr.add;split<;>simp_all];exact hc j x hx
theorem Dz (k:IntKind) (xs:List Int):∀u∈nums k xs,u.oneCell' =true:=by
 intro u hu;simp only [nums,List.mem_map]at hu;obtain ⟨q,_,rfl⟩:=hu;rfl
theorem Gt {w:World} {base n:Nat} {e:TypeId} {k:IntKind} {v:Value} {xs:List Int} (h:w.ownsRow base e 1 v n (nums k xs)) (hl:n≤140737488351232):∃A c,v= .slice A n c∧xs.length=n∧RdI w k A xs:=by
 have hn:xs.length=n:=by have:=h.1;simp [nums]at this;exact this
 obtain ⟨h1,h2⟩:=h;rcases h2 with ⟨rfl,rfl⟩|⟨g,cap,cur,rfl,hg,hh,h3,h4,h5,h6⟩
 ·exact ⟨none,0,rfl,hn,by omega,fun hp=>absurd hp (by omega)⟩
 ·refine ⟨_,cap,rfl,hn,by omega,fun _=>⟨g,0,rfl,fun j x hj=> ?_⟩⟩;rw [Nat.zero_add,cell_of_row w g j cur e (0,0) hh];have hj2:(nums k xs)[j]? =some (.int k x):=by simp [nums,hj]
  rw [←h6,List.getElem?_take]at hj2;split at hj2
  ·simpa using hj2
  ·cases hj2
theorem FB {α:Type} (f:α→Nat) (l:List α) {x:α} (h:x∈l):f x≤(l.map f).sum:=by
 induction l with
 |nil=>cases h
 |cons a l ih=>
  rw [List.map_cons,List.sum_cons];rcases List.mem_cons.1 h with rfl|h
  ·omega
  ·have:=ih h;omega
theorem GR {α:Type} (f:α→Nat) (l:List α) (h:∀x,1≤f x):l.length≤(l.map f).sum:=by
 induction l with
 |nil=>exact Nat.zero_le _
 |cons a l ih=>
  rw [List.map_cons,List.sum_cons,List.length_cons];have:=h a;omega
end Go.Proofs.YtofaiocffifhfaaGreatB
end
section
namespace Go.Proofs.YtofaiocffifhfaaGreatB
open Go.RowKit Go.Proofs.YtofaiocffifhfaaGreatW.PrintWords Go.Proofs.YtofaiocffifhfaaGreat
def rng (k:IntKind):Kd Int where
 sz:=1
 E:= []
 K:=fun _ x cs=>cs= [.int k x]∧(Lit.int k x).wf=true
 M:=fun _ _ _ x cs=>cs= [.int k x]∧(Lit.int k x).wf=true
 K_len:=fun h=>by rw [h.1];rfl
 K_one:=fun h u hu=>by
  rw [h.1]at hu;rw [List.mem_singleton.1 hu];rfl
 K_below:=fun _ h=>h
 K_of_M:=fun h=>h
 M_mono:=fun _ h=>h
 M_bound:=fun h=>h
 M_move:=fun _ h=>h
 M_lower:=fun _ h=>h
def mZ:Kd Unit where
 sz:=0
 E:= []
 K:=fun _ _ cs=>cs= []
 M:=fun _ _ _ _ cs=>cs= []
 K_len:=fun h=>by rw [h];rfl
 K_one:=fun h u hu=>by rw [h]at hu;cases hu
 K_below:=fun _ h=>h
 K_of_M:=fun h=>h
 M_mono:=fun _ h=>h
 M_bound:=fun h=>h
 M_move:=fun _ h=>h
 M_lower:=fun _ h=>h
structure jR {α:Type} (P:Program) (t:TypeId) (d:Kd α) (bk:α→Nat) (n:Nat):Prop where
 size:P.cellsOf t=d.sz
 opens:∀{H:Type} (enc:TypeId×Value→H) (w:World) (base:Nat) (spare:Nat→Bool) (held:Bool) (fuel:Nat) (cs:List Value) (x:DataW H×List MemPlace),fuel≤n→
  DataW.trod enc P w base spare held fuel t cs=some x→∃a,d.K w a cs∧bk a≤Rows.uptoBulk x.1
section
variable {P:Program} {t e:TypeId}
theorem zG (k:IntKind) (ht:P.underlying t=some (.int k)) (hs:P.cellsOf t=1) (n:Nat):jR P t (rng k) (fun _=>1) n:=
 ⟨hs,fun enc w base spare held fuel cs x _ h=>by
  obtain ⟨a,rfl,rfl,hw⟩:=DataW.trod_int ht h
  exact ⟨a,⟨rfl,hw⟩,by simp [Rows.uptoBulk]⟩⟩
theorem xy (ht:P.underlying t=some .bool) (hs:P.cellsOf t=1) (n:Nat):jR P t Kd.bool (fun _=>1) n:=
 ⟨hs,fun enc w base spare held fuel cs x _ h=>by
  obtain ⟨a,rfl,rfl⟩:=DataW.trod_bool ht h
  exact ⟨a,rfl,by simp [Rows.uptoBulk]⟩⟩
theorem uZ {H:Type}:∀(l:List (DataW H)) (f:Nat→Nat),(∀i d,l[i]? =some d→f i≤Rows.uptoBulk d)→((List.range l.length).map f).sum≤Rows.uptoBulkAll l
 | [],_,_=>by simp
 |d::r,f,h=>by
  have h0:=h 0 d rfl;have ih:=uZ r (fun i=>f (i+1)) (fun i d hd=>h (i+1) d (by simpa using hd));rw [List.length_cons,List.range_succ_eq_map,List.map_cons,List.sum_cons,List.map_map];simp only [Rows.uptoBulkAll];have:((List.range r.length).map (f∘Nat.succ)).sum=((List.range r.length).map (fun i=>f (i+1))).sum:=rfl;omega
theorem wE {α:Type} [Inhabited α] {d:Kd α} {bk:α→Nat} {n:Nat} (ht:P.underlying t=some (.slice e)) (hs:P.cellsOf t=1) (hd:jR P e d bk n):jR P t (Kd.slice e d) (fun xs=>(xs.map bk).sum+1) (n+1):=
 ⟨hs,fun {H} enc w base spare held fuel cs x hle h=>by
  rcases DataW.trod_slice ht h with ⟨rfl,rfl⟩|⟨a,len,cap,elems,rest,m,rfl,rfl,rfl,hb,hl,hm,hlen,hel,hsp,hns⟩
  ·exact ⟨[],⟨none,0,rfl,Nat.le_refl _,rfl,by simp,fun h=>absurd h (Nat.lt_irrefl 0)⟩,by simp [Rows.uptoBulk]⟩
  ·have hall:∀i,i< len→∃y:α,∃cs',cs'.length=d.sz∧d.K w y cs' ∧(∀j u,cs'[j]? =some u→w.cell? (a.add (i * d.sz+j))=some u)∧∃z,elems[i]? =some z∧bk y≤Rows.uptoBulk z.1:=by
    intro i hi;have hi' :i< elems.length:=by omega
    have he:=hel i hi;rw [List.getElem?_eq_getElem hi']at he;obtain ⟨cs',h1,h2⟩:=Option.bind_eq_some_iff.1 he;obtain ⟨_,hl1,hc⟩:=World.cells?_some h1;obtain ⟨y,hy,hbk⟩:=hd.opens enc w base spare held m cs' _ (by omega) h2;refine ⟨y,cs',by rw [hl1,hd.size],hy,fun j u hu=> ?_,_,List.getElem?_eq_getElem hi',hbk⟩
    have hj:j< cs'.length:=by
     rcases Nat.lt_or_ge j cs'.length with hj|hj
     ·exact hj
     ·rw [List.getElem?_eq_none hj]at hu;cases hu
    have:=hc j (by omega);rw [Go.Deep.add_add,hd.size]at this;rw [this,hu]
   obtain ⟨f,hf⟩:=Go.Deep.choose_lt hall;refine ⟨(List.range len).map f,⟨some a,cap,by simp,by simpa using hl, ?_⟩, ?_⟩
   ·refine ⟨rfl,by simp only [List.length_map,List.length_range,maxLen]at hm ⊢;omega,fun _=>⟨a,rfl,fun j p hp=> ?_⟩⟩
    have hj:j< len:=by
     rcases Nat.lt_or_ge j len with hj|hj
     ·exact hj
     ·rw [List.getElem?_eq_none (by simpa using hj)]at hp;cases hp
    have hpe:p=f j:=by simp [hj]at hp;exact hp.symm
    subst hpe;obtain ⟨cs',h1,h2,h3,_⟩:=hf j hj;exact ⟨cs',h1,h2,h3⟩
   ·have hb2:=uZ (elems.map (·.1)) (fun i=>bk (f i)) (fun i z hz=>by
     rw [List.getElem?_map]at hz;obtain ⟨z',hz',rfl⟩:=Option.map_eq_some_iff.1 hz
     have hi:i< len:=by
      rcases Nat.lt_or_ge i elems.length with hj|hj
      ·omega
      ·rw [List.getElem?_eq_none hj]at hz';cases hz'
     obtain ⟨_,_,_,_,z2,hz2,hbk⟩:=hf i hi;rw [hz']at hz2;injection hz2 with hz2;subst hz2
     exact hbk)
    rw [List.length_map,hlen]at hb2;simp only [Rows.uptoBulk,List.map_map];have:((List.range len).map (bk∘f)).sum=((List.range len).map (fun i=>bk (f i))).sum:=rfl
    omega⟩
structure JC {α:Type} (P:Program) (fs:List Field) (off:Nat) (d:Kd α) (bk:α→Nat) (n:Nat):Prop where
 opens:∀{H:Type} (enc:TypeId×Value→H) (w:World) (base:Nat) (spare:Nat→Bool) (held:Bool) (fuel:Nat) (cs:List Value) (xs:List (DataW H×List MemPlace)),fuel≤n→cs.length=off+d.sz→xs.length=fs.length→
  (∀(i:Nat) (f:Field),fs[i]? =some f→DataW.trod enc P w base spare held fuel f.type ((cs.drop f.offset).take (P.cellsOf f.type))=xs[i]?)→∃a,d.K w a (cs.drop off)∧bk a≤Rows.uptoBulkAll (xs.map (·.1))
theorem Cn {α:Type} {d:Kd α} {bk bk' :α→Nat} {n:Nat} (h:jR P t d bk n) (hb:∀a,bk' a≤bk a):jR P t d bk' n:=
 ⟨h.size,fun enc w base spare held fuel cs x hle hx=>by
  obtain ⟨a,ha,hb'⟩:=h.opens enc w base spare held fuel cs x hle hx
  exact ⟨a,ha,by have:=hb a;omega⟩⟩
end
theorem wB {α:Type} {d:Kd α} {w:World} {A:Option Addr} {xs:List α} (h:d.C w A xs.length xs) (h1:0< d.sz) (i:Nat) (hi:i< xs.length):
  ∃b o x cs,A=some ⟨b,o,none⟩∧Hid (xs[i]? =some x)∧d.K w x cs∧∀j u,cs[j]? =some u→w.cell? ⟨b,o+i * d.sz+j,none⟩=some u:=by
 obtain ⟨ad,e,hc⟩:=h.2.2 (by omega);obtain ⟨cs,hl,hk,hcell⟩:=hc i _ (List.getElem?_eq_getElem hi);obtain ⟨cs0,hl0,_,hcell0⟩:=hc 0 _ (List.getElem?_eq_getElem (by omega));have h0:=hcell0 0 _ (List.getElem?_eq_getElem (by omega));obtain ⟨b,o,s⟩:=ad
 have hs:s=none:=by
  cases s with
  |none=>rfl
  |some s=>
   exfalso;rw [show 0 * d.sz+0=0 from by omega,Addr.add_zero']at h0;unfold World.cell? at h0;split at h0<;>simp_all
 subst hs;refine ⟨b,o,xs[i],cs,e,List.getElem?_eq_getElem hi,hk,fun j u hu=> ?_⟩;have:=hcell j u hu
 rwa [show (⟨b,o,none⟩:Addr).add (i * d.sz+j)=⟨b,o+i * d.sz+j,none⟩from by unfold Addr.add;split<;>simp_all [Nat.add_assoc]]at this
theorem kM {w:World} {k:IntKind} {A:Option Addr} {xs:List Int} (h:(rng k).C w A xs.length xs) (hl:xs.length≤140737488351232):RdI w k A xs:=by
 refine ⟨hl,fun hp=> ?_⟩;obtain ⟨b,o,x,cs,rfl,hx,⟨rfl,_⟩,hc⟩:=wB h Nat.one_pos 0 hp;refine ⟨b,o,rfl,fun j y hj=> ?_⟩;have hj' :j< xs.length:=(List.getElem?_eq_some_iff.1 hj).1;obtain ⟨b',o',y',cs',e,hy,⟨rfl,_⟩,hc'⟩:=wB h Nat.one_pos j hj';injection e with e;injection e with e1 e2;subst e1 e2;rw [hy.out]at hj;injection hj with hj;subst hj;have:=hc' 0 _ rfl;simpa [rng] using this
theorem Jk {w:World} {k:IntKind} {A:Option Addr} {xs:List Int} (h:(rng k).C w A xs.length xs):∀x∈xs,(Lit.int k x).wf=true:=by
 intro x hx;obtain ⟨i,hi,rfl⟩:=List.getElem_of_mem hx;obtain ⟨b,o,y,cs,_,hy,⟨_,hw⟩,_⟩:=wB h Nat.one_pos i hi;have:=hy.out;rw [List.getElem?_eq_getElem hi]at this;injection this with this;rw [this];exact hw
theorem sI {k:IntKind} {n:Int} (h:(Lit.int k n).wf=true):k.min≤n∧n≤k.max:=by simpa [Lit.wf] using h
end Go.Proofs.YtofaiocffifhfaaGreatB
end
section
namespace Go.Proofs.YtofaiocffifhfaaGreatB
open Go.RowKit Go.Proofs.YtofaiocffifhfaaGreatW.PrintWords Go.Proofs.YtofaiocffifhfaaGreat
inductive Ins where
 |mk (op ty a b bits:Int) (list:List Int) (th el:List Ins) (has:Bool)
instance:Inhabited Ins:=⟨.mk 0 0 0 0 0 [] [] [] false⟩
namespace Ins
def op:Ins→Int|mk o _ _ _ _ _ _ _ _=>o
def ty:Ins→Int|mk _ o _ _ _ _ _ _ _=>o
def a:Ins→Int|mk _ _ o _ _ _ _ _ _=>o
def b:Ins→Int|mk _ _ _ o _ _ _ _ _=>o
def bits:Ins→Int|mk _ _ _ _ o _ _ _ _=>o
def list:Ins→List Int|mk _ _ _ _ _ o _ _ _=>o
def th:Ins→List Ins|mk _ _ _ _ _ _ o _ _=>o
def el:Ins→List Ins|mk _ _ _ _ _ _ _ o _=>o
def has:Ins→Bool|mk _ _ _ _ _ _ _ _ o=>o
end Ins
abbrev JK:=Int×Int×Int×Int×Int×List Int×List Ins×List Ins×Bool×Unit
def Ht:Ins→JK| .mk o t a b n l th el h=>(o,t,a,b,n,l,th,el,h,())
mutual
def bkI:Ins→Nat| .mk _ _ _ _ _ l t e _=>1+l.length+bkL t+bkL e
def bkL:List Ins→Nat| []=>0|x::r=>bkI x+bkL r
end
theorem uN:∀l:List Ins,bkL l=(l.map bkI).sum
 | []=>by simp [bkL]
 |x::r=>by rw [bkL,uN r];simp
theorem Gz (x:Ins):1≤bkI x:=by cases x;rw [bkI];omega
theorem Gx {l:List Ins} {x:Ins} (h:x∈l):bkI x≤bkL l:=by rw [uN];exact FB bkI l h
theorem zf {l:List Ins} {i:Nat} {x:Ins} (h:l[i]? =some x):bkI x≤bkL l:=Gx (List.mem_of_getElem? h)
theorem zb (l:List Ins):l.length≤bkL l:=by rw [uN];exact GR bkI l Gz
theorem Ce (x:Ins):bkL x.th< bkI x:=by cases x;rw [bkI];simp only [Ins.th];omega
theorem Ea (x:Ins):bkL x.el< bkI x:=by cases x;rw [bkI];simp only [Ins.el];omega
theorem DV (x:Ins):x.list.length< bkI x:=by cases x;rw [bkI];simp only [Ins.list];omega
def Ai (tU tE:Nat) (d:Kd Ins):Kd Ins:=
 Kd.iso (Kd.pair (rng .i64) (Kd.pair (rng .u8) (Kd.pair (rng .u32) (Kd.pair (rng .u32) (Kd.pair (rng .u64) (Kd.pair (Kd.slice tU (rng .u32)) (Kd.pair (Kd.slice tE d) (Kd.pair (Kd.slice tE d) (Kd.pair Kd.bool mZ))))))))) Ht
theorem lD (tU tE:Nat) (n:Nat):(Kd.upto (Ai tU tE) 9 [tU,tE] n).sz=9:=by cases n<;>rfl
theorem qW (tU tE:Nat):∀(n q:Nat),q∈(Kd.upto (Ai tU tE) 9 [tU,tE] n).E→q∈ [tU,tE]
 |0,_,h=>h
 |n+1,q,h=>by
  have ih:=qW tU tE n q;have h' :q∈([]++([]++([]++([]++([]++((tU:: [])++((tE::(Kd.upto (Ai tU tE) 9 [tU,tE] n).E)++((tE::(Kd.upto (Ai tU tE) 9 [tU,tE] n).E)++([]++ []))))))))):=h;simp only [List.nil_append,List.append_nil,List.mem_append,List.mem_cons,List.mem_nil_iff,or_false]at h' ⊢;rcases h' with h' |(h' |h')|(h' |h')
  ·exact .inl h'
  ·exact .inr h'
  ·simpa using ih h'
  ·exact .inr h'
  ·simpa using ih h'
def lJ (tU tE:Nat):Kd Ins:=Kd.fix (Ai tU tE) 9 [tU,tE] (lD tU tE) (qW tU tE)
theorem mo (tU tE:Nat):Kd.nO (Ai tU tE):=
 Kd.Ez Ht (Kd.gB (Kd.fU _) (Kd.gB (Kd.fU _) (Kd.gB (Kd.fU _) (Kd.gB (Kd.fU _) (Kd.gB (Kd.fU _) (Kd.gB (Kd.fU _)
  (Kd.gB (Kd.qj tE Kd.yR) (Kd.gB (Kd.qj tE Kd.yR) (Kd.gB (Kd.fU _) (Kd.fU _))))))))))
theorem mK {tU tE:Nat} {w:World} {x:Ins} {cs:List Value} (h:(lJ tU tE).K w x cs):
  ∃AL cL AT cT AE cE,cs= [.int .i64 x.op, .int .u8 x.ty, .int .u32 x.a, .int .u32 x.b, .int .u64 x.bits, .slice AL x.list.length cL, .slice AT x.th.length cT, .slice AE x.el.length cE, .bool x.has]∧
   (Lit.int .i64 x.op).wf=true∧(Lit.int .u8 x.ty).wf=true∧(Lit.int .u32 x.a).wf=true∧(Lit.int .u32 x.b).wf=true∧(Lit.int .u64 x.bits).wf=true∧
   (rng .u32).C w AL x.list.length x.list∧(lJ tU tE).C w AT x.th.length x.th∧(lJ tU tE).C w AE x.el.length x.el∧x.list.length≤cL∧x.th.length≤cT∧x.el.length≤cE:=by
 obtain ⟨n,h⟩:=h
 cases n with
 |zero=>exact h.elim
 |succ n=>
  obtain ⟨op,ty,a,b,bits,list,th,el,has⟩:=x;obtain ⟨_,_,rfl,⟨rfl,h1⟩,_,_,rfl,⟨rfl,h2⟩,_,_,rfl,⟨rfl,h3⟩,_,_,rfl,⟨rfl,h4⟩,_,_,rfl,⟨rfl,h5⟩,_,_,rfl,⟨AL,cL,rfl,l1,hL⟩,_,_,rfl,⟨AT,cT,rfl,l2,hT⟩,_,_,rfl,⟨AE,cE,rfl,l3,hE⟩,_,_,rfl,rfl,rfl⟩:=h;exact ⟨AL,cL,AT,cT,AE,cE,rfl,h1,h2,h3,h4,h5,hL,Kd.Hf hT,Kd.Hf hE,l1,l2,l3⟩
end Go.Proofs.YtofaiocffifhfaaGreatB
end
section
namespace Go.Proofs.YtofaiocffifhfaaGreatB
open Go.RowKit Go.Proofs.YtofaiocffifhfaaGreatW.PrintWords
structure Agr (ok:Nat→Prop) (W W' :World):Prop where
 os:W'.os=W.os
 tape:W'.tape=W.tape
 output:W'.output=W.output
 size:W.heap.size≤W'.heap.size
 block:∀k,ok k→k< W.heap.size→W'.heap[k]? =W.heap[k]?
theorem Agr.of_below {W W' :World} {ok:Nat→Prop} (h:Below W.heap.size W W'):Agr ok W W' :=⟨h.os,h.tape,h.output,h.size,fun k _ hk=>h.block k hk⟩
theorem Agr.iP {W W' :World} {ok:Nat→Prop} {row:Option Nat} (h:W.grownBy W' row) (hok:∀k,ok k→some k≠row):Agr ok W W' :=⟨h.os,h.tape,h.output,h.size,fun k hk hlt=>h.block k hlt (hok k hk)⟩
theorem Agr.trans {W W1 W2:World} {ok:Nat→Prop} (h:Agr ok W W1) (h' :Agr ok W1 W2):Agr ok W W2:=
 ⟨h'.os.trans h.os,h'.tape.trans h.tape,h'.output.trans h.output,Nat.le_trans h.size h'.size,fun k hk hlt=>(h'.block k hk (Nat.lt_of_lt_of_le hlt h.size)).trans (h.block k hk hlt)⟩
def Ft (P:World→Prop) (W:World) (ok:Nat→Prop):Prop:=∀W' :World,Agr ok W W' →P W'
namespace Ft
variable {P Q:World→Prop} {W W1:World} {ok ok' :Nat→Prop}
theorem now (h:Ft P W ok):P W:=h W ⟨rfl,rfl,rfl,Nat.le_refl _,fun _ _ _=>rfl⟩
theorem bound (h:Ft P W ok) (hb:∀k,ok k→k< W.heap.size→ok' k):Ft P W ok' :=fun W' hW=>h W' ⟨hW.os,hW.tape,hW.output,hW.size,fun k hk hlt=>hW.block k (hb k hk hlt) hlt⟩
theorem mono (h:Ft P W ok) (hok:∀k,ok k→ok' k):Ft P W ok' :=h.bound (fun k hk _=>hok k hk)
theorem step (h:Ft P W ok) (ha:Agr ok W W1):Ft P W1 ok:=fun W' hW=>h W' (ha.trans hW)
theorem imp (h:Ft P W ok) (hi:∀W',P W' →Q W'):Ft Q W ok:=fun W' hW=>hi W' (h W' hW)
theorem and (h:Ft P W ok) (h' :Ft Q W ok):Ft (fun W=>P W∧Q W) W ok:=fun W' hW=>⟨h W' hW,h' W' hW⟩
theorem below (h:Ft P W ok) (hb:Below W.heap.size W W1):Ft P W1 ok:=h.step (Agr.of_below hb)
theorem grown (h:Ft P W ok) {row:Option Nat} (hg:W.grownBy W1 row) (hok:∀k,ok k→some k≠row):Ft P W1 ok:=h.step (Agr.iP hg hok)
theorem old (h:Ft P W ok) (hb:Below W.heap.size W W1):Ft P W1 (fun k=>ok k∧k< W.heap.size):=(h.bound (fun k hk hlt=>⟨hk,hlt⟩)).below hb
end Ft
def FC {α:Type} (d:Kd α) (W:World) (ok:Nat→Prop) (A:Option Addr) (xs:List α):Prop:=Ft (fun W=>d.C W A xs.length xs) W ok
def FK {α:Type} (d:Kd α) (W:World) (ok:Nat→Prop) (x:α) (cs:List Value):Prop:=Ft (fun W=>d.K W x cs) W ok
section
variable {α:Type} {d:Kd α} {W W1:World} {ok ok' :Nat→Prop} {A:Option Addr} {xs:List α} {x:α} {cs:List Value} {base e:Nat} {v v1:Value}
theorem FC.jM (h:d.C W A xs.length xs):FC d W (fun k=>k< W.heap.size) A xs:=fun W' hW=>Kd.nH h ⟨hW.os,hW.tape,hW.output,hW.size,fun k hk=>hW.block k hk hk⟩
theorem FK.jM (h:d.K W x cs):FK d W (fun k=>k< W.heap.size) x cs:=fun W' hW=>d.K_below ⟨hW.os,hW.tape,hW.output,hW.size,fun k hk=>hW.block k hk hk⟩ h
theorem FC.nil:FC d W ok none ([]:List α):=fun _ _=>Kd.Jy d _
theorem FC.at_ (h:FC d W ok A xs) (h1:0< d.sz) (i:Nat) (hi:i< xs.length):
  ∃b o x cs,A=some ⟨b,o,none⟩∧Hid (xs[i]? =some x)∧FK d W ok x cs∧∀j u,cs[j]? =some u→W.cell? ⟨b,o+i * d.sz+j,none⟩=some u:=by
 obtain ⟨b,o,x,cs,rfl,hx,hk,hc⟩:=wB h.now h1 i hi
 have hblt:b< W.heap.size:=by
  have h0:0< cs.length:=by rw [d.K_len hk];exact h1
  exact World.block_lt_of_cell? _ _ (hc 0 _ (List.getElem?_eq_getElem h0))
 -- the block of the row itself is ok:in a world without it the row could not be read
 have hok:ok b:=by
  apply Classical.byContradiction;intro hn
  have hW:Agr ok W {W with heap:=W.heap.set b (.cells #[] 0 (0,0))}:=⟨rfl,rfl,rfl,by simp,fun k hk hlt=>by
   have hne:b≠k:=fun e=>hn (e ▸ hk)
   simp [Array.getElem?_set,hne]⟩
  obtain ⟨b',o',x',cs',e,_,hk',hc'⟩:=wB (h _ hW) h1 i hi;injection e with e;injection e with e1 e2;subst e1 e2;have h0:0< cs'.length:=by rw [d.K_len hk'];exact h1
  have:=hc' 0 _ (List.getElem?_eq_getElem h0);simp [World.cell?,hblt]at this
 refine ⟨b,o,x,cs,rfl,hx,fun W' hW=> ?_,hc⟩;obtain ⟨b',o',x',cs',e,hx',hk',hc'⟩:=wB (h W' hW) h1 i hi;injection e with e;injection e with e1 e2;subst e1 e2
 obtain rfl:x=x' :=by
  have:=hx.out;rw [hx'.out]at this;injection this with this;exact this.symm
 have hcs:cs=cs' :=by
  apply List.ext_getElem?;intro j;by_cases hj:j< d.sz
  ·have l1:j< cs.length:=by rw [d.K_len hk];exact hj
   have l2:j< cs'.length:=by rw [d.K_len hk'];exact hj
   have a1:=hc j _ (List.getElem?_eq_getElem l1);have a2:=hc' j _ (List.getElem?_eq_getElem l2);have hb:=hW.block b hok hblt;have a3:W'.cell? ⟨b,o+i * d.sz+j,none⟩=W.cell? ⟨b,o+i * d.sz+j,none⟩:=by simp [World.cell?,hb]
   rw [a3,a1]at a2;rw [List.getElem?_eq_getElem l1,List.getElem?_eq_getElem l2];exact a2
  ·rw [List.getElem?_eq_none (by rw [d.K_len hk];omega),List.getElem?_eq_none (by rw [d.K_len hk'];omega)]
 rw [hcs];exact hk'
def Own (d:Kd α) (e:Nat) (W:World) (base:Nat) (ok:Nat→Prop) (v:Value) (xs:List α):Prop:=
 ∃inner,W.ownsRow base e d.sz v xs.length inner∧iW (fun x c=>FK d W (fun k=>ok k∧some k≠v.ownBlock) x c) d.sz xs inner
theorem Own.nil:Own d e W base ok (.slice none 0 0) []:=⟨[],yX _ _ _ _,iW.none _ _⟩
theorem Own.made {cur:Array Value} {c:Nat} (hs:cur.size=c * d.sz) (hc:c≤maxLen) (hb:base≤W.heap.size):Own d e (W.alloc (.cells cur e)) base ok (.slice (some ⟨W.heap.size,0,none⟩) 0 c) ([]:List α):=
 ⟨[],World.ownsRow_made W cur c hb hc hs,iW.none _ _⟩
theorem Own.below (h:Own d e W base ok v xs) (hb:Below W.heap.size W W1):Own d e W1 base ok v xs:=by
 obtain ⟨inner,ho,hr⟩:=h;exact ⟨inner,nP ho hb,hr.jV (fun _ _ hp=>Ft.below hp hb)⟩
theorem Own.grown (h:Own d e W base ok v xs) {row:Option Nat} (hg:W.grownBy W1 row) (hne:v.ownBlock=none∨v.ownBlock≠row) (hok:∀k,ok k→some k≠row):Own d e W1 base ok v xs:=by
 obtain ⟨inner,ho,hr⟩:=h;exact ⟨inner,ho.kept hg hne,hr.jV (fun _ _ hp=>Ft.grown hp hg (fun k hk=>hok k hk.1))⟩
theorem Own.mono (h:Own d e W base ok v xs) (hok:∀k,ok k→ok' k):Own d e W base ok' v xs:=by
 obtain ⟨inner,ho,hr⟩:=h;exact ⟨inner,ho,hr.jV (fun _ _ hp=>Ft.mono hp (fun k hk=>⟨hok k hk.1,hk.2⟩))⟩
theorem Own.block (h:Own d e W base ok v xs) {k:Nat} (hk:v.ownBlock=some k):base≤k∧k< W.heap.size:=by
 obtain ⟨inner,⟨h1,h2⟩,hr⟩:=h;rcases h2 with ⟨rfl,h0⟩|⟨g,cap,cur,rfl,hg,hh,h3,h4,h5,h6⟩
 ·cases hk
 ·injection hk with hk;subst hk;exact ⟨hg,(Array.getElem?_eq_some_iff.1 hh).1⟩
theorem Own.reads (h:Own d e W base ok v xs):∃A c,v= .slice A xs.length c∧xs.length≤c∧FC d W (fun k=>ok k∨base≤k) A xs:=by
 obtain ⟨inner,ho,hr⟩:=h;have ho' :=ho;obtain ⟨h1,h2⟩:=ho;rcases h2 with ⟨rfl,h0⟩|⟨g,cap,cur,rfl,hg,hh,h3,h4,h5,h6⟩
 ·obtain rfl:xs= []:=List.eq_nil_of_length_eq_zero h0;exact ⟨none,0,rfl,Nat.le_refl _,FC.nil⟩
 ·refine ⟨_,cap,rfl,h3,fun W' hW=>⟨rfl, ?_,fun hp=>⟨_,rfl,fun j p hj=> ?_⟩⟩⟩
  ·simp only [maxLen]at h4;omega
  ·have hjl:j< xs.length:=(List.getElem?_eq_some_iff.1 hj).1;have hk:=hr.2 j p hj;have hlt:g< W.heap.size:=(Array.getElem?_eq_some_iff.1 hh).1;have hg' :W'.heap[g]? =some (.cells cur e (0,0)):=(hW.block g (.inr hg) hlt).trans hh;have hkn:=hk W' ⟨hW.os,hW.tape,hW.output,hW.size,fun k hk hlt=>hW.block k (.inl hk.1) hlt⟩;refine ⟨_,d.K_len hkn,hkn,fun i u hu=> ?_⟩;rw [add_plain,cell_of_row W' g _ cur e (0,0) hg']
   have hi:i< d.sz:=by
    have:=(List.getElem?_eq_some_iff.1 hu).1;rw [d.K_len hkn]at this;exact this
   rw [List.getElem?_take,if_pos hi,List.getElem?_drop,←h6,List.getElem?_take]at hu;split at hu
   ·simpa using hu
   ·cases hu
end
section
variable {α:Type} {d:Kd α} {P:Program} {ops:Array Oper} {rest:List Oper} {o:Oper} {a:Act} {Q:Exit→Act→World→Prop} {W:World}
theorem Own.qQ (base:Nat) (t e ty:TypeId) (z:Value) (bytes:Nat)
  (ht:P.underlying t=some (.slice e)) (hinfo:(P.info? e).map (fun i=>(i.zero,i.size,i.bytes))=some (some z,d.sz,bytes)) (hz:z.cells.size=d.sz) (hs0:0< d.sz) (hb0:0< bytes)
  (v:Value) (xs:List α) (p:α) (cs:List Value) (ok:Nat→Prop) (hp:FK d W (fun k=>ok k∧some k≠v.ownBlock) p cs)
  (HO:Own d e W base ok v xs) (hbase:base≤W.heap.size) (hl:(xs.length+1) * bytes≤140737488355328):
  ∃v1 w1,(Builtin.append_ #[t,t] ty #[v, .slice (some ⟨W.heap.size,0,none⟩) 1 1]).run P (W.alloc (.cells cs.toArray e))= .ok v1 w1∧Own d e w1 base ok v1 (xs++ [p])∧W.grownBy w1 v.ownBlock∧(v1.ownBlock=v.ownBlock∨v1.ownBlock=some (W.heap.size+1)):=by
 obtain ⟨inner,hown,hr⟩:=HO;obtain ⟨i0,hi,hzz⟩:=Option.map_eq_some_iff.1 hinfo;simp only [Prod.mk.injEq]at hzz;obtain ⟨hz0,hz1,hz2⟩:=hzz;have hlen:xs.length+1≤140737488355328:=Nat.le_trans (Nat.le_mul_of_pos_right _ hb0) hl;have hcl:=d.K_len hp.now
 obtain ⟨v1,w1,hrun,hown1,hg,_,hat⟩:=run_append_own_at (P:=P) (W.alloc (.cells cs.toArray e)) base t ty e i0 z d.sz bytes ht hi hz0 hz1 hz2 hz hs0 v xs.length inner (hown.alloc _) ⟨W.heap.size,0,none⟩ 1 1 cs (by rw [hcl];simp)
  (by simpa using World.news_of_block (cs:=cs.toArray) (t:=e) (fr:=(0,0)) (heap_alloc_new W (.cells cs.toArray e))) (d.K_one hp.now) (by simp only [maxLen];omega) hl (by simp;omega)
 have hgW:W.grownBy w1 v.ownBlock:=World.grownBy.trans (World.grownBy_alloc W _ _) hg;refine ⟨v1,w1,hrun,⟨inner++cs,by simpa using hown1, ?_⟩,hgW, ?_⟩
 ·have hnew:∀k,k< W.heap.size→some k≠v.ownBlock→some k≠v1.ownBlock:=by
   intro k hk hne;rcases hat with hat|hat
   ·rw [hat];exact hne
   ·rw [hat];intro e;injection e with e;simp at e;omega
  have hmove:∀p c,FK d W (fun k=>ok k∧some k≠v.ownBlock) p c→FK d w1 (fun k=>ok k∧some k≠v1.ownBlock) p c:=fun p c hp=>
   Ft.grown (Ft.bound hp (fun k hk hlt=>(⟨⟨hk.1,hnew k hlt hk.2⟩,hk.2⟩:(ok k∧some k≠v1.ownBlock)∧some k≠v.ownBlock))) hgW (fun k hk=>hk.2) |>.mono (fun k hk=>hk.1)
  exact iW.snoc (hr.jV hmove) (hmove _ _ hp) hcl
 ·rcases hat with hat|hat
  ·exact .inl hat
  ·exact .inr (by simpa using hat)
theorem Own.append (base:Nat) (hgd:o.guard=none) (s x:Operand) (t e:TypeId) (z:Value) (bytes:Nat)
  (ho:o.op= .call {callee:= .builtin .append,args:=#[s,x],argTypes:=#[t,t]})
  (ht:P.underlying t=some (.slice e)) (hinfo:(P.info? e).map (fun i=>(i.zero,i.size,i.bytes))=some (some z,d.sz,bytes)) (hz:z.cells.size=d.sz) (hs0:0< d.sz) (hb0:0< bytes)
  (v:Value) (xs:List α) (p:α) (cs:List Value) (ok:Nat→Prop) (hs:a.eval s=v) (hx:a.eval x= .slice (some ⟨W.heap.size,0,none⟩) 1 1) (hp:FK d W (fun k=>ok k∧some k≠v.ownBlock) p cs)
  (HO:Own d e W base ok v xs) (hbase:base≤W.heap.size) (hl:(xs.length+1) * bytes≤140737488355328)
  (h:∀v1 w1,Own d e w1 base ok v1 (xs++ [p])→W.grownBy w1 v.ownBlock→(v1.ownBlock=v.ownBlock∨v1.ownBlock=some (W.heap.size+1))→wpList P ops Q rest (a.put o.dst v1) w1):
  wpList P ops Q (o::rest) a (W.alloc (.cells cs.toArray e)):=by
 obtain ⟨v1,w1,hr,h2,h3,h5⟩:=Own.qQ (P:=P) base t e o.type z bytes ht hinfo hz hs0 hb0 v xs p cs ok hp HO hbase hl;refine wpList_plain hgd fun K hK=> ?_
 unfold Oper.wp execOp;simp only [ho,resolve,invoke,builtin,Sem.run_bind,Sem.run_pure,Result.andThen_ok,List.map_toArray,List.map_cons,List.map_nil,hs,hx,hr];exact hK _ _ (h v1 w1 h2 h3 h5)
theorem Own.bY (base:Nat) {E:Prop} {Kc:Act→World→Prop} (hgd:o.guard=none) (s x:Operand) (t e:TypeId) (z:Value) (bytes:Nat)
  (ho:o.op= .call {callee:= .builtin .append,args:=#[s,x],argTypes:=#[t,t]})
  (ht:P.underlying t=some (.slice e)) (hinfo:(P.info? e).map (fun i=>(i.zero,i.size,i.bytes))=some (some z,d.sz,bytes)) (hz:z.cells.size=d.sz) (hs0:0< d.sz) (hb0:0< bytes)
  (v:Value) (xs:List α) (p:α) (cs:List Value) (ok:Nat→Prop) (hs:a.eval s=v) (hx:a.eval x= .slice (some ⟨W.heap.size,0,none⟩) 1 1) (hp:FK d W (fun k=>ok k∧some k≠v.ownBlock) p cs)
  (HO:Own d e W base ok v xs) (hbase:base≤W.heap.size) (hl:(xs.length+1) * bytes≤140737488355328)
  (h:∀v1 w1,Own d e w1 base ok v1 (xs++ [p])→W.grownBy w1 v.ownBlock→(v1.ownBlock=v.ownBlock∨v1.ownBlock=some (W.heap.size+1))→Kc (a.put o.dst v1) w1):
  if Region.wanted o (yielded ops a.tmps)=true then Oper.wp P o a (W.alloc (.cells cs.toArray e)) Kc Q else E:=by
 have hw:Region.wanted o (yielded ops a.tmps)=true:=by simp [Region.wanted,hgd]
 rw [if_pos hw];obtain ⟨v1,w1,hr,h2,h3,h5⟩:=Own.qQ (P:=P) base t e o.type z bytes ht hinfo hz hs0 hb0 v xs p cs ok hp HO hbase hl;unfold Oper.wp execOp;simp only [ho,resolve,invoke,builtin,Sem.run_bind,Sem.run_pure,Result.andThen_ok,List.map_toArray,List.map_cons,List.map_nil,hs,hx,hr];exact h v1 w1 h2 h3 h5
end
theorem tJ {tU tE:Nat} {w:World} {ok:Nat→Prop} {x:Ins} {cs:List Value} (h:FK (lJ tU tE) w ok x cs):
  ∃AL cL AT cT AE cE,cs= [.int .i64 x.op, .int .u8 x.ty, .int .u32 x.a, .int .u32 x.b, .int .u64 x.bits, .slice AL x.list.length cL, .slice AT x.th.length cT, .slice AE x.el.length cE, .bool x.has]∧
   (Lit.int .i64 x.op).wf=true∧(Lit.int .u8 x.ty).wf=true∧(Lit.int .u32 x.a).wf=true∧(Lit.int .u32 x.b).wf=true∧(Lit.int .u64 x.bits).wf=true∧
   FC (rng .u32) w ok AL x.list∧FC (lJ tU tE) w ok AT x.th∧FC (lJ tU tE) w ok AE x.el∧x.list.length≤cL∧x.th.length≤cT∧x.el.length≤cE:=by
 obtain ⟨AL,cL,AT,cT,AE,cE,rfl,h1,h2,h3,h4,h5,_,_,_,l1,l2,l3⟩:=mK h.now;refine ⟨AL,cL,AT,cT,AE,cE,rfl,h1,h2,h3,h4,h5,fun W' hW=> ?_,fun W' hW=> ?_,fun W' hW=> ?_,l1,l2,l3⟩
 all_goals
  obtain ⟨AL',cL',AT',cT',AE',cE',e,_,_,_,_,_,a,b,c,_⟩:=mK (h W' hW);simp only [List.cons.injEq,Value.slice.injEq,and_true,true_and]at e;obtain ⟨⟨rfl,_⟩,⟨rfl,_⟩,rfl,_⟩:=e;assumption
theorem il {tU tE:Nat} {w:World} {ok:Nat→Prop} {x:Ins} {AL AT AE:Option Addr} {cL cT cE:Nat} (h1:(Lit.int .i64 x.op).wf=true) (h2:(Lit.int .u8 x.ty).wf=true) (h3:(Lit.int .u32 x.a).wf=true) (h4:(Lit.int .u32 x.b).wf=true) (h5:(Lit.int .u64 x.bits).wf=true)
  (hL:FC (rng .u32) w ok AL x.list) (hT:FC (lJ tU tE) w ok AT x.th) (hE:FC (lJ tU tE) w ok AE x.el) (l1:x.list.length≤cL) (l2:x.th.length≤cT) (l3:x.el.length≤cE):
  FK (lJ tU tE) w ok x [.int .i64 x.op, .int .u8 x.ty, .int .u32 x.a, .int .u32 x.b, .int .u64 x.bits, .slice AL x.list.length cL, .slice AT x.th.length cT, .slice AE x.el.length cE, .bool x.has]:=fun W' hW=>by
 obtain ⟨n,hn⟩:=Kd.qo (mo tU tE) (hT W' hW);obtain ⟨m,hm⟩:=Kd.qo (mo tU tE) (hE W' hW);have hn' :=Kd.tF (mo tU tE) (lD tU tE) (Nat.le_max_left n m) hn;have hm' :=Kd.tF (mo tU tE) (lD tU tE) (Nat.le_max_right n m) hm;have hL' :=hL W' hW;obtain ⟨op,ty,a,b,bits,list,th,el,has⟩:=x;exact ⟨max n m+1,_,_,rfl,⟨rfl,h1⟩,_,_,rfl,⟨rfl,h2⟩,_,_,rfl,⟨rfl,h3⟩,_,_,rfl,⟨rfl,h4⟩,_,_,rfl,⟨rfl,h5⟩,_,_,rfl,⟨AL,cL,rfl,l1,hL'⟩,_,_,rfl,⟨AT,cT,rfl,l2,hn'⟩,_,_,rfl,⟨AE,cE,rfl,l3,hm'⟩,_,_,rfl,rfl,rfl⟩
end Go.Proofs.YtofaiocffifhfaaGreatB
end
namespace Go.Proofs.YtofaiocffifhfaaGreat
open Go.RowKit YtofaiocffifhfaaGreatB Go.Proofs.YtofaiocffifhfaaGreatW.PrintWords
abbrev kI:=lJ 30 153
abbrev kR:=lJ 30 151
theorem wM:(Tryz.prog.info? 151).map (fun i=>(i.zero,i.size,i.bytes))=some (some (.agg #[.int .i64 0, .int .u8 0, .int .u32 0, .int .u32 0, .int .u64 0, .slice none 0 0, .slice none 0 0, .slice none 0 0, .bool false]),9,112):=by kernel_rfl
def Af (w:World) (ok:Nat→Prop) (l:List Ins) (e:Ending) (w' :World):Prop:=
 Below w.heap.size w w' ∧∃A c,e= .returned (.slice A l.length c)∧l.length≤c∧FC kR w' (fun k=>ok k∨w.heap.size≤k) A l
abbrev dB (x:Ins) (AL AT AE:Option Addr) (cL cT cE:Nat):Array Value:=#[.int .i64 x.op, .int .u8 x.ty, .int .u32 x.a, .int .u32 x.b, .int .u64 x.bits, .slice AL x.list.length cL, .slice AT x.th.length cT, .slice AE x.el.length cE, .bool x.has]
theorem xq {t w0:Nat} {ok:Nat→Prop} {W W1 W2:World} {v:Value} {xs:List Ins} {x:Ins} {AL A1 A2:Option Addr} {cL c1 c2:Nat}
  (hw0:w0≤W.heap.size) (hO:Own kR t W w0 (fun k=>ok k∨w0≤k) v xs) (hB1:Below W.heap.size W W1) (hB2:Below W1.heap.size W1 W2)
  (hL:FC (rng .u32) W (fun k=>ok k∧k< w0) AL x.list) (hT:FC kR W1 (fun k=>(ok k∧k< w0)∨W.heap.size≤k) A1 x.th) (hE:FC kR W2 (fun k=>(ok k∧k< w0)∨W1.heap.size≤k) A2 x.el)
  (h1:(Lit.int .i64 x.op).wf=true) (h2:(Lit.int .u8 x.ty).wf=true) (h3:(Lit.int .u32 x.a).wf=true) (h4:(Lit.int .u32 x.b).wf=true) (h5:(Lit.int .u64 x.bits).wf=true)
  (l1:x.list.length≤cL) (l2:x.th.length≤c1) (l3:x.el.length≤c2):
  FK kR W2 (fun k=>(ok k∨w0≤k)∧some k≠v.ownBlock) x (dB x AL A1 A2 cL c1 c2).toList∧Own kR t W2 w0 (fun k=>ok k∨w0≤k) v xs:=by
 have hs1:=hB1.size;have hv:∀k,v.ownBlock=some k→w0≤k∧k< W.heap.size:=fun k hk=>hO.block hk
 have ha:∀k,ok k∧k< w0→(ok k∨w0≤k)∧some k≠v.ownBlock:=fun k hk=>⟨.inl hk.1,fun e=>by have:=hv k e.symm;omega⟩
 refine ⟨il h1 h2 h3 h4 h5 (((hL.below hB1).below hB2).mono ha) ((hT.below hB2).mono ?_) (hE.mono ?_) l1 l2 l3,(hO.below hB1).below hB2⟩
 ·rintro k (hk|hk)
  ·exact ha k hk
  ·exact ⟨.inr (by omega),fun e=>by have:=hv k e.symm;omega⟩
 ·rintro k (hk|hk)
  ·exact ha k hk
  ·exact ⟨.inr (by omega),fun e=>by have:=hv k e.symm;omega⟩
theorem mg:∀(n:Nat) (l:List Ins),bkL l≤n→n≤1048576→∀(ok:Nat→Prop) (w:World) (A:Option Addr) (c:Nat),FC kI w ok A l→
  Calls Tryz.prog 31 #[.slice A l.length c] w (Af w ok l):=by
 intro n
 induction n using Nat.strongRecOn with
 |ind n ih=>
 intro l hbk hn ok w A c hF;have hlen:=zb l;have IH:=Lib.hid ih;have hF2:FC kI w (fun k=>ok k∧k< w.heap.size) A l:=Ft.bound hF (fun k hk hlt=>⟨hk,hlt⟩);clear ih hF;go_enter Tryz.func31,Tryz.ntmps31;go_wp2_with fail;go_loopw [3,8] (fun v k wr=>∃j:Nat,j≤l.length∧k= .int .i64 j∧Own kR 151 wr w.heap.size (fun k=>ok k∨w.heap.size≤k) v (l.take j)∧Below w.heap.size w wr) (fun _ k _=>l.length - (intOf k).toNat)
 case atStart=>exact ⟨0,Nat.zero_le _,rfl,Own.nil,Below.refl _ _⟩
 case round=>
  obtain ⟨j,hj,rfl,hown,hB⟩:=hrel;have hsz:=hB.size;by_cases hlt:j< l.length
  ·obtain ⟨b,o,x,cs,rfl,hx,hk,hc⟩:=FC.at_ (Ft.below hF2 hB) (by decide) j hlt;obtain ⟨AL,cL,AT,cT,AE,cE,rfl,g1,g2,g3,g4,g5,hL,hT,hE,l1,l2,l3⟩:=tJ hk;have hz:kI.sz=9:=rfl;have d0:=hc 0 _ rfl;have d1:=hc 1 _ rfl;have d2:=hc 2 _ rfl;have d3:=hc 3 _ rfl;have d4:=hc 4 _ rfl;have d5:=hc 5 _ rfl;have d6:=hc 6 _ rfl;have d7:=hc 7 _ rfl;have d8:=hc 8 _ rfl;simp only [hz,Nat.add_zero]at d0 d1 d2 d3 d4 d5 d6 d7 d8;have hblt:b< wr.heap.size:=World.block_lt_of_cell? _ _ d0;have hbx:=zf hx.out;have hbt:=Ce x;have hbe:=Ea x;clear hc hk hz;have hBl:Below w.heap.size w (wr.alloc (.cells (dB x AL AT AE cL cT cE) 153)):=hB.alloc (by omega) _;have hTl:=Lib.hid (Ft.below hT ((Below.refl wr.heap.size wr).alloc (Nat.le_refl _) (.cells (dB x AL AT AE cL cT cE) 153)));have hEl:=Lib.hid (Ft.below hE ((Below.refl wr.heap.size wr).alloc (Nat.le_refl _) (.cells (dB x AL AT AE cL cT cE) 153)));have hLl:=Lib.hid (Ft.below hL ((Below.refl wr.heap.size wr).alloc (Nat.le_refl _) (.cells (dB x AL AT AE cL cT cE) 153)));have hOl:=Own.below hown ((Below.refl wr.heap.size wr).alloc (Nat.le_refl _) (.cells (dB x AL AT AE cL cT cE) 153));have hW:=Blk.new wr (dB x AL AT AE cL cT cE) 153;go_wp2_with fail;have hsW:(wr.alloc (.cells (dB x AL AT AE cL cT cE) 153)).heap.size=wr.heap.size+1:=World.size_alloc _ _;simp only [dB]at hW hBl hTl hEl hLl hOl hsW;generalize hWe:wr.alloc (.cells #[.int .i64 x.op, .int .u8 x.ty, .int .u32 x.a, .int .u32 x.b, .int .u64 x.bits, .slice AL x.list.length cL, .slice AT x.th.length cT, .slice AE x.el.length cE, .bool x.has] 153)=W at *;have hvb:=Lib.hid (show ∀k,u3.ownBlock=some k→w.heap.size≤k∧k< wr.heap.size from fun k hk=>hown.block hk);have hne:some wr.heap.size≠u3.ownBlock:=fun e=>by have:=hvb.out _ e.symm;omega
   have hOd:=Lib.hid (hOl.below ((Below.refl W.heap.size W).drew));have hTd:=Lib.hid (Ft.below hTl.out ((Below.refl W.heap.size W).drew));have hEd:=Lib.hid (Ft.below hEl.out ((Below.refl W.heap.size W).drew));have hLd:=Lib.hid (Ft.below hLl.out ((Below.refl W.heap.size W).drew));have hBd:=Lib.hid hBl.drew;clear hWe hown hOl hTl hEl hLl hBl;have e0:W.cell? ⟨wr.heap.size,0,none⟩=some (.int .i64 x.op):=by rw [hW.cell];rfl
   have e1:W.cell? ⟨wr.heap.size,1,none⟩=some (.int .u8 x.ty):=by rw [hW.cell];rfl
   have e2:W.cell? ⟨wr.heap.size,2,none⟩=some (.int .u32 x.a):=by rw [hW.cell];rfl
   have e3:W.cell? ⟨wr.heap.size,3,none⟩=some (.int .u32 x.b):=by rw [hW.cell];rfl
   have e4:W.cell? ⟨wr.heap.size,4,none⟩=some (.int .u64 x.bits):=by rw [hW.cell];rfl
   have e5:W.cell? ⟨wr.heap.size,5,none⟩=some (.slice AL x.list.length cL):=by rw [hW.cell];rfl
   have e6:W.cell? ⟨wr.heap.size,6,none⟩=some (.slice AT x.th.length cT):=by rw [hW.cell];rfl
   have e7:W.cell? ⟨wr.heap.size,7,none⟩=some (.slice AE x.el.length cE):=by rw [hW.cell];rfl
   have e8:W.cell? ⟨wr.heap.size,8,none⟩=some (.bool x.has):=by rw [hW.cell];rfl
   go_region_held3 (fun w' =>w'.cell? ⟨wr.heap.size,0,none⟩=some (.int .i64 x.op)∧w'.cell? ⟨wr.heap.size,1,none⟩=some (.int .u8 x.ty)∧w'.cell? ⟨wr.heap.size,2,none⟩=some (.int .u32 x.a)∧w'.cell? ⟨wr.heap.size,3,none⟩=some (.int .u32 x.b)∧w'.cell? ⟨wr.heap.size,4,none⟩=some (.int .u64 x.bits)∧w'.cell? ⟨wr.heap.size,5,none⟩=some (.slice AL x.list.length cL)∧w'.cell? ⟨wr.heap.size,6,none⟩=some (.slice AT x.th.length cT)∧w'.cell? ⟨wr.heap.size,7,none⟩=some (.slice AE x.el.length cE)∧w'.cell? ⟨wr.heap.size,8,none⟩=some (.bool x.has))
    (first|exact ⟨e0,e1,e2,e3,e4,e5,e6,e7,e8⟩|exact ⟨World.grownBy.cell hg1 (aB (w:=W.drew) hB12 e0) hne,World.grownBy.cell hg1 (aB (w:=W.drew) hB12 e1) hne,World.grownBy.cell hg1 (aB (w:=W.drew) hB12 e2) hne,World.grownBy.cell hg1 (aB (w:=W.drew) hB12 e3) hne,World.grownBy.cell hg1 (aB (w:=W.drew) hB12 e4) hne,World.grownBy.cell hg1 (aB (w:=W.drew) hB12 e5) hne,World.grownBy.cell hg1 (aB (w:=W.drew) hB12 e6) hne,World.grownBy.cell hg1 (aB (w:=W.drew) hB12 e7) hne,World.grownBy.cell hg1 (aB (w:=W.drew) hB12 e8) hne⟩|exact ⟨aB (w:=W.drew) (hB13 _) e0,aB (w:=W.drew) (hB13 _) e1,aB (w:=W.drew) (hB13 _) e2,aB (w:=W.drew) (hB13 _) e3,aB (w:=W.drew) (hB13 _) e4,aB (w:=W.drew) (hB13 _) e5,aB (w:=W.drew) (hB13 _) e6,aB (w:=W.drew) (hB13 _) e7,aB (w:=W.drew) (hB13 _) e8⟩|exact ⟨aB (w:=W.drew) hB12 e0,aB (w:=W.drew) hB12 e1,aB (w:=W.drew) hB12 e2,aB (w:=W.drew) hB12 e3,aB (w:=W.drew) hB12 e4,aB (w:=W.drew) hB12 e5,aB (w:=W.drew) hB12 e6,aB (w:=W.drew) hB12 e7,aB (w:=W.drew) hB12 e8⟩|exact ⟨aB (w:=W.drew) hB1 e0,aB (w:=W.drew) hB1 e1,aB (w:=W.drew) hB1 e2,aB (w:=W.drew) hB1 e3,aB (w:=W.drew) hB1 e4,aB (w:=W.drew) hB1 e5,aB (w:=W.drew) hB1 e6,aB (w:=W.drew) hB1 e7,aB (w:=W.drew) hB1 e8⟩)
    (first
     |(go_at_call_of 31 (Value.slice AT x.th.length cT);refine (IH.out (bkL x.th) (by omega) x.th (Nat.le_refl _) (by omega) (fun k=>ok k∧k< w.heap.size) _ AT cT hTd.out).mono ?_;rintro e1' W1 ⟨hB1,A1,c1,rfl,hl1,hF1⟩)
     |(go_at_call_of 31 (Value.slice AE x.el.length cE);refine (IH.out (bkL x.el) (by omega) x.el (Nat.le_refl _) (by omega) (fun k=>ok k∧k< w.heap.size) _ AE cE (Ft.below hEd.out hB1)).mono ?_;rintro e2' W2 ⟨hB2,A2,c2,rfl,hl2,hG2⟩;have hB12:=hB1.trans (hB2.mono hB1.size);have hB13:=fun o' =>hB12.alloc hB12.size o';obtain ⟨hK,hO2⟩:=xq (by exact hBd.out.size) hOd.out hB1 hB2 hLd.out hF1 hG2 g1 g2 g3 g4 g5 l1 hl1 hl2)
     |(refine Own.bY w.heap.size rfl (.tmp 12) (.tmp 34) 85 151 _ 112 rfl Tryz.underlying85 wM rfl (by decide) (by decide) u3 (l.take j) x _ (fun k=>ok k∨w.heap.size≤k) rfl rfl hK hO2 ?_ ?_ ?_;(exact Nat.le_trans hBd.out.size (Nat.le_trans hB1.size hB2.size));(rw [List.length_take];omega);intro v1 w1 hown1 hg1 hat1;have hBw1:=(hBd.out.trans (hB12.mono hBd.out.size)).grown hg1 (Nat.le_trans hBd.out.size (Nat.le_trans hB1.size hB2.size)) (fun k hk=>(hvb.out k hk).1)))
   ·clear hK hO2 hF1 hG2 hat1;rw [show l.take j++ [x]=l.take (j+1)from by rw [List.take_add_one,hx.out];rfl]at hown1;go_wp2_with fail;go_roundw
    case rel=>exact ⟨j+1,by omega,by go_num,hown1,hBw1⟩
    case measure=>simp [intOf];omega
  ·obtain rfl:j=l.length:=by omega
   rw [List.take_length]at hown;obtain ⟨A',c',rfl,hl',hF'⟩:=hown.reads;go_wp2_with fail;go_ret;exact ⟨hB,A',c',rfl,hl',hF'.mono (fun k hk=>by rcases hk with (hk|hk)|hk;exact .inl hk;exact .inr hk;exact .inr hk)⟩
end Go.Proofs.YtofaiocffifhfaaGreat
namespace Go.Proofs.YtofaiocffifhfaaGreat
open Go.RowKit Go.Shelf YtofaiocffifhfaaGreatB Go.Proofs.YtofaiocffifhfaaGreatW.PrintWords
def firstM (op b s g:Int):Int×Int×Int×Bool:=if 0≤op - b∧op - b< s then (g,op - b,32,true)else if s≤op - b∧op - b< 2 * s then (g,op - b - s,64,true)else (0,0,0,false)
theorem aS (W:World) (op b s g:Int) (r:Int×Int×Int×Bool) (hr:firstM op b s g=r) (h0: -9223372036854775808≤op) (h1:op≤9223372036854775807) (hb:0≤b∧b≤1000) (hs:1≤s∧s≤100):
  Calls Tryz.prog 170 #[.int .i64 op, .int .i64 b, .int .i64 s, .int .i64 g] W fun E w' =>E= .returned (.tuple #[.agg #[.int .i64 r.1, .int .i64 r.2.1, .int .i64 r.2.2.1], .bool r.2.2.2])∧Below W.heap.size W w' :=by
 subst hr;obtain ⟨hb0,hb1⟩:=hb;obtain ⟨hs0,hs1⟩:=hs;by_cases hlo:op - b< -9223372036854775808
 ·have HV:=Lib.hid (show firstM op b s g=(0,0,0,false)from by rw [firstM,if_neg (by omega),if_neg (by omega)]);obtain ⟨m,hm,hm2⟩:∃m:Int,wrap64 (op - b)=m∧1000≤m:=⟨_,rfl,by unfold wrap64;omega⟩;have h5:¬m< s:=by omega
  have h6:¬m< 2 * s:=by omega
  have h7:0≤m:=by omega
  clear h0 hlo;go_enter Tryz.func170,Tryz.ntmps170;go_wp2_with fail;rw [HV.out];exact bodyPost_ret (v:= .tuple #[.agg #[.int .i64 0, .int .i64 0, .int .i64 0], .bool false]) (by simp [results,Tryz.results170,go_sem]) rfl ⟨rfl,by (repeat (first|exact (Below.refl _ _)|refine Below.setCell ?_ (by first|(simp;done)|(simp;omega)) _|refine Below.alloc ?_ (by first|(simp;done)|(simp [World.setCell];omega)) _))⟩
 by_cases h2:0≤op - b
 ·by_cases h3:op - b< s
  ·have HV:=Lib.hid (show firstM op b s g=(g,op - b,32,true)from if_pos ⟨h2,h3⟩);go_enter Tryz.func170,Tryz.ntmps170;go_wp2_with fail;rw [HV.out];exact bodyPost_ret (v:= .tuple #[.agg #[.int .i64 g, .int .i64 (op - b), .int .i64 32], .bool true]) (by simp [results,Tryz.results170,go_sem]) rfl ⟨rfl,by (repeat (first|exact (Below.refl _ _)|refine Below.setCell ?_ (by first|(simp;done)|(simp;omega)) _|refine Below.alloc ?_ (by first|(simp;done)|(simp [World.setCell];omega)) _))⟩
  ·by_cases h4:op - b< 2 * s
   ·have HV:=Lib.hid (show firstM op b s g=(g,op - b - s,64,true)from by rw [firstM,if_neg (fun h=>h3 h.2),if_pos ⟨by omega,h4⟩]);go_enter Tryz.func170,Tryz.ntmps170;go_wp2_with fail;rw [HV.out];exact bodyPost_ret (v:= .tuple #[.agg #[.int .i64 g, .int .i64 (op - b - s), .int .i64 64], .bool true]) (by simp [results,Tryz.results170,go_sem]) rfl ⟨rfl,by (repeat (first|exact (Below.refl _ _)|refine Below.setCell ?_ (by first|(simp;done)|(simp;omega)) _|refine Below.alloc ?_ (by first|(simp;done)|(simp [World.setCell];omega)) _))⟩
   ·have HV:=Lib.hid (show firstM op b s g=(0,0,0,false)from by rw [firstM,if_neg (fun h=>h3 h.2),if_neg (fun h=>h4 h.2)]);go_enter Tryz.func170,Tryz.ntmps170;go_wp2_with fail;rw [HV.out];exact bodyPost_ret (v:= .tuple #[.agg #[.int .i64 0, .int .i64 0, .int .i64 0], .bool false]) (by simp [results,Tryz.results170,go_sem]) rfl ⟨rfl,by (repeat (first|exact (Below.refl _ _)|refine Below.setCell ?_ (by first|(simp;done)|(simp;omega)) _|refine Below.alloc ?_ (by first|(simp;done)|(simp [World.setCell];omega)) _))⟩
 ·have HV:=Lib.hid (show firstM op b s g=(0,0,0,false)from by rw [firstM,if_neg (fun h=>h2 h.1),if_neg (fun h=>by omega)]);go_enter Tryz.func170,Tryz.ntmps170;go_wp2_with fail;rw [HV.out];exact bodyPost_ret (v:= .tuple #[.agg #[.int .i64 0, .int .i64 0, .int .i64 0], .bool false]) (by simp [results,Tryz.results170,go_sem]) rfl ⟨rfl,by (repeat (first|exact (Below.refl _ _)|refine Below.setCell ?_ (by first|(simp;done)|(simp;omega)) _|refine Below.alloc ?_ (by first|(simp;done)|(simp [World.setCell];omega)) _))⟩
def bR (W:World) (r:Int×Int×Int) (E:Ending) (w' :World):Prop:=E= .returned (.agg #[.int .i64 r.1, .int .i64 r.2.1, .int .i64 r.2.2])∧Below W.heap.size W w'
theorem aR {A B C D:World} {g:Nat} {cs:Array Value} {t:TypeId} (h:Below g A B) (hb:Blk B g cs t) (hz:g< B.heap.size) (h' :Below D.heap.size D C) (hD:Below B.heap.size B D:=by first|exact Below.refl _ _|exact (Below.refl _ _).alloc (Nat.le_refl _) _|exact ((Below.refl _ _).alloc (Nat.le_refl _) _).alloc (by simp) _|exact (((Below.refl _ _).alloc (Nat.le_refl _) _).alloc (by simp) _).alloc (by simp;omega) _):Below g A C∧Blk C g cs t∧g< C.heap.size:=by
 have h2:=hD.trans (h'.mono hD.size);have:=h2.size;exact ⟨h.trans (h2.mono (by omega)),hb.below h2 hz,by omega⟩
theorem dC {V:World} {g:Nat} {a b c:Value} {t:TypeId} (hb:Blk V g #[a,b,c] t) (hz:g< V.heap.size) (x y z:Value):
  (∀o,((((V.setCell ⟨g,0,none⟩ x).setCell ⟨g,1,none⟩ y).setCell ⟨g,2,none⟩ z).alloc o).cell? ⟨g,0,none⟩=some x)∧(∀o,((((V.setCell ⟨g,0,none⟩ x).setCell ⟨g,1,none⟩ y).setCell ⟨g,2,none⟩ z).alloc o).cell? ⟨g,1,none⟩=some y)∧(∀o,((((V.setCell ⟨g,0,none⟩ x).setCell ⟨g,1,none⟩ y).setCell ⟨g,2,none⟩ z).alloc o).cell? ⟨g,2,none⟩=some z):=by
 have h:=((hb.set 0 x).set 1 y).set 2 z;exact ⟨fun o=>by rw [(h.alloc o).cell];rfl,fun o=>by rw [(h.alloc o).cell];rfl,fun o=>by rw [(h.alloc o).cell];rfl⟩
theorem cZ {B:World} {g:Nat} {a b c:Value} {t:TypeId} (hb:Blk B g #[a,b,c] t):B.cell? ⟨g,0,none⟩=some a∧B.cell? ⟨g,1,none⟩=some b∧B.cell? ⟨g,2,none⟩=some c∧B.frozen? ⟨g,0,none⟩=false∧B.frozen? ⟨g,1,none⟩=false∧B.frozen? ⟨g,2,none⟩=false:=
 ⟨by rw [hb.cell];rfl,by rw [hb.cell];rfl,by rw [hb.cell];rfl,hb.frozen 0,hb.frozen 1,hb.frozen 2⟩
theorem GV (W:World):Calls Tryz.prog 165 #[.int .i64 69] W (bR W (1,0,32)):=by
 have q0:=Lib.hid (fun X=>aS X 69 69 11 2 (2,0,32,true) (by decide) (by omega) (by omega) (by omega) (by omega));go_enter Tryz.func165,Tryz.ntmps165;have hB0:=(Below.refl W.heap.size W).alloc (Nat.le_refl _) (.cells #[.int .i64 0, .int .i64 0, .int .i64 0] 239);have hb0:=Blk.new W #[.int .i64 0, .int .i64 0, .int .i64 0] 239;have hz0:W.heap.size<(W.alloc (.cells #[.int .i64 0, .int .i64 0, .int .i64 0] 239)).heap.size:=by simp
 go_wp2_with fail;refine (q0.out _).mono ?_;rintro E0 V1 ⟨rfl,hq0⟩;obtain ⟨hB1,hb1,hz1⟩:=aR hB0 hb0 hz0 hq0;clear hq0 hB0 hb0 hz0 q0;obtain ⟨f0,f1,f2,i0,i1,i2⟩:=cZ hb1;have hbf:=Lib.hid hb1;clear hb1;go_wp2_with fail
 all_goals
  obtain ⟨e0,e1,e2⟩:=dC hbf.out hz1 (.int .i64 1) (.int .i64 0) (.int .i64 32);exact bodyPost_ret (v:= .agg #[.int .i64 1, .int .i64 0, .int .i64 32]) (by simp [results,Tryz.results165,go_sem,e0,e1,e2]) rfl ⟨rfl,by (repeat (first|exact hB1|refine Below.setCell ?_ (by first|(simp;done)|(simp;omega)) _|refine Below.alloc ?_ (by first|(simp;done)|(simp [World.setCell];omega)) _))⟩
theorem FL (W:World) (op:Int) (h0:70≤op) (h1:op≤79):Calls Tryz.prog 165 #[.int .i64 op] W (bR W (2,op - 69,32)):=by
 have q0:=Lib.hid (fun X=>aS X op 69 11 2 (2,op - 69,32,true) (by rw [firstM,if_pos (by omega)]) (by omega) (by omega) (by omega) (by omega));go_enter Tryz.func165,Tryz.ntmps165;have hB0:=(Below.refl W.heap.size W).alloc (Nat.le_refl _) (.cells #[.int .i64 0, .int .i64 0, .int .i64 0] 239);have hb0:=Blk.new W #[.int .i64 0, .int .i64 0, .int .i64 0] 239;have hz0:W.heap.size<(W.alloc (.cells #[.int .i64 0, .int .i64 0, .int .i64 0] 239)).heap.size:=by simp
 go_wp2_with fail;refine (q0.out _).mono ?_;rintro E0 V1 ⟨rfl,hq0⟩;obtain ⟨hB1,hb1,hz1⟩:=aR hB0 hb0 hz0 hq0;clear hq0 hB0 hb0 hz0 q0;obtain ⟨f0,f1,f2,i0,i1,i2⟩:=cZ hb1;have hbf:=Lib.hid hb1;clear hb1;go_wp2_with fail
 all_goals
  obtain ⟨e0,e1,e2⟩:=dC hbf.out hz1 (.int .i64 2) (.int .i64 (op - 69)) (.int .i64 32);exact bodyPost_ret (v:= .agg #[.int .i64 2, .int .i64 (op - 69), .int .i64 32]) (by simp [results,Tryz.results165,go_sem,e0,e1,e2]) rfl ⟨rfl,by (repeat (first|exact hB1|refine Below.setCell ?_ (by first|(simp;done)|(simp;omega)) _|refine Below.alloc ?_ (by first|(simp;done)|(simp [World.setCell];omega)) _))⟩
theorem GG (W:World):Calls Tryz.prog 165 #[.int .i64 80] W (bR W (1,0,64)):=by
 have q0:=Lib.hid (fun X=>aS X 80 69 11 2 (2,0,64,true) (by decide) (by omega) (by omega) (by omega) (by omega));go_enter Tryz.func165,Tryz.ntmps165;have hB0:=(Below.refl W.heap.size W).alloc (Nat.le_refl _) (.cells #[.int .i64 0, .int .i64 0, .int .i64 0] 239);have hb0:=Blk.new W #[.int .i64 0, .int .i64 0, .int .i64 0] 239;have hz0:W.heap.size<(W.alloc (.cells #[.int .i64 0, .int .i64 0, .int .i64 0] 239)).heap.size:=by simp
 go_wp2_with fail;refine (q0.out _).mono ?_;rintro E0 V1 ⟨rfl,hq0⟩;obtain ⟨hB1,hb1,hz1⟩:=aR hB0 hb0 hz0 hq0;clear hq0 hB0 hb0 hz0 q0;obtain ⟨f0,f1,f2,i0,i1,i2⟩:=cZ hb1;have hbf:=Lib.hid hb1;clear hb1;go_wp2_with fail
 all_goals
  obtain ⟨e0,e1,e2⟩:=dC hbf.out hz1 (.int .i64 1) (.int .i64 0) (.int .i64 64);exact bodyPost_ret (v:= .agg #[.int .i64 1, .int .i64 0, .int .i64 64]) (by simp [results,Tryz.results165,go_sem,e0,e1,e2]) rfl ⟨rfl,by (repeat (first|exact hB1|refine Below.setCell ?_ (by first|(simp;done)|(simp;omega)) _|refine Below.alloc ?_ (by first|(simp;done)|(simp [World.setCell];omega)) _))⟩
theorem Fg (W:World) (op:Int) (h0:81≤op) (h1:op≤90):Calls Tryz.prog 165 #[.int .i64 op] W (bR W (2,op - 69 - 11,64)):=by
 have q0:=Lib.hid (fun X=>aS X op 69 11 2 (2,op - 69 - 11,64,true) (by rw [firstM,if_neg (by omega),if_pos (by omega)]) (by omega) (by omega) (by omega) (by omega));go_enter Tryz.func165,Tryz.ntmps165;have hB0:=(Below.refl W.heap.size W).alloc (Nat.le_refl _) (.cells #[.int .i64 0, .int .i64 0, .int .i64 0] 239);have hb0:=Blk.new W #[.int .i64 0, .int .i64 0, .int .i64 0] 239;have hz0:W.heap.size<(W.alloc (.cells #[.int .i64 0, .int .i64 0, .int .i64 0] 239)).heap.size:=by simp
 go_wp2_with fail;refine (q0.out _).mono ?_;rintro E0 V1 ⟨rfl,hq0⟩;obtain ⟨hB1,hb1,hz1⟩:=aR hB0 hb0 hz0 hq0;clear hq0 hB0 hb0 hz0 q0;obtain ⟨f0,f1,f2,i0,i1,i2⟩:=cZ hb1;have hbf:=Lib.hid hb1;clear hb1;go_wp2_with fail
 all_goals
  obtain ⟨e0,e1,e2⟩:=dC hbf.out hz1 (.int .i64 2) (.int .i64 (op - 69 - 11)) (.int .i64 64);exact bodyPost_ret (v:= .agg #[.int .i64 2, .int .i64 (op - 69 - 11), .int .i64 64]) (by simp [results,Tryz.results165,go_sem,e0,e1,e2]) rfl ⟨rfl,by (repeat (first|exact hB1|refine Below.setCell ?_ (by first|(simp;done)|(simp;omega)) _|refine Below.alloc ?_ (by first|(simp;done)|(simp [World.setCell];omega)) _))⟩
theorem Fx (W:World) (op:Int) (h0:91≤op) (h1:op≤96):Calls Tryz.prog 165 #[.int .i64 op] W (bR W (3,op - 91,32)):=by
 have q0:=Lib.hid (fun X=>aS X op 69 11 2 (0,0,0,false) (by rw [firstM,if_neg (by omega),if_neg (by omega)]) (by omega) (by omega) (by omega) (by omega));have q1:=Lib.hid (fun X=>aS X op 91 6 3 (3,op - 91,32,true) (by rw [firstM,if_pos (by omega)]) (by omega) (by omega) (by omega) (by omega));go_enter Tryz.func165,Tryz.ntmps165;have hB0:=(Below.refl W.heap.size W).alloc (Nat.le_refl _) (.cells #[.int .i64 0, .int .i64 0, .int .i64 0] 239);have hb0:=Blk.new W #[.int .i64 0, .int .i64 0, .int .i64 0] 239;have hz0:W.heap.size<(W.alloc (.cells #[.int .i64 0, .int .i64 0, .int .i64 0] 239)).heap.size:=by simp
 go_wp2_with fail;refine (q0.out _).mono ?_;rintro E0 V1 ⟨rfl,hq0⟩;obtain ⟨hB1,hb1,hz1⟩:=aR hB0 hb0 hz0 hq0;clear hq0 hB0 hb0 hz0 q0;go_wp2_with fail;refine (q1.out _).mono ?_;rintro E1 V2 ⟨rfl,hq1⟩;obtain ⟨hB2,hb2,hz2⟩:=aR hB1 hb1 hz1 hq1;clear hq1 hB1 hb1 hz1 q1;obtain ⟨f0,f1,f2,i0,i1,i2⟩:=cZ hb2;have hbf:=Lib.hid hb2;clear hb2;go_wp2_with fail
 all_goals
  obtain ⟨e0,e1,e2⟩:=dC hbf.out hz2 (.int .i64 3) (.int .i64 (op - 91)) (.int .i64 32);exact bodyPost_ret (v:= .agg #[.int .i64 3, .int .i64 (op - 91), .int .i64 32]) (by simp [results,Tryz.results165,go_sem,e0,e1,e2]) rfl ⟨rfl,by (repeat (first|exact hB2|refine Below.setCell ?_ (by first|(simp;done)|(simp;omega)) _|refine Below.alloc ?_ (by first|(simp;done)|(simp [World.setCell];omega)) _))⟩
theorem FY (W:World) (op:Int) (h0:97≤op) (h1:op≤102):Calls Tryz.prog 165 #[.int .i64 op] W (bR W (3,op - 91 - 6,64)):=by
 have q0:=Lib.hid (fun X=>aS X op 69 11 2 (0,0,0,false) (by rw [firstM,if_neg (by omega),if_neg (by omega)]) (by omega) (by omega) (by omega) (by omega));have q1:=Lib.hid (fun X=>aS X op 91 6 3 (3,op - 91 - 6,64,true) (by rw [firstM,if_neg (by omega),if_pos (by omega)]) (by omega) (by omega) (by omega) (by omega));go_enter Tryz.func165,Tryz.ntmps165;have hB0:=(Below.refl W.heap.size W).alloc (Nat.le_refl _) (.cells #[.int .i64 0, .int .i64 0, .int .i64 0] 239);have hb0:=Blk.new W #[.int .i64 0, .int .i64 0, .int .i64 0] 239;have hz0:W.heap.size<(W.alloc (.cells #[.int .i64 0, .int .i64 0, .int .i64 0] 239)).heap.size:=by simp
 go_wp2_with fail;refine (q0.out _).mono ?_;rintro E0 V1 ⟨rfl,hq0⟩;obtain ⟨hB1,hb1,hz1⟩:=aR hB0 hb0 hz0 hq0;clear hq0 hB0 hb0 hz0 q0;go_wp2_with fail;refine (q1.out _).mono ?_;rintro E1 V2 ⟨rfl,hq1⟩;obtain ⟨hB2,hb2,hz2⟩:=aR hB1 hb1 hz1 hq1;clear hq1 hB1 hb1 hz1 q1;obtain ⟨f0,f1,f2,i0,i1,i2⟩:=cZ hb2;have hbf:=Lib.hid hb2;clear hb2;go_wp2_with fail
 all_goals
  obtain ⟨e0,e1,e2⟩:=dC hbf.out hz2 (.int .i64 3) (.int .i64 (op - 91 - 6)) (.int .i64 64);exact bodyPost_ret (v:= .agg #[.int .i64 3, .int .i64 (op - 91 - 6), .int .i64 64]) (by simp [results,Tryz.results165,go_sem,e0,e1,e2]) rfl ⟨rfl,by (repeat (first|exact hB2|refine Below.setCell ?_ (by first|(simp;done)|(simp;omega)) _|refine Below.alloc ?_ (by first|(simp;done)|(simp [World.setCell];omega)) _))⟩
theorem Ew (W:World) (op:Int) (h0:103≤op) (h1:op≤105):Calls Tryz.prog 165 #[.int .i64 op] W (bR W (4,op - 103,32)):=by
 have q0:=Lib.hid (fun X=>aS X op 69 11 2 (0,0,0,false) (by rw [firstM,if_neg (by omega),if_neg (by omega)]) (by omega) (by omega) (by omega) (by omega));have q1:=Lib.hid (fun X=>aS X op 91 6 3 (0,0,0,false) (by rw [firstM,if_neg (by omega),if_neg (by omega)]) (by omega) (by omega) (by omega) (by omega));have q2:=Lib.hid (fun X=>aS X op 103 18 5 (5,op - 103,32,true) (by rw [firstM,if_pos (by omega)]) (by omega) (by omega) (by omega) (by omega));go_enter Tryz.func165,Tryz.ntmps165;have hB0:=(Below.refl W.heap.size W).alloc (Nat.le_refl _) (.cells #[.int .i64 0, .int .i64 0, .int .i64 0] 239);have hb0:=Blk.new W #[.int .i64 0, .int .i64 0, .int .i64 0] 239;have hz0:W.heap.size<(W.alloc (.cells #[.int .i64 0, .int .i64 0, .int .i64 0] 239)).heap.size:=by simp
 go_wp2_with fail;refine (q0.out _).mono ?_;rintro E0 V1 ⟨rfl,hq0⟩;obtain ⟨hB1,hb1,hz1⟩:=aR hB0 hb0 hz0 hq0;clear hq0 hB0 hb0 hz0 q0;go_wp2_with fail;refine (q1.out _).mono ?_;rintro E1 V2 ⟨rfl,hq1⟩;obtain ⟨hB2,hb2,hz2⟩:=aR hB1 hb1 hz1 hq1;clear hq1 hB1 hb1 hz1 q1;go_wp2_with fail;refine (q2.out _).mono ?_;rintro E2 V3 ⟨rfl,hq2⟩;obtain ⟨hB3,hb3,hz3⟩:=aR hB2 hb2 hz2 hq2;clear hq2 hB2 hb2 hz2 q2;obtain ⟨f0,f1,f2,i0,i1,i2⟩:=cZ hb3;have hbf:=Lib.hid hb3;clear hb3;go_wp2_with fail
 all_goals
  obtain ⟨e0,e1,e2⟩:=dC hbf.out hz3 (.int .i64 4) (.int .i64 (op - 103)) (.int .i64 32);exact bodyPost_ret (v:= .agg #[.int .i64 4, .int .i64 (op - 103), .int .i64 32]) (by simp [results,Tryz.results165,go_sem,e0,e1,e2]) rfl ⟨rfl,by (repeat (first|exact hB3|refine Below.setCell ?_ (by first|(simp;done)|(simp;omega)) _|refine Below.alloc ?_ (by first|(simp;done)|(simp [World.setCell];omega)) _))⟩
theorem Cz (W:World) (op:Int) (h0:106≤op) (h1:op≤120):Calls Tryz.prog 165 #[.int .i64 op] W (bR W (5,op - 103,32)):=by
 have q0:=Lib.hid (fun X=>aS X op 69 11 2 (0,0,0,false) (by rw [firstM,if_neg (by omega),if_neg (by omega)]) (by omega) (by omega) (by omega) (by omega));have q1:=Lib.hid (fun X=>aS X op 91 6 3 (0,0,0,false) (by rw [firstM,if_neg (by omega),if_neg (by omega)]) (by omega) (by omega) (by omega) (by omega));have q2:=Lib.hid (fun X=>aS X op 103 18 5 (5,op - 103,32,true) (by rw [firstM,if_pos (by omega)]) (by omega) (by omega) (by omega) (by omega));go_enter Tryz.func165,Tryz.ntmps165;have hB0:=(Below.refl W.heap.size W).alloc (Nat.le_refl _) (.cells #[.int .i64 0, .int .i64 0, .int .i64 0] 239);have hb0:=Blk.new W #[.int .i64 0, .int .i64 0, .int .i64 0] 239;have hz0:W.heap.size<(W.alloc (.cells #[.int .i64 0, .int .i64 0, .int .i64 0] 239)).heap.size:=by simp
 go_wp2_with fail;refine (q0.out _).mono ?_;rintro E0 V1 ⟨rfl,hq0⟩;obtain ⟨hB1,hb1,hz1⟩:=aR hB0 hb0 hz0 hq0;clear hq0 hB0 hb0 hz0 q0;go_wp2_with fail;refine (q1.out _).mono ?_;rintro E1 V2 ⟨rfl,hq1⟩;obtain ⟨hB2,hb2,hz2⟩:=aR hB1 hb1 hz1 hq1;clear hq1 hB1 hb1 hz1 q1;go_wp2_with fail;refine (q2.out _).mono ?_;rintro E2 V3 ⟨rfl,hq2⟩;obtain ⟨hB3,hb3,hz3⟩:=aR hB2 hb2 hz2 hq2;clear hq2 hB2 hb2 hz2 q2;obtain ⟨f0,f1,f2,i0,i1,i2⟩:=cZ hb3;have hbf:=Lib.hid hb3;clear hb3;go_wp2_with fail
 all_goals
  obtain ⟨e0,e1,e2⟩:=dC hbf.out hz3 (.int .i64 5) (.int .i64 (op - 103)) (.int .i64 32);exact bodyPost_ret (v:= .agg #[.int .i64 5, .int .i64 (op - 103), .int .i64 32]) (by simp [results,Tryz.results165,go_sem,e0,e1,e2]) rfl ⟨rfl,by (repeat (first|exact hB3|refine Below.setCell ?_ (by first|(simp;done)|(simp;omega)) _|refine Below.alloc ?_ (by first|(simp;done)|(simp [World.setCell];omega)) _))⟩
theorem Ct (W:World) (op:Int) (h0:121≤op) (h1:op≤123):Calls Tryz.prog 165 #[.int .i64 op] W (bR W (4,op - 103 - 18,64)):=by
 have q0:=Lib.hid (fun X=>aS X op 69 11 2 (0,0,0,false) (by rw [firstM,if_neg (by omega),if_neg (by omega)]) (by omega) (by omega) (by omega) (by omega));have q1:=Lib.hid (fun X=>aS X op 91 6 3 (0,0,0,false) (by rw [firstM,if_neg (by omega),if_neg (by omega)]) (by omega) (by omega) (by omega) (by omega));have q2:=Lib.hid (fun X=>aS X op 103 18 5 (5,op - 103 - 18,64,true) (by rw [firstM,if_neg (by omega),if_pos (by omega)]) (by omega) (by omega) (by omega) (by omega));go_enter Tryz.func165,Tryz.ntmps165;have hB0:=(Below.refl W.heap.size W).alloc (Nat.le_refl _) (.cells #[.int .i64 0, .int .i64 0, .int .i64 0] 239);have hb0:=Blk.new W #[.int .i64 0, .int .i64 0, .int .i64 0] 239;have hz0:W.heap.size<(W.alloc (.cells #[.int .i64 0, .int .i64 0, .int .i64 0] 239)).heap.size:=by simp
 go_wp2_with fail;refine (q0.out _).mono ?_;rintro E0 V1 ⟨rfl,hq0⟩;obtain ⟨hB1,hb1,hz1⟩:=aR hB0 hb0 hz0 hq0;clear hq0 hB0 hb0 hz0 q0;go_wp2_with fail;refine (q1.out _).mono ?_;rintro E1 V2 ⟨rfl,hq1⟩;obtain ⟨hB2,hb2,hz2⟩:=aR hB1 hb1 hz1 hq1;clear hq1 hB1 hb1 hz1 q1;go_wp2_with fail;refine (q2.out _).mono ?_;rintro E2 V3 ⟨rfl,hq2⟩;obtain ⟨hB3,hb3,hz3⟩:=aR hB2 hb2 hz2 hq2;clear hq2 hB2 hb2 hz2 q2;obtain ⟨f0,f1,f2,i0,i1,i2⟩:=cZ hb3;have hbf:=Lib.hid hb3;clear hb3;go_wp2_with fail
 all_goals
  obtain ⟨e0,e1,e2⟩:=dC hbf.out hz3 (.int .i64 4) (.int .i64 (op - 103 - 18)) (.int .i64 64);exact bodyPost_ret (v:= .agg #[.int .i64 4, .int .i64 (op - 103 - 18), .int .i64 64]) (by simp [results,Tryz.results165,go_sem,e0,e1,e2]) rfl ⟨rfl,by (repeat (first|exact hB3|refine Below.setCell ?_ (by first|(simp;done)|(simp;omega)) _|refine Below.alloc ?_ (by first|(simp;done)|(simp [World.setCell];omega)) _))⟩
theorem Dp (W:World) (op:Int) (h0:124≤op) (h1:op≤138):Calls Tryz.prog 165 #[.int .i64 op] W (bR W (5,op - 103 - 18,64)):=by
 have q0:=Lib.hid (fun X=>aS X op 69 11 2 (0,0,0,false) (by rw [firstM,if_neg (by omega),if_neg (by omega)]) (by omega) (by omega) (by omega) (by omega));have q1:=Lib.hid (fun X=>aS X op 91 6 3 (0,0,0,false) (by rw [firstM,if_neg (by omega),if_neg (by omega)]) (by omega) (by omega) (by omega) (by omega));have q2:=Lib.hid (fun X=>aS X op 103 18 5 (5,op - 103 - 18,64,true) (by rw [firstM,if_neg (by omega),if_pos (by omega)]) (by omega) (by omega) (by omega) (by omega));go_enter Tryz.func165,Tryz.ntmps165;have hB0:=(Below.refl W.heap.size W).alloc (Nat.le_refl _) (.cells #[.int .i64 0, .int .i64 0, .int .i64 0] 239);have hb0:=Blk.new W #[.int .i64 0, .int .i64 0, .int .i64 0] 239;have hz0:W.heap.size<(W.alloc (.cells #[.int .i64 0, .int .i64 0, .int .i64 0] 239)).heap.size:=by simp
 go_wp2_with fail;refine (q0.out _).mono ?_;rintro E0 V1 ⟨rfl,hq0⟩;obtain ⟨hB1,hb1,hz1⟩:=aR hB0 hb0 hz0 hq0;clear hq0 hB0 hb0 hz0 q0;go_wp2_with fail;refine (q1.out _).mono ?_;rintro E1 V2 ⟨rfl,hq1⟩;obtain ⟨hB2,hb2,hz2⟩:=aR hB1 hb1 hz1 hq1;clear hq1 hB1 hb1 hz1 q1;go_wp2_with fail;refine (q2.out _).mono ?_;rintro E2 V3 ⟨rfl,hq2⟩;obtain ⟨hB3,hb3,hz3⟩:=aR hB2 hb2 hz2 hq2;clear hq2 hB2 hb2 hz2 q2;obtain ⟨f0,f1,f2,i0,i1,i2⟩:=cZ hb3;have hbf:=Lib.hid hb3;clear hb3;go_wp2_with fail
 all_goals
  obtain ⟨e0,e1,e2⟩:=dC hbf.out hz3 (.int .i64 5) (.int .i64 (op - 103 - 18)) (.int .i64 64);exact bodyPost_ret (v:= .agg #[.int .i64 5, .int .i64 (op - 103 - 18), .int .i64 64]) (by simp [results,Tryz.results165,go_sem,e0,e1,e2]) rfl ⟨rfl,by (repeat (first|exact hB3|refine Below.setCell ?_ (by first|(simp;done)|(simp;omega)) _|refine Below.alloc ?_ (by first|(simp;done)|(simp [World.setCell];omega)) _))⟩
theorem EB (W:World) (op:Int) (h0:139≤op) (h1:op≤145):Calls Tryz.prog 165 #[.int .i64 op] W (bR W (6,op - 139,32)):=by
 have q0:=Lib.hid (fun X=>aS X op 69 11 2 (0,0,0,false) (by rw [firstM,if_neg (by omega),if_neg (by omega)]) (by omega) (by omega) (by omega) (by omega));have q1:=Lib.hid (fun X=>aS X op 91 6 3 (0,0,0,false) (by rw [firstM,if_neg (by omega),if_neg (by omega)]) (by omega) (by omega) (by omega) (by omega));have q2:=Lib.hid (fun X=>aS X op 103 18 5 (0,0,0,false) (by rw [firstM,if_neg (by omega),if_neg (by omega)]) (by omega) (by omega) (by omega) (by omega));have q3:=Lib.hid (fun X=>aS X op 139 14 7 (7,op - 139,32,true) (by rw [firstM,if_pos (by omega)]) (by omega) (by omega) (by omega) (by omega));go_enter Tryz.func165,Tryz.ntmps165;have hB0:=(Below.refl W.heap.size W).alloc (Nat.le_refl _) (.cells #[.int .i64 0, .int .i64 0, .int .i64 0] 239);have hb0:=Blk.new W #[.int .i64 0, .int .i64 0, .int .i64 0] 239;have hz0:W.heap.size<(W.alloc (.cells #[.int .i64 0, .int .i64 0, .int .i64 0] 239)).heap.size:=by simp
 go_wp2_with fail;refine (q0.out _).mono ?_;rintro E0 V1 ⟨rfl,hq0⟩;obtain ⟨hB1,hb1,hz1⟩:=aR hB0 hb0 hz0 hq0;clear hq0 hB0 hb0 hz0 q0;go_wp2_with fail;refine (q1.out _).mono ?_;rintro E1 V2 ⟨rfl,hq1⟩;obtain ⟨hB2,hb2,hz2⟩:=aR hB1 hb1 hz1 hq1;clear hq1 hB1 hb1 hz1 q1;go_wp2_with fail;refine (q2.out _).mono ?_;rintro E2 V3 ⟨rfl,hq2⟩;obtain ⟨hB3,hb3,hz3⟩:=aR hB2 hb2 hz2 hq2;clear hq2 hB2 hb2 hz2 q2;go_wp2_with fail;refine (q3.out _).mono ?_;rintro E3 V4 ⟨rfl,hq3⟩;obtain ⟨hB4,hb4,hz4⟩:=aR hB3 hb3 hz3 hq3;clear hq3 hB3 hb3 hz3 q3;obtain ⟨f0,f1,f2,i0,i1,i2⟩:=cZ hb4;have hbf:=Lib.hid hb4;clear hb4;go_wp2_with fail
 all_goals
  obtain ⟨e0,e1,e2⟩:=dC hbf.out hz4 (.int .i64 6) (.int .i64 (op - 139)) (.int .i64 32);exact bodyPost_ret (v:= .agg #[.int .i64 6, .int .i64 (op - 139), .int .i64 32]) (by simp [results,Tryz.results165,go_sem,e0,e1,e2]) rfl ⟨rfl,by (repeat (first|exact hB4|refine Below.setCell ?_ (by first|(simp;done)|(simp;omega)) _|refine Below.alloc ?_ (by first|(simp;done)|(simp [World.setCell];omega)) _))⟩
theorem DZ (W:World) (op:Int) (h0:146≤op) (h1:op≤152):Calls Tryz.prog 165 #[.int .i64 op] W (bR W (7,op - 139,32)):=by
 have q0:=Lib.hid (fun X=>aS X op 69 11 2 (0,0,0,false) (by rw [firstM,if_neg (by omega),if_neg (by omega)]) (by omega) (by omega) (by omega) (by omega));have q1:=Lib.hid (fun X=>aS X op 91 6 3 (0,0,0,false) (by rw [firstM,if_neg (by omega),if_neg (by omega)]) (by omega) (by omega) (by omega) (by omega));have q2:=Lib.hid (fun X=>aS X op 103 18 5 (0,0,0,false) (by rw [firstM,if_neg (by omega),if_neg (by omega)]) (by omega) (by omega) (by omega) (by omega));have q3:=Lib.hid (fun X=>aS X op 139 14 7 (7,op - 139,32,true) (by rw [firstM,if_pos (by omega)]) (by omega) (by omega) (by omega) (by omega));go_enter Tryz.func165,Tryz.ntmps165;have hB0:=(Below.refl W.heap.size W).alloc (Nat.le_refl _) (.cells #[.int .i64 0, .int .i64 0, .int .i64 0] 239);have hb0:=Blk.new W #[.int .i64 0, .int .i64 0, .int .i64 0] 239;have hz0:W.heap.size<(W.alloc (.cells #[.int .i64 0, .int .i64 0, .int .i64 0] 239)).heap.size:=by simp
 go_wp2_with fail;refine (q0.out _).mono ?_;rintro E0 V1 ⟨rfl,hq0⟩;obtain ⟨hB1,hb1,hz1⟩:=aR hB0 hb0 hz0 hq0;clear hq0 hB0 hb0 hz0 q0;go_wp2_with fail;refine (q1.out _).mono ?_;rintro E1 V2 ⟨rfl,hq1⟩;obtain ⟨hB2,hb2,hz2⟩:=aR hB1 hb1 hz1 hq1;clear hq1 hB1 hb1 hz1 q1;go_wp2_with fail;refine (q2.out _).mono ?_;rintro E2 V3 ⟨rfl,hq2⟩;obtain ⟨hB3,hb3,hz3⟩:=aR hB2 hb2 hz2 hq2;clear hq2 hB2 hb2 hz2 q2;go_wp2_with fail;refine (q3.out _).mono ?_;rintro E3 V4 ⟨rfl,hq3⟩;obtain ⟨hB4,hb4,hz4⟩:=aR hB3 hb3 hz3 hq3;clear hq3 hB3 hb3 hz3 q3;obtain ⟨f0,f1,f2,i0,i1,i2⟩:=cZ hb4;have hbf:=Lib.hid hb4;clear hb4;go_wp2_with fail
 all_goals
  obtain ⟨e0,e1,e2⟩:=dC hbf.out hz4 (.int .i64 7) (.int .i64 (op - 139)) (.int .i64 32);exact bodyPost_ret (v:= .agg #[.int .i64 7, .int .i64 (op - 139), .int .i64 32]) (by simp [results,Tryz.results165,go_sem,e0,e1,e2]) rfl ⟨rfl,by (repeat (first|exact hB4|refine Below.setCell ?_ (by first|(simp;done)|(simp;omega)) _|refine Below.alloc ?_ (by first|(simp;done)|(simp [World.setCell];omega)) _))⟩
theorem BU (W:World) (op:Int) (h0:153≤op) (h1:op≤159):Calls Tryz.prog 165 #[.int .i64 op] W (bR W (6,op - 139 - 14,64)):=by
 have q0:=Lib.hid (fun X=>aS X op 69 11 2 (0,0,0,false) (by rw [firstM,if_neg (by omega),if_neg (by omega)]) (by omega) (by omega) (by omega) (by omega));have q1:=Lib.hid (fun X=>aS X op 91 6 3 (0,0,0,false) (by rw [firstM,if_neg (by omega),if_neg (by omega)]) (by omega) (by omega) (by omega) (by omega));have q2:=Lib.hid (fun X=>aS X op 103 18 5 (0,0,0,false) (by rw [firstM,if_neg (by omega),if_neg (by omega)]) (by omega) (by omega) (by omega) (by omega));have q3:=Lib.hid (fun X=>aS X op 139 14 7 (7,op - 139 - 14,64,true) (by rw [firstM,if_neg (by omega),if_pos (by omega)]) (by omega) (by omega) (by omega) (by omega));go_enter Tryz.func165,Tryz.ntmps165;have hB0:=(Below.refl W.heap.size W).alloc (Nat.le_refl _) (.cells #[.int .i64 0, .int .i64 0, .int .i64 0] 239);have hb0:=Blk.new W #[.int .i64 0, .int .i64 0, .int .i64 0] 239;have hz0:W.heap.size<(W.alloc (.cells #[.int .i64 0, .int .i64 0, .int .i64 0] 239)).heap.size:=by simp
 go_wp2_with fail;refine (q0.out _).mono ?_;rintro E0 V1 ⟨rfl,hq0⟩;obtain ⟨hB1,hb1,hz1⟩:=aR hB0 hb0 hz0 hq0;clear hq0 hB0 hb0 hz0 q0;go_wp2_with fail;refine (q1.out _).mono ?_;rintro E1 V2 ⟨rfl,hq1⟩;obtain ⟨hB2,hb2,hz2⟩:=aR hB1 hb1 hz1 hq1;clear hq1 hB1 hb1 hz1 q1;go_wp2_with fail;refine (q2.out _).mono ?_;rintro E2 V3 ⟨rfl,hq2⟩;obtain ⟨hB3,hb3,hz3⟩:=aR hB2 hb2 hz2 hq2;clear hq2 hB2 hb2 hz2 q2;go_wp2_with fail;refine (q3.out _).mono ?_;rintro E3 V4 ⟨rfl,hq3⟩;obtain ⟨hB4,hb4,hz4⟩:=aR hB3 hb3 hz3 hq3;clear hq3 hB3 hb3 hz3 q3;obtain ⟨f0,f1,f2,i0,i1,i2⟩:=cZ hb4;have hbf:=Lib.hid hb4;clear hb4;go_wp2_with fail
 all_goals
  obtain ⟨e0,e1,e2⟩:=dC hbf.out hz4 (.int .i64 6) (.int .i64 (op - 139 - 14)) (.int .i64 64);exact bodyPost_ret (v:= .agg #[.int .i64 6, .int .i64 (op - 139 - 14), .int .i64 64]) (by simp [results,Tryz.results165,go_sem,e0,e1,e2]) rfl ⟨rfl,by (repeat (first|exact hB4|refine Below.setCell ?_ (by first|(simp;done)|(simp;omega)) _|refine Below.alloc ?_ (by first|(simp;done)|(simp [World.setCell];omega)) _))⟩
theorem D9 (W:World) (op:Int) (h0:160≤op) (h1:op≤166):Calls Tryz.prog 165 #[.int .i64 op] W (bR W (7,op - 139 - 14,64)):=by
 have q0:=Lib.hid (fun X=>aS X op 69 11 2 (0,0,0,false) (by rw [firstM,if_neg (by omega),if_neg (by omega)]) (by omega) (by omega) (by omega) (by omega));have q1:=Lib.hid (fun X=>aS X op 91 6 3 (0,0,0,false) (by rw [firstM,if_neg (by omega),if_neg (by omega)]) (by omega) (by omega) (by omega) (by omega));have q2:=Lib.hid (fun X=>aS X op 103 18 5 (0,0,0,false) (by rw [firstM,if_neg (by omega),if_neg (by omega)]) (by omega) (by omega) (by omega) (by omega));have q3:=Lib.hid (fun X=>aS X op 139 14 7 (7,op - 139 - 14,64,true) (by rw [firstM,if_neg (by omega),if_pos (by omega)]) (by omega) (by omega) (by omega) (by omega));go_enter Tryz.func165,Tryz.ntmps165;have hB0:=(Below.refl W.heap.size W).alloc (Nat.le_refl _) (.cells #[.int .i64 0, .int .i64 0, .int .i64 0] 239);have hb0:=Blk.new W #[.int .i64 0, .int .i64 0, .int .i64 0] 239;have hz0:W.heap.size<(W.alloc (.cells #[.int .i64 0, .int .i64 0, .int .i64 0] 239)).heap.size:=by simp
 go_wp2_with fail;refine (q0.out _).mono ?_;rintro E0 V1 ⟨rfl,hq0⟩;obtain ⟨hB1,hb1,hz1⟩:=aR hB0 hb0 hz0 hq0;clear hq0 hB0 hb0 hz0 q0;go_wp2_with fail;refine (q1.out _).mono ?_;rintro E1 V2 ⟨rfl,hq1⟩;obtain ⟨hB2,hb2,hz2⟩:=aR hB1 hb1 hz1 hq1;clear hq1 hB1 hb1 hz1 q1;go_wp2_with fail;refine (q2.out _).mono ?_;rintro E2 V3 ⟨rfl,hq2⟩;obtain ⟨hB3,hb3,hz3⟩:=aR hB2 hb2 hz2 hq2;clear hq2 hB2 hb2 hz2 q2;go_wp2_with fail;refine (q3.out _).mono ?_;rintro E3 V4 ⟨rfl,hq3⟩;obtain ⟨hB4,hb4,hz4⟩:=aR hB3 hb3 hz3 hq3;clear hq3 hB3 hb3 hz3 q3;obtain ⟨f0,f1,f2,i0,i1,i2⟩:=cZ hb4;have hbf:=Lib.hid hb4;clear hb4;go_wp2_with fail
 all_goals
  obtain ⟨e0,e1,e2⟩:=dC hbf.out hz4 (.int .i64 7) (.int .i64 (op - 139 - 14)) (.int .i64 64);exact bodyPost_ret (v:= .agg #[.int .i64 7, .int .i64 (op - 139 - 14), .int .i64 64]) (by simp [results,Tryz.results165,go_sem,e0,e1,e2]) rfl ⟨rfl,by (repeat (first|exact hB4|refine Below.setCell ?_ (by first|(simp;done)|(simp;omega)) _|refine Below.alloc ?_ (by first|(simp;done)|(simp [World.setCell];omega)) _))⟩
theorem CR (W:World) (op:Int) (h0:167≤op) (h1:op≤191):Calls Tryz.prog 165 #[.int .i64 op] W (bR W (8,op - 167,0)):=by
 have q0:=Lib.hid (fun X=>aS X op 69 11 2 (0,0,0,false) (by rw [firstM,if_neg (by omega),if_neg (by omega)]) (by omega) (by omega) (by omega) (by omega));have q1:=Lib.hid (fun X=>aS X op 91 6 3 (0,0,0,false) (by rw [firstM,if_neg (by omega),if_neg (by omega)]) (by omega) (by omega) (by omega) (by omega));have q2:=Lib.hid (fun X=>aS X op 103 18 5 (0,0,0,false) (by rw [firstM,if_neg (by omega),if_neg (by omega)]) (by omega) (by omega) (by omega) (by omega));have q3:=Lib.hid (fun X=>aS X op 139 14 7 (0,0,0,false) (by rw [firstM,if_neg (by omega),if_neg (by omega)]) (by omega) (by omega) (by omega) (by omega));go_enter Tryz.func165,Tryz.ntmps165;have hB0:=(Below.refl W.heap.size W).alloc (Nat.le_refl _) (.cells #[.int .i64 0, .int .i64 0, .int .i64 0] 239);have hb0:=Blk.new W #[.int .i64 0, .int .i64 0, .int .i64 0] 239;have hz0:W.heap.size<(W.alloc (.cells #[.int .i64 0, .int .i64 0, .int .i64 0] 239)).heap.size:=by simp
 go_wp2_with fail;refine (q0.out _).mono ?_;rintro E0 V1 ⟨rfl,hq0⟩;obtain ⟨hB1,hb1,hz1⟩:=aR hB0 hb0 hz0 hq0;clear hq0 hB0 hb0 hz0 q0;go_wp2_with fail;refine (q1.out _).mono ?_;rintro E1 V2 ⟨rfl,hq1⟩;obtain ⟨hB2,hb2,hz2⟩:=aR hB1 hb1 hz1 hq1;clear hq1 hB1 hb1 hz1 q1;go_wp2_with fail;refine (q2.out _).mono ?_;rintro E2 V3 ⟨rfl,hq2⟩;obtain ⟨hB3,hb3,hz3⟩:=aR hB2 hb2 hz2 hq2;clear hq2 hB2 hb2 hz2 q2;go_wp2_with fail;refine (q3.out _).mono ?_;rintro E3 V4 ⟨rfl,hq3⟩;obtain ⟨hB4,hb4,hz4⟩:=aR hB3 hb3 hz3 hq3;clear hq3 hB3 hb3 hz3 q3;obtain ⟨f0,f1,f2,i0,i1,i2⟩:=cZ hb4;have hbf:=Lib.hid hb4;clear hb4;go_wp2_with fail
 all_goals
  obtain ⟨e0,e1,e2⟩:=dC hbf.out hz4 (.int .i64 8) (.int .i64 (op - 167)) (.int .i64 0);exact bodyPost_ret (v:= .agg #[.int .i64 8, .int .i64 (op - 167), .int .i64 0]) (by simp [results,Tryz.results165,go_sem,e0,e1,e2]) rfl ⟨rfl,by (repeat (first|exact hB4|refine Below.setCell ?_ (by first|(simp;done)|(simp;omega)) _|refine Below.alloc ?_ (by first|(simp;done)|(simp [World.setCell];omega)) _))⟩
theorem xB (W:World) (op:Int) (h0:64512≤op) (h1:op≤64519):Calls Tryz.prog 165 #[.int .i64 op] W (bR W (9,op - 64512,0)):=by
 have q0:=Lib.hid (fun X=>aS X op 69 11 2 (0,0,0,false) (by rw [firstM,if_neg (by omega),if_neg (by omega)]) (by omega) (by omega) (by omega) (by omega));have q1:=Lib.hid (fun X=>aS X op 91 6 3 (0,0,0,false) (by rw [firstM,if_neg (by omega),if_neg (by omega)]) (by omega) (by omega) (by omega) (by omega));have q2:=Lib.hid (fun X=>aS X op 103 18 5 (0,0,0,false) (by rw [firstM,if_neg (by omega),if_neg (by omega)]) (by omega) (by omega) (by omega) (by omega));have q3:=Lib.hid (fun X=>aS X op 139 14 7 (0,0,0,false) (by rw [firstM,if_neg (by omega),if_neg (by omega)]) (by omega) (by omega) (by omega) (by omega));go_enter Tryz.func165,Tryz.ntmps165;have hB0:=(Below.refl W.heap.size W).alloc (Nat.le_refl _) (.cells #[.int .i64 0, .int .i64 0, .int .i64 0] 239);have hb0:=Blk.new W #[.int .i64 0, .int .i64 0, .int .i64 0] 239;have hz0:W.heap.size<(W.alloc (.cells #[.int .i64 0, .int .i64 0, .int .i64 0] 239)).heap.size:=by simp
 go_wp2_with fail;refine (q0.out _).mono ?_;rintro E0 V1 ⟨rfl,hq0⟩;obtain ⟨hB1,hb1,hz1⟩:=aR hB0 hb0 hz0 hq0;clear hq0 hB0 hb0 hz0 q0;go_wp2_with fail;refine (q1.out _).mono ?_;rintro E1 V2 ⟨rfl,hq1⟩;obtain ⟨hB2,hb2,hz2⟩:=aR hB1 hb1 hz1 hq1;clear hq1 hB1 hb1 hz1 q1;go_wp2_with fail;refine (q2.out _).mono ?_;rintro E2 V3 ⟨rfl,hq2⟩;obtain ⟨hB3,hb3,hz3⟩:=aR hB2 hb2 hz2 hq2;clear hq2 hB2 hb2 hz2 q2;go_wp2_with fail;refine (q3.out _).mono ?_;rintro E3 V4 ⟨rfl,hq3⟩;obtain ⟨hB4,hb4,hz4⟩:=aR hB3 hb3 hz3 hq3;clear hq3 hB3 hb3 hz3 q3;obtain ⟨f0,f1,f2,i0,i1,i2⟩:=cZ hb4;have hbf:=Lib.hid hb4;clear hb4;go_wp2_with fail
 all_goals
  obtain ⟨e0,e1,e2⟩:=dC hbf.out hz4 (.int .i64 9) (.int .i64 (op - 64512)) (.int .i64 0);exact bodyPost_ret (v:= .agg #[.int .i64 9, .int .i64 (op - 64512), .int .i64 0]) (by simp [results,Tryz.results165,go_sem,e0,e1,e2]) rfl ⟨rfl,by (repeat (first|exact hB4|refine Below.setCell ?_ (by first|(simp;done)|(simp;omega)) _|refine Below.alloc ?_ (by first|(simp;done)|(simp [World.setCell];omega)) _))⟩
theorem zW (W:World) (op:Int) (h0: -9223372036854775808≤op) (h1:op≤9223372036854775807) (h2:op< 69∨191< op) (h3:op< 64512∨64519< op):Calls Tryz.prog 165 #[.int .i64 op] W (bR W (0,0,0)):=by
 have q0:=Lib.hid (fun X=>aS X op 69 11 2 (0,0,0,false) (by rw [firstM,if_neg (by omega),if_neg (by omega)]) (by omega) (by omega) (by omega) (by omega));have q1:=Lib.hid (fun X=>aS X op 91 6 3 (0,0,0,false) (by rw [firstM,if_neg (by omega),if_neg (by omega)]) (by omega) (by omega) (by omega) (by omega));have q2:=Lib.hid (fun X=>aS X op 103 18 5 (0,0,0,false) (by rw [firstM,if_neg (by omega),if_neg (by omega)]) (by omega) (by omega) (by omega) (by omega));have q3:=Lib.hid (fun X=>aS X op 139 14 7 (0,0,0,false) (by rw [firstM,if_neg (by omega),if_neg (by omega)]) (by omega) (by omega) (by omega) (by omega));go_enter Tryz.func165,Tryz.ntmps165;have hB0:=(Below.refl W.heap.size W).alloc (Nat.le_refl _) (.cells #[.int .i64 0, .int .i64 0, .int .i64 0] 239);have hb0:=Blk.new W #[.int .i64 0, .int .i64 0, .int .i64 0] 239;have hz0:W.heap.size<(W.alloc (.cells #[.int .i64 0, .int .i64 0, .int .i64 0] 239)).heap.size:=by simp
 go_wp2_with fail;refine (q0.out _).mono ?_;rintro E0 V1 ⟨rfl,hq0⟩;obtain ⟨hB1,hb1,hz1⟩:=aR hB0 hb0 hz0 hq0;clear hq0 hB0 hb0 hz0 q0;go_wp2_with fail;refine (q1.out _).mono ?_;rintro E1 V2 ⟨rfl,hq1⟩;obtain ⟨hB2,hb2,hz2⟩:=aR hB1 hb1 hz1 hq1;clear hq1 hB1 hb1 hz1 q1;go_wp2_with fail;refine (q2.out _).mono ?_;rintro E2 V3 ⟨rfl,hq2⟩;obtain ⟨hB3,hb3,hz3⟩:=aR hB2 hb2 hz2 hq2;clear hq2 hB2 hb2 hz2 q2;go_wp2_with fail;refine (q3.out _).mono ?_;rintro E3 V4 ⟨rfl,hq3⟩;obtain ⟨hB4,hb4,hz4⟩:=aR hB3 hb3 hz3 hq3;clear hq3 hB3 hb3 hz3 q3;obtain ⟨f0,f1,f2,i0,i1,i2⟩:=cZ hb4;have hbf:=Lib.hid hb4;clear hb4;go_wp2_with fail
 all_goals
  obtain ⟨e0,e1,e2⟩:=dC hbf.out hz4 (.int .i64 0) (.int .i64 0) (.int .i64 0);exact bodyPost_ret (v:= .agg #[.int .i64 0, .int .i64 0, .int .i64 0]) (by simp [results,Tryz.results165,go_sem,e0,e1,e2]) rfl ⟨rfl,by (repeat (first|exact hB4|refine Below.setCell ?_ (by first|(simp;done)|(simp;omega)) _|refine Below.alloc ?_ (by first|(simp;done)|(simp [World.setCell];omega)) _))⟩
end Go.Proofs.YtofaiocffifhfaaGreat
section
namespace Go.Proofs.YtofaiocffifhfaaGreatB
open Go.RowKit Go.Proofs.YtofaiocffifhfaaGreatW.PrintWords
section
variable {α:Type} {d:Kd α} {W:World} {ok:Nat→Prop} {A:Option Addr} {xs:List α}
theorem FC.inner (h:FC d W ok A xs) (h1:0< d.sz):
  ∃inner,iW (fun x c=>FK d W ok x c) d.sz xs inner∧(0< xs.length→∃ad,A=some ad∧∀j u,inner[j]? =some u→W.cell? (ad.add j)=some u):=by
 rcases Nat.eq_zero_or_pos xs.length with hz|hz
 ·obtain rfl:xs= []:=List.eq_nil_of_length_eq_zero hz;exact ⟨[],iW.none _ _,fun h=>absurd h (by simp)⟩
 ·obtain ⟨b0,o0,_,_,rfl,_⟩:=FC.at_ h h1 0 hz
  have key:∀m,m≤xs.length→∃inner,iW (fun x c=>FK d W ok x c) d.sz (xs.take m) inner∧∀j u,inner[j]? =some u→W.cell? ⟨b0,o0+j,none⟩=some u:=by
   intro m
   induction m with
   |zero=>exact fun _=>⟨[],iW.none _ _,fun j u hu=>by simp at hu⟩
   |succ m ih=>
    intro hm;obtain ⟨inner,hr,hc⟩:=ih (by omega);obtain ⟨b,o,x,cs,e,hx,hk,hcc⟩:=FC.at_ h h1 m (by omega);injection e with e;injection e with e1 e2;subst e1 e2;refine ⟨inner++cs, ?_,fun j u hu=> ?_⟩
    ·rw [List.take_add_one,hx.out];exact hr.snoc hk (d.K_len hk.now)
    ·have hil:inner.length=m * d.sz:=by rw [hr.1,List.length_take,Nat.min_eq_left (by omega)]
     rcases Nat.lt_or_ge j inner.length with hj|hj
     ·rw [List.getElem?_append_left hj]at hu;exact hc j u hu
     ·rw [List.getElem?_append_right hj]at hu;have:=hcc (j - inner.length) u hu
      rwa [show o0+m * d.sz+(j - inner.length)=o0+j from by omega]at this
  obtain ⟨inner,hr,hc⟩:=key xs.length (Nat.le_refl _);rw [List.take_length]at hr;exact ⟨inner,hr,fun _=>⟨_,rfl,fun j u hu=>by rw [show (⟨b0,o0,none⟩:Addr).add j=⟨b0,o0+j,none⟩from by unfold Addr.add;split<;>simp_all];exact hc j u hu⟩⟩
end
section
variable {α:Type} {d:Kd α} {P:Program} {ops:Array Oper} {rest:List Oper} {o:Oper} {a:Act} {Q:Exit→Act→World→Prop} {W:World}
theorem Own.qY (base:Nat) (t e ty:TypeId) (z:Value) (bytes:Nat)
  (ht:P.underlying t=some (.slice e)) (hinfo:(P.info? e).map (fun i=>(i.zero,i.size,i.bytes))=some (some z,d.sz,bytes)) (hz:z.cells.size=d.sz) (hs0:0< d.sz) (hb0:0< bytes)
  (v:Value) (xs ys:List α) (A:Option Addr) (c:Nat) (ok:Nat→Prop) (HY:FC d W (fun k=>ok k∧some k≠v.ownBlock) A ys)
  (HO:Own d e W base ok v xs) (hbase:base≤W.heap.size) (hl:(xs.length+ys.length) * bytes≤140737488355328):
  ∃v1 w1,(Builtin.append_ #[t,t] ty #[v, .slice A ys.length c]).run P W= .ok v1 w1∧Own d e w1 base ok v1 (xs++ys)∧W.grownBy w1 v.ownBlock∧(v1.ownBlock=v.ownBlock∨v1.ownBlock=some W.heap.size):=by
 obtain ⟨inner,hown,hr⟩:=HO;obtain ⟨news,hn,hsrc⟩:=HY.inner hs0
 obtain ⟨v1,w1,hrun,hown1,hg,hat⟩:=lC (P:=P) base t e ty z d.sz bytes ht hinfo hz hs0 hb0 v xs.length inner news A ys.length c hown hn.1 hsrc (fun u hu=>by
  obtain ⟨j,hj,rfl⟩:=List.getElem_of_mem hu;have hjl:j / d.sz< ys.length:=by rw [hn.1]at hj;exact Nat.div_lt_of_lt_mul (by rw [Nat.mul_comm];exact hj)
  have hk:=hn.2 (j / d.sz) _ (List.getElem?_eq_getElem hjl);refine d.K_one hk.now _ (List.mem_of_getElem? (i:=j % d.sz) ?_)
  rw [List.getElem?_take,if_pos (Nat.mod_lt _ hs0),List.getElem?_drop,show j / d.sz * d.sz+j % d.sz=j from by rw [Nat.mul_comm];exact Nat.div_add_mod j d.sz,List.getElem?_eq_getElem hj]) hbase hl
 refine ⟨v1,w1,hrun,⟨inner++news,by rw [List.length_append];exact hown1, ?_⟩,hg,hat⟩
 have hnew:∀k,k< W.heap.size→some k≠v.ownBlock→some k≠v1.ownBlock:=by
  intro k hk hne;rcases hat with hat|hat
  ·rw [hat];exact hne
  ·rw [hat];intro e;injection e with e;omega
 have hmove:∀p c,FK d W (fun k=>ok k∧some k≠v.ownBlock) p c→FK d w1 (fun k=>ok k∧some k≠v1.ownBlock) p c:=fun p c hp=>
  Ft.grown (Ft.bound hp (fun k hk hlt=>(⟨⟨hk.1,hnew k hlt hk.2⟩,hk.2⟩:(ok k∧some k≠v1.ownBlock)∧some k≠v.ownBlock))) hg (fun k hk=>hk.2) |>.mono (fun k hk=>hk.1)
 exact Kd.wU (hr.jV hmove) (hn.jV hmove)
theorem Own.mX (base:Nat) (hgd:o.guard=none) (s x:Operand) (t e:TypeId) (z:Value) (bytes:Nat)
  (ho:o.op= .call {callee:= .builtin .append,args:=#[s,x],argTypes:=#[t,t]})
  (ht:P.underlying t=some (.slice e)) (hinfo:(P.info? e).map (fun i=>(i.zero,i.size,i.bytes))=some (some z,d.sz,bytes)) (hz:z.cells.size=d.sz) (hs0:0< d.sz) (hb0:0< bytes)
  (v:Value) (xs ys:List α) (A:Option Addr) (c:Nat) (ok:Nat→Prop) (hs:a.eval s=v) (hx:a.eval x= .slice A ys.length c) (HY:FC d W (fun k=>ok k∧some k≠v.ownBlock) A ys)
  (HO:Own d e W base ok v xs) (hbase:base≤W.heap.size) (hl:(xs.length+ys.length) * bytes≤140737488355328)
  (h:∀v1 w1,Own d e w1 base ok v1 (xs++ys)→W.grownBy w1 v.ownBlock→(v1.ownBlock=v.ownBlock∨v1.ownBlock=some W.heap.size)→wpList P ops Q rest (a.put o.dst v1) w1):
  wpList P ops Q (o::rest) a W:=by
 obtain ⟨v1,w1,hr,h2,h3,h5⟩:=Own.qY (P:=P) base t e o.type z bytes ht hinfo hz hs0 hb0 v xs ys A c ok HY HO hbase hl;refine wpList_plain hgd fun K hK=> ?_
 unfold Oper.wp execOp;simp only [ho,resolve,invoke,builtin,Sem.run_bind,Sem.run_pure,Result.andThen_ok,List.map_toArray,List.map_cons,List.map_nil,hs,hx,hr];exact hK _ _ (h v1 w1 h2 h3 h5)
end
end Go.Proofs.YtofaiocffifhfaaGreatB
end
