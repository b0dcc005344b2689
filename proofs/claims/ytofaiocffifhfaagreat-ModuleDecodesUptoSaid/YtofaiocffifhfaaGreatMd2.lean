/- Lemmas towards this claim's statement, each under the conditions that it states itself. -/
import Derived.Test.YtofaiocffifhfaaGreatMd1
import Derived.Laws.BitsAllLaws
set_option maxRecDepth 100000
set_option maxHeartbeats 8000000
set_option linter.unusedVariables false
set_option linter.unusedSimpArgs false
section
namespace Go.Proofs.YtofaiocffifhfaaGreatB
open Go.RowKit Go.Proofs.YtofaiocffifhfaaGreatW.PrintWords
theorem bA (W:World) (b i:Nat) (v:Value):W.grownBy (W.setCell ⟨b,i,none⟩ v) (some b):=
 ⟨rfl,rfl,rfl,by simp [World.setCell],fun k _ hk=>Below.heap_setCell W _ v k (fun e=>hk (by rw [e]))⟩
def ByQ (W:World) (q:Nat) (A:Option Addr) (B:List Int):Prop:=
 0< B.length→∃o,A=some ⟨q,o,none⟩∧∀j x,B[j]? =some x→W.cell? ⟨q,o+j,none⟩=some (.int .u8 x)
theorem ByQ.grown {W W' :World} {q:Nat} {A:Option Addr} {B:List Int} (h:ByQ W q A B) {row:Option Nat} (hg:W.grownBy W' row) (hq:some q≠row):ByQ W' q A B:=fun hp=>by
 obtain ⟨o,e,hc⟩:=h hp
 exact ⟨o,e,fun j x hj=>by
  have hx:=hc j x hj;have hlt:=World.block_lt_of_cell? _ _ hx;rw [←hx]
  exact World.cell?_of_block (hg.block q hlt hq)⟩
theorem ByQ.at_ {W:World} {q:Nat} {A:Option Addr} {B:List Int} (h:ByQ W q A B) (i:Nat) (hi:i< B.length):∃o x,A=some ⟨q,o,none⟩∧Hid (B[i]? =some x)∧W.cell? ⟨q,o+i,none⟩=some (.int .u8 x):=by
 obtain ⟨o,e,hc⟩:=h (by omega);exact ⟨o,B[i],e,List.getElem?_eq_getElem hi,hc i _ (List.getElem?_eq_getElem hi)⟩
def aK (B:List Int):Prop:=B.length≤1048576∧∀x∈B,0≤x∧x≤255
theorem aK.get {B:List Int} (h:aK B) {i:Nat} {x:Int} (hx:B[i]? =some x):0≤x∧x≤255:=h.2 x (List.mem_of_getElem? hx)
end Go.Proofs.YtofaiocffifhfaaGreatB
namespace Go.Proofs.YtofaiocffifhfaaGreat
open Go.RowKit YtofaiocffifhfaaGreatB Go.Proofs.YtofaiocffifhfaaGreatW.PrintWords
def JH (W:World) (p q:Nat) (A:Option Addr) (c:Nat) (B:List Int) (a:Nat) (e:Int):Prop:=
 Blk W p #[.slice A B.length c, .int .i64 a, .int .i64 e] 124∧ByQ W q A B
def Cur (W:World) (p q:Nat) (B:List Int) (a:Nat) (e:Int):Prop:=p≠q∧a≤B.length∧∃A c,B.length≤c∧JH W p q A c B a e
theorem Cur.grown {W W' :World} {p q:Nat} {B:List Int} {a:Nat} {e:Int} (h:Cur W p q B a e) {row:Option Nat} (hg:W.grownBy W' row) (hp:some p≠row) (hq:some q≠row):Cur W' p q B a e:=by
 obtain ⟨h0,h1,A,c,h2,h3,h4⟩:=h;exact ⟨h0,h1,A,c,h2,h3.grown hg hp,h4.grown hg hq⟩
theorem Cur.below {W W' :World} {p q:Nat} {B:List Int} {a:Nat} {e:Int} (h:Cur W p q B a e) (hb:Below W.heap.size W W'):Cur W' p q B a e:=h.grown (aL hb none) (by simp) (by simp)
theorem Cur.alloc {W:World} {p q:Nat} {B:List Int} {a:Nat} {e:Int} (h:Cur W p q B a e) (o:Obj):Cur (W.alloc o) p q B a e:=h.grown (World.grownBy_alloc W o none) (by simp) (by simp)
theorem Cur.lt {W:World} {p q:Nat} {B:List Int} {a:Nat} {e:Int} (h:Cur W p q B a e):p< W.heap.size:=by
 obtain ⟨_,_,A,c,_,h3,_⟩:=h;exact h3.lt
theorem Cur.set {W:World} {p q:Nat} {B:List Int} {a:Nat} {e:Int} (h:Cur W p q B a e) (a' :Nat) (e' :Int) (ha:a' ≤B.length):Cur ((W.setCell ⟨p,2,none⟩ (.int .i64 e')).setCell ⟨p,1,none⟩ (.int .i64 a')) p q B a' e' :=by
 obtain ⟨h0,h1,A,c,h2,h3,h4⟩:=h;refine ⟨h0,ha,A,c,h2, ?_, ?_⟩
 ·have:=(h3.set 2 (.int .i64 e')).set 1 (.int .i64 a');simpa using this
 ·exact (h4.grown (bA W p 2 (.int .i64 e')) (fun e=>h0 (by injection e with e;exact e.symm))).grown (bA _ p 1 (.int .i64 a')) (fun e=>h0 (by injection e with e;exact e.symm))
theorem Cur.setAt {W:World} {p q:Nat} {B:List Int} {a:Nat} {e:Int} (h:Cur W p q B a e) (a' :Nat) (ha:a' ≤B.length):Cur (W.setCell ⟨p,1,none⟩ (.int .i64 a')) p q B a' e:=by
 obtain ⟨h0,h1,A,c,h2,h3,h4⟩:=h;refine ⟨h0,ha,A,c,h2, ?_, ?_⟩
 ·have:=h3.set 1 (.int .i64 a');simpa using this
 ·exact h4.grown (bA _ p 1 (.int .i64 a')) (fun e=>h0 (by injection e with e;exact e.symm))
def Goes (W W' :World) (p q:Nat) (B:List Int) (a:Nat) (e:Int):Prop:=Cur W' p q B a e∧W.grownBy W' (some p)
theorem Goes.same {W:World} {p q:Nat} {B:List Int} {a:Nat} {e:Int} (h:Cur W p q B a e):Goes W W p q B a e:=⟨h,World.grownBy.refl W _⟩
theorem Goes.drewN {W:World} {p q:Nat} {B:List Int} {a:Nat} {e:Int} (h:Cur W p q B a e) (m:Nat):Goes W (W.drewN m) p q B a e:=⟨h.below ⟨rfl,rfl,rfl,Nat.le_refl _,fun _ _=>rfl⟩,⟨rfl,rfl,rfl,Nat.le_refl _,fun _ _ _=>rfl⟩⟩
theorem Goes.trans {W W1 W2:World} {p q:Nat} {B:List Int} {a a' :Nat} {e e' :Int} (h:Goes W W1 p q B a e) (h' :Goes W1 W2 p q B a' e'):Goes W W2 p q B a' e' :=⟨h'.1,h.2.trans h'.2⟩
theorem Cur.cells {W:World} {p q:Nat} {B:List Int} {a:Nat} {e:Int} (h:Cur W p q B a e):
  ∃A c,W.cell? ⟨p,0,none⟩=some (.slice A B.length c)∧W.cell? ⟨p,1,none⟩=some (.int .i64 a)∧W.cell? ⟨p,2,none⟩=some (.int .i64 e)∧W.frozen? ⟨p,0,none⟩=false∧W.frozen? ⟨p,1,none⟩=false∧W.frozen? ⟨p,2,none⟩=false∧B.length≤c∧ByQ W q A B∧p< W.heap.size∧a≤B.length:=by
 obtain ⟨h0,h1,A,c,h2,h3,h4⟩:=h;exact ⟨A,c,by rw [h3.cell];rfl,by rw [h3.cell];rfl,by rw [h3.cell];rfl,h3.frozen 0,h3.frozen 1,h3.frozen 2,h2,h4,h3.lt,h1⟩
theorem bu (W:World) (p q:Nat) (B:List Int) (a:Nat) (e:Int) (b:Bool) (hC:Cur W p q B a e) (hb:(e==0)=b):
  Calls Tryz.prog 96 #[.pointer (some ⟨p,0,none⟩)] W fun E w' =>E= .returned (.bool b)∧W=w' :=by
 obtain ⟨A,c,c0,c1,c2,f0,f1,f2,hle,hq,hlt,ha⟩:=hC.cells;have HB:=Lib.hid hb;clear hb hC;go_enter Tryz.func96,Tryz.ntmps96;go_wp2;go_ret;exact ⟨by rw [←HB.out];rfl,rfl⟩
theorem Et (W:World) (p q:Nat) (B:List Int) (a:Nat) (e:Int) (hC:Cur W p q B a e):
  Calls Tryz.prog 16 #[.pointer (some ⟨p,0,none⟩)] W fun E w' =>E= .returned (.int .i64 a)∧W=w' :=by
 obtain ⟨A,c,c0,c1,c2,f0,f1,f2,hle,hq,hlt,ha⟩:=hC.cells;clear hC;go_enter Tryz.func16,Tryz.ntmps16;go_wp2;go_ret;exact ⟨rfl,rfl⟩
theorem lh (W:World) (p q:Nat) (B:List Int) (a:Nat) (e:Int) (hC:Cur W p q B a e):
  Calls Tryz.prog 15 #[.pointer (some ⟨p,0,none⟩)] W fun E w' =>E= .returned (.int .i64 e)∧W=w' :=by
 obtain ⟨A,c,c0,c1,c2,f0,f1,f2,hle,hq,hlt,ha⟩:=hC.cells;clear hC;go_enter Tryz.func15,Tryz.ntmps15;go_wp2;go_ret;exact ⟨rfl,rfl⟩
theorem kr (W:World) (p q:Nat) (B:List Int) (a:Nat) (e:Int) (hC:Cur W p q B a e) (hB:aK B):
  Calls Tryz.prog 40 #[.pointer (some ⟨p,0,none⟩)] W fun E w' =>E= .returned (.int .i64 ((B.length:Int) - a))∧Goes W w' p q B a e:=by
 have HC:=Lib.hid hC;obtain ⟨A,c,c0,c1,c2,f0,f1,f2,hle,hq,hlt,ha⟩:=hC.cells;have hl:=hB.1;clear hC hB;go_enter Tryz.func40,Tryz.ntmps40;go_wp2;go_quiet (fail);go_wp2;go_ret;exact ⟨rfl,Goes.drewN HC.out _⟩
theorem j4 (W:World) (p q:Nat) (B:List Int) (a a' :Nat) (e' :Int) (hC:Cur W p q B a 0) (he:(e' ==0)=false) (ha' :a' ≤B.length):
  Calls Tryz.prog 64 #[.pointer (some ⟨p,0,none⟩), .int .i64 e', .int .i64 a'] W fun E w' =>E= .returned (.tuple #[])∧Goes W w' p q B a' e' :=by
 have HC:=Lib.hid hC;have he2:(e' !=0)=true:=by simp only [bne,he];rfl
 obtain ⟨A,c,c0,c1,c2,f0,f1,f2,hle,hq,hlt,ha⟩:=hC.cells;clear hC;go_enter Tryz.func64,Tryz.ntmps64;go_wp2_with (go_at_call 96;refine (bu _ _ _ _ _ _ true HC.out rfl).mono ?_;rintro e w' ⟨rfl,rfl⟩);go_end0;exact ⟨rfl,HC.out.set a' e' ha',(bA _ _ _ _).trans (bA _ _ _ _)⟩
theorem zn (W:World) (p q:Nat) (B:List Int) (a:Nat) (e e' a' :Int) (hC:Cur W p q B a e) (he:(e==0)=false):
  Calls Tryz.prog 64 #[.pointer (some ⟨p,0,none⟩), .int .i64 e', .int .i64 a'] W fun E w' =>E= .returned (.tuple #[])∧W=w' :=by
 have HC:=Lib.hid hC;have HE:=Lib.hid he;clear hC he;go_enter Tryz.func64,Tryz.ntmps64;go_wp2_with (go_at_call 96;refine (bu _ _ _ _ _ _ false HC.out HE.out).mono ?_;rintro e w' ⟨rfl,rfl⟩);go_end0;exact ⟨rfl,rfl⟩
def cz (e e' :Int):Int:=if e=0 then e' else e
theorem eD (W:World) (p q:Nat) (B:List Int) (a:Nat) (e e' :Int) (hC:Cur W p q B a e) (he:(e' ==0)=false):
  Calls Tryz.prog 36 #[.pointer (some ⟨p,0,none⟩), .int .i64 e'] W fun E w' =>E= .returned (.tuple #[])∧Goes W w' p q B a (cz e e'):=by
 have HC:=Lib.hid hC;obtain ⟨A,c,c0,c1,c2,f0,f1,f2,hle,hq,hlt,ha⟩:=hC.cells
 have H:=Lib.hid (show ∀W',Cur W' p q B a e→Calls Tryz.prog 64 #[.pointer (some ⟨p,0,none⟩), .int .i64 e', .int .i64 a] W' fun E w' =>E= .returned (.tuple #[])∧Goes W' w' p q B a (cz e e')from fun W' h=>by
  by_cases h0:e=0
  ·subst h0;rw [cz,if_pos rfl];exact j4 W' p q B a a e' h he ha
  ·rw [cz,if_neg h0]
   exact (zn W' p q B a e e' a h (beq_eq_false_iff_ne.2 h0)).mono (by rintro E w' ⟨rfl,rfl⟩;exact ⟨rfl,Goes.same h⟩))
 clear hC he;go_enter Tryz.func36,Tryz.ntmps36;go_wp2_with fail;go_still_tail 9,(by kernel_rfl);change wpList _ _ _ _ _ W.drew;have HD:=Lib.hid (show Cur W.drew p q B a e from HC.out.below ⟨rfl,rfl,rfl,Nat.le_refl _,fun _ _=>rfl⟩);have HG:=Lib.hid (show W.grownBy W.drew (some p)from ⟨rfl,rfl,rfl,Nat.le_refl _,fun _ _ _=>rfl⟩);generalize W.drew=W2 at *;go_wp2_with (go_at_call 64;refine (H.out _ HD.out).mono ?_;rintro e w' ⟨rfl,hG⟩);go_end0;exact ⟨rfl,hG.1,HG.out.trans hG.2⟩
theorem yJ:(Tryz.prog.info? 5).map (·.size)=some 1:=by kernel_rfl
theorem uF (W:World) (p q:Nat) (B:List Int) (a n:Nat) (hC:Cur W p q B a 0) (hB:aK B) (hn:B.length< a+n) (hn2:n≤4294967296):
  Calls Tryz.prog 70 #[.pointer (some ⟨p,0,none⟩), .int .i64 n] W fun E w' =>E= .returned (.slice none 0 0)∧Goes W w' p q B a 100:=by
 have hl:=hB.1;go_enter Tryz.func70,Tryz.ntmps70;go_wp2_with fail;refine (kr _ _ _ _ _ _ hC hB).mono ?_;rintro E1 W1 ⟨rfl,hG1⟩;obtain ⟨A,c,c0,c1,c2,f0,f1,f2,hle,hq,hlt,ha⟩:=hG1.1.cells;have HG1:=Lib.hid hG1;clear hq hC hB hG1;go_wp2_with fail;go_still_tail 8,(by kernel_rfl);change wpList _ _ _ _ _ W1.drew;have HD:=Lib.hid (Goes.trans HG1.out (Goes.drewN HG1.out.1 1));have HDC:=Lib.hid (show Cur W1.drew p q B a 0 from HD.out.1);clear HG1;have HG2:=Lib.hid (show W.grownBy W1.drew (some p)from HD.out.2);clear HD;generalize W1.drew=W2 at *;go_wp2_with (go_at_call 64;refine (j4 _ _ _ _ _ _ _ HDC.out rfl ha).mono ?_;rintro e w' ⟨rfl,hG⟩);go_ret;exact ⟨rfl,hG.1,HG2.out.trans hG.2⟩
theorem qy (W:World) (p q:Nat) (B:List Int) (a n:Nat) (hC:Cur W p q B a 0) (hB:aK B) (hn:a+n≤B.length):
  Calls Tryz.prog 70 #[.pointer (some ⟨p,0,none⟩), .int .i64 n] W fun E w' =>(∃A' c',E= .returned (.slice A' n c')∧ByQ w' q A' ((B.drop a).take n))∧Goes W w' p q B (a+n) 0:=by
 have hl:=hB.1;go_enter Tryz.func70,Tryz.ntmps70;go_wp2_with fail;refine (kr _ _ _ _ _ _ hC hB).mono ?_;rintro E1 W1 ⟨rfl,hG1⟩;obtain ⟨A,c,c0,c1,c2,f0,f1,f2,hle,hq,hlt,ha⟩:=hG1.1.cells;have HQ:=Lib.hid hq;have HG1:=Lib.hid hG1;clear hC hB hq hG1;obtain ⟨A',hrun,hA'⟩:=BR (P:=Tryz.prog) 22 5 .i64 .i64 1 Tryz.underlying22 yJ A B.length c a (a+n) (by omega) (by omega);rw [Int.natCast_add]at hrun;have HA:=Lib.hid hA';clear hA'
 have hQ:=Lib.hid (show ByQ W1 q A' ((B.drop a).take n)from fun hp=>by
  have hn0:0< n∧a< B.length:=by rw [List.length_take,List.length_drop]at hp;omega
  obtain ⟨o,rfl,hc⟩:=HQ.out (by omega);refine ⟨o+a,by rw [HA.out (by omega)];simp [Addr.add]<;>omega,fun j x hj=> ?_⟩;rw [List.getElem?_take]at hj;split at hj
  ·rw [List.getElem?_drop]at hj;rw [Nat.add_assoc];exact hc _ _ hj
  ·cases hj)
 clear HQ;go_wp2_with fail;have hw:IntKind.i64.wrap ((a:Int)+n - n)=a:=by rw [IntKind.wrap_i64];omega
 go_quiet (fail);go_wp2;have h2:Cur (W1.setCell ⟨p,1,none⟩ (.int .i64 ((a:Int)+n))) p q B (a+n) 0:=by rw [←Int.natCast_add];exact HG1.out.1.setAt (a+n) hn
 have h3:Goes W ((W1.setCell ⟨p,1,none⟩ (.int .i64 ((a:Int)+n))).drewN nq) p q B (a+n) 0:=(HG1.out.trans ⟨h2,bA _ _ _ _⟩).trans (Goes.drewN h2 nq);go_ret;exact ⟨⟨A',c - a,rfl,(hQ.out.grown (bA W1 p 1 (.int .i64 ((a:Int)+n))) (fun e=>h2.1 (by injection e with e;exact e.symm))).grown (row:=none) ⟨rfl,rfl,rfl,Nat.le_refl _,fun _ _ _=>rfl⟩ (by simp)⟩,h3⟩
end Go.Proofs.YtofaiocffifhfaaGreat
end
namespace Go.Proofs.YtofaiocffifhfaaGreat
open Go.RowKit Go.Shelf YtofaiocffifhfaaGreatB Go.Proofs.YtofaiocffifhfaaGreatW.PrintWords
def rsV (v e' :Int):Int:=if e' =0 then v else 0
def rsA (a a' :Nat) (e' :Int):Nat:=if e' =0 then a' else a
def uC (f:Int→Value) (W:World) (p q:Nat) (B:List Int) (a:Nat) (e' :Int) (R:Int→Nat→Prop) (E:Ending) (w' :World):Prop:=∃v nx,R v nx∧E= .returned (f (rsV v e'))∧Goes W w' p q B (rsA a nx e') e'
theorem lL (W:World) (p q:Nat) (B:List Int) (a:Nat) (e:Int) (f:Value) (hC:Cur W p q B a e) (he:(e==0)=false):
  Calls Tryz.prog 68 #[.pointer (some ⟨p,0,none⟩),f] W fun E w' =>E= .returned (.int .u8 0)∧W=w' :=by
 have HC:=Lib.hid hC;have HE:=Lib.hid he;clear hC he;go_enter Tryz.func68,Tryz.ntmps68;go_wp2_with (go_at_call 96;refine (bu _ _ _ _ _ _ false HC.out HE.out).mono ?_;rintro e w' ⟨rfl,rfl⟩);go_ret;exact ⟨rfl,rfl⟩
theorem mQ (W:World) (p q:Nat) (B:List Int) (a:Nat) (g:FuncId) (hent:Enters Tryz.prog g) (lb:Array Value) (R:Int→Nat→Prop) (e' :Int) (hC:Cur W p q B a 0)
  (hg:Calls Tryz.prog g lb W fun E w' =>∃v nx,E= .returned (.int .u8 v)∧R v nx∧Goes W w' p q B nx e'):
  Calls Tryz.prog 68 #[.pointer (some ⟨p,0,none⟩), .func (.func g) #[] lb] W (uC (Value.int .u8) W p q B a e' R):=by
 have HC:=Lib.hid hC;have HG:=Lib.hid hg;obtain ⟨A,c,c0,c1,c2,f0,f1,f2,hle,hq,hlt,ha⟩:=hC.cells;have hin:∀args w,Sem.run Tryz.prog (callFunc g args) w= .ok (.enter g args) w:=hent;clear hC hg hq hent;go_enter Tryz.func68,Tryz.ntmps68;go_wp2_with fail;refine (bu _ _ _ _ _ _ true HC.out rfl).mono ?_;rintro E w' ⟨rfl,rfl⟩;go_wp2_with fail;refine HG.out.mono ?_;rintro E W2 ⟨v,a',rfl,hR,hG2⟩;have HR:=Lib.hid hR;clear hR;by_cases he:e' =0
 ·subst he;have HG2:=Lib.hid hG2;clear hG2 HG;go_wp2_with fail;refine (bu _ _ _ _ _ _ true HG2.out.1 rfl).mono ?_;rintro E w' ⟨rfl,rfl⟩;go_wp2_with fail;go_ret;exact ⟨v,a',HR.out,rfl,HG2.out⟩
 ·have he2:(e' ==0)=false:=beq_eq_false_iff_ne.2 he;have HE2:=Lib.hid he2;obtain ⟨A',c',g0,g1,g2,k0,k1,k2,gle,gq,glt,ga⟩:=hG2.1.cells;have HG2:=Lib.hid hG2;have HE:=Lib.hid he;clear hG2 HG gq he2 he;go_wp2_with fail;refine (bu _ _ _ _ _ _ false HG2.out.1 HE2.out).mono ?_;rintro E w' ⟨rfl,rfl⟩;go_wp2_with fail;go_ret;refine ⟨v,a',HR.out, ?_⟩;rw [rsV,rsA,if_neg HE.out,if_neg HE.out];exact ⟨rfl,HG2.out.1.setAt a ha,HG2.out.2.trans (bA _ _ _ _)⟩
theorem xz (W:World) (p q:Nat) (B:List Int) (a:Nat) (g:FuncId) (hent:Enters Tryz.prog g) (lb:Array Value) (v:Int) (a' :Nat) (e' :Int) (hC:Cur W p q B a 0)
  (hg:Calls Tryz.prog g lb W fun E w' =>E= .returned (.int .u8 v)∧Goes W w' p q B a' e'):
  Calls Tryz.prog 68 #[.pointer (some ⟨p,0,none⟩), .func (.func g) #[] lb] W fun E w' =>E= .returned (.int .u8 (rsV v e'))∧Goes W w' p q B (rsA a a' e') e' :=
 (mQ W p q B a g hent lb (fun x n=>x=v∧n=a') e' hC (hg.mono fun E w' h=>⟨v,a',h.1,⟨rfl,rfl⟩,h.2⟩)).mono fun E w' h=>by
  obtain ⟨x,n,⟨rfl,rfl⟩,h1,h2⟩:=h;exact ⟨h1,h2⟩
theorem jY (W:World) (p q:Nat) (B:List Int) (a:Nat) (e:Int) (f:Value) (hC:Cur W p q B a e) (he:(e==0)=false):
  Calls Tryz.prog 59 #[.pointer (some ⟨p,0,none⟩),f] W fun E w' =>E= .returned (.int .u32 0)∧W=w' :=by
 have HC:=Lib.hid hC;have HE:=Lib.hid he;clear hC he;go_enter Tryz.func59,Tryz.ntmps59;go_wp2_with (go_at_call 96;refine (bu _ _ _ _ _ _ false HC.out HE.out).mono ?_;rintro e w' ⟨rfl,rfl⟩);go_ret;exact ⟨rfl,rfl⟩
theorem pW (W:World) (p q:Nat) (B:List Int) (a:Nat) (g:FuncId) (hent:Enters Tryz.prog g) (lb:Array Value) (R:Int→Nat→Prop) (e' :Int) (hC:Cur W p q B a 0)
  (hg:Calls Tryz.prog g lb W fun E w' =>∃v nx,E= .returned (.int .u32 v)∧R v nx∧Goes W w' p q B nx e'):
  Calls Tryz.prog 59 #[.pointer (some ⟨p,0,none⟩), .func (.func g) #[] lb] W (uC (Value.int .u32) W p q B a e' R):=by
 have HC:=Lib.hid hC;have HG:=Lib.hid hg;obtain ⟨A,c,c0,c1,c2,f0,f1,f2,hle,hq,hlt,ha⟩:=hC.cells;have hin:∀args w,Sem.run Tryz.prog (callFunc g args) w= .ok (.enter g args) w:=hent;clear hC hg hq hent;go_enter Tryz.func59,Tryz.ntmps59;go_wp2_with fail;refine (bu _ _ _ _ _ _ true HC.out rfl).mono ?_;rintro E w' ⟨rfl,rfl⟩;go_wp2_with fail;refine HG.out.mono ?_;rintro E W2 ⟨v,a',rfl,hR,hG2⟩;have HR:=Lib.hid hR;clear hR;by_cases he:e' =0
 ·subst he;have HG2:=Lib.hid hG2;clear hG2 HG;go_wp2_with fail;refine (bu _ _ _ _ _ _ true HG2.out.1 rfl).mono ?_;rintro E w' ⟨rfl,rfl⟩;go_wp2_with fail;go_ret;exact ⟨v,a',HR.out,rfl,HG2.out⟩
 ·have he2:(e' ==0)=false:=beq_eq_false_iff_ne.2 he;have HE2:=Lib.hid he2;obtain ⟨A',c',g0,g1,g2,k0,k1,k2,gle,gq,glt,ga⟩:=hG2.1.cells;have HG2:=Lib.hid hG2;have HE:=Lib.hid he;clear hG2 HG gq he2 he;go_wp2_with fail;refine (bu _ _ _ _ _ _ false HG2.out.1 HE2.out).mono ?_;rintro E w' ⟨rfl,rfl⟩;go_wp2_with fail;go_ret;refine ⟨v,a',HR.out, ?_⟩;rw [rsV,rsA,if_neg HE.out,if_neg HE.out];exact ⟨rfl,HG2.out.1.setAt a ha,HG2.out.2.trans (bA _ _ _ _)⟩
theorem nY (W:World) (p q:Nat) (B:List Int) (a:Nat) (g:FuncId) (hent:Enters Tryz.prog g) (lb:Array Value) (v:Int) (a' :Nat) (e' :Int) (hC:Cur W p q B a 0)
  (hg:Calls Tryz.prog g lb W fun E w' =>E= .returned (.int .u32 v)∧Goes W w' p q B a' e'):
  Calls Tryz.prog 59 #[.pointer (some ⟨p,0,none⟩), .func (.func g) #[] lb] W fun E w' =>E= .returned (.int .u32 (rsV v e'))∧Goes W w' p q B (rsA a a' e') e' :=
 (pW W p q B a g hent lb (fun x n=>x=v∧n=a') e' hC (hg.mono fun E w' h=>⟨v,a',h.1,⟨rfl,rfl⟩,h.2⟩)).mono fun E w' h=>by
  obtain ⟨x,n,⟨rfl,rfl⟩,h1,h2⟩:=h;exact ⟨h1,h2⟩
theorem ko (W:World) (p q:Nat) (B:List Int) (a:Nat) (e:Int) (f:Value) (hC:Cur W p q B a e) (he:(e==0)=false):
  Calls Tryz.prog 162 #[.pointer (some ⟨p,0,none⟩),f] W fun E w' =>E= .returned (.int .u64 0)∧W=w' :=by
 have HC:=Lib.hid hC;have HE:=Lib.hid he;clear hC he;go_enter Tryz.func162,Tryz.ntmps162;go_wp2_with (go_at_call 96;refine (bu _ _ _ _ _ _ false HC.out HE.out).mono ?_;rintro e w' ⟨rfl,rfl⟩);go_ret;exact ⟨rfl,rfl⟩
theorem pR (W:World) (p q:Nat) (B:List Int) (a:Nat) (g:FuncId) (hent:Enters Tryz.prog g) (lb:Array Value) (R:Int→Nat→Prop) (e' :Int) (hC:Cur W p q B a 0)
  (hg:Calls Tryz.prog g lb W fun E w' =>∃v nx,E= .returned (.int .u64 v)∧R v nx∧Goes W w' p q B nx e'):
  Calls Tryz.prog 162 #[.pointer (some ⟨p,0,none⟩), .func (.func g) #[] lb] W (uC (Value.int .u64) W p q B a e' R):=by
 have HC:=Lib.hid hC;have HG:=Lib.hid hg;obtain ⟨A,c,c0,c1,c2,f0,f1,f2,hle,hq,hlt,ha⟩:=hC.cells;have hin:∀args w,Sem.run Tryz.prog (callFunc g args) w= .ok (.enter g args) w:=hent;clear hC hg hq hent;go_enter Tryz.func162,Tryz.ntmps162;go_wp2_with fail;refine (bu _ _ _ _ _ _ true HC.out rfl).mono ?_;rintro E w' ⟨rfl,rfl⟩;go_wp2_with fail;refine HG.out.mono ?_;rintro E W2 ⟨v,a',rfl,hR,hG2⟩;have HR:=Lib.hid hR;clear hR;by_cases he:e' =0
 ·subst he;have HG2:=Lib.hid hG2;clear hG2 HG;go_wp2_with fail;refine (bu _ _ _ _ _ _ true HG2.out.1 rfl).mono ?_;rintro E w' ⟨rfl,rfl⟩;go_wp2_with fail;go_ret;exact ⟨v,a',HR.out,rfl,HG2.out⟩
 ·have he2:(e' ==0)=false:=beq_eq_false_iff_ne.2 he;have HE2:=Lib.hid he2;obtain ⟨A',c',g0,g1,g2,k0,k1,k2,gle,gq,glt,ga⟩:=hG2.1.cells;have HG2:=Lib.hid hG2;have HE:=Lib.hid he;clear hG2 HG gq he2 he;go_wp2_with fail;refine (bu _ _ _ _ _ _ false HG2.out.1 HE2.out).mono ?_;rintro E w' ⟨rfl,rfl⟩;go_wp2_with fail;go_ret;refine ⟨v,a',HR.out, ?_⟩;rw [rsV,rsA,if_neg HE.out,if_neg HE.out];exact ⟨rfl,HG2.out.1.setAt a ha,HG2.out.2.trans (bA _ _ _ _)⟩
theorem nR (W:World) (p q:Nat) (B:List Int) (a:Nat) (g:FuncId) (hent:Enters Tryz.prog g) (lb:Array Value) (v:Int) (a' :Nat) (e' :Int) (hC:Cur W p q B a 0)
  (hg:Calls Tryz.prog g lb W fun E w' =>E= .returned (.int .u64 v)∧Goes W w' p q B a' e'):
  Calls Tryz.prog 162 #[.pointer (some ⟨p,0,none⟩), .func (.func g) #[] lb] W fun E w' =>E= .returned (.int .u64 (rsV v e'))∧Goes W w' p q B (rsA a a' e') e' :=
 (pR W p q B a g hent lb (fun x n=>x=v∧n=a') e' hC (hg.mono fun E w' h=>⟨v,a',h.1,⟨rfl,rfl⟩,h.2⟩)).mono fun E w' h=>by
  obtain ⟨x,n,⟨rfl,rfl⟩,h1,h2⟩:=h;exact ⟨h1,h2⟩
theorem rX (W:World) (p q:Nat) (B:List Int) (a:Nat) (e:Int) (f:Value) (hC:Cur W p q B a e) (he:(e==0)=false):
  Calls Tryz.prog 94 #[.pointer (some ⟨p,0,none⟩),f] W fun E w' =>E= .returned (.int .i64 0)∧W=w' :=by
 have HC:=Lib.hid hC;have HE:=Lib.hid he;clear hC he;go_enter Tryz.func94,Tryz.ntmps94;go_wp2_with (go_at_call 96;refine (bu _ _ _ _ _ _ false HC.out HE.out).mono ?_;rintro e w' ⟨rfl,rfl⟩);go_ret;exact ⟨rfl,rfl⟩
theorem uQ (W:World) (p q:Nat) (B:List Int) (a:Nat) (g:FuncId) (hent:Enters Tryz.prog g) (lb:Array Value) (R:Int→Nat→Prop) (e' :Int) (hC:Cur W p q B a 0)
  (hg:Calls Tryz.prog g lb W fun E w' =>∃v nx,E= .returned (.int .i64 v)∧R v nx∧Goes W w' p q B nx e'):
  Calls Tryz.prog 94 #[.pointer (some ⟨p,0,none⟩), .func (.func g) #[] lb] W (uC (Value.int .i64) W p q B a e' R):=by
 have HC:=Lib.hid hC;have HG:=Lib.hid hg;obtain ⟨A,c,c0,c1,c2,f0,f1,f2,hle,hq,hlt,ha⟩:=hC.cells;have hin:∀args w,Sem.run Tryz.prog (callFunc g args) w= .ok (.enter g args) w:=hent;clear hC hg hq hent;go_enter Tryz.func94,Tryz.ntmps94;go_wp2_with fail;refine (bu _ _ _ _ _ _ true HC.out rfl).mono ?_;rintro E w' ⟨rfl,rfl⟩;go_wp2_with fail;refine HG.out.mono ?_;rintro E W2 ⟨v,a',rfl,hR,hG2⟩;have HR:=Lib.hid hR;clear hR;by_cases he:e' =0
 ·subst he;have HG2:=Lib.hid hG2;clear hG2 HG;go_wp2_with fail;refine (bu _ _ _ _ _ _ true HG2.out.1 rfl).mono ?_;rintro E w' ⟨rfl,rfl⟩;go_wp2_with fail;go_ret;exact ⟨v,a',HR.out,rfl,HG2.out⟩
 ·have he2:(e' ==0)=false:=beq_eq_false_iff_ne.2 he;have HE2:=Lib.hid he2;obtain ⟨A',c',g0,g1,g2,k0,k1,k2,gle,gq,glt,ga⟩:=hG2.1.cells;have HG2:=Lib.hid hG2;have HE:=Lib.hid he;clear hG2 HG gq he2 he;go_wp2_with fail;refine (bu _ _ _ _ _ _ false HG2.out.1 HE2.out).mono ?_;rintro E w' ⟨rfl,rfl⟩;go_wp2_with fail;go_ret;refine ⟨v,a',HR.out, ?_⟩;rw [rsV,rsA,if_neg HE.out,if_neg HE.out];exact ⟨rfl,HG2.out.1.setAt a ha,HG2.out.2.trans (bA _ _ _ _)⟩
theorem Goes.aW {W W' :World} {p q:Nat} {B:List Int} {a:Nat} {e:Int} {o:Obj} (h:Goes (W.alloc o) W' p q B a e):Goes W W' p q B a e:=⟨h.1,(World.grownBy_alloc W o _).trans h.2⟩
theorem zX:Enters Tryz.prog 69:=enters_of Tryz.func69 (by kernel_rfl) rfl
theorem CL:Enters Tryz.prog 60:=enters_of Tryz.func60 (by kernel_rfl) rfl
theorem Cc:Enters Tryz.prog 160:=enters_of Tryz.func160 (by kernel_rfl) rfl
theorem CX:Enters Tryz.prog 163:=enters_of Tryz.func163 (by kernel_rfl) rfl
theorem xM:Enters Tryz.prog 164:=enters_of Tryz.func164 (by kernel_rfl) rfl
theorem xR:Enters Tryz.prog 95:=enters_of Tryz.func95 (by kernel_rfl) rfl
theorem yG:Enters Tryz.prog 99:=enters_of Tryz.func99 (by kernel_rfl) rfl
theorem Gf:Enters Tryz.prog 98:=enters_of Tryz.func98 (by kernel_rfl) rfl
theorem EY:Enters Tryz.prog 169:=enters_of Tryz.func169 (by kernel_rfl) rfl
theorem Je:Enters Tryz.prog 62:=enters_of Tryz.func62 (by kernel_rfl) rfl
theorem CW:Enters Tryz.prog 161:=enters_of Tryz.func161 (by kernel_rfl) rfl
def aQ (B:List Int) (a:Nat) (e:Int):Int×Nat×Int:=if e=0 then (match B[a]? with|some x=>(x,a+1,0)|none=>(0,a,100))else (0,a,e)
theorem zY (W:World) (p q r:Nat) (B:List Int) (a:Nat) (hC:Cur W p q B a 0) (hB:aK B) (hr:W.cell? ⟨r,0,none⟩=some (.pointer (some ⟨p,0,none⟩))):
  Calls Tryz.prog 69 #[.pointer (some ⟨r,0,none⟩)] W fun E w' =>E= .returned (.int .u8 (aQ B a 0).1)∧Goes W w' p q B (aQ B a 0).2.1 (aQ B a 0).2.2:=by
 have hl:=hB.1;have ha:=hC.2.1;rcases Nat.lt_or_ge a B.length with hlt|hge
 ·have hx:B[a]? =some B[a]:=List.getElem?_eq_getElem hlt;have HV:=Lib.hid (show aQ B a 0=(B[a],a+1,0)from by simp [aQ,hx]);have HT:=Lib.hid (qy W p q B a 1 hC hB (by omega));have hxx:((B.drop a).take 1)[0]? =some B[a]:=by rw [List.getElem?_take,if_pos (by omega),List.getElem?_drop];exact hx
  have HX:=Lib.hid hxx;have hl1:((B.drop a).take 1).length=1:=by rw [List.length_take,List.length_drop];omega
  have HL:=Lib.hid hl1;clear hC hB hxx hl1 hx;go_enter Tryz.func69,Tryz.ntmps69;go_wp2_with fail;refine HT.out.mono ?_;rintro E W1 ⟨⟨A',c',rfl,hq⟩,hG⟩;have HG:=Lib.hid hG;obtain ⟨o,rfl,hc⟩:=hq (by rw [HL.out];omega);have x0:W1.cell? ⟨q,o,none⟩=some (.int .u8 B[a]):=hc 0 _ HX.out;clear hG hq hc HT;go_wp2_with fail;go_ret;rw [HV.out];exact ⟨rfl,HG.out⟩
 ·obtain rfl:a=B.length:=by omega
  have HV:=Lib.hid (show aQ B B.length 0=(0,B.length,100)from by simp [aQ]);have HT:=Lib.hid (uF W p q B B.length 1 hC hB (by omega) (by omega));clear hC hB;go_enter Tryz.func69,Tryz.ntmps69;go_wp2_with fail;refine HT.out.mono ?_;rintro E W1 ⟨rfl,hG⟩;have HG:=Lib.hid hG;clear hG HT;go_wp2_with fail;go_ret;rw [HV.out];exact ⟨rfl,HG.out⟩
theorem iw (W:World) (p q:Nat) (B:List Int) (a:Nat) (e:Int) (hC:Cur W p q B a e) (hB:aK B):
  Calls Tryz.prog 41 #[.pointer (some ⟨p,0,none⟩)] W fun E w' =>E= .returned (.int .u8 (aQ B a e).1)∧Goes W w' p q B (aQ B a e).2.1 (aQ B a e).2.2:=by
 have hC2:=hC.alloc (.cells #[.pointer (some ⟨p,0,none⟩)] 53);by_cases he:e=0
 ·subst he;have H:=Lib.hid (xz _ p q B a _ zX #[.pointer (some ⟨W.heap.size,0,none⟩)] _ _ _ hC2 (zY _ p q W.heap.size B a hC2 hB (by rw [(Blk.new W #[.pointer (some ⟨p,0,none⟩)] 53).cell 0];rfl)))
  have HV:=Lib.hid (show rsV (aQ B a 0).1 (aQ B a 0).2.2=(aQ B a 0).1∧rsA a (aQ B a 0).2.1 (aQ B a 0).2.2=(aQ B a 0).2.1 from by
   unfold aQ rsV rsA;cases B[a]? <;>simp)
  clear hC hC2 hB;go_enter Tryz.func41,Tryz.ntmps41;go_wp2_with fail;refine H.out.mono ?_;rintro E W1 ⟨rfl,hG⟩;rw [HV.out.1];rw [HV.out.2]at hG;have HG:=Lib.hid hG;clear hG H;go_wp2_with fail;go_ret;exact ⟨rfl,HG.out.aW⟩
 ·have H:=Lib.hid (lL _ p q B a e (.func (.func 69) #[] #[.pointer (some ⟨W.heap.size,0,none⟩)]) hC2 (beq_eq_false_iff_ne.2 he));have HV:=Lib.hid (show aQ B a e=(0,a,e)from by simp [aQ,he]);have HG:=Lib.hid (Goes.aW (Goes.same hC2));clear hC hC2 hB he;go_enter Tryz.func41,Tryz.ntmps41;go_wp2_with fail;refine H.out.mono ?_;rintro E W1 ⟨rfl,rfl⟩;go_wp2_with fail;go_ret;rw [HV.out];exact ⟨rfl,HG.out⟩
end Go.Proofs.YtofaiocffifhfaaGreat
namespace Go.Proofs.YtofaiocffifhfaaGreatB
open Go.RowKit
theorem Jb (n x h:Nat) (hx:x< 256) (hh:h≤63) (hn:n< 2 ^ h):
  bits .or .u64 (n:Int) (IntKind.u64.wrap (IntKind.u64.wrap (bits .and .u8 (x:Int) 127) * 2 ^ h))=(((n+(x % 128) * 2 ^ h) % 18446744073709551616:Nat):Int):=by
 have h1:bits .and .u8 (x:Int) 127=((x % 128:Nat):Int):=by
  have:=u8_and_nat x 127 hx (by omega);rw [show ((127:Nat):Int)=127 from rfl]at this;rw [this,show x &&& 127=x % 128 from Nat.and_two_pow_sub_one_eq_mod x 7]
 have h2:IntKind.u64.wrap ((x % 128:Nat):Int)=((x % 128:Nat):Int):=by rw [IntKind.wrap_u64];omega
 rw [h1,h2];generalize hm:x % 128=m;have hm2:m< 128:=by omega
 have hp:(18446744073709551616:Nat)=2 ^(64 - h) * 2 ^ h:=by rw [←Nat.pow_add,show 64 - h+h=64 from by omega]
 have h3:IntKind.u64.wrap ((m:Int) * 2 ^ h)=(((m * 2 ^ h) % 18446744073709551616:Nat):Int):=by
  rw [IntKind.wrap_u64,Int.natCast_emod,Int.natCast_mul,Int.natCast_pow];rfl
 rw [h3];have h63:2 ^ h≤2 ^ 63:=Nat.pow_le_pow_right (by omega) hh;have hy:(m * 2 ^ h) % 18446744073709551616=(m % 2 ^(64 - h)) * 2 ^ h:=by rw [hp,Nat.mul_mod_mul_right]
 have hlt:m % 2 ^(64 - h)+1≤2 ^(64 - h):=Nat.mod_lt _ (Nat.two_pow_pos _);have hlt2:(m % 2 ^(64 - h)+1) * 2 ^ h≤18446744073709551616:=by rw [hp];exact Nat.mul_le_mul_right _ hlt
 have hlt3:(m % 2 ^(64 - h)) * 2 ^ h+2 ^ h≤18446744073709551616:=by rw [Nat.add_mul,Nat.one_mul]at hlt2;exact hlt2
 have hs:(n+m * 2 ^ h) % 18446744073709551616=(n+(m % 2 ^(64 - h)) * 2 ^ h) % 18446744073709551616:=by
  rw [←hy,Nat.add_mod_mod]
 have hmod:((m % 2 ^(64 - h)) * 2 ^ h) % 2 ^ h=0:=Nat.mul_mod_left _ _;rw [hs,u64_or_nat _ _ (by omega) (Nat.mod_lt _ (by omega)),hy];generalize (m % 2 ^(64 - h)) * 2 ^ h=y at *;have hny:n+y< 18446744073709551616:=by omega
 rw [Nat.or_comm,nat_join h _ n hmod hn,Nat.mod_eq_of_lt hny,Nat.add_comm]
def bZ (lst:Int→Int→Bool):List Int→Nat→Except Int (Nat×Nat×Nat)
 | [],_=> .error 100
 |x::r,l=>if x< 128 then (if lst x l then .ok (x.toNat,7,1)else .error 101)else if l≤7 then .error 101 else
   match bZ lst r (l - 7)with
   | .error e=> .error e
   | .ok (m,h,c)=> .ok ((x - 128).toNat+128 * m,h+7,c+1)
def x9 (n0 k:Nat):Except Int (Nat×Nat×Nat)→Except Int (Nat×Nat×Nat)
 | .error e=> .error e
 | .ok (m,h,c)=> .ok (n0+2 ^(7 * k) * m,h+7 * k,c+k)
theorem IB (r:Except Int (Nat×Nat×Nat)):x9 0 0 r=r:=by
 cases r with
 |error e=>rfl
 |ok x=>obtain ⟨m,h,c⟩:=x;simp [x9]
theorem zT (lst:Int→Int→Bool) (n0 k l:Nat) (x:Int) (r:List Int) (hx:¬x< 128) (hl:¬l≤7) (hx2:x≤255):
  x9 n0 k (bZ lst (x::r) l)=x9 (n0+(x.toNat % 128) * 2 ^(7 * k)) (k+1) (bZ lst r (l - 7)):=by
 rw [bZ,if_neg hx,if_neg hl]
 cases bZ lst r (l - 7)with
 |error e=>rfl
 |ok y=>
  obtain ⟨m,h,c⟩:=y;have e1:(x - 128).toNat=x.toNat % 128:=by omega
  simp only [x9,e1,Except.ok.injEq,Prod.mk.injEq];refine ⟨?_,by omega,by omega⟩;rw [show 7 * (k+1)=7 * k+7 from by omega,Nat.pow_add,show (2:Nat) ^ 7=128 from rfl,Nat.mul_add,Nat.mul_comm (x.toNat % 128),Nat.add_assoc,Nat.mul_assoc]
theorem gF {lst:Int→Int→Bool} {B:List Int} {a:Nat} {x:Int} (h:B[a]? =some x) (l:Nat):bZ lst (B.drop a) l=bZ lst (x::B.drop (a+1)) l:=by
 obtain ⟨hj,hxe⟩:=List.getElem?_eq_some_iff.1 h;rw [List.drop_eq_getElem_cons hj,hxe]
theorem qi {lst:Int→Int→Bool} {B:List Int} (l:Nat):bZ lst (B.drop B.length) l= .error 100:=by rw [List.drop_length];rfl
theorem qZ {lst:Int→Int→Bool}:∀(R:List Int) (l:Nat) (m h c:Nat),bZ lst R l= .ok (m,h,c)→1≤c∧c≤R.length
 | [],l,m,h,c,e=>by simp [bZ]at e
 |x::r,l,m,h,c,e=>by
  rw [bZ]at e;split at e
  ·split at e
   ·simp at e;simp;omega
   ·cases e
  ·split at e
   ·cases e
   ·cases hr:bZ lst r (l - 7)with
    |error e' =>rw [hr]at e;cases e
    |ok y=>
     obtain ⟨m',h',c'⟩:=y;rw [hr]at e;simp at e;have:=qZ r (l - 7) m' h' c' hr;simp;omega
theorem BD (n x h:Nat) (hn:n< 2 ^ h):n+x % 128 * 2 ^ h< 2 ^(h+7):=by
 have h1:x % 128+1≤128:=Nat.mod_lt _ (by omega);have h2:=Nat.mul_le_mul_right (2 ^ h) h1;rw [Nat.pow_add,show (2:Nat) ^ 7=128 from rfl,Nat.mul_comm (2 ^ h)];rw [Nat.add_mul,Nat.one_mul]at h2;omega
theorem tq (n h:Nat) (hn:n< 2 ^ h) (hh:h≤64):n % 18446744073709551616=n:=by
 refine Nat.mod_eq_of_lt (Nat.lt_of_lt_of_le hn ?_);exact Nat.pow_le_pow_right (n:=2) (by omega) hh
end Go.Proofs.YtofaiocffifhfaaGreatB
namespace Go.Proofs.YtofaiocffifhfaaGreat
open Go.RowKit Go.Shelf YtofaiocffifhfaaGreatB Go.Proofs.YtofaiocffifhfaaGreatW.PrintWords
def Ser (W:World) (p:Nat) (n h l:Int):Prop:=Blk W p #[.int .u64 n, .int .i64 h, .int .i64 l] 192
theorem EI (W:World) (p:Nat) (n h:Nat) (l x:Int) (hS:Ser W p n h l) (hx:0≤x∧x≤255) (hh:h≤63) (hl:0≤l∧l≤64) (hn:n< 2 ^ h):
  Calls Tryz.prog 119 #[.pointer (some ⟨p,0,none⟩), .int .u8 x] W fun E w' =>E= .returned (.tuple #[])∧Ser w' p (((n+(x.toNat % 128) * 2 ^ h) % 18446744073709551616:Nat):Int) (h+7) (l - 7)∧W.grownBy w' (some p):=by
 have HV:=Lib.hid (Jb n x.toNat h (by omega) hh hn);obtain ⟨y,rfl⟩:=Int.eq_ofNat_of_zero_le hx.1;rw [Int.toNat_natCast]at HV;obtain ⟨M,hM⟩:∃M:Int,(((n+(y % 128) * 2 ^ h) % 18446744073709551616:Nat):Int)=M:=⟨_,rfl⟩;rw [hM]at HV;rw [Int.toNat_natCast,hM];obtain ⟨N,hN⟩:∃N:Int,(n:Int)=N:=⟨_,rfl⟩;rw [hN]at HV hS;have hy2:(y:Int)≤255:=hx.2;have hh2:(h:Int)≤63:=by omega
 clear hM hn hN hx;have c0:W.cell? ⟨p,0,none⟩=some (.int .u64 N):=by rw [hS.cell];rfl
 have c1:W.cell? ⟨p,1,none⟩=some (.int .i64 h):=by rw [hS.cell];rfl
 have c2:W.cell? ⟨p,2,none⟩=some (.int .i64 l):=by rw [hS.cell];rfl
 have f0:=hS.frozen 0;have f1:=hS.frozen 1;have f2:=hS.frozen 2;have hlt:=hS.lt;have HS:=Lib.hid hS;clear hS;go_enter Tryz.func119,Tryz.ntmps119;go_wp2_with fail;go_still_tail 15,(by kernel_rfl);change wpList _ _ _ _ _ W.drew;go_wp2;go_end0;rw [HV.out];have h1:=((HS.out.set 0 (.int .u64 M)).set 1 (.int .i64 ((h:Int)+7))).set 2 (.int .i64 (l - 7));refine ⟨rfl, ?_,((bA W p 0 (.int .u64 M)).trans ((bA _ p 1 (.int .i64 ((h:Int)+7))).trans (bA _ p 2 (.int .i64 (l - 7))))).trans ⟨rfl,rfl,rfl,Nat.le_refl _,fun _ _ _=>rfl⟩⟩;have h2:=h1.drew;simp at h2;exact h2
def Eh (W:World) (a bits:Nat) (r:Except Int (Nat×Nat×Nat)) (E:Ending) (w' :World):Prop:=
 Below W.heap.size W w' ∧(match r with
 | .error e=>E= .returned (.tuple #[.agg #[.int .u64 0, .int .i64 0, .int .i64 0], .int .i64 0, .int .i64 e])
 | .ok (m,h,c)=>∃l' :Int,E= .returned (.tuple #[.agg #[.int .u64 ((m % 18446744073709551616:Nat):Int), .int .i64 h, .int .i64 l'], .int .i64 ((a+c:Nat):Int), .int .i64 0]))
theorem wT (lst:Int→Int→Bool) (g:FuncId) (hent:Enters Tryz.prog g)
  (hg:∀(x l:Int) (W:World),0≤x→x< 128→1≤l→l≤64→Calls Tryz.prog g #[.int .u8 x, .int .i64 l] W fun E w' =>E= .returned (.bool (lst x l))∧W=w')
  (W:World) (q:Nat) (A:Option Addr) (c:Nat) (B:List Int) (a bits:Nat) (hB:aK B) (hQ:ByQ W q A B) (hc:B.length≤c) (ha:a≤B.length) (hb:1≤bits∧bits≤64):
  Calls Tryz.prog 97 #[.slice A B.length c, .int .i64 a, .int .i64 bits, .func (.func g) #[] #[]] W (Eh W a bits (bZ lst (B.drop a) bits)):=by
 have hin:∀args w,Sem.run Tryz.prog (callFunc g args) w= .ok (.enter g args) w:=hent;have HG:=Lib.hid hg;have hl:=hB.1;have HB:=Lib.hid hB;have hb1:=hb.1;have hb2:=hb.2;obtain ⟨A',hrun,hA'⟩:=Cy (P:=Tryz.prog) 22 5 .i64 1 Tryz.underlying22 yJ A B.length c a (by omega)
 have HQ:=Lib.hid (show ∀j x,(B.drop a)[j]? =some x→∃o,A' =some ⟨q,o,none⟩∧W.cell? ⟨q,o+j,none⟩=some (.int .u8 x)from fun j x hj=>by
  have hj2:a+j< B.length:=by rw [List.getElem?_drop]at hj;exact (List.getElem?_eq_some_iff.1 hj).1
  obtain ⟨o,rfl,hcc⟩:=hQ (by omega);refine ⟨o+a,by rw [hA' (by omega)];simp [Addr.add];try omega, ?_⟩;rw [List.getElem?_drop]at hj;rw [Nat.add_assoc]
  exact hcc _ _ hj)
 have HR:=Lib.hid (IB (bZ lst (B.drop a) bits));have z1:decide ((bits:Int)< 1)=false:=by simp;omega
 have z2:decide ((64:Int)<(bits:Int))=false:=by simp;omega
 have z3:decide ((a:Int)< 0)=false:=by simp
 have z4:decide (B.length< a)=false:=by simp;omega
 clear hent hg hB hQ hA' hb;go_enter Tryz.func97,Tryz.ntmps97;go_wp2_with fail;have HN:=Blk.new W #[.int .u64 0, .int .i64 0, .int .i64 bits] 192;go_loopw [1,36] (fun u k wr=>∃j n0:Nat,a+j≤B.length∧7 * j< bits∧u= .int .i64 ((a:Int)+j)∧k= .int .i64 j∧Hid (n0< 2 ^(7 * j))∧Ser wr W.heap.size n0 (7 * j:Nat) ((bits:Int) - (7 * j:Nat))∧Hid (bZ lst (B.drop a) bits=x9 n0 j (bZ lst (B.drop (a+j)) (bits - 7 * j)))∧Below W.heap.size W wr∧W.heap.size< wr.heap.size) (fun _ k _=>B.length - a - (intOf k).toNat)
 case atStart=>
  refine ⟨0,0,ha,by omega,by simp,rfl,by show _< _;simp, ?_,by show _=_;rw [Nat.mul_zero,Nat.add_zero,Nat.sub_zero];exact HR.out.symm,(Below.refl _ _).alloc (Nat.le_refl _) _,by simp⟩;simpa [Ser] using HN
 case round=>
  obtain ⟨j,n0,hj1,hj2,rfl,rfl,hn0,hS,HE,hBl,hsz⟩:=hrel;clear HN;by_cases hlt:a+j< B.length
  ·have hx:B[a+j]? =some B[a+j]:=List.getElem?_eq_getElem hlt;have hxb:=HB.out.get hx;have hxd:(B.drop a)[j]? =some B[a+j]:=by rw [List.getElem?_drop];exact hx
   obtain ⟨o,rfl,hcell⟩:=HQ.out j _ hxd;have x0:=aB hBl hcell;have HX:=Lib.hid hx;clear hx hxd hcell;generalize B[a+j]=x at *;have hL:(((bits - 7 * j:Nat):Nat):Int)=(bits:Int) - (7 * j:Nat):=by omega
   obtain ⟨h,hh⟩:∃h:Nat,h=7 * j:=⟨_,rfl⟩;rw [←hh]at hS hL hj2 hn0 HE;obtain ⟨L,hLL⟩:∃L:Int,L=(bits:Int) - h:=⟨_,rfl⟩;rw [←hLL]at hS hL;have hL1:1≤L:=by omega
   have hL2:L≤64:=by omega
   have c0:wr.cell? ⟨W.heap.size,0,none⟩=some (.int .u64 (n0:Int)):=by rw [hS.cell];rfl
   have c1:wr.cell? ⟨W.heap.size,1,none⟩=some (.int .i64 (h:Int)):=by rw [hS.cell];rfl
   have c2:wr.cell? ⟨W.heap.size,2,none⟩=some (.int .i64 L):=by rw [hS.cell];rfl
   have f0:=hS.frozen 0;have f1:=hS.frozen 1;have f2:=hS.frozen 2;have HS:=Lib.hid hS;have HL:=Lib.hid hL;have HH:=Lib.hid hh;have HLL:=Lib.hid hLL;have HBl:=Lib.hid hBl;have hbk:h≤63:=by omega
   have hx0:=hxb.1;have hx1:=hxb.2;have HT:=Lib.hid (fun W' (hS' :Ser W' W.heap.size (n0:Int) (h:Int) L)=>EI W' W.heap.size n0 h L x hS' hxb hbk ⟨by omega,hL2⟩ hn0.out);have HD:=Lib.hid (gF (lst:=lst) HX.out (bits - h));have HNB:=Lib.hid (BD n0 x.toNat h hn0.out);clear hS hL hh hLL hBl hxb HQ hn0 HX;by_cases hx:x< 128
   ·cases hls:lst x L with
    |false=>
     have HLs:=Lib.hid hls;have HP:=Lib.hid (show bZ lst (B.drop a) bits= .error 101 from by rw [HE.out,HD.out,bZ,if_pos hx,HL.out,hls];rfl);clear HE HD hls HT;go_wp2_with fail;refine (HG.out x L _ hx0 hx hL1 hL2).mono ?_;rintro E w' ⟨rfl,rfl⟩;rw [HLs.out];go_wp2_with fail;have r0:=((HS.out.set 0 (.int .u64 0)).set 1 (.int .i64 0)).set 2 (.int .i64 0);have hBf:=((HBl.out.setCell (p:=⟨W.heap.size,0,none⟩) (Nat.le_refl _) (.int .u64 0)).setCell (p:=⟨W.heap.size,1,none⟩) (Nat.le_refl _) (.int .i64 0)).setCell (p:=⟨W.heap.size,2,none⟩) (Nat.le_refl _) (.int .i64 0);generalize ((wr.setCell ⟨W.heap.size,0,none⟩ (.int .u64 0)).setCell ⟨W.heap.size,1,none⟩ (.int .i64 0)).setCell ⟨W.heap.size,2,none⟩ (.int .i64 0)=Wf at *;have q0:Wf.cell? ⟨W.heap.size,0,none⟩=some (.int .u64 0):=by rw [r0.cell];rfl
     have q1:Wf.cell? ⟨W.heap.size,1,none⟩=some (.int .i64 0):=by rw [r0.cell];rfl
     have q2:Wf.cell? ⟨W.heap.size,2,none⟩=some (.int .i64 0):=by rw [r0.cell];rfl
     exact bodyPost_ret (v:= .tuple #[.agg #[.int .u64 0, .int .i64 0, .int .i64 0], .int .i64 0, .int .i64 101]) (by simp [results,Tryz.results97,go_sem,q0,q1,q2]) rfl ⟨hBf,by rw [HP.out]⟩
    |true=>
     have HLs:=Lib.hid hls;have HP:=Lib.hid (show bZ lst (B.drop a) bits= .ok (n0+2 ^(7 * j) * x.toNat,7+7 * j,1+j)from by rw [HE.out,HD.out,bZ,if_pos hx,HL.out,hls];rfl);have HV:=Lib.hid (show n0+x.toNat % 128 * 2 ^ h=n0+2 ^(7 * j) * x.toNat from by rw [←HH.out,Nat.mod_eq_of_lt (by omega),Nat.mul_comm]);clear HE HD hls;go_wp2_with fail;refine (HG.out x L _ hx0 hx hL1 hL2).mono ?_;rintro E w' ⟨rfl,rfl⟩;rw [HLs.out];go_wp2_with fail;refine (HT.out _ HS.out).mono ?_;rintro E W2 ⟨rfl,hS2,hg2⟩;rw [HV.out]at hS2;have hBf:=HBl.out.grown hg2 (by omega) (fun k e=>by cases e;exact Nat.le_refl _);have c0' :W2.cell? ⟨W.heap.size,0,none⟩=some (.int .u64 (((n0+2 ^(7 * j) * x.toNat) % 18446744073709551616:Nat):Int)):=by rw [hS2.cell];rfl
     have c1' :W2.cell? ⟨W.heap.size,1,none⟩=some (.int .i64 ((h:Int)+7)):=by rw [hS2.cell];rfl
     have c2' :W2.cell? ⟨W.heap.size,2,none⟩=some (.int .i64 (L - 7)):=by rw [hS2.cell];rfl
     obtain ⟨V,hV⟩:∃V:Int,(((n0+2 ^(7 * j) * x.toNat) % 18446744073709551616:Nat):Int)=V:=⟨_,rfl⟩;rw [hV]at c0' hS2;have HV2:=Lib.hid hV;have k0:=hS2.frozen 0;have k1:=hS2.frozen 1;have k2:=hS2.frozen 2;have HS2:=Lib.hid hS2;have HBf:=Lib.hid hBf;clear hS2 hV hBf hg2 HT;go_wp2_with fail;have r0:=((HS2.out.set 0 (.int .u64 V)).set 1 (.int .i64 ((h:Int)+7))).set 2 (.int .i64 (L - 7));have hBf:=((HBf.out.setCell (p:=⟨W.heap.size,0,none⟩) (Nat.le_refl _) (.int .u64 V)).setCell (p:=⟨W.heap.size,1,none⟩) (Nat.le_refl _) (.int .i64 ((h:Int)+7))).setCell (p:=⟨W.heap.size,2,none⟩) (Nat.le_refl _) (.int .i64 (L - 7));generalize ((W2.setCell ⟨W.heap.size,0,none⟩ (.int .u64 V)).setCell ⟨W.heap.size,1,none⟩ (.int .i64 ((h:Int)+7))).setCell ⟨W.heap.size,2,none⟩ (.int .i64 (L - 7))=Wf at *;have q0:Wf.cell? ⟨W.heap.size,0,none⟩=some (.int .u64 V):=by rw [r0.cell];rfl
     have q1:Wf.cell? ⟨W.heap.size,1,none⟩=some (.int .i64 ((h:Int)+7)):=by rw [r0.cell];rfl
     have q2:Wf.cell? ⟨W.heap.size,2,none⟩=some (.int .i64 (L - 7)):=by rw [r0.cell];rfl
     refine bodyPost_ret (v:= .tuple #[.agg #[.int .u64 V, .int .i64 ((h:Int)+7), .int .i64 (L - 7)], .int .i64 ((a:Int)+j+1), .int .i64 0]) (by simp [results,Tryz.results97,go_sem,q0,q1,q2]) rfl ⟨hBf, ?_⟩;rw [HP.out];refine ⟨L - 7, ?_⟩;rw [HV2.out,show ((7+7 * j:Nat):Int)=(h:Int)+7 from by rw [HH.out];omega,show ((a+(1+j):Nat):Int)=(a:Int)+j+1 from by omega]
   ·by_cases hl7:L≤7
    ·have HP:=Lib.hid (show bZ lst (B.drop a) bits= .error 101 from by rw [HE.out,HD.out,bZ,if_neg hx,if_pos (by have:=HL.out;omega)];rfl);clear HE HD HT;go_wp2_with fail;have r0:=((HS.out.set 0 (.int .u64 0)).set 1 (.int .i64 0)).set 2 (.int .i64 0);have hBf:=((HBl.out.setCell (p:=⟨W.heap.size,0,none⟩) (Nat.le_refl _) (.int .u64 0)).setCell (p:=⟨W.heap.size,1,none⟩) (Nat.le_refl _) (.int .i64 0)).setCell (p:=⟨W.heap.size,2,none⟩) (Nat.le_refl _) (.int .i64 0);generalize ((wr.setCell ⟨W.heap.size,0,none⟩ (.int .u64 0)).setCell ⟨W.heap.size,1,none⟩ (.int .i64 0)).setCell ⟨W.heap.size,2,none⟩ (.int .i64 0)=Wf at *;have q0:Wf.cell? ⟨W.heap.size,0,none⟩=some (.int .u64 0):=by rw [r0.cell];rfl
     have q1:Wf.cell? ⟨W.heap.size,1,none⟩=some (.int .i64 0):=by rw [r0.cell];rfl
     have q2:Wf.cell? ⟨W.heap.size,2,none⟩=some (.int .i64 0):=by rw [r0.cell];rfl
     exact bodyPost_ret (v:= .tuple #[.agg #[.int .u64 0, .int .i64 0, .int .i64 0], .int .i64 0, .int .i64 101]) (by simp [results,Tryz.results97,go_sem,q0,q1,q2]) rfl ⟨hBf,by rw [HP.out]⟩
    ·have HP:=Lib.hid (show bZ lst (B.drop a) bits=x9 (n0+x.toNat % 128 * 2 ^ h) (j+1) (bZ lst (B.drop (a+(j+1))) (bits - (h+7)))from by
      have hc:=zT lst n0 j (bits - h) x (B.drop (a+j+1)) hx (by have:=HL.out;omega) hx1
      rw [HE.out,HD.out,hc,HH.out];rfl)
     clear HE HD;go_wp2_with fail;refine (HT.out _ HS.out).mono ?_;rintro E W2 ⟨rfl,hS2,hg2⟩;have hBf:=Lib.hid (HBl.out.grown hg2 (by omega) (fun k e=>by cases e;exact Nat.le_refl _));have hsz2:=hg2.size;have HS2:=Lib.hid hS2;clear hS2 hg2 HT;go_wp2_with fail;go_roundw
     case rel=>
      have hjj:7 * (j+1)=h+7:=by have:=HH.out;omega
      have hlt2:h+7< bits:=by have:=HLL.out;omega
      refine ⟨j+1,n0+x.toNat % 128 * 2 ^ h,by omega,by omega,(by first|go_num|(congr 1;done)|(congr 1;omega)),by go_num, ?_, ?_, ?_,hBf.out,by omega⟩
      ·show _< _
       rw [hjj];exact HNB.out
      ·have h3:=HS2.out;rw [tq _ (h+7) HNB.out (by omega)]at h3;rw [hjj,show (bits:Int) - ((h+7:Nat):Int)=L - 7 from by have:=HLL.out;omega];exact h3
      ·show _=_
       rw [hjj];exact HP.out
     case measure=>simp [intOf];omega
  ·obtain rfl:j=B.length - a:=by omega
   have HP:=Lib.hid (show bZ lst (B.drop a) bits= .error 100 from by rw [HE.out,show a+(B.length - a)=B.length from by omega,qi];rfl);have HS:=Lib.hid hS;have HBl:=Lib.hid hBl;have f0:=hS.frozen 0;have f1:=hS.frozen 1;have f2:=hS.frozen 2;have hsc0:(wr.cell? ⟨W.heap.size,0,none⟩).isSome=true:=by rw [hS.cell];rfl
   have hsc1:(wr.cell? ⟨W.heap.size,1,none⟩).isSome=true:=by rw [hS.cell];rfl
   have hsc2:(wr.cell? ⟨W.heap.size,2,none⟩).isSome=true:=by rw [hS.cell];rfl
   have c0:wr.cell? ⟨W.heap.size,0,none⟩=some (.int .u64 (n0:Int)):=by rw [hS.cell];rfl
   obtain ⟨h,hh⟩:∃h:Int,h=((7 * (B.length - a):Nat):Int):=⟨_,rfl⟩;rw [←hh]at HS hS;have c1:wr.cell? ⟨W.heap.size,1,none⟩=some (.int .i64 h):=by rw [hS.cell];rfl
   have c2:wr.cell? ⟨W.heap.size,2,none⟩=some (.int .i64 (bits - h)):=by rw [hS.cell];rfl
   clear hS HE hBl hn0 hh hsc0 hsc1 hsc2 HQ;go_wp2_with fail;have r0:=((HS.out.set 0 (.int .u64 0)).set 1 (.int .i64 0)).set 2 (.int .i64 0);have hBf:=((HBl.out.setCell (p:=⟨W.heap.size,0,none⟩) (Nat.le_refl _) (.int .u64 0)).setCell (p:=⟨W.heap.size,1,none⟩) (Nat.le_refl _) (.int .i64 0)).setCell (p:=⟨W.heap.size,2,none⟩) (Nat.le_refl _) (.int .i64 0);generalize ((wr.setCell ⟨W.heap.size,0,none⟩ (.int .u64 0)).setCell ⟨W.heap.size,1,none⟩ (.int .i64 0)).setCell ⟨W.heap.size,2,none⟩ (.int .i64 0)=Wf at *;have q0:Wf.cell? ⟨W.heap.size,0,none⟩=some (.int .u64 0):=by rw [r0.cell];rfl
   have q1:Wf.cell? ⟨W.heap.size,1,none⟩=some (.int .i64 0):=by rw [r0.cell];rfl
   have q2:Wf.cell? ⟨W.heap.size,2,none⟩=some (.int .i64 0):=by rw [r0.cell];rfl
   exact bodyPost_ret (v:= .tuple #[.agg #[.int .u64 0, .int .i64 0, .int .i64 0], .int .i64 0, .int .i64 100]) (by simp [results,Tryz.results97,go_sem,q0,q1,q2]) rfl ⟨hBf,by rw [HP.out]⟩
end Go.Proofs.YtofaiocffifhfaaGreat
section
namespace Go.Proofs.YtofaiocffifhfaaGreatB
open Go.RowKit
def jk (x l:Int):Bool:=decide (7≤l) ||decide (x< 2 ^ l.toNat)
def vO (x:Int):Int:=if 64≤x then x - 128 else x
def iY (x l:Int):Bool:=decide (7≤l) ||(decide (-(2 ^(l - 1).toNat)≤vO x) && decide (vO x< 2 ^(l - 1).toNat))
def nW (m h:Nat):Nat:=if h< 64∧2 ^(h - 1)≤m then m+18446744073709551616 - 2 ^ h else m % 18446744073709551616
theorem iM (lst:Int→Int→Bool):∀(R:List Int) (l:Nat) (e:Int),bZ lst R l= .error e→¬e=0
 | [],l,e,h=>by simp [bZ]at h;omega
 |x::r,l,e,h=>by
  rw [bZ]at h;split at h
  ·split at h
   ·cases h
   ·cases h;omega
  ·split at h
   ·cases h;omega
   ·cases hr:bZ lst r (l - 7)with
    |error e' =>rw [hr]at h;cases h;exact iM lst r (l - 7) e hr
    |ok y=>obtain ⟨m',h',c'⟩:=y;rw [hr]at h;cases h
theorem kW {lst:Int→Int→Bool}:∀(R:List Int) (l:Nat) (m h c:Nat),1≤l→(∀x∈R,0≤x∧x≤255)→bZ lst R l= .ok (m,h,c)→m< 2 ^ h∧7≤h∧h< l+7
 | [],l,m,h,c,_,_,e=>by simp [bZ]at e
 |x::r,l,m,h,c,hl,hR,e=>by
  have hx:=hR x (by simp);rw [bZ]at e;split at e
  ·split at e
   ·simp at e;obtain ⟨rfl,rfl,rfl⟩:=e;exact ⟨by rw [show (2:Nat) ^ 7=128 from rfl];omega,by omega,by omega⟩
   ·cases e
  ·split at e
   ·cases e
   ·cases hr:bZ lst r (l - 7)with
    |error e' =>rw [hr]at e;cases e
    |ok y=>
     obtain ⟨m',h',c'⟩:=y;rw [hr]at e;simp at e;have ih:=kW r (l - 7) m' h' c' (by omega) (fun y hy=>hR y (by simp [hy])) hr;obtain ⟨rfl,rfl,rfl⟩:=e;refine ⟨?_,by omega,by omega⟩;rw [Nat.pow_add,show (2:Nat) ^ 7=128 from rfl];omega
end Go.Proofs.YtofaiocffifhfaaGreatB
namespace Go.Proofs.YtofaiocffifhfaaGreat
open Go.RowKit Go.Shelf YtofaiocffifhfaaGreatB Go.Proofs.YtofaiocffifhfaaGreatW.PrintWords
theorem Fe (x l:Int) (W:World) (hx0:0≤x) (hx:x< 128) (hl1:1≤l) (hl2:l≤64):Calls Tryz.prog 98 #[.int .u8 x, .int .i64 l] W fun E w' =>E= .returned (.bool (jk x l))∧W=w' :=by
 by_cases h7:7≤l
 ·have HV:=Lib.hid (show jk x l=true from by simp [jk,h7]);go_enter Tryz.func98,Tryz.ntmps98;go_wp2_with fail;go_ret;exact ⟨by rw [HV.out];rfl,rfl⟩
 ·have hl6:l=1∨l=2∨l=3∨l=4∨l=5∨l=6:=by omega
  rcases hl6 with rfl|rfl|rfl|rfl|rfl|rfl
  all_goals
   clear hl1 hl2 h7;go_enter Tryz.func98,Tryz.ntmps98;go_wp2_with fail;go_ret;exact ⟨by simp [jk],rfl⟩
theorem FU (x l:Int) (W:World) (hx0:0≤x) (hx:x< 128) (hl1:1≤l) (hl2:l≤64):Calls Tryz.prog 169 #[.int .u8 x, .int .i64 l] W fun E w' =>E= .returned (.bool (iY x l))∧W=w' :=by
 obtain ⟨v,hv,hvx⟩:∃v,vO x=v∧(64≤x∧v=x - 128∨¬64≤x∧x=v):=⟨_,rfl,by unfold vO;split<;>simp_all⟩;have HV2:=Lib.hid hv;clear hv;rcases hvx with ⟨h64,rfl⟩|⟨h64,rfl⟩
 all_goals
  by_cases h7:7≤l
  ·have HV:=Lib.hid (show iY x l=true from by simp [iY,h7]);go_enter Tryz.func169,Tryz.ntmps169;go_wp2_with fail;go_ret;exact ⟨by rw [HV.out];rfl,rfl⟩
  ·have hl6:l=1∨l=2∨l=3∨l=4∨l=5∨l=6:=by omega
   rcases hl6 with rfl|rfl|rfl|rfl|rfl|rfl
   all_goals
    clear hl1 hl2 h7;go_enter Tryz.func169,Tryz.ntmps169;go_wp2_with fail
    all_goals
     go_ret;refine ⟨?_,rfl⟩;show Ending.returned _=Ending.returned _
     rw [iY,HV2.out]
     first|(simp;done)|(simp;omega)|(simp;rw [Bool.eq_iff_iff];simp;omega)|(simp;rw [Bool.eq_iff_iff];simp;intros;omega)
def uT (W:World) (r:Except Int (Nat×Nat)) (E:Ending) (w' :World):Prop:=
 Below W.heap.size W w' ∧(match r with
 | .error e=>E= .returned (.tuple #[.int .u64 0, .int .i64 0, .int .i64 e])
 | .ok (n,nx)=>E= .returned (.tuple #[.int .u64 (n:Int), .int .i64 (nx:Int), .int .i64 0]))
def bQ (B:List Int) (a bits:Nat):Except Int (Nat×Nat):=match bZ jk (B.drop a) bits with| .error e=> .error e| .ok (m,_,c)=> .ok (m % 18446744073709551616,a+c)
def di (B:List Int) (a bits:Nat):Except Int (Nat×Nat):=match bZ iY (B.drop a) bits with| .error e=> .error e| .ok (m,h,c)=> .ok (nW m h,a+c)
theorem BV (W:World) (q:Nat) (A:Option Addr) (c:Nat) (B:List Int) (a bits:Nat) (hB:aK B) (hQ:ByQ W q A B) (hc:B.length≤c) (ha:a≤B.length) (hb:1≤bits∧bits≤64):
  Calls Tryz.prog 62 #[.slice A B.length c, .int .i64 a, .int .i64 bits] W (uT W (bQ B a bits)):=by
 have HS:=Lib.hid (wT jk _ Gf Fe W q A c B a bits hB hQ hc ha hb);rw [bQ];generalize bZ jk (B.drop a) bits=r at *;clear hQ hB;go_enter Tryz.func62,Tryz.ntmps62;go_wp2_with fail;refine HS.out.mono ?_;clear HS;rintro E W1 ⟨hB1,hm⟩;have HB1:=Lib.hid hB1;rcases r with e|⟨m,h,k⟩
 ·obtain rfl:=hm;clear hB1;go_wp2_with fail;go_wp2;refine bodyPost_ret (results_tmp3 rfl _ _ _) rfl ?_;exact ⟨(HB1.out.alloc HB1.out.size _).trans ⟨rfl,rfl,rfl,Nat.le_refl _,fun _ _=>rfl⟩,rfl⟩
 ·obtain ⟨l',rfl⟩:=hm;obtain ⟨M,hM⟩:∃M:Int,((m % 18446744073709551616:Nat):Int)=M:=⟨_,rfl⟩;obtain ⟨N,hN⟩:∃N:Int,((a+k:Nat):Int)=N:=⟨_,rfl⟩;rw [hM,hN];have HM:=Lib.hid hM;have HN:=Lib.hid hN;clear hB1 hM hN;go_wp2_with fail;go_wp2;refine bodyPost_ret (results_tmp3 rfl _ _ _) rfl ?_;refine ⟨(HB1.out.alloc HB1.out.size _).trans ⟨rfl,rfl,rfl,Nat.le_refl _,fun _ _=>rfl⟩, ?_⟩;show _=_
  rw [HM.out,HN.out];rfl
theorem FW (m h:Nat) (hm:m< 2 ^ h) (h1:1≤h) (h2:h< 64):(bits .and .u64 ((m:Int) / 2 ^(h - 1)) 1==1)=decide (2 ^(h - 1)≤m):=by
 have hp:2 ^ h=2 * 2 ^(h - 1):=by obtain ⟨t,rfl⟩:∃t,h=t+1:=⟨h - 1,by omega⟩;rw [Nat.pow_succ,Nat.add_sub_cancel,Nat.mul_comm]
 have hpp:0< 2 ^(h - 1):=Nat.two_pow_pos _;have e:((m:Int) / 2 ^(h - 1))=((m / 2 ^(h - 1):Nat):Int):=by rw [Int.natCast_ediv,Int.natCast_pow];rfl
 generalize 2 ^(h - 1)=t at *;have hq:m / t< 2:=by rw [Nat.div_lt_iff_lt_mul hpp];omega
 have h3:=u64_and_nat (m / t) 1 (by omega) (by omega);rw [show ((1:Nat):Int)=1 from rfl]at h3;rw [e,h3,nat_mask1,Nat.mod_eq_of_lt hq];rw [Bool.eq_iff_iff];simp only [beq_iff_eq,decide_eq_true_eq];constructor
 ·intro h4;have h5:m / t=1:=by omega
  have:=Nat.div_add_mod m t;rw [h5]at this;omega
 ·intro h4;have:0< m / t:=Nat.div_pos h4 hpp;omega
theorem Iq (m h:Nat) (hm:m< 2 ^ h) (h2:h< 64):bits .or .u64 (m:Int) (IntKind.u64.wrap (18446744073709551615 * 2 ^ h))=((m+18446744073709551616 - 2 ^ h:Nat):Int):=by
 have hp:(18446744073709551616:Nat)=2 ^(64 - h) * 2 ^ h:=by rw [←Nat.pow_add,show 64 - h+h=64 from by omega]
 have h63:2 ^ h≤2 ^ 63:=Nat.pow_le_pow_right (by omega) (by omega)
 have e:IntKind.u64.wrap (18446744073709551615 * 2 ^ h)=((18446744073709551616 - 2 ^ h:Nat):Int):=by
  rw [IntKind.wrap_u64];have:(18446744073709551615:Int) * 2 ^ h=(((18446744073709551615 * 2 ^ h:Nat)):Int):=by rw [Int.natCast_mul,Int.natCast_pow];rfl
  rw [this]
  have h4:(18446744073709551615 * 2 ^ h) % 18446744073709551616=18446744073709551616 - 2 ^ h:=by
   have hp1:1≤2 ^ h:=Nat.two_pow_pos _;generalize 2 ^ h=t at *;omega
  rw [←h4];omega
 have hd:(18446744073709551616 - 2 ^ h) % 2 ^ h=0:=by
  rw [hp,show 2 ^(64 - h) * 2 ^ h - 2 ^ h=(2 ^(64 - h) - 1) * 2 ^ h from by rw [Nat.sub_mul,Nat.one_mul],Nat.mul_mod_left]
 have hp1:1≤2 ^ h:=Nat.two_pow_pos _;rw [e,u64_or_nat _ _ (by omega) (by omega),Nat.or_comm,nat_join h _ m hd hm];congr 1;omega
theorem wY (W:World) (q:Nat) (A:Option Addr) (c:Nat) (B:List Int) (a bits:Nat) (hB:aK B) (hQ:ByQ W q A B) (hc:B.length≤c) (ha:a≤B.length) (hb:1≤bits∧bits≤64):
  Calls Tryz.prog 161 #[.slice A B.length c, .int .i64 a, .int .i64 bits] W (uT W (di B a bits)):=by
 have HS:=Lib.hid (wT iY _ EY FU W q A c B a bits hB hQ hc ha hb);have HM:=Lib.hid (fun m h k e=>kW (lst:=iY) (B.drop a) bits m h k hb.1 (fun x hx=>hB.2 x (List.mem_of_mem_drop hx)) e);rw [di];have HM2:=Lib.hid (show bZ iY (B.drop a) bits=bZ iY (B.drop a) bits from rfl);have HE:=Lib.hid (fun e h=>iM iY (B.drop a) bits e h);generalize bZ iY (B.drop a) bits=r at *;clear hQ hB HM2;have hb2:=hb.2;go_enter Tryz.func161,Tryz.ntmps161;go_wp2_with fail;refine HS.out.mono ?_;clear HS;rintro E W1 ⟨hB1,hm⟩;have HB1:=Lib.hid hB1;rcases r with e|⟨m,h,k⟩
 ·obtain rfl:=hm;clear hB1;have he:(e !=0)=true:=by have:=HE.out e rfl;simp;exact this
  go_wp2_with fail;refine bodyPost_ret (results_tmp3 rfl _ _ _) rfl ?_;exact ⟨HB1.out.alloc HB1.out.size _,rfl⟩
 ·obtain ⟨l',rfl⟩:=hm;obtain ⟨N,hN⟩:∃N:Int,((a+k:Nat):Int)=N:=⟨_,rfl⟩;rw [hN];obtain ⟨hm1,hm2,hm3⟩:=HM.out m h k rfl;have HN:=Lib.hid hN;have HM1:=Lib.hid hm1;clear hB1 hN hm1 HM;by_cases h64:h< 64
  ·have hms:m % 18446744073709551616=m:=tq m h HM1.out (by omega);rw [hms];have HMS:=Lib.hid hms;clear hms;have hbit:=FW m h HM1.out (by omega) h64;by_cases hs:2 ^(h - 1)≤m
   ·rw [decide_eq_true hs]at hbit;have HV:=Lib.hid (show nW m h=m+18446744073709551616 - 2 ^ h from if_pos ⟨h64,hs⟩);have HO:=Lib.hid (Iq m h HM1.out h64);clear hs;go_wp2_with fail;have hN:=Blk.new W1 #[.int .u64 m, .int .i64 h, .int .i64 l'] 192;have hBf:=HB1.out.alloc HB1.out.size (.cells #[.int .u64 m, .int .i64 h, .int .i64 l'] 192);have hs1:=HB1.out.size;generalize W1.alloc (.cells #[.int .u64 m, .int .i64 h, .int .i64 l'] 192)=W2 at *;have c0:W2.cell? ⟨W1.heap.size,0,none⟩=some (.int .u64 (m:Int)):=by rw [hN.cell];rfl
    have c1:W2.cell? ⟨W1.heap.size,1,none⟩=some (.int .i64 (h:Int)):=by rw [hN.cell];rfl
    have f0:=hN.frozen 0;have HBf:=Lib.hid hBf;clear hN hBf;go_still_tail 7,(by kernel_rfl);change wpList _ _ _ _ _ W2.drew;go_wp2;refine bodyPost_ret (results_tmp3 rfl _ _ _) rfl ?_;refine ⟨(HBf.out.setCell (p:=⟨W1.heap.size,0,none⟩) hs1 _).trans ⟨rfl,rfl,rfl,Nat.le_refl _,fun _ _=>rfl⟩, ?_⟩;show _=_
    rw [HV.out,HN.out,←HO.out];rfl
   ·rw [decide_eq_false hs]at hbit;have HV:=Lib.hid (show nW m h=m from by rw [nW,if_neg (fun h=>hs h.2),HMS.out]);clear hs;go_wp2_with fail;refine bodyPost_ret (results_tmp3 rfl _ _ _) rfl ?_;refine ⟨HB1.out.alloc HB1.out.size _, ?_⟩;show _=_
    rw [HV.out,HN.out];rfl
  ·obtain ⟨M,hM⟩:∃M:Int,((m % 18446744073709551616:Nat):Int)=M:=⟨_,rfl⟩;rw [hM];have HMM:=Lib.hid hM;have HV:=Lib.hid (show nW m h=m % 18446744073709551616 from if_neg (fun h=>h64 h.1));clear hM;go_wp2_with fail;refine bodyPost_ret (results_tmp3 rfl _ _ _) rfl ?_;refine ⟨HB1.out.alloc HB1.out.size _, ?_⟩;show _=_
   rw [HV.out,HMM.out,HN.out];rfl
end Go.Proofs.YtofaiocffifhfaaGreat
end
namespace Go.Proofs.YtofaiocffifhfaaGreat
open Go.RowKit Go.Shelf YtofaiocffifhfaaGreatB Go.Proofs.YtofaiocffifhfaaGreatW.PrintWords
theorem qG {B:List Int} {a bits n nx:Nat} (h:bQ B a bits= .ok (n,nx)):a+1≤nx∧nx≤B.length:=by
 unfold bQ at h
 cases hr:bZ jk (B.drop a) bits with
 |error e=>rw [hr]at h;cases h
 |ok y=>
  obtain ⟨m,hh,c⟩:=y;rw [hr]at h;cases h
  have:=qZ _ _ _ _ _ hr;rw [List.length_drop]at this;omega
theorem ku {B:List Int} {a bits n nx:Nat} (h:di B a bits= .ok (n,nx)):a+1≤nx∧nx≤B.length:=by
 unfold di at h
 cases hr:bZ iY (B.drop a) bits with
 |error e=>rw [hr]at h;cases h
 |ok y=>
  obtain ⟨m,hh,c⟩:=y;rw [hr]at h;cases h
  have:=qZ _ _ _ _ _ hr;rw [List.length_drop]at this;omega
theorem mD {B:List Int} {a bits:Nat} {e:Int} (h:bQ B a bits= .error e):(e==0)=false:=by
 unfold bQ at h
 cases hr:bZ jk (B.drop a) bits with
 |error e' =>rw [hr]at h;cases h;exact beq_eq_false_iff_ne.2 (iM _ _ _ _ hr)
 |ok y=>obtain ⟨m,hh,c⟩:=y;rw [hr]at h;cases h
theorem iH {B:List Int} {a bits:Nat} {e:Int} (h:di B a bits= .error e):(e==0)=false:=by
 unfold di at h
 cases hr:bZ iY (B.drop a) bits with
 |error e' =>rw [hr]at h;cases h;exact beq_eq_false_iff_ne.2 (iM _ _ _ _ hr)
 |ok y=>obtain ⟨m,hh,c⟩:=y;rw [hr]at h;cases h
def dm (r:Except Int (Nat×Nat)):Int:=match r with| .error _=>0| .ok (n,_)=>n
def gm (a:Nat) (r:Except Int (Nat×Nat)):Nat:=match r with| .error _=>a| .ok (_,nx)=>nx
def eP (r:Except Int (Nat×Nat)):Int:=match r with| .error e=>e| .ok _=>0
theorem nz (W:World) (p q:Nat) (B:List Int) (a bits:Nat) (g:FuncId) (hent:Enters Tryz.prog g) (r:Except Int (Nat×Nat)) (hC:Cur W p q B a 0)
  (hg:∀W' A c,ByQ W' q A B→B.length≤c→Calls Tryz.prog g #[.slice A B.length c, .int .i64 a, .int .i64 bits] W' (uT W' r))
  (hok:∀n nx,r= .ok (n,nx)→nx≤B.length) (herr:∀e,r= .error e→(e==0)=false):
  Calls Tryz.prog 61 #[.pointer (some ⟨p,0,none⟩), .func (.func g) #[] #[], .int .i64 bits] W fun E w' =>E= .returned (.int .u64 (dm r))∧Goes W w' p q B (gm a r) (eP r):=by
 have hin:∀args w,Sem.run Tryz.prog (callFunc g args) w= .ok (.enter g args) w:=hent;have HC:=Lib.hid hC;obtain ⟨A,c,c0,c1,c2,f0,f1,f2,hle,hq,hlt,ha⟩:=hC.cells;have HG:=Lib.hid (fun W' h=>hg W' A c h hle);have HQ:=Lib.hid hq;rcases r with e|⟨n,nx⟩
 ·have he:=herr e rfl;have he2:(e !=0)=true:=by simp only [bne,he];rfl
  have HE:=Lib.hid he;clear hC hg hq hent hok herr he;go_enter Tryz.func61,Tryz.ntmps61;go_wp2_with fail
  go_region_held3 (fun w' =>w'.cell? ⟨p,0,none⟩=some (.slice A B.length c)∧w'.cell? ⟨p,1,none⟩=some (.int .i64 a)∧Below W.heap.size W w')
   (first|exact ⟨c0,c1,(Below.refl _ _).drew⟩|exact ⟨aB (w:=W.drew) hB3 c0,aB (w:=W.drew) hB3 c1,((Below.refl _ _).drew).trans hB3⟩)
   (first|(refine (HG.out _ ?_).mono ?_;exact HQ.out.grown (row:=none) ⟨rfl,rfl,rfl,Nat.le_refl _,fun _ _ _=>rfl⟩ (by simp);rintro E w3 ⟨hB3,rfl⟩))
  have HG3:=Lib.hid (show Goes W w3 p q B a 0 from ⟨HC.out.below (((Below.refl _ _).drew).trans hB3),aL (((Below.refl _ _).drew).trans hB3) _⟩);obtain ⟨A3,k3,d0,d1,d2,l0,l1,l2,gle,gq,glt,ga⟩:=HG3.out.1.cells;clear hB3 gq c0 c1 c2 f0 f1 f2;go_wp2_with fail;go_still_tail 9,(by kernel_rfl);change wpList _ _ _ _ _ w3.drew;have HD:=Lib.hid (Goes.trans HG3.out (Goes.drewN HG3.out.1 1));have HDC:=Lib.hid (show Cur w3.drew p q B a 0 from HD.out.1);have HG2:=Lib.hid (show W.grownBy w3.drew (some p)from HD.out.2);clear HD;generalize w3.drew=W2 at *;go_wp2_with fail;refine (j4 _ _ _ _ _ _ _ HDC.out HE.out ha).mono ?_;rintro E w' ⟨rfl,hG⟩;have HGo:=Lib.hid hG;clear hG;go_wp2_with fail;go_ret;exact ⟨rfl,HGo.out.1,HG2.out.trans HGo.out.2⟩
 ·have hnx:=hok n nx rfl;clear hC hg hq hent hok herr;go_enter Tryz.func61,Tryz.ntmps61;go_wp2_with fail
  go_region_held3 (fun w' =>w'.cell? ⟨p,0,none⟩=some (.slice A B.length c)∧w'.cell? ⟨p,1,none⟩=some (.int .i64 a)∧Below W.heap.size W w')
   (first|exact ⟨c0,c1,(Below.refl _ _).drew⟩|exact ⟨aB (w:=W.drew) hB3 c0,aB (w:=W.drew) hB3 c1,((Below.refl _ _).drew).trans hB3⟩)
   (first|(refine (HG.out _ ?_).mono ?_;exact HQ.out.grown (row:=none) ⟨rfl,rfl,rfl,Nat.le_refl _,fun _ _ _=>rfl⟩ (by simp);rintro E w3 ⟨hB3,rfl⟩))
  have HG3:=Lib.hid (show Goes W w3 p q B a 0 from ⟨HC.out.below (((Below.refl _ _).drew).trans hB3),aL (((Below.refl _ _).drew).trans hB3) _⟩);obtain ⟨A3,k3,d0,d1,d2,l0,l1,l2,gle,gq,glt,ga⟩:=HG3.out.1.cells;clear hB3 gq c0 c1 c2 f0 f1 f2;go_wp2_with fail;go_ret;exact ⟨rfl,HG3.out.1.setAt nx hnx,HG3.out.2.trans (bA _ _ _ _)⟩
end Go.Proofs.YtofaiocffifhfaaGreat
section
namespace Go.Proofs.YtofaiocffifhfaaGreatB
open Go.RowKit
theorem kX:∀(R:List Int) (l:Nat) (m h c:Nat),1≤l→(∀x∈R,0≤x∧x≤255)→bZ jk R l= .ok (m,h,c)→m< 2 ^ l
 | [],l,m,h,c,_,_,e=>by simp [bZ]at e
 |x::r,l,m,h,c,hl,hR,e=>by
  have hx:=hR x (by simp);rw [bZ]at e;split at e
  ·split at e
   next h1 h2=>
    simp at e;obtain ⟨rfl,rfl,rfl⟩:=e;simp only [jk,Bool.or_eq_true,decide_eq_true_eq]at h2;rcases h2 with h2|h2
    ·have:2 ^ 7≤2 ^ l:=Nat.pow_le_pow_right (by omega) (by omega);omega
    ·rw [Int.toNat_natCast]at h2;have h3:((2:Int) ^ l)=((2 ^ l:Nat):Int):=by rw [Int.natCast_pow];rfl
     rw [h3]at h2;omega
   ·cases e
  ·split at e
   ·cases e
   ·cases hr:bZ jk r (l - 7)with
    |error e' =>rw [hr]at e;cases e
    |ok y=>
     obtain ⟨m',h',c'⟩:=y;rw [hr]at e;simp at e;have ih:=kX r (l - 7) m' h' c' (by omega) (fun y hy=>hR y (by simp [hy])) hr;obtain ⟨rfl,rfl,rfl⟩:=e;have h4:2 ^ l=2 ^(l - 7) * 128:=by rw [show (128:Nat)=2 ^ 7 from rfl,←Nat.pow_add,show l - 7+7=l from by omega]
     omega
end Go.Proofs.YtofaiocffifhfaaGreatB
namespace Go.Proofs.YtofaiocffifhfaaGreat
open Go.RowKit Go.Shelf YtofaiocffifhfaaGreatB Go.Proofs.YtofaiocffifhfaaGreatW.PrintWords
def aI (B:List Int) (a:Nat):Except Int (Nat×Nat):=bQ B a 32
def fu (B:List Int) (a:Nat):Except Int (Nat×Nat):=match di B a 32 with| .error e=> .error e| .ok (n,nx)=> .ok (n % 4294967296,nx)
def fC (B:List Int) (a:Nat):Except Int (Nat×Nat):=di B a 64
theorem jO {B:List Int} {a n nx:Nat} (hB:aK B) (h:aI B a= .ok (n,nx)):n< 4294967296∧a+1≤nx∧nx≤B.length:=by
 have h2:=qG h;unfold aI bQ at h
 cases hr:bZ jk (B.drop a) 32 with
 |error e=>rw [hr]at h;cases h
 |ok y=>
  obtain ⟨m,hh,c⟩:=y;rw [hr]at h;cases h
  have:=kX _ _ _ _ _ (by omega) (fun x hx=>hB.2 x (List.mem_of_mem_drop hx)) hr;exact ⟨by omega,h2⟩
def az (r:Except Int (Nat×Nat)) (a:Nat) (e:Int):Int×Nat×Int:=if e=0 then (dm r,gm a r,eP r)else (0,a,e)
theorem oo (a:Nat) (r:Except Int (Nat×Nat)) (herr:∀e,r= .error e→(e==0)=false):rsV (dm r) (eP r)=dm r∧rsA a (gm a r) (eP r)=gm a r:=by
 rcases r with e|⟨n,nx⟩
 ·have:=herr e rfl;have h:¬e=0:=by simpa using this
  simp [rsV,rsA,dm,gm,eP,h]
 ·simp [rsV,rsA,dm,gm,eP]
theorem Dr (B:List Int) (a:Nat) (hB:aK B):IntKind.u32.wrap (dm (bQ B a 32))=dm (aI B a)∧gm a (bQ B a 32)=gm a (aI B a)∧eP (bQ B a 32)=eP (aI B a):=by
 refine ⟨?_,rfl,rfl⟩;show IntKind.u32.wrap (dm (aI B a))=dm (aI B a)
 cases h:aI B a with
 |error e=>rfl
 |ok y=>
  obtain ⟨n,nx⟩:=y;have:=jO hB h;rw [IntKind.wrap_u32'];simp only [dm];omega
theorem Cj (B:List Int) (a:Nat) (_:aK B):IntKind.u32.wrap (dm (di B a 32))=dm (fu B a)∧gm a (di B a 32)=gm a (fu B a)∧eP (di B a 32)=eP (fu B a):=by
 unfold fu
 cases di B a 32 with
 |error e=>exact ⟨rfl,rfl,rfl⟩
 |ok y=>
  obtain ⟨n,nx⟩:=y;refine ⟨?_,rfl,rfl⟩;rw [IntKind.wrap_u32'];simp only [dm];omega
theorem Ch (B:List Int) (a:Nat) (_:aK B):dm (di B a 64)=dm (fC B a)∧gm a (di B a 64)=gm a (fC B a)∧eP (di B a 64)=eP (fC B a):=⟨rfl,rfl,rfl⟩
theorem qg (B:List Int) (a:Nat):∀e,aI B a= .error e→(e==0)=false:=fun e h=>mD h
theorem GQ (B:List Int) (a:Nat):∀e,fu B a= .error e→(e==0)=false:=fun e h=>by
 unfold fu at h
 cases hr:di B a 32 with
 |error e' =>rw [hr]at h;cases h;exact iH hr
 |ok y=>obtain ⟨n,nx⟩:=y;rw [hr]at h;cases h
theorem Fb (B:List Int) (a:Nat):∀e,fC B a= .error e→(e==0)=false:=fun e h=>iH h
theorem Cq (W:World) (p q r:Nat) (B:List Int) (a:Nat) (hC:Cur W p q B a 0) (hB:aK B) (hr:W.cell? ⟨r,0,none⟩=some (.pointer (some ⟨p,0,none⟩))):
  Calls Tryz.prog 60 #[.pointer (some ⟨r,0,none⟩)] W fun E w' =>E= .returned (.int .u32 (dm (aI B a)))∧Goes W w' p q B (gm a (aI B a)) (eP (aI B a)):=by
 have H:=Lib.hid (nz W p q B a 32 _ Je (bQ B a 32) hC (fun W' A c hQ hc=>BV W' q A c B a 32 hB hQ hc hC.2.1 (by omega)) (fun n nx h=>(qG h).2) (fun e h=>mD h));have HV:=Lib.hid (Dr B a hB);generalize bQ B a 32=r0 at *;clear hC hB;go_enter Tryz.func60,Tryz.ntmps60;go_wp2_with fail;refine H.out.mono ?_;rintro E W1 ⟨rfl,hG⟩;rw [HV.out.2.1,HV.out.2.2]at hG;have HG:=Lib.hid hG;have HV1:=Lib.hid HV.out.1;generalize dm r0=v0 at *;clear hG H HV;go_wp2_with fail;go_ret;rw [←HV1.out];exact ⟨rfl,HG.out⟩
theorem dG (W:World) (p q:Nat) (B:List Int) (a:Nat) (e:Int) (hC:Cur W p q B a e) (hB:aK B):
  Calls Tryz.prog 34 #[.pointer (some ⟨p,0,none⟩)] W fun E w' =>E= .returned (.int .u32 (az (aI B a) a e).1)∧Goes W w' p q B (az (aI B a) a e).2.1 (az (aI B a) a e).2.2:=by
 have hC2:=hC.alloc (.cells #[.pointer (some ⟨p,0,none⟩)] 53);by_cases he:e=0
 ·subst he;have H:=Lib.hid (nY _ p q B a _ CL #[.pointer (some ⟨W.heap.size,0,none⟩)] _ _ _ hC2 (Cq _ p q W.heap.size B a hC2 hB (by rw [(Blk.new W #[.pointer (some ⟨p,0,none⟩)] 53).cell 0];rfl)));have HR:=Lib.hid (oo a (aI B a) (qg B a));have HV:=Lib.hid (show az (aI B a) a 0=(dm (aI B a),gm a (aI B a),eP (aI B a))from rfl);clear hC hC2 hB;go_enter Tryz.func34,Tryz.ntmps34;go_wp2_with fail;refine H.out.mono ?_;rintro E W1 ⟨rfl,hG⟩;rw [HR.out.1];rw [HR.out.2]at hG;have HG:=Lib.hid hG;clear hG H HR;go_wp2_with fail;go_ret;rw [HV.out];exact ⟨rfl,HG.out.aW⟩
 ·have H:=Lib.hid (jY _ p q B a e (.func (.func 60) #[] #[.pointer (some ⟨W.heap.size,0,none⟩)]) hC2 (beq_eq_false_iff_ne.2 he));have HV:=Lib.hid (show az (aI B a) a e=(0,a,e)from by simp [az,he]);have HG:=Lib.hid (Goes.aW (Goes.same hC2));clear hC hC2 hB he;go_enter Tryz.func34,Tryz.ntmps34;go_wp2_with fail;refine H.out.mono ?_;rintro E W1 ⟨rfl,rfl⟩;go_wp2_with fail;go_ret;rw [HV.out];exact ⟨rfl,HG.out⟩
theorem Cv (W:World) (p q r:Nat) (B:List Int) (a:Nat) (hC:Cur W p q B a 0) (hB:aK B) (hr:W.cell? ⟨r,0,none⟩=some (.pointer (some ⟨p,0,none⟩))):
  Calls Tryz.prog 160 #[.pointer (some ⟨r,0,none⟩)] W fun E w' =>E= .returned (.int .u32 (dm (fu B a)))∧Goes W w' p q B (gm a (fu B a)) (eP (fu B a)):=by
 have H:=Lib.hid (nz W p q B a 32 _ CW (di B a 32) hC (fun W' A c hQ hc=>wY W' q A c B a 32 hB hQ hc hC.2.1 (by omega)) (fun n nx h=>(ku h).2) (fun e h=>iH h));have HV:=Lib.hid (Cj B a hB);generalize di B a 32=r0 at *;clear hC hB;go_enter Tryz.func160,Tryz.ntmps160;go_wp2_with fail;refine H.out.mono ?_;rintro E W1 ⟨rfl,hG⟩;rw [HV.out.2.1,HV.out.2.2]at hG;have HG:=Lib.hid hG;have HV1:=Lib.hid HV.out.1;generalize dm r0=v0 at *;clear hG H HV;go_wp2_with fail;go_ret;rw [←HV1.out];exact ⟨rfl,HG.out⟩
theorem Gm (W:World) (p q:Nat) (B:List Int) (a:Nat) (e:Int) (hC:Cur W p q B a e) (hB:aK B):
  Calls Tryz.prog 149 #[.pointer (some ⟨p,0,none⟩)] W fun E w' =>E= .returned (.int .u32 (az (fu B a) a e).1)∧Goes W w' p q B (az (fu B a) a e).2.1 (az (fu B a) a e).2.2:=by
 have hC2:=hC.alloc (.cells #[.pointer (some ⟨p,0,none⟩)] 53);by_cases he:e=0
 ·subst he;have H:=Lib.hid (nY _ p q B a _ Cc #[.pointer (some ⟨W.heap.size,0,none⟩)] _ _ _ hC2 (Cv _ p q W.heap.size B a hC2 hB (by rw [(Blk.new W #[.pointer (some ⟨p,0,none⟩)] 53).cell 0];rfl)));have HR:=Lib.hid (oo a (fu B a) (GQ B a));have HV:=Lib.hid (show az (fu B a) a 0=(dm (fu B a),gm a (fu B a),eP (fu B a))from rfl);clear hC hC2 hB;go_enter Tryz.func149,Tryz.ntmps149;go_wp2_with fail;refine H.out.mono ?_;rintro E W1 ⟨rfl,hG⟩;rw [HR.out.1];rw [HR.out.2]at hG;have HG:=Lib.hid hG;clear hG H HR;go_wp2_with fail;go_ret;rw [HV.out];exact ⟨rfl,HG.out.aW⟩
 ·have H:=Lib.hid (jY _ p q B a e (.func (.func 160) #[] #[.pointer (some ⟨W.heap.size,0,none⟩)]) hC2 (beq_eq_false_iff_ne.2 he));have HV:=Lib.hid (show az (fu B a) a e=(0,a,e)from by simp [az,he]);have HG:=Lib.hid (Goes.aW (Goes.same hC2));clear hC hC2 hB he;go_enter Tryz.func149,Tryz.ntmps149;go_wp2_with fail;refine H.out.mono ?_;rintro E W1 ⟨rfl,rfl⟩;go_wp2_with fail;go_ret;rw [HV.out];exact ⟨rfl,HG.out⟩
theorem Cb (W:World) (p q r:Nat) (B:List Int) (a:Nat) (hC:Cur W p q B a 0) (hB:aK B) (hr:W.cell? ⟨r,0,none⟩=some (.pointer (some ⟨p,0,none⟩))):
  Calls Tryz.prog 163 #[.pointer (some ⟨r,0,none⟩)] W fun E w' =>E= .returned (.int .u64 (dm (fC B a)))∧Goes W w' p q B (gm a (fC B a)) (eP (fC B a)):=by
 have H:=Lib.hid (nz W p q B a 64 _ CW (di B a 64) hC (fun W' A c hQ hc=>wY W' q A c B a 64 hB hQ hc hC.2.1 (by omega)) (fun n nx h=>(ku h).2) (fun e h=>iH h));have HV:=Lib.hid (Ch B a hB);generalize di B a 64=r0 at *;clear hC hB;go_enter Tryz.func163,Tryz.ntmps163;go_wp2_with fail;refine H.out.mono ?_;rintro E W1 ⟨rfl,hG⟩;rw [HV.out.2.1,HV.out.2.2]at hG;have HG:=Lib.hid hG;have HV1:=Lib.hid HV.out.1;generalize dm r0=v0 at *;clear hG H HV;go_wp2_with fail;go_ret;rw [←HV1.out];exact ⟨rfl,HG.out⟩
theorem FN (W:World) (p q:Nat) (B:List Int) (a:Nat) (e:Int) (hC:Cur W p q B a e) (hB:aK B):
  Calls Tryz.prog 150 #[.pointer (some ⟨p,0,none⟩)] W fun E w' =>E= .returned (.int .u64 (az (fC B a) a e).1)∧Goes W w' p q B (az (fC B a) a e).2.1 (az (fC B a) a e).2.2:=by
 have hC2:=hC.alloc (.cells #[.pointer (some ⟨p,0,none⟩)] 53);by_cases he:e=0
 ·subst he;have H:=Lib.hid (nR _ p q B a _ CX #[.pointer (some ⟨W.heap.size,0,none⟩)] _ _ _ hC2 (Cb _ p q W.heap.size B a hC2 hB (by rw [(Blk.new W #[.pointer (some ⟨p,0,none⟩)] 53).cell 0];rfl)));have HR:=Lib.hid (oo a (fC B a) (Fb B a));have HV:=Lib.hid (show az (fC B a) a 0=(dm (fC B a),gm a (fC B a),eP (fC B a))from rfl);clear hC hC2 hB;go_enter Tryz.func150,Tryz.ntmps150;go_wp2_with fail;refine H.out.mono ?_;rintro E W1 ⟨rfl,hG⟩;rw [HR.out.1];rw [HR.out.2]at hG;have HG:=Lib.hid hG;clear hG H HR;go_wp2_with fail;go_ret;rw [HV.out];exact ⟨rfl,HG.out.aW⟩
 ·have H:=Lib.hid (ko _ p q B a e (.func (.func 163) #[] #[.pointer (some ⟨W.heap.size,0,none⟩)]) hC2 (beq_eq_false_iff_ne.2 he));have HV:=Lib.hid (show az (fC B a) a e=(0,a,e)from by simp [az,he]);have HG:=Lib.hid (Goes.aW (Goes.same hC2));clear hC hC2 hB he;go_enter Tryz.func150,Tryz.ntmps150;go_wp2_with fail;refine H.out.mono ?_;rintro E W1 ⟨rfl,rfl⟩;go_wp2_with fail;go_ret;rw [HV.out];exact ⟨rfl,HG.out⟩
end Go.Proofs.YtofaiocffifhfaaGreat
end
section
namespace Go.Proofs.YtofaiocffifhfaaGreatB
open Go.RowKit
def leN:List Int→Nat| []=>0|x::r=>x.toNat+256 * leN r
theorem wZ (l:List Int) (x:Int):leN (l++ [x])=leN l+x.toNat * 2 ^(8 * l.length):=by
 induction l with
 |nil=>simp [leN]
 |cons y l ih=>
  rw [List.cons_append,leN,leN,ih,List.length_cons,show 8 * (l.length+1)=8 * l.length+8 from by omega,Nat.pow_add,show (2:Nat) ^ 8=256 from rfl,Nat.mul_add,Nat.add_assoc,Nat.mul_comm (2 ^(8 * l.length)) 256,←Nat.mul_assoc,←Nat.mul_assoc,Nat.mul_comm x.toNat 256]
theorem uD:∀(l:List Int),(∀x∈l,0≤x∧x≤255)→leN l< 2 ^(8 * l.length)
 | [],_=>by simp [leN]
 |y::l,h=>by
  have ih:=uD l (fun x hx=>h x (by simp [hx]));have hy:=h y (by simp);rw [leN,List.length_cons,show 8 * (l.length+1)=8+8 * l.length from by omega,Nat.pow_add,show (2:Nat) ^ 8=256 from rfl];omega
theorem Jr (n k:Nat) (x:Nat) (hx:x< 256) (hk:k≤7) (hn:n< 2 ^(8 * k)):bits .or .u64 (n:Int) (IntKind.u64.wrap ((x:Int) * 2 ^(8 * k)))=((n+x * 2 ^(8 * k):Nat):Int):=by
 have h1:2 ^(8 * k)≤2 ^ 56:=Nat.pow_le_pow_right (by omega) (by omega);have h2:x * 2 ^(8 * k)≤255 * 2 ^(8 * k):=Nat.mul_le_mul_right _ (by omega);have hd:(x * 2 ^(8 * k)) % 2 ^(8 * k)=0:=Nat.mul_mod_left _ _
 have e:IntKind.u64.wrap ((x:Int) * 2 ^(8 * k))=((x * 2 ^(8 * k):Nat):Int):=by
  have:(x:Int) * 2 ^(8 * k)=((x * 2 ^(8 * k):Nat):Int):=by rw [Int.natCast_mul,Int.natCast_pow];rfl
  rw [this,IntKind.wrap_u64];omega
 rw [e];generalize hy:x * 2 ^(8 * k)=y at *;generalize ht:2 ^(8 * k)=t at *;rw [u64_or_nat _ _ (by omega) (by omega),Nat.or_comm];subst ht;rw [nat_join (8 * k) y n hd hn,Nat.add_comm]
end Go.Proofs.YtofaiocffifhfaaGreatB
namespace Go.Proofs.YtofaiocffifhfaaGreat
open Go.RowKit Go.Shelf YtofaiocffifhfaaGreatB Go.Proofs.YtofaiocffifhfaaGreatW.PrintWords
def dN (B:List Int) (a n:Nat):Except Int (Nat×Nat):=if a+n≤B.length then .ok (leN ((B.drop a).take n),a+n)else .error 100
def aG (B:List Int) (a:Nat):Except Int (Nat×Nat):=match aI B a with| .error e=> .error e| .ok (n,nx)=>if n >4096 then .error 3 else .ok (n,nx)
def aV (B:List Int) (a:Nat) (L:List Int) (e:Int):Except Int (Nat×Nat):=match B[a]? with|none=> .error 100|some x=>if x∈L then .ok (x.toNat,a+1)else .error e
theorem xL (W:World) (p q r s:Nat) (B:List Int) (a n:Nat) (hn:n=4∨n=8) (hC:Cur W p q B a 0) (hB:aK B) (hr:W.cell? ⟨r,0,none⟩=some (.pointer (some ⟨p,0,none⟩))) (hs:W.cell? ⟨s,0,none⟩=some (.int .i64 n)):
  Calls Tryz.prog 164 #[.pointer (some ⟨s,0,none⟩), .pointer (some ⟨r,0,none⟩)] W fun E w' =>E= .returned (.int .u64 (dm (dN B a n)))∧Goes W w' p q B (gm a (dN B a n)) (eP (dN B a n)):=by
 have hl:=hB.1;by_cases hle:a+n≤B.length
 ·have HT:=Lib.hid (qy W p q B a n hC hB hle);have HV:=Lib.hid (show dN B a n= .ok (leN ((B.drop a).take n),a+n)from if_pos hle);have hL:((B.drop a).take n).length=n:=by rw [List.length_take,List.length_drop];omega
  have hLb:∀x∈(B.drop a).take n,0≤x∧x≤255:=fun x hx=>hB.2 x (List.mem_of_mem_drop (List.mem_of_mem_take hx))
  generalize (B.drop a).take n=Z at *;have HL:=Lib.hid hL;have HLb:=Lib.hid hLb;clear hL hLb hC hB;have hn8:n≤8:=by omega
  rcases hn with rfl|rfl
  all_goals
   go_enter Tryz.func164,Tryz.ntmps164;go_wp2_with fail;refine HT.out.mono ?_;rintro E W1 ⟨⟨A',c',rfl,hq⟩,hG⟩;have HG:=Lib.hid hG;have HQ:=Lib.hid hq;clear hG hq HT;go_wp2_with fail;go_loop [3,25] (fun u k=>∃j:Nat,j≤Z.length∧k= .int .i64 j∧u= .int .u64 (leN (Z.take j))) (fun _ k=>Z.length - (intOf k).toNat)
   case atStart=>exact ⟨0,Nat.zero_le _,rfl,rfl⟩
   case round=>
    obtain ⟨j,hj,rfl,rfl⟩:=hrel;have hj8:(j:Int)≤8:=by have:=HL.out;omega
    by_cases hlt:j< Z.length
    ·obtain ⟨o,x,rfl,hx,hc⟩:=HQ.out.at_ j hlt;have hxb:=HLb.out x (List.mem_of_getElem? hx.out);have hx0:=hxb.1;have hx1:=hxb.2;have hlt2:(j:Int)<(Z.length:Int):=by omega
     rw [HL.out]at hlt2
     have HT2:=Lib.hid (show leN (Z.take (j+1))=leN (Z.take j)+x.toNat * 2 ^(8 * j)from by
      rw [List.take_add_one,hx.out];have:=wZ (Z.take j) x;rw [List.length_take,Nat.min_eq_left (by omega)]at this
      exact this)
     have HB2:=Lib.hid (show leN (Z.take j)< 2 ^(8 * j)from by
      have:=uD (Z.take j) (fun y hy=>HLb.out y (List.mem_of_mem_take hy));rw [List.length_take,Nat.min_eq_left (by omega)]at this
      exact this)
     clear hxb;generalize leN (Z.take j)=v at *;go_wp2_with fail;go_round
     case rel=>
      refine ⟨j+1,by omega,by go_num, ?_⟩;have h3:=Jr v j x.toNat (by omega) (by have:=HL.out;omega) HB2.out;rw [Int.toNat_of_nonneg hx0]at h3;rw [HT2.out,h3]
     case measure=>simp [intOf];omega
    ·obtain rfl:j=Z.length:=by omega
     have HV2:=Lib.hid (show leN (Z.take Z.length)=leN Z from by rw [List.take_length]);generalize leN (Z.take Z.length)=v at *;have hge:=Int.le_of_eq (congrArg (fun n:Nat=>(n:Int)) HL.out.symm);go_wp2_with fail;go_ret;rw [HV.out,HV2.out.symm];exact ⟨rfl,HG.out⟩
 ·have HT:=Lib.hid (uF W p q B a n hC hB (by omega) (by omega));have HV:=Lib.hid (show dN B a n= .error 100 from if_neg hle);clear hC hB;rcases hn with rfl|rfl
  all_goals
   go_enter Tryz.func164,Tryz.ntmps164;go_wp2_with fail;refine HT.out.mono ?_;rintro E W1 ⟨rfl,hG⟩;have HG:=Lib.hid hG;clear hG HT;go_wp2_with fail;go_loop [3,25] (fun u k=>u= .int .u64 0∧k= .int .i64 0) (fun _ k=>0)
   case atStart=>exact ⟨rfl,rfl⟩
   case round=>
    obtain ⟨rfl,rfl⟩:=hrel;go_wp2_with fail;go_ret;rw [HV.out];exact ⟨rfl,HG.out⟩
end Go.Proofs.YtofaiocffifhfaaGreat
end
namespace Go.Proofs.YtofaiocffifhfaaGreat
open Go.RowKit Go.Shelf YtofaiocffifhfaaGreatB Go.Proofs.YtofaiocffifhfaaGreatW.PrintWords
theorem FI {B:List Int} {a n m nx:Nat} (h:dN B a n= .ok (m,nx)):nx=a+n∧nx≤B.length:=by
 unfold dN at h;split at h
 ·cases h;exact ⟨rfl,by assumption⟩
 ·cases h
theorem EH {B:List Int} {a n:Nat}:∀e,dN B a n= .error e→(e==0)=false:=fun e h=>by
 unfold dN at h;split at h
 ·cases h
 ·cases h;rfl
theorem yw {B:List Int} {a:Nat}:∀e,aG B a= .error e→(e==0)=false:=fun e h=>by
 unfold aG at h
 cases hr:aI B a with
 |error e' =>rw [hr]at h;cases h;exact qg B a _ hr
 |ok y=>
  obtain ⟨n,nx⟩:=y;rw [hr]at h;simp only at h;split at h
  ·cases h;rfl
  ·cases h
theorem oH {B:List Int} {a n nx:Nat} (hB:aK B) (h:aG B a= .ok (n,nx)):n≤4096∧a+1≤nx∧nx≤B.length:=by
 unfold aG at h
 cases hr:aI B a with
 |error e' =>rw [hr]at h;cases h
 |ok y=>
  obtain ⟨n,nx⟩:=y;rw [hr]at h;simp only at h;split at h
  ·cases h
  ·cases h
   exact ⟨by omega,(jO hB hr).2⟩
theorem sS (W:World) (p q:Nat) (B:List Int) (a n:Nat) (e:Int) (hn:n=4∨n=8) (hC:Cur W p q B a e) (hB:aK B):
  Calls Tryz.prog 151 #[.pointer (some ⟨p,0,none⟩), .int .i64 n] W fun E w' =>E= .returned (.int .u64 (az (dN B a n) a e).1)∧Goes W w' p q B (az (dN B a n) a e).2.1 (az (dN B a n) a e).2.2:=by
 have hC2:=(hC.alloc (.cells #[.pointer (some ⟨p,0,none⟩)] 53)).alloc (.cells #[.int .i64 n] 3);have b1:=(Blk.new W #[.pointer (some ⟨p,0,none⟩)] 53).alloc (.cells #[.int .i64 n] 3);have b2:=Blk.new (W.alloc (.cells #[.pointer (some ⟨p,0,none⟩)] 53)) #[.int .i64 n] 3;rw [World.size_alloc]at b2;by_cases he:e=0
 ·subst he;have H:=Lib.hid (nR _ p q B a _ xM #[.pointer (some ⟨W.heap.size+1,0,none⟩), .pointer (some ⟨W.heap.size,0,none⟩)] _ _ _ hC2 (xL _ p q W.heap.size (W.heap.size+1) B a n hn hC2 hB (by rw [b1.cell];rfl) (by rw [b2.cell];rfl)));have HR:=Lib.hid (oo a (dN B a n) EH);have HV:=Lib.hid (show az (dN B a n) a 0=(dm (dN B a n),gm a (dN B a n),eP (dN B a n))from rfl);clear hC hC2 hB b1 b2;go_enter Tryz.func151,Tryz.ntmps151;go_wp2_with fail;refine H.out.mono ?_;rintro E W1 ⟨rfl,hG⟩;rw [HR.out.1];rw [HR.out.2]at hG;have HG:=Lib.hid hG;clear hG H HR;go_wp2_with fail;go_ret;rw [HV.out];exact ⟨rfl,HG.out.aW.aW⟩
 ·have H:=Lib.hid (ko _ p q B a e (.func (.func 164) #[] #[.pointer (some ⟨W.heap.size+1,0,none⟩), .pointer (some ⟨W.heap.size,0,none⟩)]) hC2 (beq_eq_false_iff_ne.2 he));have HV:=Lib.hid (show az (dN B a n) a e=(0,a,e)from by simp [az,he]);have HG:=Lib.hid (Goes.aW (Goes.aW (Goes.same hC2)));clear hC hC2 hB he b1 b2;go_enter Tryz.func151,Tryz.ntmps151;go_wp2_with fail;refine H.out.mono ?_;rintro E W1 ⟨rfl,rfl⟩;go_wp2_with fail;go_ret;rw [HV.out];exact ⟨rfl,HG.out⟩
theorem xG (W:World) (p q r:Nat) (B:List Int) (a:Nat) (hC:Cur W p q B a 0) (hB:aK B) (hrp:r≠p) (hr:W.cell? ⟨r,0,none⟩=some (.pointer (some ⟨p,0,none⟩))):
  Calls Tryz.prog 95 #[.pointer (some ⟨r,0,none⟩)] W fun E w' =>(∃v nx,E= .returned (.int .i64 v)∧(eP (aG B a)=0→v=dm (aG B a)∧nx=gm a (aG B a))∧Goes W w' p q B nx (eP (aG B a))):=by
 have H:=Lib.hid (dG W p q B a 0 hC hB);have hrlt:=World.block_lt_of_cell? _ _ hr
 cases hu:aI B a with
 |error e=>
  have he:=qg B a e hu;have HV:=Lib.hid (show aG B a= .error e from by unfold aG;rw [hu]);have HU:=Lib.hid hu;clear hu hC hB he;go_enter Tryz.func95,Tryz.ntmps95;go_wp2_with fail;refine H.out.mono ?_;rw [HU.out];rintro E W1 ⟨rfl,hG⟩;have HG:=Lib.hid hG;clear hG H;simp only [az,dm,if_pos];go_wp2_with fail;go_ret;rw [HV.out];exact ⟨0,a,rfl,fun _=>⟨rfl,rfl⟩,HG.out⟩
 |ok y=>
  obtain ⟨n,nx⟩:=y;have hlt:=jO hB hu;have hn:=hlt.1;by_cases hbig:n >4096
  ·have HV:=Lib.hid (show aG B a= .error 3 from by unfold aG;rw [hu];exact if_pos hbig);have HU:=Lib.hid hu;have hbig2:(4096:Int)<(n:Int):=by omega
   clear hu hC hB hlt hbig;go_enter Tryz.func95,Tryz.ntmps95;go_wp2_with fail;refine H.out.mono ?_;rw [HU.out];rintro E W1 ⟨rfl,hG⟩;have hG' :Goes W W1 p q B nx 0:=hG;have HG:=Lib.hid hG';have r1:W1.cell? ⟨r,0,none⟩=some (.pointer (some ⟨p,0,none⟩)):=(World.cell?_of_block (hG'.2.block r hrlt (by simpa using hrp))).trans hr;obtain ⟨A,k,d0,d1,d2,l0,l1,l2,gle,gq,glt,ga⟩:=hG'.1.cells;clear hG hG' H gq;simp only [az,dm,if_pos];go_wp2_with fail;go_still_tail 8,(by kernel_rfl);change wpList _ _ _ _ _ W1.drew;have HD:=Lib.hid (Goes.trans HG.out (Goes.drewN HG.out.1 1));have HDC:=Lib.hid (show Cur W1.drew p q B nx 0 from HD.out.1);have HG2:=Lib.hid (show W.grownBy W1.drew (some p)from HD.out.2);clear HD;generalize W1.drew=W2 at *;go_wp2_with fail;refine (j4 _ _ _ _ _ _ _ HDC.out rfl ga).mono ?_;rintro E w' ⟨rfl,hG⟩;have HGo:=Lib.hid hG;clear hG;go_wp2_with fail;go_ret;rw [HV.out];exact ⟨n,nx,rfl,(fun h=>(by cases h)),HGo.out.1,HG2.out.trans HGo.out.2⟩
  ·have HV:=Lib.hid (show aG B a= .ok (n,nx)from by unfold aG;rw [hu];exact if_neg hbig);have HU:=Lib.hid hu;have hbig2:(n:Int)≤4096:=by omega
   clear hu hC hB hlt hbig;go_enter Tryz.func95,Tryz.ntmps95;go_wp2_with fail;refine H.out.mono ?_;rw [HU.out];rintro E W1 ⟨rfl,hG⟩;have HG:=Lib.hid hG;clear hG H;simp only [az,dm,if_pos];go_wp2_with fail;go_ret;rw [HV.out];exact ⟨n,nx,rfl,fun _=>⟨rfl,rfl⟩,HG.out⟩
theorem eT (W:World) (p q:Nat) (B:List Int) (a:Nat) (e:Int) (hC:Cur W p q B a e) (hB:aK B):
  Calls Tryz.prog 58 #[.pointer (some ⟨p,0,none⟩)] W fun E w' =>E= .returned (.int .i64 (az (aG B a) a e).1)∧Goes W w' p q B (az (aG B a) a e).2.1 (az (aG B a) a e).2.2:=by
 have hC2:=hC.alloc (.cells #[.pointer (some ⟨p,0,none⟩)] 53);have hplt:=hC.lt;by_cases he:e=0
 ·subst he;have H:=Lib.hid (uQ _ p q B a _ xR #[.pointer (some ⟨W.heap.size,0,none⟩)] (fun v nx=>eP (aG B a)=0→v=dm (aG B a)∧nx=gm a (aG B a)) (eP (aG B a)) hC2 (xG _ p q W.heap.size B a hC2 hB (by omega) (by rw [(Blk.new W #[.pointer (some ⟨p,0,none⟩)] 53).cell 0];rfl)));have HR:=Lib.hid (oo a (aG B a) yw);have HV:=Lib.hid (show az (aG B a) a 0=(dm (aG B a),gm a (aG B a),eP (aG B a))from rfl);clear hC hC2 hB;go_enter Tryz.func58,Tryz.ntmps58;go_wp2_with fail;refine H.out.mono ?_;rintro E W1 ⟨v,nx,hv,rfl,hG⟩
  have hvv:rsV v (eP (aG B a))=dm (aG B a)∧rsA a nx (eP (aG B a))=gm a (aG B a):=by
   by_cases h0:eP (aG B a)=0
   ·obtain ⟨rfl,rfl⟩:=hv h0;exact HR.out
   ·have h1:=HR.out;simp only [rsV,rsA,if_neg h0]at h1 ⊢;exact h1
  rw [hvv.1];rw [hvv.2]at hG;have HG:=Lib.hid hG;clear hG H HR hvv hv;go_wp2_with fail;go_ret;rw [HV.out];exact ⟨rfl,HG.out.aW⟩
 ·have H:=Lib.hid (rX _ p q B a e (.func (.func 95) #[] #[.pointer (some ⟨W.heap.size,0,none⟩)]) hC2 (beq_eq_false_iff_ne.2 he));have HV:=Lib.hid (show az (aG B a) a e=(0,a,e)from by simp [az,he]);have HG:=Lib.hid (Goes.aW (Goes.same hC2));clear hC hC2 hB he;go_enter Tryz.func58,Tryz.ntmps58;go_wp2_with fail;refine H.out.mono ?_;rintro E W1 ⟨rfl,rfl⟩;go_wp2_with fail;go_ret;rw [HV.out];exact ⟨rfl,HG.out⟩
theorem xn {B:List Int} {a:Nat} {L:List Int} {e0:Int} (h0:(e0==0)=false):∀e,aV B a L e0= .error e→(e==0)=false:=fun e h=>by
 unfold aV at h;split at h
 ·cases h;rfl
 ·split at h
  ·cases h
  ·cases h;exact h0
def Ij (W:World) (p q:Nat) (B:List Int) (r:Except Int (Nat×Nat)) (a:Nat) (E:Ending) (w' :World):Prop:=
 ∃v nx,E= .returned (.int .u8 v)∧(eP r=0→v=dm r∧nx=gm a r)∧Goes W w' p q B nx (eP r)
theorem xe (W:World) (p q r s u ql:Nat) (B:List Int) (a:Nat) (e0:Int) (AL:Option Addr) (cL:Nat) (L:List Int) (hC:Cur W p q B a 0) (hB:aK B) (h0:(e0==0)=false) (hrp:r≠p) (hsp:s≠p) (hup:u≠p) (hqp:ql≠p)
  (hr:W.cell? ⟨r,0,none⟩=some (.pointer (some ⟨p,0,none⟩))) (hs:W.cell? ⟨s,0,none⟩=some (.slice AL L.length cL)) (hu:W.cell? ⟨u,0,none⟩=some (.int .i64 e0)) (hL:ByQ W ql AL L) (hLl:L.length≤100):
  Calls Tryz.prog 99 #[.pointer (some ⟨r,0,none⟩), .pointer (some ⟨s,0,none⟩), .pointer (some ⟨u,0,none⟩)] W (Ij W p q B (aV B a L e0) a):=by
 have H:=Lib.hid (iw W p q B a 0 hC hB);have hrlt:=World.block_lt_of_cell? _ _ hr;have hslt:=World.block_lt_of_cell? _ _ hs;have hult:=World.block_lt_of_cell? _ _ hu;obtain ⟨b,hb⟩:∃b,b=(aQ B a 0).1:=⟨_,rfl⟩;obtain ⟨a1,ha1⟩:∃a1,a1=(aQ B a 0).2.1:=⟨_,rfl⟩;obtain ⟨e1,he1⟩:∃e1,e1=(aQ B a 0).2.2:=⟨_,rfl⟩;rw [←hb,←ha1,←he1]at H
 have hcase:(e1=0∧(aV B a L e0=if b∈L then .ok (b.toNat,a+1)else .error e0)∧a1=a+1∧0≤b)∨(e1=100∧aV B a L e0= .error 100):=by
  unfold aQ at hb ha1 he1;unfold aV
  cases hx:B[a]? with
  |none=>rw [hx]at he1;exact .inr ⟨by simpa using he1,rfl⟩
  |some x=>
   rw [hx]at hb ha1 he1;simp at hb ha1 he1;subst hb;exact .inl ⟨he1,rfl,ha1,(hB.get hx).1⟩
 have HC:=Lib.hid hcase;have H0:=Lib.hid h0;clear hb ha1 he1 hC hB hcase h0;go_enter Tryz.func99,Tryz.ntmps99;go_wp2_with fail;refine H.out.mono ?_;rintro E W1 ⟨rfl,hG⟩;have hk:∀k,k< W.heap.size→k≠p→W1.heap[k]? =W.heap[k]? :=fun k h1 h2=>hG.2.block k h1 (by simpa using h2)
 have r1:W1.cell? ⟨r,0,none⟩=some (.pointer (some ⟨p,0,none⟩)):=(World.cell?_of_block (hk r hrlt hrp)).trans hr;have s1:W1.cell? ⟨s,0,none⟩=some (.slice AL L.length cL):=(World.cell?_of_block (hk s hslt hsp)).trans hs;have u1:W1.cell? ⟨u,0,none⟩=some (.int .i64 e0):=(World.cell?_of_block (hk u hult hup)).trans hu;have HL1:=Lib.hid (hL.grown hG.2 (by simpa using hqp));obtain ⟨A,k,d0,d1,d2,l0,l1,l2,gle,gq,glt,ga⟩:=hG.1.cells;have HG:=Lib.hid hG;clear hG hk H gq hL hr hs hu;go_wp2_with fail;go_loop [6,11] (fun _ k=>∃j:Nat,j≤L.length∧k= .int .i64 j∧Hid (∀y∈L.take j,¬y=b)) (fun _ k=>L.length - (intOf k).toNat)
 case atStart=>exact ⟨0,Nat.zero_le _,rfl,by intro y hy;simp at hy⟩
 case round=>
  obtain ⟨j,hj,rfl,hno⟩:=hrel;by_cases hlt:j< L.length
  ·obtain ⟨o,x,rfl,hx,hc⟩:=HL1.out.at_ j hlt;by_cases hxb:x=b
   ·have hxb2:(x==b)=true:=by simpa using hxb
    have HM:=Lib.hid (show b∈L from by rw [←hxb];exact List.mem_of_getElem? hx.out);clear hxb;go_wp2_with fail;go_ret;rcases HC.out with ⟨rfl,h1,rfl,h3⟩|⟨rfl,h1⟩
    ·rw [h1,if_pos HM.out];exact ⟨b,a+1,rfl,fun _=>⟨(Int.toNat_of_nonneg h3).symm,rfl⟩,HG.out⟩
    ·rw [h1];exact ⟨b,a1,rfl,(fun h=>(by cases h)),HG.out⟩
   ·have hxb2:(x==b)=false:=by simpa using hxb
    have HN:=Lib.hid (jU hno.out hx.out hxb);clear hxb;go_wp2_with fail;go_round
    case rel=>exact ⟨j+1,by omega,by go_num,HN⟩
    case measure=>simp [intOf];omega
  ·obtain rfl:j=L.length:=by omega
   have HNO:=Lib.hid (show ¬b∈L from fun h=>by have:=hno.out b;rw [List.take_length]at this;exact this h rfl);go_wp2_with fail;go_still_tail 9,(by kernel_rfl);change wpList _ _ _ _ _ W1.drew;have HD:=Lib.hid (Goes.trans HG.out (Goes.drewN HG.out.1 1));have HDC:=Lib.hid (show Cur W1.drew p q B a1 e1 from HD.out.1);have HG2:=Lib.hid (show W.grownBy W1.drew (some p)from HD.out.2)
   have HF:=Lib.hid (show ∀X,Cur X p q B a1 e1→Calls Tryz.prog 64 #[.pointer (some ⟨p,0,none⟩), .int .i64 e0, .int .i64 a1] X fun E w' =>E= .returned (.tuple #[])∧Goes X w' p q B a1 (cz e1 e0)from fun X hX=>by
    by_cases h0:e1=0
    ·subst h0;rw [cz,if_pos rfl];exact j4 X p q B a1 a1 e0 hX H0.out ga
    ·rw [cz,if_neg h0]
     exact (zn X p q B a1 e1 e0 a1 hX (beq_eq_false_iff_ne.2 h0)).mono (by rintro E w' ⟨rfl,rfl⟩;exact ⟨rfl,Goes.same hX⟩))
   clear HD;generalize W1.drew=W2 at *;go_wp2_with fail;refine (HF.out _ HDC.out).mono ?_;rintro E w' ⟨rfl,hG⟩;have HGo:=Lib.hid hG;clear hG;go_wp2_with fail;go_ret;have hfin:=Goes.trans (⟨HDC.out,HG2.out⟩:Goes W W2 p q B a1 e1) HGo.out;have hne:=H0.out;rcases HC.out with ⟨rfl,h1,rfl,h3⟩|⟨rfl,h1⟩
   ·rw [h1,if_neg HNO.out];exact ⟨0,a+1,rfl,(fun h=>(by rw [show eP (Except.error e0)=e0 from rfl]at h;rw [h]at hne;cases hne)),hfin⟩
   ·rw [h1];exact ⟨0,a1,rfl,(fun h=>(by cases h)),hfin⟩
theorem kH (W:World) (p q ql:Nat) (B:List Int) (a:Nat) (e e0:Int) (AL:Option Addr) (cL:Nat) (L:List Int) (hC:Cur W p q B a e) (hB:aK B) (h0:(e0==0)=false) (hqp:ql≠p) (hL:ByQ W ql AL L) (hLl:L.length≤100):
  Calls Tryz.prog 63 #[.pointer (some ⟨p,0,none⟩), .int .i64 e0, .slice AL L.length cL] W fun E w' =>E= .returned (.int .u8 (az (aV B a L e0) a e).1)∧Goes W w' p q B (az (aV B a L e0) a e).2.1 (az (aV B a L e0) a e).2.2:=by
 have hplt:=hC.lt;have hC2:=((hC.alloc (.cells #[.pointer (some ⟨p,0,none⟩)] 53)).alloc (.cells #[.int .i64 e0] 35)).alloc (.cells #[.slice AL L.length cL] 22);have b1:=((Blk.new W #[.pointer (some ⟨p,0,none⟩)] 53).alloc (.cells #[.int .i64 e0] 35)).alloc (.cells #[.slice AL L.length cL] 22);have b2:=(Blk.new (W.alloc (.cells #[.pointer (some ⟨p,0,none⟩)] 53)) #[.int .i64 e0] 35).alloc (.cells #[.slice AL L.length cL] 22);have b3:=Blk.new ((W.alloc (.cells #[.pointer (some ⟨p,0,none⟩)] 53)).alloc (.cells #[.int .i64 e0] 35)) #[.slice AL L.length cL] 22;have hL2:=((hL.grown (World.grownBy_alloc W (.cells #[.pointer (some ⟨p,0,none⟩)] 53) none) (by simp)).grown (World.grownBy_alloc _ (.cells #[.int .i64 e0] 35) none) (by simp)).grown (World.grownBy_alloc _ (.cells #[.slice AL L.length cL] 22) none) (by simp);rw [World.size_alloc,World.size_alloc]at b3;rw [World.size_alloc]at b2;by_cases he:e=0
 ·subst he
  have H:=Lib.hid (mQ _ p q B a _ yG #[.pointer (some ⟨W.heap.size,0,none⟩), .pointer (some ⟨W.heap.size+1+1,0,none⟩), .pointer (some ⟨W.heap.size+1,0,none⟩)] (fun v nx=>eP (aV B a L e0)=0→v=dm (aV B a L e0)∧nx=gm a (aV B a L e0)) (eP (aV B a L e0)) hC2
   (xe _ p q W.heap.size (W.heap.size+1+1) (W.heap.size+1) ql B a e0 AL cL L hC2 hB h0 (by omega) (by omega) (by omega) hqp (by rw [b1.cell];rfl) (by rw [b3.cell];rfl) (by rw [b2.cell];rfl) hL2 hLl))
  have HR:=Lib.hid (oo a (aV B a L e0) (xn h0));have HV:=Lib.hid (show az (aV B a L e0) a 0=(dm (aV B a L e0),gm a (aV B a L e0),eP (aV B a L e0))from rfl);clear hC hC2 hB b1 b2 b3 hL hL2 h0;go_enter Tryz.func63,Tryz.ntmps63;go_wp2_with fail;refine H.out.mono ?_;rintro E W1 ⟨v,nx,hv,rfl,hG⟩
  have hvv:rsV v (eP (aV B a L e0))=dm (aV B a L e0)∧rsA a nx (eP (aV B a L e0))=gm a (aV B a L e0):=by
   by_cases h0:eP (aV B a L e0)=0
   ·obtain ⟨rfl,rfl⟩:=hv h0;exact HR.out
   ·have h1:=HR.out;simp only [rsV,rsA,if_neg h0]at h1 ⊢;exact h1
  rw [hvv.1];rw [hvv.2]at hG;have HG:=Lib.hid hG;clear hG H HR hvv hv;go_wp2_with fail;go_ret;rw [HV.out];exact ⟨rfl,HG.out.aW.aW.aW⟩
 ·have H:=Lib.hid (lL _ p q B a e (.func (.func 99) #[] #[.pointer (some ⟨W.heap.size,0,none⟩), .pointer (some ⟨W.heap.size+1+1,0,none⟩), .pointer (some ⟨W.heap.size+1,0,none⟩)]) hC2 (beq_eq_false_iff_ne.2 he));have HV:=Lib.hid (show az (aV B a L e0) a e=(0,a,e)from by simp [az,he]);have HG:=Lib.hid (Goes.aW (Goes.aW (Goes.aW (Goes.same hC2))));clear hC hC2 hB he b1 b2 b3 hL hL2 h0;go_enter Tryz.func63,Tryz.ntmps63;go_wp2_with fail;refine H.out.mono ?_;rintro E W1 ⟨rfl,rfl⟩;go_wp2_with fail;go_ret;rw [HV.out];exact ⟨rfl,HG.out⟩
def ek (B:List Int) (a:Nat):Except Int (Nat×Nat):=match aV B a [127,126,125,124,64] 106 with| .error e=> .error e| .ok (n,nx)=> .ok (if n=64 then 0 else n,nx)
theorem fM (W:World) (L:List Int) (t:TypeId):ByQ (W.alloc (.cells (L.map (Value.int .u8)).toArray t)) W.heap.size (some ⟨W.heap.size,0,none⟩) L:=fun _=>
 ⟨0,rfl,fun j x hx=>by rw [Nat.zero_add,(Blk.new W (L.map (Value.int .u8)).toArray t).cell];simp [hx]⟩
theorem wz (W:World) (p q:Nat) (B:List Int) (a:Nat) (e:Int) (hC:Cur W p q B a e) (hB:aK B):
  Calls Tryz.prog 159 #[.pointer (some ⟨p,0,none⟩)] W fun E w' =>E= .returned (.int .u8 (az (ek B a) a e).1)∧Goes W w' p q B (az (ek B a) a e).2.1 (az (ek B a) a e).2.2:=by
 have hplt:=hC.lt;have H:=Lib.hid (kH _ p q W.heap.size B a e 106 (some ⟨W.heap.size,0,none⟩) 5 [127,126,125,124,64] (hC.alloc (.cells (([127,126,125,124,64]:List Int).map (Value.int .u8)).toArray 5)) hB rfl (by omega) (fM W [127,126,125,124,64] 5) (by decide));obtain ⟨r,hr⟩:∃r,r=aV B a [127,126,125,124,64] 106:=⟨_,rfl⟩;rw [←hr]at H
 have HV:=Lib.hid (show (az (ek B a) a e)=(if (az r a e).1=64 then 0 else (az r a e).1,(az r a e).2)from by
  unfold ek az;rw [←hr];rcases r with e' |⟨n,nx⟩
  ·by_cases h:e=0<;>simp [h,dm,gm,eP]
  ·by_cases h:e=0
   ·by_cases h2:n=64
    ·simp [h,h2,dm,gm,eP]
    ·have h3:¬(n:Int)=64:=by omega
     simp [h,h2,h3,dm,gm,eP]
   ·simp [h])
 generalize az r a e=t at *;obtain ⟨v,a',e'⟩:=t;have hb:=Lib.hid hr;clear hr hC hB;by_cases h64:v=64
 ·subst h64;rw [if_pos rfl]at HV;go_enter Tryz.func159,Tryz.ntmps159;go_wp2_with fail;refine H.out.mono ?_;rintro E W1 ⟨rfl,hG⟩;have HG:=Lib.hid hG;clear hG H;go_wp2_with fail;go_ret;rw [HV.out];exact ⟨rfl,HG.out.aW⟩
 ·rw [if_neg h64]at HV;have hv2:(v==64)=false:=by simpa using h64
  clear h64;go_enter Tryz.func159,Tryz.ntmps159;go_wp2_with fail;refine H.out.mono ?_;rintro E W1 ⟨rfl,hG⟩;have HG:=Lib.hid hG;clear hG H;go_wp2_with fail;go_ret;rw [HV.out];exact ⟨rfl,HG.out.aW⟩
def eB (B:List Int) (a:Nat):Except Int (Nat×Nat):=aV B a [127,126,125,124] 106
theorem oF (W:World) (p q:Nat) (B:List Int) (a:Nat) (e:Int) (hC:Cur W p q B a e) (hB:aK B):
  Calls Tryz.prog 35 #[.pointer (some ⟨p,0,none⟩)] W fun E w' =>E= .returned (.int .u8 (az (eB B a) a e).1)∧Goes W w' p q B (az (eB B a) a e).2.1 (az (eB B a) a e).2.2:=by
 have hplt:=hC.lt;have H:=Lib.hid (kH _ p q W.heap.size B a e 106 (some ⟨W.heap.size,0,none⟩) 4 [127,126,125,124] (hC.alloc (.cells (([127,126,125,124]:List Int).map (Value.int .u8)).toArray 5)) hB rfl (by omega) (fM W [127,126,125,124] 5) (by decide));obtain ⟨r,hr⟩:∃r,r=az (eB B a) a e:=⟨_,rfl⟩;have hr2:az (aV B a [127,126,125,124] 106) a e=r:=hr.symm;rw [hr2]at H;rw [←hr];clear hr hr2 hC hB;obtain ⟨v,a',e'⟩:=r;go_enter Tryz.func35,Tryz.ntmps35;go_wp2_with fail;refine H.out.mono ?_;rintro E W1 ⟨rfl,hG⟩;have HG:=Lib.hid hG;clear hG H;go_wp2_with fail;go_ret;exact ⟨rfl,HG.out.aW⟩
end Go.Proofs.YtofaiocffifhfaaGreat
section
namespace Go.Proofs.YtofaiocffifhfaaGreatB
open Go.RowKit Go.Proofs.YtofaiocffifhfaaGreatW.PrintWords
structure G2 (W W' :World) (p s:Nat):Prop where
 os:W'.os=W.os
 tape:W'.tape=W.tape
 output:W'.output=W.output
 size:W.heap.size≤W'.heap.size
 block:∀k,k< W.heap.size→k≠p→k≠s→W'.heap[k]? =W.heap[k]?
theorem G2.refl (W:World) (p s:Nat):G2 W W p s:=⟨rfl,rfl,rfl,Nat.le_refl _,fun _ _ _ _=>rfl⟩
theorem G2.trans {W W1 W2:World} {p s:Nat} (h:G2 W W1 p s) (h' :G2 W1 W2 p s):G2 W W2 p s:=
 ⟨h'.os.trans h.os,h'.tape.trans h.tape,h'.output.trans h.output,Nat.le_trans h.size h'.size,fun k hk h1 h2=>(h'.block k (Nat.lt_of_lt_of_le hk h.size) h1 h2).trans (h.block k hk h1 h2)⟩
theorem G2.iP {W W' :World} {p s:Nat} {row:Option Nat} (h:W.grownBy W' row) (hr:∀k,row=some k→k=p∨k=s∨W.heap.size≤k):G2 W W' p s:=
 ⟨h.os,h.tape,h.output,h.size,fun k hk h1 h2=>h.block k hk (fun e=>by rcases hr k e.symm with h|h|h<;>omega)⟩
theorem Blk.g2 {W W' :World} {g p s:Nat} {cs:Array Value} {t:TypeId} (h:Blk W g cs t) (hg:G2 W W' p s) (h1:g≠p) (h2:g≠s):Blk W' g cs t:=(hg.block g h.lt h1 h2).trans h
theorem G2.grown {W W1 W2:World} {p s:Nat} (h:G2 W W1 p s) {row:Option Nat} (hg:W1.grownBy W2 row) (hr:∀r,row=some r→r=p∨r=s∨W.heap.size≤r):G2 W W2 p s:=by
 refine ⟨hg.os.trans h.os,hg.tape.trans h.tape,hg.output.trans h.output,Nat.le_trans h.size hg.size,fun k hk h1 h2=>(hg.block k (Nat.lt_of_lt_of_le hk h.size) (fun e=> ?_)).trans (h.block k hk h1 h2)⟩;rcases hr k e.symm with h|h|h<;>omega
theorem G2.alloc {W W1:World} {p s:Nat} (h:G2 W W1 p s) (o:Obj):G2 W (W1.alloc o) p s:=h.grown (World.grownBy_alloc W1 o none) (fun r e=>by cases e)
theorem Own.g2 {α:Type} {d:Kd α} {e base p s:Nat} {W W' :World} {ok:Nat→Prop} {v:Value} {xs:List α} (h:Own d e W base ok v xs) (hg:G2 W W' p s) (h1:v.ownBlock≠some p) (h2:v.ownBlock≠some s) (hok:∀k,ok k→k≠p∧k≠s):Own d e W' base ok v xs:=by
 have hb:=fun k hk=>(Own.block h (k:=k) hk).2
 obtain ⟨inner,ho,hr⟩:=h;exact ⟨inner,vC ho (fun k hk=>hg.block k (hb k hk) (fun e=>h1 (e ▸ hk)) (fun e=>h2 (e ▸ hk))),hr.jV (fun _ _ hp=>Ft.step hp ⟨hg.os,hg.tape,hg.output,hg.size,fun k hk hlt=>hg.block k hlt (hok k hk.1).1 (hok k hk.1).2⟩)⟩
end Go.Proofs.YtofaiocffifhfaaGreatB
namespace Go.Proofs.YtofaiocffifhfaaGreat
open Go.RowKit Go.Shelf YtofaiocffifhfaaGreatB Go.Proofs.YtofaiocffifhfaaGreatW.PrintWords
theorem Cur.grown' {W W' :World} {p q:Nat} {B:List Int} {a:Nat} {e:Int} (h:Cur W p q B a e) {row:Option Nat} (hg:W.grownBy W' row) (hp:some p≠row) (hq:0< B.length→some q≠row):Cur W' p q B a e:=by
 obtain ⟨h0,h1,A,c,h2,h3,h4⟩:=h;exact ⟨h0,h1,A,c,h2,h3.grown hg hp,fun hl=>(ByQ.grown h4 hg (hq hl)) hl⟩
theorem Cur.jN {W:World} {p q:Nat} {B:List Int} {a:Nat} {e:Int} (h:Cur W p q B a e) (hl:0< B.length):q< W.heap.size:=by
 obtain ⟨h0,h1,A,c,h2,h3,h4⟩:=h;obtain ⟨o,x,_,_,hc⟩:=h4.at_ 0 hl;exact World.block_lt_of_cell? _ _ hc
theorem Cur.other {W:World} {p q:Nat} {B:List Int} {a:Nat} {e:Int} (h:Cur W p q B a e) (r i:Nat) (v:Value) (hp:r≠p) (hq:0< B.length→r≠q):Cur (W.setCell ⟨r,i,none⟩ v) p q B a e:=
 h.grown' (bA W r i v) (fun e=>hp (by injection e with e;exact e.symm)) (fun hl e=>hq hl (by injection e with e;exact e.symm))
theorem _root_.Go.Proofs.YtofaiocffifhfaaGreatB.G2.set {W W1:World} {p s:Nat} (h:G2 W W1 p s) (r i:Nat) (v:Value) (hr:r=p∨r=s∨W.heap.size≤r):G2 W (W1.setCell ⟨r,i,none⟩ v) p s:=by
 have hg:=bA W1 r i v;refine ⟨hg.os.trans h.os,hg.tape.trans h.tape,hg.output.trans h.output,Nat.le_trans h.size hg.size,fun k hk h1 h2=>(hg.block k (Nat.lt_of_lt_of_le hk h.size) (fun e=> ?_)).trans (h.block k hk h1 h2)⟩;injection e with e;rcases hr with h|h|h<;>omega
def lv (B:List Int) (a:Nat):(Int×Int)×Nat×Int:=
 let r:=az (aI B a) a 0
 let t:=az (eB B r.2.1) r.2.1 r.2.2
 ((r.1,t.1),t.2.1,t.2.2)
def ER (W:World) (p q bp bs:Nat) (B:List Int) (pc:Array Value) (s:Int) (r:(Int×Int)×Nat×Int) (E:Ending) (W' :World):Prop:=
 E= .returned (.agg #[.int .u32 r.1.1, .int .u8 r.1.2])∧Cur W' p q B r.2.1 r.2.2∧Blk W' bp pc 67∧Blk W' bs #[.int .u64 (s+r.1.1)] 125∧G2 W W' p bs
theorem lU {B:List Int} {a:Nat} (hB:aK B):0≤(az (aI B a) a 0).1∧(az (aI B a) a 0).1≤4294967295:=by
 rw [az,if_pos rfl]
 cases h:aI B a with
 |error e=>simp [dm]
 |ok r=>
  obtain ⟨n,nx⟩:=r;have:=(jO hB h).1;simp only [dm];omega
theorem Fw (W:World) (p q bp bs:Nat) (B:List Int) (a:Nat) (sat:Bool) (s:Int) (hC:Cur W p q B a 0) (hB:aK B) (hs0:0≤s) (hs1:s≤35184372088832) (hbp:Blk W bp #[.pointer (some ⟨p,0,none⟩), .bool sat] 67) (hbs:Blk W bs #[.int .u64 s] 125)
  (h1:bp≠p) (h2:bs≠p) (h3:bs≠bp) (h4:bs≠q):
  Calls Tryz.prog 33 #[.pointer (some ⟨bp,0,none⟩), .pointer (some ⟨bs,0,none⟩)] W (ER W p q bp bs B #[.pointer (some ⟨p,0,none⟩), .bool sat] s (lv B a)):=by
 have hn:=lU (a:=a) hB;have HU:=Lib.hid (fun X (hX:Cur X p q B a 0)=>dG X p q B a 0 hX hB);have HV:=Lib.hid (fun X a1 e1 (hX:Cur X p q B a1 e1)=>oF X p q B a1 e1 hX hB);have HG:=Lib.hid (show lv B a=((((az (aI B a) a 0).1,(az (eB B (az (aI B a) a 0).2.1) (az (aI B a) a 0).2.1 (az (aI B a) a 0).2.2).1),(az (eB B (az (aI B a) a 0).2.1) (az (aI B a) a 0).2.1 (az (aI B a) a 0).2.2).2):(Int×Int)×Nat×Int)from rfl);generalize hr:az (aI B a) a 0=r at *;obtain ⟨n,a1,e1⟩:=r;generalize ht:az (eB B a1) a1 e1=t at *;obtain ⟨ty,a2,e2⟩:=t;have HV1:=Lib.hid (fun X (hX:Cur X p q B a1 e1)=>by have:=HV.out X a1 e1 hX;rw [ht]at this;exact this:∀X,Cur X p q B a1 e1→Calls Tryz.prog 35 #[.pointer (some ⟨p,0,none⟩)] X fun E w' =>E= .returned (.int .u8 ty)∧Goes X w' p q B a2 e2);have c0:W.cell? ⟨bp,0,none⟩=some (.pointer (some ⟨p,0,none⟩)):=hbp.cell 0;have hbl:=hbp.lt;have hsl:=hbs.lt;have hpl:=hC.lt;have HQ:=Lib.hid (fun hl=>hC.jN hl:0< B.length→q< W.heap.size);have HC:=Lib.hid (hC.alloc (.cells #[.int .u32 0, .int .u8 0] 129));have HP:=Lib.hid (hbp.alloc (.cells #[.int .u32 0, .int .u8 0] 129));have HS:=Lib.hid (hbs.alloc (.cells #[.int .u32 0, .int .u8 0] 129));have H1:=Lib.hid h1;have H2:=Lib.hid h2;have H3:=Lib.hid h3;have H4:=Lib.hid h4;clear hC hbp hbs h1 h2 h3 h4 HV hr ht;rw [HG.out];dsimp only at hn;go_enter Tryz.func33,Tryz.ntmps33;go_wp2_with fail;refine (HU.out _ HC.out).mono ?_;rintro E W1 ⟨rfl,hG1⟩;have hz1:=hG1.2.size;rw [World.size_alloc]at hz1;have HG1:=Lib.hid hG1;have HP1:=Lib.hid (HP.out.grown hG1.2 (fun e=>H1.out (by injection e)));have HS1:=Lib.hid (HS.out.grown hG1.2 (fun e=>H2.out (by injection e)));have c1:W1.cell? ⟨bp,0,none⟩=some (.pointer (some ⟨p,0,none⟩)):=HP1.out.cell 0;have hbl1:=HP1.out.lt;clear c0 hG1;go_wp2_with fail;have HC1:=Lib.hid (HG1.out.1.alloc (.cells #[.int .u32 n, .int .u8 0] 129));refine (HV1.out _ HC1.out).mono ?_;rintro E W2 ⟨rfl,hG2⟩;have hz2:=hG2.2.size;rw [World.size_alloc]at hz2;have hx3:=(Blk.new W1 #[.int .u32 n, .int .u8 0] 129).grown hG2.2 (fun e=>by injection e with e;have:=HG1.out.1.lt;omega);have hx2:=(((Blk.new W #[.int .u32 0, .int .u8 0] 129).grown HG1.out.2 (fun e=>by injection e with e;omega)).alloc (.cells #[.int .u32 n, .int .u8 0] 129)).grown hG2.2 (fun e=>by injection e with e;omega);have HP2:=Lib.hid ((HP1.out.alloc (.cells #[.int .u32 n, .int .u8 0] 129)).grown hG2.2 (fun e=>H1.out (by injection e)));have HS2:=Lib.hid ((HS1.out.alloc (.cells #[.int .u32 n, .int .u8 0] 129)).grown hG2.2 (fun e=>H2.out (by injection e)));have HG2:=Lib.hid hG2;have HX3:=Lib.hid hx3;have HX2:=Lib.hid hx2;have b0:W2.cell? ⟨W1.heap.size,0,none⟩=some (.int .u32 n):=hx3.cell 0;have b1:W2.cell? ⟨W1.heap.size,1,none⟩=some (.int .u8 0):=hx3.cell 1;have k1:=hx3.frozen 1;have d0:W2.cell? ⟨W.heap.size,0,none⟩=some (.int .u32 0):=hx2.cell 0;have d1:W2.cell? ⟨W.heap.size,1,none⟩=some (.int .u8 0):=hx2.cell 1;have l0:=hx2.frozen 0;have l1:=hx2.frozen 1;have s0:W2.cell? ⟨bs,0,none⟩=some (.int .u64 s):=HS2.out.cell 0;have m0:=HS2.out.frozen 0;have n1:W.heap.size< W1.heap.size:=by omega
 have n2:W1.heap.size< W2.heap.size:=by omega
 have n3:bs< W.heap.size:=hsl;have n4:bs< W1.heap.size:=by omega
 have hn0:=hn.1;have hn1:=hn.2;clear c1 hG2 hx3 hx2 hn;go_wp2_with fail;have hpq:=HG2.out.1;refine bodyPost_ret (v:= .agg #[.int .u32 n, .int .u8 ty]) (by simp [results,Tryz.results33,go_sem,d0,d1,n1,n2,n3,n4]) rfl ⟨rfl, ?_, ?_, ?_, ?_⟩
 ·refine (((hpq.other W1.heap.size 1 _ (by have:=HG1.out.1.lt;omega) ?_).other bs 0 _ H2.out (fun _=>H4.out)).other W.heap.size 0 _ (by omega) ?_).other W.heap.size 1 _ (by omega) ?_
  all_goals exact fun hl=>by have:=HQ.out hl;omega
 ·exact (((HP2.out.aJ _ _ (by show bp≠W1.heap.size;omega)).aJ _ _ (by show bp≠bs;exact fun e=>H3.out e.symm)).aJ _ _ (by show bp≠W.heap.size;omega)).aJ _ _ (by show bp≠W.heap.size;omega)
 ·have:=(HS2.out.aJ ⟨W1.heap.size,1,none⟩ (.int .u8 ty) (by show bs≠W1.heap.size;omega)).set 0 (.int .u64 (s+n));exact (this.aJ _ _ (by show bs≠W.heap.size;omega)).aJ _ _ (by show bs≠W.heap.size;omega)
 ·refine (((G2.set ?_ W1.heap.size 1 _ (by omega)).set bs 0 _ (by omega)).set W.heap.size 0 _ (by omega)).set W.heap.size 1 _ (by omega);exact ((((G2.refl W p bs).alloc _).grown HG1.out.2 (fun r e=>by injection e with e;omega)).alloc _).grown HG2.out.2 (fun r e=>by injection e with e;omega)
end Go.Proofs.YtofaiocffifhfaaGreat
end
section
namespace Go.Proofs.YtofaiocffifhfaaGreatB
open Go.RowKit Go.Proofs.YtofaiocffifhfaaGreatW.PrintWords
def kG:Kd (Int×Int) where
 sz:=2
 E:= []
 K:=fun _ x cs=>cs= [.int .u32 x.1, .int .u8 x.2]
 M:=fun _ _ _ x cs=>cs= [.int .u32 x.1, .int .u8 x.2]
 K_len:=fun h=>by rw [h];rfl
 K_one:=fun h u hu=>by
  rw [h]at hu;simp only [List.mem_cons,List.mem_nil_iff,or_false]at hu;rcases hu with rfl|rfl<;>rfl
 K_below:=fun _ h=>h
 K_of_M:=fun h=>h
 M_mono:=fun _ h=>h
 M_bound:=fun h=>h
 M_move:=fun _ h=>h
 M_lower:=fun _ h=>h
end Go.Proofs.YtofaiocffifhfaaGreatB
namespace Go.Proofs.YtofaiocffifhfaaGreat
open Go.RowKit Go.Shelf YtofaiocffifhfaaGreatB Go.Proofs.YtofaiocffifhfaaGreatW.PrintWords
theorem Jz:(Tryz.prog.info? 129).map (fun i=>(i.zero,i.size,i.bytes))=some (some (.agg #[.int .u32 0, .int .u8 0]),2,8):=by kernel_rfl
theorem bz (W:World) (p q:Nat) (B:List Int) (a:Nat) (e:Int) (sat b:Bool) (hC:Cur W p q B a e) (hb:(e==0)=b):
  Calls Tryz.prog 18 #[.agg #[.pointer (some ⟨p,0,none⟩), .bool sat]] W fun E w' =>E= .returned (.bool b)∧w' =W.alloc (.cells #[.pointer (some ⟨p,0,none⟩), .bool sat] 67):=by
 have H:=Lib.hid (lh _ p q B a e (hC.alloc (.cells #[.pointer (some ⟨p,0,none⟩), .bool sat] 67)));have HB:=Lib.hid hb;clear hC hb;go_enter Tryz.func18,Tryz.ntmps18;go_wp2_with (go_at_call 15;refine H.out.mono ?_;rintro E w' ⟨rfl,rfl⟩);go_ret;exact ⟨by rw [←HB.out];rfl,rfl⟩
def fH (B:List Int):Nat→Nat→Int→List (Int×Int)×Nat×Int
 |0,a,e=>([],a,e)
 |k+1,a,e=>if e=0 then ((lv B a).1::(fH B k (lv B a).2.1 (lv B a).2.2).1,(fH B k (lv B a).2.1 (lv B a).2.2).2)else ([],a,e)
theorem si (B:List Int) (k a:Nat) (e:Int) (h:(e==0)=false):fH B k a e=([],a,e):=by
 cases k with
 |zero=>rfl
 |succ k=>rw [fH,if_neg (by simpa using h)]
def gz (l:List (Int×Int)):Int:=(l.map (·.1)).sum
theorem mr (l:List (Int×Int)) (x:Int×Int):gz (l++ [x])=gz l+x.1:=by simp [gz]
def zB (W:World) (p q bp bs:Nat) (B:List Int) (pc:Array Value) (r:List (Int×Int)×Nat×Int) (E:Ending) (W' :World):Prop:=
 ∃v,E= .returned v∧Own kG 129 W' W.heap.size (fun _=>False) v r.1∧Cur W' p q B r.2.1 r.2.2∧Blk W' bp pc 67∧Blk W' bs #[.int .u64 (gz r.1)] 125∧G2 W W' p bs
end Go.Proofs.YtofaiocffifhfaaGreat
end
namespace Go.Proofs.YtofaiocffifhfaaGreat
open Go.RowKit Go.Shelf YtofaiocffifhfaaGreatB Go.Proofs.YtofaiocffifhfaaGreatW.PrintWords
structure LG (W:World) (p q bp bs:Nat) (B:List Int) (pc:Array Value) (target:List (Int×Int)×Nat×Int) (c j:Nat) (v:Value) (done:List (Int×Int)) (a:Nat) (e:Int) (X:World):Prop where
 own:Own kG 129 X W.heap.size (fun _=>False) v done
 cur:Cur X p q B a e
 kbp:Blk X bp pc 67
 kbs:Blk X bs #[.int .u64 (gz done)] 125
 g:G2 W X p bs
 t:(done++(fH B (c - j) a e).1,(fH B (c - j) a e).2)=target
 len:done.length≤j
 sum:0≤gz done∧gz done≤4294967296 * j
theorem bK {B:List Int} {a:Nat} {e:Int} (hB:aK B):0≤(az (aG B a) a e).1∧(az (aG B a) a e).1≤4096:=by
 unfold az;split
 ·cases h:aG B a with
  |error e=>simp [dm]
  |ok r=>
   obtain ⟨n,nx⟩:=r;have:=(oH hB h).1;simp only [dm];omega
 ·simp
theorem Bv (W:World) (p q bp bs:Nat) (B:List Int) (a:Nat) (e:Int) (sat:Bool) (hC:Cur W p q B a e) (hB:aK B) (hbp:Blk W bp #[.pointer (some ⟨p,0,none⟩), .bool sat] 67) (hbs:Blk W bs #[.int .u64 0] 125)
  (h1:bp≠p) (h2:bs≠p) (h3:bs≠bp) (h4:bs≠q):
  Calls Tryz.prog 32 #[.agg #[.pointer (some ⟨p,0,none⟩), .bool sat], .func (.func 33) #[] #[.pointer (some ⟨bp,0,none⟩), .pointer (some ⟨bs,0,none⟩)]] W
   (zB W p q bp bs B #[.pointer (some ⟨p,0,none⟩), .bool sat] (fH B (az (aG B a) a e).1.toNat (az (aG B a) a e).2.1 (az (aG B a) a e).2.2)):=by
 have hc:=bK (a:=a) (e:=e) hB;have hin:∀args w,Sem.run Tryz.prog (callFunc 33 args) w= .ok (.enter 33 args) w:=enters_of Tryz.func33 (by kernel_rfl) rfl;have hpl:=hC.lt;have HQ:=Lib.hid (fun hl=>hC.jN hl:0< B.length→q< W.heap.size);have hbl:=hbp.lt;have hsl:=hbs.lt;have H0:=Lib.hid (eT _ p q B a e (hC.alloc (.cells #[.pointer (some ⟨p,0,none⟩), .bool sat] 67)) hB);generalize az (aG B a) a e=r at *;obtain ⟨n,a0,e0⟩:=r;dsimp only at hc;obtain ⟨c,rfl⟩:=Int.eq_ofNat_of_zero_le hc.1;rw [Int.toNat_natCast];obtain ⟨tg,htg⟩:∃tg,fH B c a0 e0=tg:=⟨_,rfl⟩;have HTG:=Lib.hid htg;rw [htg];have hc2:(c:Int)≤4096:=hc.2;have HB:=Lib.hid hB;have HX:=Lib.hid (Blk.new W #[.pointer (some ⟨p,0,none⟩), .bool sat] 67);have HP:=Lib.hid (hbp.alloc (.cells #[.pointer (some ⟨p,0,none⟩), .bool sat] 67));have HS:=Lib.hid (hbs.alloc (.cells #[.pointer (some ⟨p,0,none⟩), .bool sat] 67));have H1:=Lib.hid h1;have H2:=Lib.hid h2;have H3:=Lib.hid h3;have H4:=Lib.hid h4;clear hC hB hbp hbs h1 h2 h3 h4 hc htg;go_enter Tryz.func32,Tryz.ntmps32;go_wp2_with fail;refine H0.out.mono ?_;rintro E W1 ⟨rfl,hG1⟩;have hz1:=hG1.2.size;rw [World.size_alloc]at hz1;have HX1:=Lib.hid (HX.out.grown hG1.2 (fun e=>by injection e with e;omega));have HL:=Lib.hid (⟨Own.nil,hG1.1,HP.out.grown hG1.2 (fun e=>H1.out (by injection e)),HS.out.grown hG1.2 (fun e=>H2.out (by injection e)),((G2.refl W p bs).alloc _).grown hG1.2 (fun r e=>by injection e with e;omega),by rw [Nat.sub_zero,HTG.out];rfl,Nat.le_refl _,by simp [gz]⟩:LG W p q bp bs B #[.pointer (some ⟨p,0,none⟩), .bool sat] tg c 0 (.slice none 0 0) [] a0 e0 W1);clear hG1 H0;go_wp2_with fail;go_loopw [5,7] (fun v i wr=>∃(j:Nat) (done:List (Int×Int)) (a:Nat) (e:Int),j≤c∧i= .int .i64 j∧Hid (LG W p q bp bs B #[.pointer (some ⟨p,0,none⟩), .bool sat] tg c j v done a e wr)∧Hid (Blk wr W.heap.size #[.pointer (some ⟨p,0,none⟩), .bool sat] 67)) (fun _ i _=>c - (intOf i).toNat)
 case atStart=>exact ⟨0, [],a0,e0,Nat.zero_le _,rfl,HL,HX1⟩
 case round=>
  rename_i u5 _;obtain ⟨j,done,a',e',hj,rfl,HLj,HXj⟩:=hrel;clear HL HX1;have b0:wr.cell? ⟨W.heap.size,0,none⟩=some (.pointer (some ⟨p,0,none⟩)):=HXj.out.cell 0;have b1:wr.cell? ⟨W.heap.size,1,none⟩=some (.bool sat):=HXj.out.cell 1;have hwl:=HXj.out.lt;by_cases hlt:j< c
  ·have hlt2:(j:Int)<(c:Int):=by omega
   by_cases he:e' =0
   ·subst he;have HPG:=Lib.hid (bz wr p q B a' 0 sat true HLj.out.cur rfl);have HGR:=Lib.hid (fun X (hX:Below wr.heap.size wr X)=>Fw X p q bp bs B a' sat (gz done) (HLj.out.cur.below hX) HB.out HLj.out.sum.1 (by have:=HLj.out.sum.2;omega) (HLj.out.kbp.below hX HLj.out.kbp.lt) (HLj.out.kbs.below hX HLj.out.kbs.lt) H1.out H2.out H3.out H4.out);go_wp2_with fail;refine HPG.out.mono ?_;rintro E wg ⟨rfl,rfl⟩;go_wp2_with fail;refine (HGR.out _ ((Below.refl _ _).alloc (Nat.le_refl _) _)).mono ?_;rintro E W2 ⟨rfl,hC2,hbp2,hbs2,hg2⟩;have hsz:=hg2.size;rw [World.size_alloc]at hsz;have hown:∀k,u5.ownBlock=some k→W.heap.size≤k:=fun k hk=>(Own.block HLj.out.own hk).1
    have HO2:=Lib.hid ((HLj.out.own.below ((Below.refl _ _).alloc (Nat.le_refl _) _)).g2 hg2 (fun e=>by have:=hown _ e;omega) (fun e=>by have:=hown _ e;omega) (fun k hk=>hk.elim));have HG2:=Lib.hid ((HLj.out.g.alloc _).trans hg2);have HC2:=Lib.hid hC2;have HP2:=Lib.hid hbp2;have HS2:=Lib.hid hbs2;have HX2:=Lib.hid ((HXj.out.alloc _).g2 hg2 (by omega) (by omega));have HF:FK kG W2 (fun k=>False∧some k≠u5.ownBlock) (lv B a').1 [.int .u32 (lv B a').1.1, .int .u8 (lv B a').1.2]:=fun _ _=>rfl
    have hgs:W.heap.size≤W2.heap.size:=by omega
    have hdl:=HLj.out.len;clear hC2 hbp2 hbs2 hg2 b0 b1 HPG HGR;go_wp2_with (at_builtin;refine Own.append (d:=kG) W.heap.size rfl (.tmp 20) (.tmp 23) 126 129 _ 8 rfl Tryz.underlying126 Jz rfl (by decide) (by decide) u5 done (lv B a').1 _ (fun _=>False) rfl rfl HF HO2.out hgs (by omega) ?_;intro v1 w1 hown1 hg1 hat1);have hsz1:=hg1.size;have hne:∀k,k< W.heap.size→some k≠u5.ownBlock:=fun k hk e=>by have:=hown _ e.symm;omega
    have HO3:=Lib.hid hown1;have HG3:=Lib.hid hg1;have hs1:=HLj.out.sum;have hu:=lU (a:=a') HB.out
    have hnX:some W.heap.size≠u5.ownBlock:=fun e=>by
     obtain ⟨_,ho,_⟩:=HO2.out;obtain ⟨cs,hcs⟩:=cK ho _ e.symm;rw [HX2.out]at hcs;simp at hcs
    clear hown1 hg1 hat1 HO2 HF;go_wp2_with fail;go_roundw
    case rel=>
     refine ⟨j+1,done++ [(lv B a').1],(lv B a').2.1,(lv B a').2.2,by omega,by go_num, ?_,HX2.out.grown HG3.out hnX⟩;refine ⟨HO3.out,HC2.out.grown' HG3.out (hne _ hpl) (fun hl=>hne _ (HQ.out hl)),HP2.out.grown HG3.out (hne _ hbl), ?_,HG2.out.grown HG3.out (fun r e=> .inr (.inr (hown _ e))), ?_,by simp;omega, ?_⟩
     ·rw [mr];exact HS2.out.grown HG3.out (hne _ hsl)
     ·have ht:=HLj.out.t;rw [show c - j=(c - (j+1))+1 from by omega,fH,if_pos rfl]at ht;rw [←ht,List.append_assoc];rfl
     ·rw [mr];have:(lv B a').1.1=(az (aI B a') a' 0).1:=rfl;omega
    case measure=>simp [intOf];omega
   ·have he2:(e' ==0)=false:=beq_eq_false_iff_ne.2 he;have HPG:=Lib.hid (bz wr p q B a' e' sat false HLj.out.cur he2);have ht:=HLj.out.t;rw [si _ _ _ _ he2,List.append_nil]at ht;have HT:=Lib.hid ht;clear ht he he2;go_wp2_with fail;refine HPG.out.mono ?_;rintro E wg ⟨rfl,rfl⟩;go_wp2_with fail;go_ret;rw [←HT.out];exact ⟨u5,rfl,HLj.out.own.below ((Below.refl _ _).alloc (Nat.le_refl _) _),HLj.out.cur.alloc _,HLj.out.kbp.alloc _,HLj.out.kbs.alloc _,HLj.out.g.alloc _⟩
  ·obtain rfl:j=c:=by omega
   have ht:=HLj.out.t;rw [Nat.sub_self,fH,List.append_nil]at ht;have HT:=Lib.hid ht;clear ht;go_wp2_with fail;go_ret;rw [←HT.out];exact ⟨u5,rfl,HLj.out.own,HLj.out.cur,HLj.out.kbp,HLj.out.kbs,HLj.out.g⟩
def xx (Z:Value) (W:World) (p q:Nat) (B:List Int) (a nx:Nat) (e' :Int) (Rv:Value→World→Prop) (E:Ending) (w' :World):Prop:=
 (∃v,E= .returned v∧(e' =0→Rv v w')∧(e' ≠0→v=Z))∧Goes W w' p q B (rsA a nx e') e'
theorem pV (W:World) (p q:Nat) (B:List Int) (a:Nat) (e:Int) (f:Value) (hC:Cur W p q B a e) (he:(e==0)=false):
  Calls Tryz.prog 101 #[.pointer (some ⟨p,0,none⟩),f] W fun E w' =>E= .returned (.slice none 0 0)∧W=w' :=by
 have HC:=Lib.hid hC;have HE:=Lib.hid he;clear hC he;go_enter Tryz.func101,Tryz.ntmps101;go_wp2_with (go_at_call 96;refine (bu _ _ _ _ _ _ false HC.out HE.out).mono ?_;rintro e w' ⟨rfl,rfl⟩);go_ret;exact ⟨rfl,rfl⟩
theorem rZ (W:World) (p q:Nat) (B:List Int) (a nx:Nat) (g:FuncId) (hent:Enters Tryz.prog g) (lb:Array Value) (Rv:Value→World→Prop) (e' :Int) (hC:Cur W p q B a 0)
  (hg:Calls Tryz.prog g lb W fun E w' =>∃v,E= .returned v∧Rv v w' ∧Goes W w' p q B nx e'):
  Calls Tryz.prog 101 #[.pointer (some ⟨p,0,none⟩), .func (.func g) #[] lb] W (xx (.slice none 0 0) W p q B a nx e' Rv):=by
 have HC:=Lib.hid hC;have HG:=Lib.hid hg;obtain ⟨A,c,c0,c1,c2,f0,f1,f2,hle,hq,hlt,ha⟩:=hC.cells;have hin:∀args w,Sem.run Tryz.prog (callFunc g args) w= .ok (.enter g args) w:=hent;clear hC hg hq hent;go_enter Tryz.func101,Tryz.ntmps101;go_wp2_with fail;refine (bu _ _ _ _ _ _ true HC.out rfl).mono ?_;rintro E w' ⟨rfl,rfl⟩;go_wp2_with fail;refine HG.out.mono ?_;rintro E W2 ⟨v,rfl,hR,hG2⟩;have HR:=Lib.hid hR;clear hR;by_cases he:e' =0
 ·subst he;have HG2:=Lib.hid hG2;clear hG2 HG;go_wp2_with fail;refine (bu _ _ _ _ _ _ true HG2.out.1 rfl).mono ?_;rintro E w' ⟨rfl,rfl⟩;go_wp2_with fail;go_ret;exact ⟨⟨v,rfl,fun _=>HR.out,fun h=>absurd rfl h⟩,HG2.out⟩
 ·have he2:(e' ==0)=false:=beq_eq_false_iff_ne.2 he;have HE2:=Lib.hid he2;obtain ⟨A',c',g0,g1,g2,k0,k1,k2,gle,gq,glt,ga⟩:=hG2.1.cells;have HG2:=Lib.hid hG2;have HE:=Lib.hid he;clear hG2 HG gq he2 he;go_wp2_with fail;refine (bu _ _ _ _ _ _ false HG2.out.1 HE2.out).mono ?_;rintro E w' ⟨rfl,rfl⟩;go_wp2_with fail;go_ret;refine ⟨⟨_,rfl,fun h=>absurd h HE.out,fun _=>rfl⟩, ?_⟩;rw [rsA,if_neg HE.out];exact ⟨HG2.out.1.setAt a ha,HG2.out.2.trans (bA _ _ _ _)⟩
theorem rP (W:World) (p q:Nat) (B:List Int) (a:Nat) (e:Int) (f:Value) (hC:Cur W p q B a e) (he:(e==0)=false):
  Calls Tryz.prog 103 #[.pointer (some ⟨p,0,none⟩),f] W fun E w' =>E= .returned (.string ⟨#[]⟩)∧W=w' :=by
 have HC:=Lib.hid hC;have HE:=Lib.hid he;clear hC he;go_enter Tryz.func103,Tryz.ntmps103;go_wp2_with (go_at_call 96;refine (bu _ _ _ _ _ _ false HC.out HE.out).mono ?_;rintro e w' ⟨rfl,rfl⟩);go_ret;exact ⟨rfl,rfl⟩
theorem vo (W:World) (p q:Nat) (B:List Int) (a nx:Nat) (g:FuncId) (hent:Enters Tryz.prog g) (lb:Array Value) (Rv:Value→World→Prop) (e' :Int) (hC:Cur W p q B a 0)
  (hg:Calls Tryz.prog g lb W fun E w' =>∃v,E= .returned v∧Rv v w' ∧Goes W w' p q B nx e'):
  Calls Tryz.prog 103 #[.pointer (some ⟨p,0,none⟩), .func (.func g) #[] lb] W (xx (.string ⟨#[]⟩) W p q B a nx e' Rv):=by
 have HC:=Lib.hid hC;have HG:=Lib.hid hg;obtain ⟨A,c,c0,c1,c2,f0,f1,f2,hle,hq,hlt,ha⟩:=hC.cells;have hin:∀args w,Sem.run Tryz.prog (callFunc g args) w= .ok (.enter g args) w:=hent;clear hC hg hq hent;go_enter Tryz.func103,Tryz.ntmps103;go_wp2_with fail;refine (bu _ _ _ _ _ _ true HC.out rfl).mono ?_;rintro E w' ⟨rfl,rfl⟩;go_wp2_with fail;refine HG.out.mono ?_;rintro E W2 ⟨v,rfl,hR,hG2⟩;have HR:=Lib.hid hR;clear hR;by_cases he:e' =0
 ·subst he;have HG2:=Lib.hid hG2;clear hG2 HG;go_wp2_with fail;refine (bu _ _ _ _ _ _ true HG2.out.1 rfl).mono ?_;rintro E w' ⟨rfl,rfl⟩;go_wp2_with fail;go_ret;exact ⟨⟨v,rfl,fun _=>HR.out,fun h=>absurd rfl h⟩,HG2.out⟩
 ·have he2:(e' ==0)=false:=beq_eq_false_iff_ne.2 he;have HE2:=Lib.hid he2;obtain ⟨A',c',g0,g1,g2,k0,k1,k2,gle,gq,glt,ga⟩:=hG2.1.cells;have HG2:=Lib.hid hG2;have HE:=Lib.hid he;clear hG2 HG gq he2 he;go_wp2_with fail;refine (bu _ _ _ _ _ _ false HG2.out.1 HE2.out).mono ?_;rintro E w' ⟨rfl,rfl⟩;go_wp2_with fail;go_ret;refine ⟨⟨_,rfl,fun h=>absurd h HE.out,fun _=>rfl⟩, ?_⟩;rw [rsA,if_neg HE.out];exact ⟨HG2.out.1.setAt a ha,HG2.out.2.trans (bA _ _ _ _)⟩
theorem dQ {fn:Func} {t u v x:Tmp} (h:fn.results=#[.tmp t, .tmp u, .tmp v, .tmp x]) (tmps:Array Value) (P:Program) (w:World):
  (results fn tmps).run P w= .ok (.tuple #[tmps.getD t undef,tmps.getD u undef,tmps.getD v undef,tmps.getD x undef]) w:=by simp [results,h]
def uz (w:Int):Int:=if w=32 then 127 else 126
def wW (w:Int):Int:=if w=32 then 125 else 124
theorem aM (W:World) (w:Int):Calls Tryz.prog 166 #[.int .i64 w] W fun E w' =>E= .returned (.int .u8 (uz w))∧W=w' :=by
 by_cases h:w=32
 ·subst h;go_enter Tryz.func166,Tryz.ntmps166;go_wp2_with fail;go_ret;exact ⟨rfl,rfl⟩
 ·have h2:(w==32)=false:=by simpa using h
  rw [uz,if_neg h];clear h;go_enter Tryz.func166,Tryz.ntmps166;go_wp2_with fail;go_ret;exact ⟨rfl,rfl⟩
theorem aU (W:World) (w:Int):Calls Tryz.prog 167 #[.int .i64 w] W fun E w' =>E= .returned (.int .u8 (wW w))∧W=w' :=by
 by_cases h:w=32
 ·subst h;go_enter Tryz.func167,Tryz.ntmps167;go_wp2_with fail;go_ret;exact ⟨rfl,rfl⟩
 ·have h2:(w==32)=false:=by simpa using h
  rw [wW,if_neg h];clear h;go_enter Tryz.func167,Tryz.ntmps167;go_wp2_with fail;go_ret;exact ⟨rfl,rfl⟩
def fA (at_:Int):Int×Int:=
 if at_=0 then (126,127)else if at_≤2 then (125,127)else if at_≤4 then (124,127)else if at_≤6 then (127,126)else if at_≤8 then (125,126)else if at_≤10 then (124,126)else
 if at_=15 then (124,125)else if at_=20 then (125,124)else if at_≤12 then (127,125)else if at_≤14 then (126,125)else if at_≤17 then (127,124)else if at_≤19 then (126,124)else
 if at_=21 then (125,127)else if at_=22 then (124,126)else if at_=23 then (127,125)else (126,124)
def bU (W:World) (r:Int×Int) (E:Ending) (w' :World):Prop:=E= .returned (.tuple #[.int .u8 r.1, .int .u8 r.2])∧W=w'
theorem Ey (W:World):Calls Tryz.prog 168 #[.int .i64 0] W (bU W (fA 0)):=by
 go_enter Tryz.func168,Tryz.ntmps168;go_wp2_with (first|(go_at_call 166;refine (aM _ _).mono ?_;rintro e w' ⟨rfl,rfl⟩)|(go_at_call 167;refine (aU _ _).mono ?_;rintro e w' ⟨rfl,rfl⟩));go_ret2;exact ⟨rfl,rfl⟩
theorem EE (W:World):Calls Tryz.prog 168 #[.int .i64 1] W (bU W (fA 1)):=by
 go_enter Tryz.func168,Tryz.ntmps168;go_wp2_with (first|(go_at_call 166;refine (aM _ _).mono ?_;rintro e w' ⟨rfl,rfl⟩)|(go_at_call 167;refine (aU _ _).mono ?_;rintro e w' ⟨rfl,rfl⟩));go_ret2;exact ⟨rfl,rfl⟩
theorem D6 (W:World):Calls Tryz.prog 168 #[.int .i64 2] W (bU W (fA 2)):=by
 go_enter Tryz.func168,Tryz.ntmps168;go_wp2_with (first|(go_at_call 166;refine (aM _ _).mono ?_;rintro e w' ⟨rfl,rfl⟩)|(go_at_call 167;refine (aU _ _).mono ?_;rintro e w' ⟨rfl,rfl⟩));go_ret2;exact ⟨rfl,rfl⟩
theorem BJ (W:World):Calls Tryz.prog 168 #[.int .i64 3] W (bU W (fA 3)):=by
 go_enter Tryz.func168,Tryz.ntmps168;go_wp2_with (first|(go_at_call 166;refine (aM _ _).mono ?_;rintro e w' ⟨rfl,rfl⟩)|(go_at_call 167;refine (aU _ _).mono ?_;rintro e w' ⟨rfl,rfl⟩));go_ret2;exact ⟨rfl,rfl⟩
theorem CG (W:World):Calls Tryz.prog 168 #[.int .i64 4] W (bU W (fA 4)):=by
 go_enter Tryz.func168,Tryz.ntmps168;go_wp2_with (first|(go_at_call 166;refine (aM _ _).mono ?_;rintro e w' ⟨rfl,rfl⟩)|(go_at_call 167;refine (aU _ _).mono ?_;rintro e w' ⟨rfl,rfl⟩));go_ret2;exact ⟨rfl,rfl⟩
theorem Ei (W:World):Calls Tryz.prog 168 #[.int .i64 5] W (bU W (fA 5)):=by
 go_enter Tryz.func168,Tryz.ntmps168;go_wp2_with (first|(go_at_call 166;refine (aM _ _).mono ?_;rintro e w' ⟨rfl,rfl⟩)|(go_at_call 167;refine (aU _ _).mono ?_;rintro e w' ⟨rfl,rfl⟩));go_ret2;exact ⟨rfl,rfl⟩
theorem DF (W:World):Calls Tryz.prog 168 #[.int .i64 6] W (bU W (fA 6)):=by
 go_enter Tryz.func168,Tryz.ntmps168;go_wp2_with (first|(go_at_call 166;refine (aM _ _).mono ?_;rintro e w' ⟨rfl,rfl⟩)|(go_at_call 167;refine (aU _ _).mono ?_;rintro e w' ⟨rfl,rfl⟩));go_ret2;exact ⟨rfl,rfl⟩
theorem C8 (W:World):Calls Tryz.prog 168 #[.int .i64 7] W (bU W (fA 7)):=by
 go_enter Tryz.func168,Tryz.ntmps168;go_wp2_with (first|(go_at_call 166;refine (aM _ _).mono ?_;rintro e w' ⟨rfl,rfl⟩)|(go_at_call 167;refine (aU _ _).mono ?_;rintro e w' ⟨rfl,rfl⟩));go_ret2;exact ⟨rfl,rfl⟩
theorem Cx (W:World):Calls Tryz.prog 168 #[.int .i64 8] W (bU W (fA 8)):=by
 go_enter Tryz.func168,Tryz.ntmps168;go_wp2_with (first|(go_at_call 166;refine (aM _ _).mono ?_;rintro e w' ⟨rfl,rfl⟩)|(go_at_call 167;refine (aU _ _).mono ?_;rintro e w' ⟨rfl,rfl⟩));go_ret2;exact ⟨rfl,rfl⟩
theorem CQ (W:World):Calls Tryz.prog 168 #[.int .i64 9] W (bU W (fA 9)):=by
 go_enter Tryz.func168,Tryz.ntmps168;go_wp2_with (first|(go_at_call 166;refine (aM _ _).mono ?_;rintro e w' ⟨rfl,rfl⟩)|(go_at_call 167;refine (aU _ _).mono ?_;rintro e w' ⟨rfl,rfl⟩));go_ret2;exact ⟨rfl,rfl⟩
theorem Bl (W:World):Calls Tryz.prog 168 #[.int .i64 10] W (bU W (fA 10)):=by
 go_enter Tryz.func168,Tryz.ntmps168;go_wp2_with (first|(go_at_call 166;refine (aM _ _).mono ?_;rintro e w' ⟨rfl,rfl⟩)|(go_at_call 167;refine (aU _ _).mono ?_;rintro e w' ⟨rfl,rfl⟩));go_ret2;exact ⟨rfl,rfl⟩
theorem Bq (W:World):Calls Tryz.prog 168 #[.int .i64 11] W (bU W (fA 11)):=by
 go_enter Tryz.func168,Tryz.ntmps168;go_wp2_with (first|(go_at_call 166;refine (aM _ _).mono ?_;rintro e w' ⟨rfl,rfl⟩)|(go_at_call 167;refine (aU _ _).mono ?_;rintro e w' ⟨rfl,rfl⟩));go_ret2;exact ⟨rfl,rfl⟩
theorem Az (W:World):Calls Tryz.prog 168 #[.int .i64 12] W (bU W (fA 12)):=by
 go_enter Tryz.func168,Tryz.ntmps168;go_wp2_with (first|(go_at_call 166;refine (aM _ _).mono ?_;rintro e w' ⟨rfl,rfl⟩)|(go_at_call 167;refine (aU _ _).mono ?_;rintro e w' ⟨rfl,rfl⟩));go_ret2;exact ⟨rfl,rfl⟩
theorem zJ (W:World):Calls Tryz.prog 168 #[.int .i64 13] W (bU W (fA 13)):=by
 go_enter Tryz.func168,Tryz.ntmps168;go_wp2_with (first|(go_at_call 166;refine (aM _ _).mono ?_;rintro e w' ⟨rfl,rfl⟩)|(go_at_call 167;refine (aU _ _).mono ?_;rintro e w' ⟨rfl,rfl⟩));go_ret2;exact ⟨rfl,rfl⟩
theorem Ap (W:World):Calls Tryz.prog 168 #[.int .i64 14] W (bU W (fA 14)):=by
 go_enter Tryz.func168,Tryz.ntmps168;go_wp2_with (first|(go_at_call 166;refine (aM _ _).mono ?_;rintro e w' ⟨rfl,rfl⟩)|(go_at_call 167;refine (aU _ _).mono ?_;rintro e w' ⟨rfl,rfl⟩));go_ret2;exact ⟨rfl,rfl⟩
theorem Aw (W:World):Calls Tryz.prog 168 #[.int .i64 15] W (bU W (fA 15)):=by
 go_enter Tryz.func168,Tryz.ntmps168;go_wp2_with (first|(go_at_call 166;refine (aM _ _).mono ?_;rintro e w' ⟨rfl,rfl⟩)|(go_at_call 167;refine (aU _ _).mono ?_;rintro e w' ⟨rfl,rfl⟩));go_ret2;exact ⟨rfl,rfl⟩
theorem Br (W:World):Calls Tryz.prog 168 #[.int .i64 16] W (bU W (fA 16)):=by
 go_enter Tryz.func168,Tryz.ntmps168;go_wp2_with (first|(go_at_call 166;refine (aM _ _).mono ?_;rintro e w' ⟨rfl,rfl⟩)|(go_at_call 167;refine (aU _ _).mono ?_;rintro e w' ⟨rfl,rfl⟩));go_ret2;exact ⟨rfl,rfl⟩
theorem zM (W:World):Calls Tryz.prog 168 #[.int .i64 17] W (bU W (fA 17)):=by
 go_enter Tryz.func168,Tryz.ntmps168;go_wp2_with (first|(go_at_call 166;refine (aM _ _).mono ?_;rintro e w' ⟨rfl,rfl⟩)|(go_at_call 167;refine (aU _ _).mono ?_;rintro e w' ⟨rfl,rfl⟩));go_ret2;exact ⟨rfl,rfl⟩
theorem Ay (W:World):Calls Tryz.prog 168 #[.int .i64 18] W (bU W (fA 18)):=by
 go_enter Tryz.func168,Tryz.ntmps168;go_wp2_with (first|(go_at_call 166;refine (aM _ _).mono ?_;rintro e w' ⟨rfl,rfl⟩)|(go_at_call 167;refine (aU _ _).mono ?_;rintro e w' ⟨rfl,rfl⟩));go_ret2;exact ⟨rfl,rfl⟩
theorem zU (W:World):Calls Tryz.prog 168 #[.int .i64 19] W (bU W (fA 19)):=by
 go_enter Tryz.func168,Tryz.ntmps168;go_wp2_with (first|(go_at_call 166;refine (aM _ _).mono ?_;rintro e w' ⟨rfl,rfl⟩)|(go_at_call 167;refine (aU _ _).mono ?_;rintro e w' ⟨rfl,rfl⟩));go_ret2;exact ⟨rfl,rfl⟩
theorem AO (W:World):Calls Tryz.prog 168 #[.int .i64 20] W (bU W (fA 20)):=by
 go_enter Tryz.func168,Tryz.ntmps168;go_wp2_with (first|(go_at_call 166;refine (aM _ _).mono ?_;rintro e w' ⟨rfl,rfl⟩)|(go_at_call 167;refine (aU _ _).mono ?_;rintro e w' ⟨rfl,rfl⟩));go_ret2;exact ⟨rfl,rfl⟩
theorem zQ (W:World):Calls Tryz.prog 168 #[.int .i64 21] W (bU W (fA 21)):=by
 go_enter Tryz.func168,Tryz.ntmps168;go_wp2_with (first|(go_at_call 166;refine (aM _ _).mono ?_;rintro e w' ⟨rfl,rfl⟩)|(go_at_call 167;refine (aU _ _).mono ?_;rintro e w' ⟨rfl,rfl⟩));go_ret2;exact ⟨rfl,rfl⟩
theorem zF (W:World):Calls Tryz.prog 168 #[.int .i64 22] W (bU W (fA 22)):=by
 go_enter Tryz.func168,Tryz.ntmps168;go_wp2_with (first|(go_at_call 166;refine (aM _ _).mono ?_;rintro e w' ⟨rfl,rfl⟩)|(go_at_call 167;refine (aU _ _).mono ?_;rintro e w' ⟨rfl,rfl⟩));go_ret2;exact ⟨rfl,rfl⟩
theorem AX (W:World):Calls Tryz.prog 168 #[.int .i64 23] W (bU W (fA 23)):=by
 go_enter Tryz.func168,Tryz.ntmps168;go_wp2_with (first|(go_at_call 166;refine (aM _ _).mono ?_;rintro e w' ⟨rfl,rfl⟩)|(go_at_call 167;refine (aU _ _).mono ?_;rintro e w' ⟨rfl,rfl⟩));go_ret2;exact ⟨rfl,rfl⟩
theorem Ad (W:World):Calls Tryz.prog 168 #[.int .i64 24] W (bU W (fA 24)):=by
 go_enter Tryz.func168,Tryz.ntmps168;go_wp2_with (first|(go_at_call 166;refine (aM _ _).mono ?_;rintro e w' ⟨rfl,rfl⟩)|(go_at_call 167;refine (aU _ _).mono ?_;rintro e w' ⟨rfl,rfl⟩));go_ret2;exact ⟨rfl,rfl⟩
theorem eY (W:World) (a:Int) (h0:0≤a) (h1:a≤24):Calls Tryz.prog 168 #[.int .i64 a] W (bU W (fA a)):=by
 have:a=0∨a=1∨a=2∨a=3∨a=4∨a=5∨a=6∨a=7∨a=8∨a=9∨a=10∨a=11∨a=12∨a=13∨a=14∨a=15∨a=16∨a=17∨a=18∨a=19∨a=20∨a=21∨a=22∨a=23∨a=24:=by omega
 rcases this with rfl|rfl|rfl|rfl|rfl|rfl|rfl|rfl|rfl|rfl|rfl|rfl|rfl|rfl|rfl|rfl|rfl|rfl|rfl|rfl|rfl|rfl|rfl|rfl|rfl
 ·exact Ey W
 ·exact EE W
 ·exact D6 W
 ·exact BJ W
 ·exact CG W
 ·exact Ei W
 ·exact DF W
 ·exact C8 W
 ·exact Cx W
 ·exact CQ W
 ·exact Bl W
 ·exact Bq W
 ·exact Az W
 ·exact zJ W
 ·exact Ap W
 ·exact Aw W
 ·exact Br W
 ·exact zM W
 ·exact Ay W
 ·exact zU W
 ·exact AO W
 ·exact zQ W
 ·exact zF W
 ·exact AX W
 ·exact Ad W
def eG (g a w:Int):Int×Int×Int×Bool:=
 if g=1 then (uz w,1,127,true)else if g=2 then (uz w,2,127,true)else if g=3 then (wW w,2,127,true)else if g=4 then (uz w,1,uz w,true)else if g=5 then (uz w,2,uz w,true)else
 if g=6 then (wW w,1,wW w,true)else if g=7 then (wW w,2,wW w,true)else if g=8 then ((fA a).1,1,(fA a).2,true)else if g=9 then (wW (32+a / 2 % 2 * 32),1,uz (32+a / 4 * 32),true)else (0,0,0,false)
def gp (W:World) (r:Int×Int×Int×Bool) (E:Ending) (w' :World):Prop:=E= .returned (.tuple #[.int .u8 r.1, .int .i64 r.2.1, .int .u8 r.2.2.1, .bool r.2.2.2])∧Below W.heap.size W w'
theorem Dv (W:World) (op a w:Int) (hF:∀X,Calls Tryz.prog 165 #[.int .i64 op] X (bR X (1,a,w))) (h0:0≤a) (h1:a≤24) (h9:1=9→a≤7):Calls Tryz.prog 157 #[.int .i64 op] W (gp W (eG 1 a w)):=by
 have HF:=Lib.hid hF;have HT:=Lib.hid (fun X=>eY X a h0 h1);have HV:=Lib.hid (show eG 1 a w=eG 1 a w from rfl);have h92:=Lib.hid h9;clear hF h9;go_enter Tryz.func157,Tryz.ntmps157;go_wp2_with fail;refine (HF.out _).mono ?_;rintro E V ⟨rfl,hB⟩;go_wp2_with (first|(go_at_call 166;refine (aM _ _).mono ?_;rintro e w' ⟨rfl,rfl⟩)|(go_at_call 167;refine (aU _ _).mono ?_;rintro e w' ⟨rfl,rfl⟩)|(go_at_call 168;refine (HT.out _).mono ?_;rintro e w' ⟨rfl,rfl⟩));try go_quiet (first|(go_at_call 166;exact Calls.quiet_of_same ((aM _ _).mono (by rintro e w' ⟨rfl,rfl⟩;exact ⟨rfl,rfl⟩)))|(go_at_call 167;exact Calls.quiet_of_same ((aU _ _).mono (by rintro e w' ⟨rfl,rfl⟩;exact ⟨rfl,rfl⟩))))
 go_wp2_with fail;refine bodyPost_ret (dQ rfl _ _ _) rfl ?_;exact ⟨rfl,(hB.alloc hB.size _).trans ⟨rfl,rfl,rfl,Nat.le_refl _,fun _ _=>rfl⟩⟩
theorem CB (W:World) (op a w:Int) (hF:∀X,Calls Tryz.prog 165 #[.int .i64 op] X (bR X (2,a,w))) (h0:0≤a) (h1:a≤24) (h9:2=9→a≤7):Calls Tryz.prog 157 #[.int .i64 op] W (gp W (eG 2 a w)):=by
 have HF:=Lib.hid hF;have HT:=Lib.hid (fun X=>eY X a h0 h1);have HV:=Lib.hid (show eG 2 a w=eG 2 a w from rfl);have h92:=Lib.hid h9;clear hF h9;go_enter Tryz.func157,Tryz.ntmps157;go_wp2_with fail;refine (HF.out _).mono ?_;rintro E V ⟨rfl,hB⟩;go_wp2_with (first|(go_at_call 166;refine (aM _ _).mono ?_;rintro e w' ⟨rfl,rfl⟩)|(go_at_call 167;refine (aU _ _).mono ?_;rintro e w' ⟨rfl,rfl⟩)|(go_at_call 168;refine (HT.out _).mono ?_;rintro e w' ⟨rfl,rfl⟩));try go_quiet (first|(go_at_call 166;exact Calls.quiet_of_same ((aM _ _).mono (by rintro e w' ⟨rfl,rfl⟩;exact ⟨rfl,rfl⟩)))|(go_at_call 167;exact Calls.quiet_of_same ((aU _ _).mono (by rintro e w' ⟨rfl,rfl⟩;exact ⟨rfl,rfl⟩))))
 go_wp2_with fail;refine bodyPost_ret (dQ rfl _ _ _) rfl ?_;exact ⟨rfl,(hB.alloc hB.size _).trans ⟨rfl,rfl,rfl,Nat.le_refl _,fun _ _=>rfl⟩⟩
theorem Co (W:World) (op a w:Int) (hF:∀X,Calls Tryz.prog 165 #[.int .i64 op] X (bR X (3,a,w))) (h0:0≤a) (h1:a≤24) (h9:3=9→a≤7):Calls Tryz.prog 157 #[.int .i64 op] W (gp W (eG 3 a w)):=by
 have HF:=Lib.hid hF;have HT:=Lib.hid (fun X=>eY X a h0 h1);have HV:=Lib.hid (show eG 3 a w=eG 3 a w from rfl);have h92:=Lib.hid h9;clear hF h9;go_enter Tryz.func157,Tryz.ntmps157;go_wp2_with fail;refine (HF.out _).mono ?_;rintro E V ⟨rfl,hB⟩;go_wp2_with (first|(go_at_call 166;refine (aM _ _).mono ?_;rintro e w' ⟨rfl,rfl⟩)|(go_at_call 167;refine (aU _ _).mono ?_;rintro e w' ⟨rfl,rfl⟩)|(go_at_call 168;refine (HT.out _).mono ?_;rintro e w' ⟨rfl,rfl⟩));try go_quiet (first|(go_at_call 166;exact Calls.quiet_of_same ((aM _ _).mono (by rintro e w' ⟨rfl,rfl⟩;exact ⟨rfl,rfl⟩)))|(go_at_call 167;exact Calls.quiet_of_same ((aU _ _).mono (by rintro e w' ⟨rfl,rfl⟩;exact ⟨rfl,rfl⟩))))
 go_wp2_with fail;refine bodyPost_ret (dQ rfl _ _ _) rfl ?_;exact ⟨rfl,(hB.alloc hB.size _).trans ⟨rfl,rfl,rfl,Nat.le_refl _,fun _ _=>rfl⟩⟩
theorem Ck (W:World) (op a w:Int) (hF:∀X,Calls Tryz.prog 165 #[.int .i64 op] X (bR X (4,a,w))) (h0:0≤a) (h1:a≤24) (h9:4=9→a≤7):Calls Tryz.prog 157 #[.int .i64 op] W (gp W (eG 4 a w)):=by
 have HF:=Lib.hid hF;have HT:=Lib.hid (fun X=>eY X a h0 h1);have HV:=Lib.hid (show eG 4 a w=eG 4 a w from rfl);have h92:=Lib.hid h9;clear hF h9;go_enter Tryz.func157,Tryz.ntmps157;go_wp2_with fail;refine (HF.out _).mono ?_;rintro E V ⟨rfl,hB⟩;go_wp2_with (first|(go_at_call 166;refine (aM _ _).mono ?_;rintro e w' ⟨rfl,rfl⟩)|(go_at_call 167;refine (aU _ _).mono ?_;rintro e w' ⟨rfl,rfl⟩)|(go_at_call 168;refine (HT.out _).mono ?_;rintro e w' ⟨rfl,rfl⟩));try go_quiet (first|(go_at_call 166;exact Calls.quiet_of_same ((aM _ _).mono (by rintro e w' ⟨rfl,rfl⟩;exact ⟨rfl,rfl⟩)))|(go_at_call 167;exact Calls.quiet_of_same ((aU _ _).mono (by rintro e w' ⟨rfl,rfl⟩;exact ⟨rfl,rfl⟩))))
 go_wp2_with fail;refine bodyPost_ret (dQ rfl _ _ _) rfl ?_;exact ⟨rfl,(hB.alloc hB.size _).trans ⟨rfl,rfl,rfl,Nat.le_refl _,fun _ _=>rfl⟩⟩
theorem CF (W:World) (op a w:Int) (hF:∀X,Calls Tryz.prog 165 #[.int .i64 op] X (bR X (5,a,w))) (h0:0≤a) (h1:a≤24) (h9:5=9→a≤7):Calls Tryz.prog 157 #[.int .i64 op] W (gp W (eG 5 a w)):=by
 have HF:=Lib.hid hF;have HT:=Lib.hid (fun X=>eY X a h0 h1);have HV:=Lib.hid (show eG 5 a w=eG 5 a w from rfl);have h92:=Lib.hid h9;clear hF h9;go_enter Tryz.func157,Tryz.ntmps157;go_wp2_with fail;refine (HF.out _).mono ?_;rintro E V ⟨rfl,hB⟩;go_wp2_with (first|(go_at_call 166;refine (aM _ _).mono ?_;rintro e w' ⟨rfl,rfl⟩)|(go_at_call 167;refine (aU _ _).mono ?_;rintro e w' ⟨rfl,rfl⟩)|(go_at_call 168;refine (HT.out _).mono ?_;rintro e w' ⟨rfl,rfl⟩));try go_quiet (first|(go_at_call 166;exact Calls.quiet_of_same ((aM _ _).mono (by rintro e w' ⟨rfl,rfl⟩;exact ⟨rfl,rfl⟩)))|(go_at_call 167;exact Calls.quiet_of_same ((aU _ _).mono (by rintro e w' ⟨rfl,rfl⟩;exact ⟨rfl,rfl⟩))))
 go_wp2_with fail;refine bodyPost_ret (dQ rfl _ _ _) rfl ?_;exact ⟨rfl,(hB.alloc hB.size _).trans ⟨rfl,rfl,rfl,Nat.le_refl _,fun _ _=>rfl⟩⟩
theorem Dg (W:World) (op a w:Int) (hF:∀X,Calls Tryz.prog 165 #[.int .i64 op] X (bR X (6,a,w))) (h0:0≤a) (h1:a≤24) (h9:6=9→a≤7):Calls Tryz.prog 157 #[.int .i64 op] W (gp W (eG 6 a w)):=by
 have HF:=Lib.hid hF;have HT:=Lib.hid (fun X=>eY X a h0 h1);have HV:=Lib.hid (show eG 6 a w=eG 6 a w from rfl);have h92:=Lib.hid h9;clear hF h9;go_enter Tryz.func157,Tryz.ntmps157;go_wp2_with fail;refine (HF.out _).mono ?_;rintro E V ⟨rfl,hB⟩;go_wp2_with (first|(go_at_call 166;refine (aM _ _).mono ?_;rintro e w' ⟨rfl,rfl⟩)|(go_at_call 167;refine (aU _ _).mono ?_;rintro e w' ⟨rfl,rfl⟩)|(go_at_call 168;refine (HT.out _).mono ?_;rintro e w' ⟨rfl,rfl⟩));try go_quiet (first|(go_at_call 166;exact Calls.quiet_of_same ((aM _ _).mono (by rintro e w' ⟨rfl,rfl⟩;exact ⟨rfl,rfl⟩)))|(go_at_call 167;exact Calls.quiet_of_same ((aU _ _).mono (by rintro e w' ⟨rfl,rfl⟩;exact ⟨rfl,rfl⟩))))
 go_wp2_with fail;refine bodyPost_ret (dQ rfl _ _ _) rfl ?_;exact ⟨rfl,(hB.alloc hB.size _).trans ⟨rfl,rfl,rfl,Nat.le_refl _,fun _ _=>rfl⟩⟩
theorem DY (W:World) (op a w:Int) (hF:∀X,Calls Tryz.prog 165 #[.int .i64 op] X (bR X (7,a,w))) (h0:0≤a) (h1:a≤24) (h9:7=9→a≤7):Calls Tryz.prog 157 #[.int .i64 op] W (gp W (eG 7 a w)):=by
 have HF:=Lib.hid hF;have HT:=Lib.hid (fun X=>eY X a h0 h1);have HV:=Lib.hid (show eG 7 a w=eG 7 a w from rfl);have h92:=Lib.hid h9;clear hF h9;go_enter Tryz.func157,Tryz.ntmps157;go_wp2_with fail;refine (HF.out _).mono ?_;rintro E V ⟨rfl,hB⟩;go_wp2_with (first|(go_at_call 166;refine (aM _ _).mono ?_;rintro e w' ⟨rfl,rfl⟩)|(go_at_call 167;refine (aU _ _).mono ?_;rintro e w' ⟨rfl,rfl⟩)|(go_at_call 168;refine (HT.out _).mono ?_;rintro e w' ⟨rfl,rfl⟩));try go_quiet (first|(go_at_call 166;exact Calls.quiet_of_same ((aM _ _).mono (by rintro e w' ⟨rfl,rfl⟩;exact ⟨rfl,rfl⟩)))|(go_at_call 167;exact Calls.quiet_of_same ((aU _ _).mono (by rintro e w' ⟨rfl,rfl⟩;exact ⟨rfl,rfl⟩))))
 go_wp2_with fail;refine bodyPost_ret (dQ rfl _ _ _) rfl ?_;exact ⟨rfl,(hB.alloc hB.size _).trans ⟨rfl,rfl,rfl,Nat.le_refl _,fun _ _=>rfl⟩⟩
theorem IP (W:World) (op a w:Int) (hF:∀X,Calls Tryz.prog 165 #[.int .i64 op] X (bR X (8,a,w))) (h0:0≤a) (h1:a≤24) (h9:8=9→a≤7):Calls Tryz.prog 157 #[.int .i64 op] W (gp W (eG 8 a w)):=by
 have HF:=Lib.hid hF;have HT:=Lib.hid (fun X=>eY X a h0 h1);have HV:=Lib.hid (show eG 8 a w=eG 8 a w from rfl);have h92:=Lib.hid h9;clear hF h9;go_enter Tryz.func157,Tryz.ntmps157;go_wp2_with fail;refine (HF.out _).mono ?_;rintro E V ⟨rfl,hB⟩;go_wp2_with (first|(go_at_call 166;refine (aM _ _).mono ?_;rintro e w' ⟨rfl,rfl⟩)|(go_at_call 167;refine (aU _ _).mono ?_;rintro e w' ⟨rfl,rfl⟩)|(go_at_call 168;refine (HT.out _).mono ?_;rintro e w' ⟨rfl,rfl⟩));try go_quiet (first|(go_at_call 166;exact Calls.quiet_of_same ((aM _ _).mono (by rintro e w' ⟨rfl,rfl⟩;exact ⟨rfl,rfl⟩)))|(go_at_call 167;exact Calls.quiet_of_same ((aU _ _).mono (by rintro e w' ⟨rfl,rfl⟩;exact ⟨rfl,rfl⟩))))
 go_wp2_with fail;refine bodyPost_ret (dQ rfl _ _ _) rfl ?_;exact ⟨rfl,(hB.alloc hB.size _).trans ⟨rfl,rfl,rfl,Nat.le_refl _,fun _ _=>rfl⟩⟩
theorem IQ (W:World) (op a w:Int) (hF:∀X,Calls Tryz.prog 165 #[.int .i64 op] X (bR X (9,a,w))) (h0:0≤a) (h1:a≤24) (h9:9=9→a≤7):Calls Tryz.prog 157 #[.int .i64 op] W (gp W (eG 9 a w)):=by
 have HF:=Lib.hid hF;have HT:=Lib.hid (fun X=>eY X a h0 h1);have HV:=Lib.hid (show eG 9 a w=eG 9 a w from rfl);have h92:=Lib.hid h9;clear hF h9;go_enter Tryz.func157,Tryz.ntmps157;go_wp2_with fail;refine (HF.out _).mono ?_;rintro E V ⟨rfl,hB⟩;go_wp2_with (first|(go_at_call 166;refine (aM _ _).mono ?_;rintro e w' ⟨rfl,rfl⟩)|(go_at_call 167;refine (aU _ _).mono ?_;rintro e w' ⟨rfl,rfl⟩)|(go_at_call 168;refine (HT.out _).mono ?_;rintro e w' ⟨rfl,rfl⟩));try go_quiet (first|(go_at_call 166;exact Calls.quiet_of_same ((aM _ _).mono (by rintro e w' ⟨rfl,rfl⟩;exact ⟨rfl,rfl⟩)))|(go_at_call 167;exact Calls.quiet_of_same ((aU _ _).mono (by rintro e w' ⟨rfl,rfl⟩;exact ⟨rfl,rfl⟩))))
 go_wp2_with fail;refine bodyPost_ret (dQ rfl _ _ _) rfl ?_;exact ⟨rfl,(hB.alloc hB.size _).trans ⟨rfl,rfl,rfl,Nat.le_refl _,fun _ _=>rfl⟩⟩
theorem Jc (W:World) (op a w:Int) (hF:∀X,Calls Tryz.prog 165 #[.int .i64 op] X (bR X (0,a,w))) (h0:0≤a) (h1:a≤24) (h9:0=9→a≤7):Calls Tryz.prog 157 #[.int .i64 op] W (gp W (eG 0 a w)):=by
 have HF:=Lib.hid hF;have HT:=Lib.hid (fun X=>eY X a h0 h1);have HV:=Lib.hid (show eG 0 a w=eG 0 a w from rfl);have h92:=Lib.hid h9;clear hF h9;go_enter Tryz.func157,Tryz.ntmps157;go_wp2_with fail;refine (HF.out _).mono ?_;rintro E V ⟨rfl,hB⟩;go_wp2_with (first|(go_at_call 166;refine (aM _ _).mono ?_;rintro e w' ⟨rfl,rfl⟩)|(go_at_call 167;refine (aU _ _).mono ?_;rintro e w' ⟨rfl,rfl⟩)|(go_at_call 168;refine (HT.out _).mono ?_;rintro e w' ⟨rfl,rfl⟩));try go_quiet (first|(go_at_call 166;exact Calls.quiet_of_same ((aM _ _).mono (by rintro e w' ⟨rfl,rfl⟩;exact ⟨rfl,rfl⟩)))|(go_at_call 167;exact Calls.quiet_of_same ((aU _ _).mono (by rintro e w' ⟨rfl,rfl⟩;exact ⟨rfl,rfl⟩))))
 go_wp2_with fail;refine bodyPost_ret (dQ rfl _ _ _) rfl ?_;exact ⟨rfl,(hB.alloc hB.size _).trans ⟨rfl,rfl,rfl,Nat.le_refl _,fun _ _=>rfl⟩⟩
end Go.Proofs.YtofaiocffifhfaaGreat
