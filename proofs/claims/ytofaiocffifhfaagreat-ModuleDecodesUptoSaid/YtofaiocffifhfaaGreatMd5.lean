/- Lemmas towards this claim's statement, each under the conditions that it states itself. -/
import Derived.Test.YtofaiocffifhfaaGreatMd4
import Derived.Lib.OthersKept
import Derived.Laws.RangeAny
import Derived.WalkSmall
import Derived.Laws.Tables
set_option maxRecDepth 100000
set_option maxHeartbeats 8000000
set_option linter.unusedVariables false
set_option linter.unusedSimpArgs false
namespace Go.Proofs.YtofaiocffifhfaaGreat
open Go.RowKit Go.Shelf YtofaiocffifhfaaGreatB Go.Proofs.YtofaiocffifhfaaGreatW.PrintWords
def H8 (W:World) (B:List Int) (E:Ending) (w' :World):Prop:=
 ∃p q,W.heap.size≤p∧(0< B.length→W.heap.size≤q)∧E= .returned (.pointer (some ⟨p,0,none⟩))∧Cur w' p q B 0 0∧Below W.heap.size W w'
theorem nS (W:World) (A:Option Addr) (c:Nat) (B:List Int) (hR:RdI W .u8 A B) (hB:aK B):
  Calls Tryz.prog 12 #[.slice A B.length c] W (H8 W B):=by
 have HR:=Lib.hid hR;have hl:=hB.1;clear hR hB;go_enter Tryz.func12,Tryz.ntmps12;go_wp2_with (at_builtin;refine nQ W.heap.size rfl (.const (.slice none 0 0)) (.tmp 3) 22 5 (.int .u8 0) 1 1 rfl Tryz.underlying22 jW rfl (by decide) (by decide) (.slice none 0 0) 0 [] (nums .u8 B) A B.length c rfl rfl (yX _ _ _ _) (by simp [nums]) HR.out.src (Dz _ _) (Nat.le_refl _) (by omega) ?_;intro v1 w1 hown1 hg1 hat1;rw [Nat.zero_add,List.nil_append]at hown1;obtain ⟨A1,c1,rfl,hl1,hR1⟩:=Gt hown1 (by omega))
 have hle:B.length≤c1:=by
  rcases hown1.2 with ⟨e,_⟩|⟨g,cap,cur,e,_,_,hc,_⟩
  ·injection e with _ e1 e2;omega
  ·injection e with _ e1 e2;omega
 have hfr:∀b o,A1=some ⟨b,o,none⟩→W.heap.size≤b:=by
  intro b o hA;rcases hown1.2 with ⟨e,_⟩|⟨g,cap,cur,e,hf1,hf2,hc,hf3⟩
  ·injection e with e0 _ _;rw [hA]at e0;cases e0
  ·injection e with e0 _ _;rw [hA]at e0;injection e0 with e0;injection e0 with e0 _ _;omega
 obtain ⟨q,hq,hby⟩:=Gh hR1 w1.heap.size (Nat.le_refl _);have hB1:Below W.heap.size W w1:=(Below.refl W.heap.size W).grown hg1 (Nat.le_refl _) (fun k hk=>by cases hk);go_ret;exact ⟨w1.heap.size,q,hB1.size,fun hl=>by obtain ⟨o,ho,_⟩:=hby hl;exact hfr q o ho,rfl,⟨hq,Nat.zero_le _,A1,c1,hle,Blk.new w1 _ _,hby.grown (World.grownBy_alloc w1 _ none) (by simp)⟩,hB1.alloc hB1.size _⟩
theorem I7 {W W' :World} {q p' s:Nat} {A:Option Addr} {B:List Int} (h:ByQ W q A B) (hg:G2 W W' p' s) (hq:0< B.length→q≠p' ∧q≠s):ByQ W' q A B:=fun hp=>by
 obtain ⟨o,e,hc⟩:=h hp
 exact ⟨o,e,fun j x hj=>by
  have hx:=hc j x hj;have hlt:=World.block_lt_of_cell? _ _ hx;rw [←hx]
  exact World.cell?_of_block (hg.block q hlt (hq hp).1 (hq hp).2)⟩
theorem BO {W W' :World} {p q p' s:Nat} {B:List Int} {a:Nat} {e:Int} (h:Cur W p q B a e) (hg:G2 W W' p' s) (h1:p≠p') (h2:p≠s) (hq:0< B.length→q≠p' ∧q≠s):Cur W' p q B a e:=by
 obtain ⟨h0,h5,A,c,h6,h3,h4⟩:=h;exact ⟨h0,h5,A,c,h6,h3.g2 hg h1 h2,I7 h4 hg hq⟩
theorem vz {W wc W4:World} {p m p2:Nat} (h:G2 W wc p m) (h' :G2 wc W4 p2 m) (hp2:W.heap.size≤p2):G2 W W4 p m:=
 ⟨h'.os.trans h.os,h'.tape.trans h.tape,h'.output.trans h.output,Nat.le_trans h.size h'.size,fun k hk h1 h2=>(h'.block k (Nat.lt_of_lt_of_le hk h.size) (by omega) h2).trans (h.block k hk h1 h2)⟩
end Go.Proofs.YtofaiocffifhfaaGreat
section
namespace Go.Proofs.YtofaiocffifhfaaGreat
open Go.RowKit Go.Shelf YtofaiocffifhfaaGreatB Go.Proofs.YtofaiocffifhfaaGreatW.PrintWords
theorem gK {W X:World} {row:Option Nat} (h:W.grownBy X row) (o:Obj):W.grownBy (X.alloc o) row:=h.trans (World.grownBy_alloc X o row)
theorem EF {W X:World} {row:Option Nat} (h:W.grownBy X row) (b i:Nat) (v:Value) (hb:W.heap.size≤b):W.grownBy (X.setCell ⟨b,i,none⟩ v) row:=bC h (bA X b i v) (fun k e=>by injection e with e;omega)
theorem lu {W X:World} {row:Option Nat} (h:W.grownBy X row):W.grownBy X.drew row:=bC h (show X.grownBy X.drew none from ⟨rfl,rfl,rfl,Nat.le_refl _,fun _ _ _=>rfl⟩) (fun k e=>by cases e)
theorem uX {W:World} {p q:Nat} {B:List Int} {a:Nat} {e:Int} (h:Cur W p q B a e):Cur W.drew p q B a e:=h.below ((Below.refl _ W).drew)
structure St (W X:World) (p q:Nat) (B:List Int) (a:Nat) (e:Int):Prop where
 cur:Cur X p q B a e
 g:W.grownBy X (some p)
 hp:p< W.heap.size
 hq:0< B.length→q< W.heap.size
section
variable {W X Y:World} {p q:Nat} {B:List Int} {a a' :Nat} {e e' :Int}
theorem St.start (hC:Cur W p q B a e):St W W p q B a e:=⟨hC,World.grownBy.refl _ _,hC.lt,fun hl=>hC.jN hl⟩
theorem St.sz (h:St W X p q B a e):W.heap.size≤X.heap.size:=h.g.size
theorem St.goes (h:St W X p q B a e) (hG:Goes X Y p q B a' e'):St W Y p q B a' e' :=⟨hG.1,h.g.trans hG.2,h.hp,h.hq⟩
theorem St.alloc (h:St W X p q B a e) (o:Obj):St W (X.alloc o) p q B a e:=⟨h.cur.alloc o,gK h.g o,h.hp,h.hq⟩
theorem St.drew (h:St W X p q B a e):St W X.drew p q B a e:=⟨uX h.cur,lu h.g,h.hp,h.hq⟩
theorem St.set (h:St W X p q B a e) (b i:Nat) (v:Value) (hb:W.heap.size≤b):St W (X.setCell ⟨b,i,none⟩ v) p q B a e:=
 ⟨h.cur.other b i v (by have:=h.hp;omega) (fun hl=>by have:=h.hq hl;omega),EF h.g b i v hb,h.hp,h.hq⟩
theorem St.setAt (h:St W X p q B a e) (a' :Nat) (ha:a' ≤B.length):St W (X.setCell ⟨p,1,none⟩ (.int .i64 a')) p q B a' e:=⟨h.cur.setAt a' ha,h.g.trans (bA X p 1 _),h.hp,h.hq⟩
theorem St.fin (h:St W X p q B a e):Goes W X p q B a e:=⟨h.cur,h.g⟩
theorem St.below (h:St W X p q B a e) (hb:Below X.heap.size X Y):St W Y p q B a e:=⟨h.cur.below hb,h.g.trans (aL hb (some p)),h.hp,h.hq⟩
theorem St.grown (h:St W X p q B a e) {row:Option Nat} (hg:X.grownBy Y row) (hr:∀k,row=some k→W.heap.size≤k):St W Y p q B a e:=
 ⟨h.cur.grown' hg (fun e=>by have:=hr _ e.symm;have:=h.hp;omega) (fun hl e=>by have:=hr _ e.symm;have:=h.hq hl;omega),bC h.g hg (fun k hk=> .inr (hr k hk)),h.hp,h.hq⟩
theorem St.le (h:St W X p q B a e):a≤B.length:=h.cur.2.1
end
structure Lc (p:Nat) (X:World) (b:Nat) (cs:Array Value) (t:TypeId):Prop where
 blk:Blk X b cs t
 ne:b≠p
section
variable {W X Y:World} {p q b:Nat} {B:List Int} {a a' :Nat} {e e' :Int} {cs:Array Value} {t:TypeId}
theorem Lc.goes (h:Lc p X b cs t) (hG:Goes X Y p q B a e):Lc p Y b cs t:=⟨h.blk.grown hG.2 (fun e=>h.ne (by injection e)),h.ne⟩
theorem Lc.alloc (h:Lc p X b cs t) (o:Obj):Lc p (X.alloc o) b cs t:=⟨h.blk.alloc o,h.ne⟩
theorem Lc.drew (h:Lc p X b cs t):Lc p X.drew b cs t:=⟨h.blk.drew,h.ne⟩
theorem Lc.other (h:Lc p X b cs t) (b' i:Nat) (v:Value) (hb:b≠b'):Lc p (X.setCell ⟨b',i,none⟩ v) b cs t:=⟨h.blk.aJ _ v hb,h.ne⟩
theorem Lc.new (X:World) (cs:Array Value) (t:TypeId) (hp:p< X.heap.size):Lc p (X.alloc (.cells cs t)) X.heap.size cs t:=⟨Blk.new X cs t,by omega⟩
theorem Lc.newAt (X:World) (cs:Array Value) (t:TypeId) (hp:p< X.heap.size) (hb:X.heap.size=b):Lc p (X.alloc (.cells cs t)) b cs t:=hb ▸ Lc.new X cs t hp
theorem Lc.lt (h:Lc p X b cs t):b< X.heap.size:=h.blk.lt
theorem Lc.fz (h:Lc p X b cs t) (j:Nat):X.frozen? ⟨b,j,none⟩=false:=h.blk.frozen j
theorem Lc.grown (h:Lc p X b cs t) {row:Option Nat} (hg:X.grownBy Y row) (hr:some b≠row):Lc p Y b cs t:=⟨h.blk.grown hg hr,h.ne⟩
theorem Lc.below (h:Lc p X b cs t) (hb:Below X.heap.size X Y):Lc p Y b cs t:=⟨h.blk.below hb h.blk.lt,h.ne⟩
end
section
variable {X:World} {p b:Nat} {t:TypeId} {l:List Value} {v w v0 v1 v2 v3 v4 v5 v6 v7 v8 v9 v10 v11 v12:Value}
theorem Lc.c0 (h:Lc p X b (List.toArray (v::l)) t):X.cell? ⟨b,0,none⟩=some v:=h.blk.cell 0
theorem Lc.s0 (h:Lc p X b (List.toArray (v::l)) t) (w:Value):Lc p (X.setCell ⟨b,0,none⟩ w) b (List.toArray (w::l)) t:=⟨h.blk.set 0 w,h.ne⟩
theorem Lc.c1 (h:Lc p X b (List.toArray (v0::v::l)) t):X.cell? ⟨b,1,none⟩=some v:=h.blk.cell 1
theorem Lc.s1 (h:Lc p X b (List.toArray (v0::v::l)) t) (w:Value):Lc p (X.setCell ⟨b,1,none⟩ w) b (List.toArray (v0::w::l)) t:=⟨h.blk.set 1 w,h.ne⟩
theorem Lc.c2 (h:Lc p X b (List.toArray (v0::v1::v::l)) t):X.cell? ⟨b,2,none⟩=some v:=h.blk.cell 2
theorem Lc.s2 (h:Lc p X b (List.toArray (v0::v1::v::l)) t) (w:Value):Lc p (X.setCell ⟨b,2,none⟩ w) b (List.toArray (v0::v1::w::l)) t:=⟨h.blk.set 2 w,h.ne⟩
theorem Lc.c3 (h:Lc p X b (List.toArray (v0::v1::v2::v::l)) t):X.cell? ⟨b,3,none⟩=some v:=h.blk.cell 3
theorem Lc.s3 (h:Lc p X b (List.toArray (v0::v1::v2::v::l)) t) (w:Value):Lc p (X.setCell ⟨b,3,none⟩ w) b (List.toArray (v0::v1::v2::w::l)) t:=⟨h.blk.set 3 w,h.ne⟩
theorem Lc.c4 (h:Lc p X b (List.toArray (v0::v1::v2::v3::v::l)) t):X.cell? ⟨b,4,none⟩=some v:=h.blk.cell 4
theorem Lc.s4 (h:Lc p X b (List.toArray (v0::v1::v2::v3::v::l)) t) (w:Value):Lc p (X.setCell ⟨b,4,none⟩ w) b (List.toArray (v0::v1::v2::v3::w::l)) t:=⟨h.blk.set 4 w,h.ne⟩
theorem Lc.c5 (h:Lc p X b (List.toArray (v0::v1::v2::v3::v4::v::l)) t):X.cell? ⟨b,5,none⟩=some v:=h.blk.cell 5
theorem Lc.s5 (h:Lc p X b (List.toArray (v0::v1::v2::v3::v4::v::l)) t) (w:Value):Lc p (X.setCell ⟨b,5,none⟩ w) b (List.toArray (v0::v1::v2::v3::v4::w::l)) t:=⟨h.blk.set 5 w,h.ne⟩
theorem Lc.c6 (h:Lc p X b (List.toArray (v0::v1::v2::v3::v4::v5::v::l)) t):X.cell? ⟨b,6,none⟩=some v:=h.blk.cell 6
theorem Lc.s6 (h:Lc p X b (List.toArray (v0::v1::v2::v3::v4::v5::v::l)) t) (w:Value):Lc p (X.setCell ⟨b,6,none⟩ w) b (List.toArray (v0::v1::v2::v3::v4::v5::w::l)) t:=⟨h.blk.set 6 w,h.ne⟩
theorem Lc.c7 (h:Lc p X b (List.toArray (v0::v1::v2::v3::v4::v5::v6::v::l)) t):X.cell? ⟨b,7,none⟩=some v:=h.blk.cell 7
theorem Lc.s7 (h:Lc p X b (List.toArray (v0::v1::v2::v3::v4::v5::v6::v::l)) t) (w:Value):Lc p (X.setCell ⟨b,7,none⟩ w) b (List.toArray (v0::v1::v2::v3::v4::v5::v6::w::l)) t:=⟨h.blk.set 7 w,h.ne⟩
theorem Lc.c8 (h:Lc p X b (List.toArray (v0::v1::v2::v3::v4::v5::v6::v7::v::l)) t):X.cell? ⟨b,8,none⟩=some v:=h.blk.cell 8
theorem Lc.s8 (h:Lc p X b (List.toArray (v0::v1::v2::v3::v4::v5::v6::v7::v::l)) t) (w:Value):Lc p (X.setCell ⟨b,8,none⟩ w) b (List.toArray (v0::v1::v2::v3::v4::v5::v6::v7::w::l)) t:=⟨h.blk.set 8 w,h.ne⟩
theorem Lc.c9 (h:Lc p X b (List.toArray (v0::v1::v2::v3::v4::v5::v6::v7::v8::v::l)) t):X.cell? ⟨b,9,none⟩=some v:=h.blk.cell 9
theorem Lc.c10 (h:Lc p X b (List.toArray (v0::v1::v2::v3::v4::v5::v6::v7::v8::v9::v::l)) t):X.cell? ⟨b,10,none⟩=some v:=h.blk.cell 10
theorem Lc.c11 (h:Lc p X b (List.toArray (v0::v1::v2::v3::v4::v5::v6::v7::v8::v9::v10::v::l)) t):X.cell? ⟨b,11,none⟩=some v:=h.blk.cell 11
theorem Lc.c12 (h:Lc p X b (List.toArray (v0::v1::v2::v3::v4::v5::v6::v7::v8::v9::v10::v11::v::l)) t):X.cell? ⟨b,12,none⟩=some v:=h.blk.cell 12
end
def dH (W:World) (p q:Nat) (B:List Int) (v:Value) (a:Nat) (e:Int) (E:Ending) (w' :World):Prop:=E= .returned v∧Goes W w' p q B a e
def fZ {α:Type} (z:α) (r:α×Nat×Int) (a:Nat) (e:Int):α×Nat×Int:=if e=0 then (if r.2.2=0 then r else (z,a,r.2.2))else (z,a,e)
theorem mW (W:World) (p q:Nat) (B:List Int) (a:Nat) (e:Int) (f:Value) (hC:Cur W p q B a e) (he:(e==0)=false):
  Calls Tryz.prog 111 #[.pointer (some ⟨p,0,none⟩),f] W (dH W p q B (.agg #[.int .u32 0, .int .u32 0, .bool false]) a e):=by
 have HC:=Lib.hid (hC.alloc (.cells #[.int .u32 0, .int .u32 0, .bool false] 101));have HE:=Lib.hid he;have hpl:=hC.lt;clear hC he;go_enter Tryz.func111,Tryz.ntmps111;go_wp2_with (go_at_call 96;refine (bu _ _ _ _ _ _ false HC.out HE.out).mono ?_;rintro e w' ⟨rfl,rfl⟩);exact bodyPost_ret (v:= .agg #[.int .u32 0, .int .u32 0, .bool false]) (by simp [results,Tryz.results111,go_sem]) rfl ⟨rfl,HC.out,World.grownBy_alloc _ _ _⟩
theorem sj (W:World) (p q:Nat) (B:List Int) (a nx:Nat) (g:FuncId) (hent:Enters Tryz.prog g) (lb:Array Value) (x y:Int) (z:Bool) (e' :Int) (hC:Cur W p q B a 0)
  (hg:Calls Tryz.prog g lb (W.alloc (.cells #[.int .u32 0, .int .u32 0, .bool false] 101)) (dH (W.alloc (.cells #[.int .u32 0, .int .u32 0, .bool false] 101)) p q B (.agg #[.int .u32 x, .int .u32 y, .bool z]) nx e')):
  Calls Tryz.prog 111 #[.pointer (some ⟨p,0,none⟩), .func (.func g) #[] lb] W (dH W p q B (if e' =0 then .agg #[.int .u32 x, .int .u32 y, .bool z]else .agg #[.int .u32 0, .int .u32 0, .bool false]) (if e' =0 then nx else a) e'):=by
 have hpl:=hC.lt;have HS:=Lib.hid ((St.start hC).alloc (.cells #[.int .u32 0, .int .u32 0, .bool false] 101));have HG:=Lib.hid hg;have HX:=Lib.hid (Lc.new W #[.int .u32 0, .int .u32 0, .bool false] 101 hpl);obtain ⟨A,c,c0,c1,c2,f0,f1,f2,hle,hq,hlt,ha⟩:=hC.cells;have hin:∀args w,Sem.run Tryz.prog (callFunc g args) w= .ok (.enter g args) w:=hent;clear hC hg hq hent;by_cases he:e' =0
 ·subst he;rw [if_pos rfl,if_pos rfl];go_enter Tryz.func111,Tryz.ntmps111;go_wp2_with fail;refine (bu _ _ _ _ _ _ true HS.out.cur rfl).mono ?_;rintro E w' ⟨rfl,rfl⟩;go_wp2_with fail;refine HG.out.mono ?_;rintro E W2 ⟨rfl,hG⟩;replace HS:=Lib.hid (HS.out.goes hG);replace HX:=Lib.hid (HX.out.goes hG);have x0:=HX.out.c0;have x1:=HX.out.c1;have x2:=HX.out.c2;have y0:=HX.out.fz 0;have y1:=HX.out.fz 1;have y2:=HX.out.fz 2;have xl:=HX.out.lt;have hsz:=HS.out.sz;obtain ⟨A',c',g0,g1,g2,k0,k1,k2,gle,gq,glt,ga⟩:=HS.out.cur.cells;have hpne:p≠W.heap.size:=by omega
  have hpne' :W.heap.size≠p:=by omega
  clear hG HG gq;have H3:=Lib.hid (HS.out.cur.alloc (.cells #[.int .u32 x, .int .u32 y, .bool z] 101));go_wp2_with fail;refine (bu _ _ _ _ _ _ true H3.out rfl).mono ?_;rintro E w' ⟨rfl,rfl⟩;go_wp2_with fail;refine bodyPost_ret (v:= .agg #[.int .u32 x, .int .u32 y, .bool z]) (by simp [results,Tryz.results111,go_sem,x0,x1,x2,xl]) rfl ⟨rfl,St.fin (W:=W) ?_⟩
  (repeat (first|with_reducible exact HS.out|(with_reducible refine St.set ?_ _ _ _ ?_;rotate_left;omega)|with_reducible refine St.alloc ?_ _|with_reducible refine St.drew ?_))
 ·have he2:(e' ==0)=false:=beq_eq_false_iff_ne.2 he;have HE2:=Lib.hid he2;rw [if_neg he,if_neg he];clear he he2;go_enter Tryz.func111,Tryz.ntmps111;go_wp2_with fail;refine (bu _ _ _ _ _ _ true HS.out.cur rfl).mono ?_;rintro E w' ⟨rfl,rfl⟩;go_wp2_with fail;refine HG.out.mono ?_;rintro E W2 ⟨rfl,hG⟩;replace HS:=Lib.hid (HS.out.goes hG);replace HX:=Lib.hid (HX.out.goes hG);have x0:=HX.out.c0;have x1:=HX.out.c1;have x2:=HX.out.c2;have y0:=HX.out.fz 0;have y1:=HX.out.fz 1;have y2:=HX.out.fz 2;have xl:=HX.out.lt;have hsz:=HS.out.sz;obtain ⟨A',c',g0,g1,g2,k0,k1,k2,gle,gq,glt,ga⟩:=HS.out.cur.cells;have hpne:p≠W.heap.size:=by omega
  have hpne' :W.heap.size≠p:=by omega
  clear hG HG gq;have H3:=Lib.hid (HS.out.cur.alloc (.cells #[.int .u32 x, .int .u32 y, .bool z] 101));go_wp2_with fail;refine (bu _ _ _ _ _ _ false H3.out HE2.out).mono ?_;rintro E w' ⟨rfl,rfl⟩;go_wp2_with fail;refine bodyPost_ret (v:= .agg #[.int .u32 0, .int .u32 0, .bool false]) (by simp [results,Tryz.results111,go_sem,x0,x1,x2,xl,hpne,hpne']) rfl ⟨rfl,St.fin (W:=W) ?_⟩
  (repeat (first|with_reducible exact (HS.out.setAt a ha)|(with_reducible refine St.set ?_ _ _ _ ?_;rotate_left;omega)|with_reducible refine St.alloc ?_ _|with_reducible refine St.drew ?_))
theorem rO (W:World) (p q:Nat) (B:List Int) (a:Nat) (e:Int) (f:Value) (hC:Cur W p q B a e) (he:(e==0)=false):
  Calls Tryz.prog 121 #[.pointer (some ⟨p,0,none⟩),f] W (dH W p q B (.agg #[.int .u8 0, .bool false]) a e):=by
 have HC:=Lib.hid (hC.alloc (.cells #[.int .u8 0, .bool false] 103));have HE:=Lib.hid he;have hpl:=hC.lt;clear hC he;go_enter Tryz.func121,Tryz.ntmps121;go_wp2_with (go_at_call 96;refine (bu _ _ _ _ _ _ false HC.out HE.out).mono ?_;rintro e w' ⟨rfl,rfl⟩);exact bodyPost_ret (v:= .agg #[.int .u8 0, .bool false]) (by simp [results,Tryz.results121,go_sem]) rfl ⟨rfl,HC.out,World.grownBy_alloc _ _ _⟩
theorem Bt (W:World) (p q:Nat) (B:List Int) (a nx:Nat) (g:FuncId) (hent:Enters Tryz.prog g) (lb:Array Value) (x y:Int) (z:Bool) (e' :Int) (hC:Cur W p q B a 0)
  (hg:Calls Tryz.prog g lb (W.alloc (.cells #[.int .u8 0, .bool false] 103)) (dH (W.alloc (.cells #[.int .u8 0, .bool false] 103)) p q B (.agg #[.int .u8 x, .bool z]) nx e')):
  Calls Tryz.prog 121 #[.pointer (some ⟨p,0,none⟩), .func (.func g) #[] lb] W (dH W p q B (if e' =0 then .agg #[.int .u8 x, .bool z]else .agg #[.int .u8 0, .bool false]) (if e' =0 then nx else a) e'):=by
 have hpl:=hC.lt;have HS:=Lib.hid ((St.start hC).alloc (.cells #[.int .u8 0, .bool false] 103));have HG:=Lib.hid hg;have HX:=Lib.hid (Lc.new W #[.int .u8 0, .bool false] 103 hpl);obtain ⟨A,c,c0,c1,c2,f0,f1,f2,hle,hq,hlt,ha⟩:=hC.cells;have hin:∀args w,Sem.run Tryz.prog (callFunc g args) w= .ok (.enter g args) w:=hent;clear hC hg hq hent;by_cases he:e' =0
 ·subst he;rw [if_pos rfl,if_pos rfl];go_enter Tryz.func121,Tryz.ntmps121;go_wp2_with fail;refine (bu _ _ _ _ _ _ true HS.out.cur rfl).mono ?_;rintro E w' ⟨rfl,rfl⟩;go_wp2_with fail;refine HG.out.mono ?_;rintro E W2 ⟨rfl,hG⟩;replace HS:=Lib.hid (HS.out.goes hG);replace HX:=Lib.hid (HX.out.goes hG);have x0:=HX.out.c0;have x1:=HX.out.c1;have x2:=HX.out.c1;have y0:=HX.out.fz 0;have y1:=HX.out.fz 1;have y2:=HX.out.fz 1;have xl:=HX.out.lt;have hsz:=HS.out.sz;obtain ⟨A',c',g0,g1,g2,k0,k1,k2,gle,gq,glt,ga⟩:=HS.out.cur.cells;have hpne:p≠W.heap.size:=by omega
  have hpne' :W.heap.size≠p:=by omega
  clear hG HG gq;have H3:=Lib.hid (HS.out.cur.alloc (.cells #[.int .u8 x, .bool z] 103));go_wp2_with fail;refine (bu _ _ _ _ _ _ true H3.out rfl).mono ?_;rintro E w' ⟨rfl,rfl⟩;go_wp2_with fail;refine bodyPost_ret (v:= .agg #[.int .u8 x, .bool z]) (by simp [results,Tryz.results121,go_sem,x0,x1,x2,xl]) rfl ⟨rfl,St.fin (W:=W) ?_⟩
  (repeat (first|with_reducible exact HS.out|(with_reducible refine St.set ?_ _ _ _ ?_;rotate_left;omega)|with_reducible refine St.alloc ?_ _|with_reducible refine St.drew ?_))
 ·have he2:(e' ==0)=false:=beq_eq_false_iff_ne.2 he;have HE2:=Lib.hid he2;rw [if_neg he,if_neg he];clear he he2;go_enter Tryz.func121,Tryz.ntmps121;go_wp2_with fail;refine (bu _ _ _ _ _ _ true HS.out.cur rfl).mono ?_;rintro E w' ⟨rfl,rfl⟩;go_wp2_with fail;refine HG.out.mono ?_;rintro E W2 ⟨rfl,hG⟩;replace HS:=Lib.hid (HS.out.goes hG);replace HX:=Lib.hid (HX.out.goes hG);have x0:=HX.out.c0;have x1:=HX.out.c1;have x2:=HX.out.c1;have y0:=HX.out.fz 0;have y1:=HX.out.fz 1;have y2:=HX.out.fz 1;have xl:=HX.out.lt;have hsz:=HS.out.sz;obtain ⟨A',c',g0,g1,g2,k0,k1,k2,gle,gq,glt,ga⟩:=HS.out.cur.cells;have hpne:p≠W.heap.size:=by omega
  have hpne' :W.heap.size≠p:=by omega
  clear hG HG gq;have H3:=Lib.hid (HS.out.cur.alloc (.cells #[.int .u8 x, .bool z] 103));go_wp2_with fail;refine (bu _ _ _ _ _ _ false H3.out HE2.out).mono ?_;rintro E w' ⟨rfl,rfl⟩;go_wp2_with fail;refine bodyPost_ret (v:= .agg #[.int .u8 0, .bool false]) (by simp [results,Tryz.results121,go_sem,x0,x1,x2,xl,hpne,hpne']) rfl ⟨rfl,St.fin (W:=W) ?_⟩
  (repeat (first|with_reducible exact (HS.out.setAt a ha)|(with_reducible refine St.set ?_ _ _ _ ?_;rotate_left;omega)|with_reducible refine St.alloc ?_ _|with_reducible refine St.drew ?_))
end Go.Proofs.YtofaiocffifhfaaGreat
end
section
namespace Go.Proofs.YtofaiocffifhfaaGreatB
open Go.RowKit Go.Proofs.YtofaiocffifhfaaGreatW.PrintWords
section
variable {α β:Type} {d:Kd α} {d1:Kd α} {d2:Kd β} {W:World} {ok:Nat→Prop} {x:α} {y:β} {c1 c2 cs:List Value}
theorem bD (h1:FK d1 W ok x c1) (h2:FK d2 W ok y c2):FK (Kd.pair d1 d2) W ok (x,y) (c1++c2):=fun W' hW=>⟨c1,c2,rfl,h1 W' hW,h2 W' hW⟩
theorem fo {k:IntKind} {n:Int} (h:(Lit.int k n).wf=true):FK (rng k) W ok n [.int k n]:=fun _ _=>⟨rfl,h⟩
theorem nK (b:Bool):FK Kd.bool W ok b [.bool b]:=fun _ _=>rfl
theorem yC (s:ByteArray):FK Kd.string W ok s [.string s]:=fun _ _=>rfl
theorem jE:FK mZ W ok () []:=fun _ _=>rfl
theorem jT {t:Nat} {A:Option Addr} {xs:List α} {c:Nat} (h:FC d W ok A xs) (hl:xs.length≤c):FK (Kd.slice t d) W ok xs [.slice A xs.length c]:=fun W' hW=>⟨A,c,rfl,hl,h W' hW⟩
theorem iV {f:β→α} (h:FK d W ok (f y) cs):FK (Kd.iso d f) W ok y cs:=fun W' hW=>h W' hW
theorem dn {f:β→α} (h:FK (Kd.iso d f) W ok y cs):FK d W ok (f y) cs:=fun W' hW=>h W' hW
theorem aN {z:α×β} (h:FK (Kd.pair d1 d2) W ok z cs):∃c1 c2,cs=c1++c2∧FK d1 W ok z.1 c1∧FK d2 W ok z.2 c2:=by
 obtain ⟨c1,c2,rfl,h1,h2⟩:=h.now
 have key:∀W',Agr ok W W' →d1.K W' z.1 c1∧d2.K W' z.2 c2:=fun W' hW=>by
  obtain ⟨e1,e2,he,g1,g2⟩:=h W' hW;have hl:c1.length=e1.length:=by rw [d1.K_len h1,d1.K_len g1]
  obtain ⟨rfl,rfl⟩:=List.append_inj he hl;exact ⟨g1,g2⟩
 exact ⟨c1,c2,rfl,fun W' hW=>(key W' hW).1,fun W' hW=>(key W' hW).2⟩
theorem bI {k:IntKind} {n:Int} (h:FK (rng k) W ok n cs):cs= [.int k n]∧(Lit.int k n).wf=true:=h.now
theorem iN {b:Bool} (h:FK Kd.bool W ok b cs):cs= [.bool b]:=h.now
theorem nE {s:ByteArray} (h:FK Kd.string W ok s cs):cs= [.string s]:=h.now
theorem eF (h:FK mZ W ok () cs):cs= []:=h.now
theorem dW {t:Nat} {xs:List α} (h:FK (Kd.slice t d) W ok xs cs):∃A c,cs= [.slice A xs.length c]∧xs.length≤c∧FC d W ok A xs:=by
 obtain ⟨A,c,rfl,hl,_⟩:=h.now;refine ⟨A,c,rfl,hl,fun W' hW=> ?_⟩;obtain ⟨A',c',he,_,h'⟩:=h W' hW;injection he with he _;injection he with he _ _;subst he;exact h'
end
theorem wf_u8 {n:Int} (h:0≤n∧n≤255):(Lit.int .u8 n).wf=true:=by simp [Lit.wf,IntKind.min,IntKind.max,IntKind.signed,IntKind.bits];omega
theorem wf_u32 {n:Int} (h:0≤n∧n≤4294967295):(Lit.int .u32 n).wf=true:=by simp [Lit.wf,IntKind.min,IntKind.max,IntKind.signed,IntKind.bits];omega
theorem wf_i64 {n:Int} (h:0≤n∧n≤4294967295):(Lit.int .i64 n).wf=true:=by simp [Lit.wf,IntKind.min,IntKind.max,IntKind.signed,IntKind.bits];omega
structure vK where
 m:ByteArray
 n:ByteArray
 kind:Int
 ty:Int
 lim:Int×Int×Bool
 glob:Int×Bool
structure uw where
 n:ByteArray
 kind:Int
 ix:Int
structure ky where
 ty:Int×Bool
 init:List Ins
structure kN where
 tab:Int
 off:List Ins
 fns:List Int
structure j5 where
 mem:Int
 off:List Ins
 bts:List Int
structure FnD where
 ty:Int
 loc:List Int
 body:List Ins
end Go.Proofs.YtofaiocffifhfaaGreatB
namespace Go.Proofs.YtofaiocffifhfaaGreat
open Go.RowKit Go.Shelf YtofaiocffifhfaaGreatB Go.Proofs.YtofaiocffifhfaaGreatW.PrintWords
def dK:Kd (Int×Int×Bool):=Kd.iso (Kd.pair (rng .u32) (Kd.pair (rng .u32) (Kd.pair Kd.bool mZ))) (fun x=>(x.1,x.2.1,x.2.2,()))
def iF:Kd vK:=Kd.iso (Kd.pair Kd.string (Kd.pair Kd.string (Kd.pair (rng .i64) (Kd.pair (rng .u32) (Kd.pair (rng .u32) (Kd.pair (rng .u32) (Kd.pair Kd.bool (Kd.pair (rng .u8) (Kd.pair Kd.bool mZ)))))))))
 (fun x=>(x.m,x.n,x.kind,x.ty,x.lim.1,x.lim.2.1,x.lim.2.2,x.glob.1,x.glob.2,()))
def iB:Kd uw:=Kd.iso (Kd.pair Kd.string (Kd.pair (rng .i64) (Kd.pair (rng .u32) mZ))) (fun x=>(x.n,x.kind,x.ix,()))
def ja:Kd ky:=Kd.iso (Kd.pair (rng .u8) (Kd.pair Kd.bool (Kd.pair (Kd.slice 153 kI) mZ))) (fun x=>(x.ty.1,x.ty.2,x.init,()))
def jc:Kd kN:=Kd.iso (Kd.pair (rng .u32) (Kd.pair (Kd.slice 153 kI) (Kd.pair (Kd.slice 30 (rng .u32)) mZ))) (fun x=>(x.tab,x.off,x.fns,()))
def iZ:Kd j5:=Kd.iso (Kd.pair (rng .u32) (Kd.pair (Kd.slice 153 kI) (Kd.pair (Kd.slice 5 (rng .u8)) mZ))) (fun x=>(x.mem,x.off,x.bts,()))
def kFn:Kd FnD:=Kd.iso (Kd.pair (rng .u32) (Kd.pair (Kd.slice 5 (rng .u8)) (Kd.pair (Kd.slice 153 kI) mZ))) (fun x=>(x.ty,x.loc,x.body,()))
section
variable {W:World} {ok:Nat→Prop} {cs:List Value}
theorem uI {x:Int×Int×Bool} (h1:0≤x.1∧x.1≤4294967295) (h2:0≤x.2.1∧x.2.1≤4294967295):FK dK W ok x [.int .u32 x.1, .int .u32 x.2.1, .bool x.2.2]:=
 iV (bD (fo (wf_u32 h1)) (bD (fo (wf_u32 h2)) (bD (nK _) jE)))
theorem iX {x:vK} (h0:0≤x.kind∧x.kind≤4294967295) (h:0≤x.ty∧x.ty≤4294967295) (h1:0≤x.lim.1∧x.lim.1≤4294967295) (h2:0≤x.lim.2.1∧x.lim.2.1≤4294967295) (h3:0≤x.glob.1∧x.glob.1≤255):
  FK iF W ok x [.string x.m, .string x.n, .int .i64 x.kind, .int .u32 x.ty, .int .u32 x.lim.1, .int .u32 x.lim.2.1, .bool x.lim.2.2, .int .u8 x.glob.1, .bool x.glob.2]:=
 iV (bD (yC _) (bD (yC _) (bD (fo (wf_i64 h0)) (bD (fo (wf_u32 h)) (bD (fo (wf_u32 h1)) (bD (fo (wf_u32 h2)) (bD (nK _) (bD (fo (wf_u8 h3)) (bD (nK _) jE)))))))))
theorem En {x:uw} (h0:0≤x.kind∧x.kind≤4294967295) (h:0≤x.ix∧x.ix≤4294967295):FK iB W ok x [.string x.n, .int .i64 x.kind, .int .u32 x.ix]:=
 iV (bD (yC _) (bD (fo (wf_i64 h0)) (bD (fo (wf_u32 h)) jE)))
theorem Gv {x:ky} {A:Option Addr} {c:Nat} (h0:0≤x.ty.1∧x.ty.1≤255) (h:FC kI W ok A x.init) (hl:x.init.length≤c):FK ja W ok x [.int .u8 x.ty.1, .bool x.ty.2, .slice A x.init.length c]:=
 iV (bD (fo (wf_u8 h0)) (bD (nK _) (bD (jT h hl) jE)))
theorem E5 {x:kN} {A A' :Option Addr} {c c' :Nat} (h0:0≤x.tab∧x.tab≤4294967295) (h:FC kI W ok A x.off) (hl:x.off.length≤c) (h' :FC (rng .u32) W ok A' x.fns) (hl' :x.fns.length≤c'):
  FK jc W ok x [.int .u32 x.tab, .slice A x.off.length c, .slice A' x.fns.length c']:=
 iV (bD (fo (wf_u32 h0)) (bD (jT h hl) (bD (jT h' hl') jE)))
theorem FR {x:j5} {A A' :Option Addr} {c c' :Nat} (h0:0≤x.mem∧x.mem≤4294967295) (h:FC kI W ok A x.off) (hl:x.off.length≤c) (h' :FC (rng .u8) W ok A' x.bts) (hl' :x.bts.length≤c'):
  FK iZ W ok x [.int .u32 x.mem, .slice A x.off.length c, .slice A' x.bts.length c']:=
 iV (bD (fo (wf_u32 h0)) (bD (jT h hl) (bD (jT h' hl') jE)))
theorem De {x:FnD} {A A' :Option Addr} {c c' :Nat} (h0:0≤x.ty∧x.ty≤4294967295) (h' :FC (rng .u8) W ok A' x.loc) (hl' :x.loc.length≤c') (h:FC kI W ok A x.body) (hl:x.body.length≤c):
  FK kFn W ok x [.int .u32 x.ty, .slice A' x.loc.length c', .slice A x.body.length c]:=
 iV (bD (fo (wf_u32 h0)) (bD (jT h' hl') (bD (jT h hl) jE)))
theorem nT {x:Int×Int×Bool} (h:FK dK W ok x cs):cs= [.int .u32 x.1, .int .u32 x.2.1, .bool x.2.2]:=by
 obtain ⟨c1,c2,rfl,h1,h2⟩:=aN (dn h);obtain ⟨c3,c4,rfl,h3,h4⟩:=aN h2;obtain ⟨c5,c6,rfl,h5,h6⟩:=aN h4;rw [(bI h1).1,(bI h3).1,iN h5,eF h6];rfl
theorem lF {x:vK} (h:FK iF W ok x cs):cs= [.string x.m, .string x.n, .int .i64 x.kind, .int .u32 x.ty, .int .u32 x.lim.1, .int .u32 x.lim.2.1, .bool x.lim.2.2, .int .u8 x.glob.1, .bool x.glob.2]:=by
 obtain ⟨_,_,rfl,h1,h⟩:=aN (dn h);obtain ⟨_,_,rfl,h2,h⟩:=aN h;obtain ⟨_,_,rfl,h3,h⟩:=aN h;obtain ⟨_,_,rfl,h4,h⟩:=aN h;obtain ⟨_,_,rfl,h5,h⟩:=aN h;obtain ⟨_,_,rfl,h6,h⟩:=aN h;obtain ⟨_,_,rfl,h7,h⟩:=aN h;obtain ⟨_,_,rfl,h8,h⟩:=aN h;obtain ⟨_,_,rfl,h9,h⟩:=aN h;rw [nE h1,nE h2,(bI h3).1,(bI h4).1,(bI h5).1,(bI h6).1,iN h7,(bI h8).1,iN h9,eF h];rfl
theorem nL {x:uw} (h:FK iB W ok x cs):cs= [.string x.n, .int .i64 x.kind, .int .u32 x.ix]:=by
 obtain ⟨_,_,rfl,h1,h⟩:=aN (dn h);obtain ⟨_,_,rfl,h2,h⟩:=aN h;obtain ⟨_,_,rfl,h3,h⟩:=aN h;rw [nE h1,(bI h2).1,(bI h3).1,eF h];rfl
theorem sD {x:ky} (h:FK ja W ok x cs):∃A c,cs= [.int .u8 x.ty.1, .bool x.ty.2, .slice A x.init.length c]∧x.init.length≤c∧FC kI W ok A x.init:=by
 obtain ⟨_,_,rfl,h1,h⟩:=aN (dn h);obtain ⟨_,_,rfl,h2,h⟩:=aN h;obtain ⟨_,_,rfl,h3,h⟩:=aN h;obtain ⟨A,c,h3,hl,hF⟩:=dW h3;rw [(bI h1).1,iN h2,h3,eF h];exact ⟨A,c,rfl,hl,hF⟩
theorem sG {x:kN} (h:FK jc W ok x cs):∃A c A' c',cs= [.int .u32 x.tab, .slice A x.off.length c, .slice A' x.fns.length c']∧x.off.length≤c∧FC kI W ok A x.off∧x.fns.length≤c' ∧FC (rng .u32) W ok A' x.fns:=by
 obtain ⟨_,_,rfl,h1,h⟩:=aN (dn h);obtain ⟨_,_,rfl,h2,h⟩:=aN h;obtain ⟨_,_,rfl,h3,h⟩:=aN h;obtain ⟨A,c,h2,hl,hF⟩:=dW h2;obtain ⟨A',c',h3,hl',hF'⟩:=dW h3;rw [(bI h1).1,h2,h3,eF h];exact ⟨A,c,A',c',rfl,hl,hF,hl',hF'⟩
theorem sO {x:j5} (h:FK iZ W ok x cs):∃A c A' c',cs= [.int .u32 x.mem, .slice A x.off.length c, .slice A' x.bts.length c']∧x.off.length≤c∧FC kI W ok A x.off∧x.bts.length≤c' ∧FC (rng .u8) W ok A' x.bts:=by
 obtain ⟨_,_,rfl,h1,h⟩:=aN (dn h);obtain ⟨_,_,rfl,h2,h⟩:=aN h;obtain ⟨_,_,rfl,h3,h⟩:=aN h;obtain ⟨A,c,h2,hl,hF⟩:=dW h2;obtain ⟨A',c',h3,hl',hF'⟩:=dW h3;rw [(bI h1).1,h2,h3,eF h];exact ⟨A,c,A',c',rfl,hl,hF,hl',hF'⟩
theorem uj {x:FnD} (h:FK kFn W ok x cs):∃A c A' c',cs= [.int .u32 x.ty, .slice A x.loc.length c, .slice A' x.body.length c']∧x.loc.length≤c∧FC (rng .u8) W ok A x.loc∧x.body.length≤c' ∧FC kI W ok A' x.body:=by
 obtain ⟨_,_,rfl,h1,h⟩:=aN (dn h);obtain ⟨_,_,rfl,h2,h⟩:=aN h;obtain ⟨_,_,rfl,h3,h⟩:=aN h;obtain ⟨A,c,h2,hl,hF⟩:=dW h2;obtain ⟨A',c',h3,hl',hF'⟩:=dW h3;rw [(bI h1).1,h2,h3,eF h];exact ⟨A,c,A',c',rfl,hl,hF,hl',hF'⟩
end
end Go.Proofs.YtofaiocffifhfaaGreat
end
namespace Go.Proofs.YtofaiocffifhfaaGreat
open Go.RowKit Go.Shelf YtofaiocffifhfaaGreatB Go.Proofs.YtofaiocffifhfaaGreatW.PrintWords
def iG {α:Type} (d:Kd α) (X:World) (p q:Nat) (B:List Int) (r:α×Nat×Int) (E:Ending) (w' :World):Prop:=
 (∃cs,E= .returned (.agg cs.toArray)∧FK d w' (fun k=>X.heap.size≤k) r.1 cs)∧Goes X w' p q B r.2.1 r.2.2
def Js (X:World) (p q:Nat) (B:List Int) (r:Int×Nat×Int) (E:Ending) (w' :World):Prop:=
 (0≤r.1∧r.1≤4294967295)∧E= .returned (.int .u32 r.1)∧Goes X w' p q B r.2.1 r.2.2
def lsM {α:Type} (rd:Nat→Int→α×Nat×Int):Nat→Nat→Int→List α×Nat×Int
 |0,a,e=>([],a,e)
 |k+1,a,e=>if e=0 then ((rd a 0).1::(lsM rd k (rd a 0).2.1 (rd a 0).2.2).1,(lsM rd k (rd a 0).2.1 (rd a 0).2.2).2)else ([],a,e)
theorem gV {α:Type} (rd:Nat→Int→α×Nat×Int) (k a:Nat) (e:Int) (h:(e==0)=false):lsM rd k a e=([],a,e):=by
 cases k with
 |zero=>rfl
 |succ k=>rw [lsM,if_neg (by simpa using h)]
def bq {α:Type} (rd:Nat→Int→α×Nat×Int) (B:List Int) (a:Nat) (e:Int):List α×Nat×Int:=lsM rd (az (aG B a) a e).1.toNat (az (aG B a) a e).2.1 (az (aG B a) a e).2.2
theorem yS {W:World} {ok:Nat→Prop} {x:List Int×List Int} {cs:List Value} (h:FK kFt W ok x cs):∃A c A' c',cs= [.slice A x.1.length c, .slice A' x.2.length c']∧x.1.length≤c∧x.2.length≤c' :=by
 obtain ⟨A,c,A',c',e,h1,h2⟩:∃A c A' c',cs= [.slice A x.1.length c, .slice A' x.2.length c']∧x.1.length≤c∧x.2.length≤c' :=by
  obtain ⟨_,_,rfl,⟨A,c,rfl,hl,_⟩,_,_,rfl,⟨A',c',rfl,hl',_⟩,rfl⟩:=h.now;exact ⟨A,c,A',c',rfl,hl,hl'⟩
 exact ⟨A,c,A',c',e,h1,h2⟩
structure LL {α:Type} (d:Kd α) (t:TypeId) (rd:Nat→Int→α×Nat×Int) (W:World) (p q:Nat) (B:List Int) (target:List α×Nat×Int) (c j:Nat) (v:Value) (done:List α) (a:Nat) (e:Int) (X:World):Prop where
 own:Own d t X W.heap.size (fun k=>W.heap.size≤k) v done
 cur:Cur X p q B a e
 g:W.grownBy X (some p)
 t:(done++(lsM rd (c - j) a e).1,(lsM rd (c - j) a e).2)=target
 len:done.length≤j
def bM {α:Type} (d:Kd α) (t:TypeId) (W:World) (p q:Nat) (B:List Int) (r:List α×Nat×Int) (E:Ending) (w' :World):Prop:=
 (∃v,E= .returned v∧Own d t w' W.heap.size (fun k=>W.heap.size≤k) v r.1)∧Goes W w' p q B r.2.1 r.2.2
theorem Cw:(Tryz.prog.info? 98).map (fun i=>(i.zero,i.size,i.bytes))=some (some (.agg #[.slice none 0 0, .slice none 0 0]),2,48):=by kernel_rfl
theorem Du:(Tryz.prog.info? 105).map (fun i=>(i.zero,i.size,i.bytes))=some (some (.agg #[.string ⟨#[]⟩, .string ⟨#[]⟩, .int .i64 0, .int .u32 0, .int .u32 0, .int .u32 0, .bool false, .int .u8 0, .bool false]),9,64):=by kernel_rfl
theorem DJ:(Tryz.prog.info? 30).map (fun i=>(i.zero,i.size,i.bytes))=some (some (.int .u32 0),1,4):=by kernel_rfl
theorem Dc:(Tryz.prog.info? 101).map (fun i=>(i.zero,i.size,i.bytes))=some (some (.agg #[.int .u32 0, .int .u32 0, .bool false]),3,12):=by kernel_rfl
theorem Bg:(Tryz.prog.info? 114).map (fun i=>(i.zero,i.size,i.bytes))=some (some (.agg #[.int .u8 0, .bool false, .slice none 0 0]),3,32):=by kernel_rfl
theorem Ex:(Tryz.prog.info? 110).map (fun i=>(i.zero,i.size,i.bytes))=some (some (.agg #[.string ⟨#[]⟩, .int .i64 0, .int .u32 0]),3,32):=by kernel_rfl
theorem A8:(Tryz.prog.info? 118).map (fun i=>(i.zero,i.size,i.bytes))=some (some (.agg #[.int .u32 0, .slice none 0 0, .slice none 0 0]),3,56):=by kernel_rfl
theorem zh:(Tryz.prog.info? 75).map (fun i=>(i.zero,i.size,i.bytes))=some (some (.agg #[.int .u32 0, .slice none 0 0, .slice none 0 0]),3,56):=by kernel_rfl
theorem Bh:(Tryz.prog.info? 120).map (fun i=>(i.zero,i.size,i.bytes))=some (some (.agg #[.int .u32 0, .slice none 0 0, .slice none 0 0]),3,56):=by kernel_rfl
theorem BS (g:FuncId) (hent:Enters Tryz.prog g) (rd:Nat→Int→(List Int×List Int)×Nat×Int) (W:World) (p q:Nat) (B:List Int) (a:Nat) (e:Int) (sat:Bool) (hC:Cur W p q B a e) (hB:aK B)
  (hv:∀X a,Cur X p q B a 0→W.heap.size≤X.heap.size→Calls Tryz.prog g #[.pointer (some ⟨p,0,none⟩)] X (iG kFt X p q B (rd a 0))):
  Calls Tryz.prog 73 #[.agg #[.pointer (some ⟨p,0,none⟩), .bool sat], .func (.func g) #[.pointer (some ⟨p,0,none⟩)] #[]] W (bM kFt 98 W p q B (bq rd B a e)):=by
 have hc:=bK (a:=a) (e:=e) hB;have hin:∀args w,Sem.run Tryz.prog (callFunc g args) w= .ok (.enter g args) w:=hent;have hpl:=hC.lt;have HQ:=Lib.hid (fun hl=>hC.jN hl:0< B.length→q< W.heap.size);have H0:=Lib.hid (eT _ p q B a e (hC.alloc (.cells #[.pointer (some ⟨p,0,none⟩), .bool sat] 67)) hB);have HV0:=Lib.hid hv;have hdef:bq rd B a e=lsM rd (az (aG B a) a e).1.toNat (az (aG B a) a e).2.1 (az (aG B a) a e).2.2:=rfl;rw [hdef];clear hdef;generalize az (aG B a) a e=r at *;obtain ⟨n,a0,e0⟩:=r;dsimp only at hc;obtain ⟨c,rfl⟩:=Int.eq_ofNat_of_zero_le hc.1;rw [Int.toNat_natCast];obtain ⟨tg,htg⟩:∃tg,lsM rd c a0 e0=tg:=⟨_,rfl⟩;have HTG:=Lib.hid htg;rw [htg];have hc2:(c:Int)≤4096:=hc.2;have HX:=Lib.hid (Blk.new W #[.pointer (some ⟨p,0,none⟩), .bool sat] 67);clear hC hB hc htg hv hent;go_enter Tryz.func73,Tryz.ntmps73;go_wp2_with fail;refine H0.out.mono ?_;rintro E W1 ⟨rfl,hG1⟩;have hz1:=hG1.2.size;rw [World.size_alloc]at hz1;have HX1:=Lib.hid (HX.out.grown hG1.2 (fun e=>by injection e with e;omega));have HL:=Lib.hid (⟨Own.nil,hG1.1,(World.grownBy_alloc W _ _).trans hG1.2,by rw [Nat.sub_zero,HTG.out];rfl,Nat.le_refl _⟩:LL kFt 98 rd W p q B tg c 0 (.slice none 0 0) [] a0 e0 W1);clear hG1 H0;go_wp2_with fail;go_loopw [5,7] (fun v i wr=>∃(j:Nat) (done:List (List Int×List Int)) (a:Nat) (e:Int),j≤c∧i= .int .i64 j∧Hid (LL kFt 98 rd W p q B tg c j v done a e wr)∧Hid (Blk wr W.heap.size #[.pointer (some ⟨p,0,none⟩), .bool sat] 67)) (fun _ i _=>c - (intOf i).toNat)
 case atStart=>exact ⟨0, [],a0,e0,Nat.zero_le _,rfl,HL,HX1⟩
 case round=>
  obtain ⟨j,done,a',e',hj,rfl,HLj,HXj⟩:=hrel;clear HL HX1;have b0:wr.cell? ⟨W.heap.size,0,none⟩=some (.pointer (some ⟨p,0,none⟩)):=HXj.out.cell 0;have b1:wr.cell? ⟨W.heap.size,1,none⟩=some (.bool sat):=HXj.out.cell 1;have hwl:=HXj.out.lt;by_cases hlt:j< c
  ·have hlt2:(j:Int)<(c:Int):=by omega
   by_cases he:e' =0
   ·subst he;have HPG:=Lib.hid (bz wr p q B a' 0 sat true HLj.out.cur rfl);have HV:=Lib.hid (HV0.out (wr.alloc (.cells #[.pointer (some ⟨p,0,none⟩), .bool sat] 67)) a' (HLj.out.cur.alloc _) (by rw [World.size_alloc];omega));have ht0:=HLj.out.t;rw [show c - j=(c - (j+1))+1 from by omega,lsM,if_pos rfl]at ht0;generalize rd a' 0=r at *;obtain ⟨x,a1,e1⟩:=r;have HT0:=Lib.hid ht0;have hX:=HLj.out.g.size;have hdl:=HLj.out.len;clear ht0;go_wp2_with fail;refine HPG.out.mono ?_;rintro E wg ⟨rfl,rfl⟩;go_wp2_with fail;refine HV.out.mono ?_;rintro E W2 ⟨⟨cs,rfl,hF⟩,hG2⟩;have hz2:=hG2.2.size;rw [World.size_alloc]at hz2;have hne:∀k,u5.ownBlock=some k→W.heap.size≤k∧k< wr.heap.size:=fun k hk=>Own.block HLj.out.own hk
    have np:u5.ownBlock≠some p:=fun e=>by have:=hne _ e;omega
    have hOw:=((HLj.out.own.below ((Below.refl _ _).alloc (Nat.le_refl _) (.cells #[.pointer (some ⟨p,0,none⟩), .bool sat] 67))).grown hG2.2 (.inr np) (fun k hk e=>by injection e with e;omega));have HO2:=Lib.hid hOw;have HG2:=Lib.hid (HLj.out.g.trans ((World.grownBy_alloc wr (.cells #[.pointer (some ⟨p,0,none⟩), .bool sat] 67) (some p)).trans hG2.2));have HC2:=Lib.hid hG2.1;have HX2:=Lib.hid ((HXj.out.alloc (.cells #[.pointer (some ⟨p,0,none⟩), .bool sat] 67)).grown hG2.2 (fun e=>by injection e with e;omega));obtain ⟨A1,c1,A2,c2,rfl,_,_⟩:=yS hF
    have HF:=Lib.hid (Ft.mono hF (fun k hk=>⟨by have h:(wr.alloc (.cells #[.pointer (some ⟨p,0,none⟩), .bool sat] 67)).heap.size≤k:=(by first|exact hk|(rw [World.size_alloc];exact hk));rw [World.size_alloc]at h;omega,fun e=>by
     have h:(wr.alloc (.cells #[.pointer (some ⟨p,0,none⟩), .bool sat] 67)).heap.size≤k:=by (first|exact hk|(rw [World.size_alloc];exact hk))
     rw [World.size_alloc]at h;have:=(hne _ e.symm).2
     omega⟩):FK kFt W2 (fun k=>W.heap.size≤k∧some k≠u5.ownBlock) x _)
    have hgs:W.heap.size≤W2.heap.size:=by omega
    clear hG2 HV HPG hF b0 b1 hOw;go_wp2_with (at_builtin;refine Own.append (d:=kFt) W.heap.size rfl (.tmp 20) (.tmp 23) 24 98 _ 48 rfl Tryz.underlying24 Cw rfl (by decide) (by decide) u5 done x _ (fun k=>W.heap.size≤k) rfl rfl HF.out HO2.out hgs (by omega) ?_;intro v1 w1 hown1 hg1 hat1);have HO3:=Lib.hid hown1;have HG3:=Lib.hid hg1
    have hnX:some W.heap.size≠u5.ownBlock:=fun e=>by
     obtain ⟨_,ho,_⟩:=HO2.out;obtain ⟨cs,hcs⟩:=cK ho _ e.symm;rw [HX2.out]at hcs;simp at hcs
    clear hown1 hg1 hat1 HF HO2;go_wp2_with fail;go_roundw
    case rel=>
     refine ⟨j+1,done++ [x],a1,e1,by omega,by go_num,⟨HO3.out,HC2.out.grown' HG3.out (fun e=>np e.symm) (fun hl e=>by have:=(hne _ e.symm).1;have:=HQ.out hl;omega),bC HG2.out HG3.out (fun k hk=> .inr (hne k hk).1), ?_,by simp;omega⟩,HX2.out.grown HG3.out hnX⟩;rw [←HT0.out,List.append_assoc];rfl
    case measure=>simp [intOf];omega
   ·have he2:(e' ==0)=false:=beq_eq_false_iff_ne.2 he;have HPG:=Lib.hid (bz wr p q B a' e' sat false HLj.out.cur he2);have ht:=HLj.out.t;rw [gV _ _ _ _ he2,List.append_nil]at ht;have HT:=Lib.hid ht;clear ht he he2;go_wp2_with fail;refine HPG.out.mono ?_;rintro E wg ⟨rfl,rfl⟩;go_wp2_with fail;go_ret;rw [←HT.out];exact ⟨⟨_,rfl,HLj.out.own.below ((Below.refl _ _).alloc (Nat.le_refl _) _)⟩,HLj.out.cur.alloc _,HLj.out.g.trans (World.grownBy_alloc _ _ _)⟩
  ·obtain rfl:j=c:=by omega
   have ht:=HLj.out.t;rw [Nat.sub_self,lsM,List.append_nil]at ht;have HT:=Lib.hid ht;clear ht;go_wp2_with fail;go_ret;rw [←HT.out];exact ⟨⟨_,rfl,HLj.out.own⟩,HLj.out.cur,HLj.out.g⟩
theorem CV (g:FuncId) (hent:Enters Tryz.prog g) (rd:Nat→Int→vK×Nat×Int) (W:World) (p q:Nat) (B:List Int) (a:Nat) (e:Int) (sat:Bool) (hC:Cur W p q B a e) (hB:aK B)
  (hv:∀X a,Cur X p q B a 0→W.heap.size≤X.heap.size→Calls Tryz.prog g #[.agg #[.pointer (some ⟨p,0,none⟩), .bool sat]] X (iG iF X p q B (rd a 0))):
  Calls Tryz.prog 75 #[.agg #[.pointer (some ⟨p,0,none⟩), .bool sat], .func (.func g) #[.agg #[.pointer (some ⟨p,0,none⟩), .bool sat]] #[]] W (bM iF 105 W p q B (bq rd B a e)):=by
 have hc:=bK (a:=a) (e:=e) hB;have hin:∀args w,Sem.run Tryz.prog (callFunc g args) w= .ok (.enter g args) w:=hent;have hpl:=hC.lt;have HQ:=Lib.hid (fun hl=>hC.jN hl:0< B.length→q< W.heap.size);have H0:=Lib.hid (eT _ p q B a e (hC.alloc (.cells #[.pointer (some ⟨p,0,none⟩), .bool sat] 67)) hB);have HV0:=Lib.hid hv;have hdef:bq rd B a e=lsM rd (az (aG B a) a e).1.toNat (az (aG B a) a e).2.1 (az (aG B a) a e).2.2:=rfl;rw [hdef];clear hdef;generalize az (aG B a) a e=r at *;obtain ⟨n,a0,e0⟩:=r;dsimp only at hc;obtain ⟨c,rfl⟩:=Int.eq_ofNat_of_zero_le hc.1;rw [Int.toNat_natCast];obtain ⟨tg,htg⟩:∃tg,lsM rd c a0 e0=tg:=⟨_,rfl⟩;have HTG:=Lib.hid htg;rw [htg];have hc2:(c:Int)≤4096:=hc.2;have HX:=Lib.hid (Blk.new W #[.pointer (some ⟨p,0,none⟩), .bool sat] 67);clear hC hB hc htg hv hent;go_enter Tryz.func75,Tryz.ntmps75;go_wp2_with fail;refine H0.out.mono ?_;rintro E W1 ⟨rfl,hG1⟩;have hz1:=hG1.2.size;rw [World.size_alloc]at hz1;have HX1:=Lib.hid (HX.out.grown hG1.2 (fun e=>by injection e with e;omega));have HL:=Lib.hid (⟨Own.nil,hG1.1,(World.grownBy_alloc W _ _).trans hG1.2,by rw [Nat.sub_zero,HTG.out];rfl,Nat.le_refl _⟩:LL iF 105 rd W p q B tg c 0 (.slice none 0 0) [] a0 e0 W1);clear hG1 H0;go_wp2_with fail;go_loopw [5,7] (fun v i wr=>∃(j:Nat) (done:List vK) (a:Nat) (e:Int),j≤c∧i= .int .i64 j∧Hid (LL iF 105 rd W p q B tg c j v done a e wr)∧Hid (Blk wr W.heap.size #[.pointer (some ⟨p,0,none⟩), .bool sat] 67)) (fun _ i _=>c - (intOf i).toNat)
 case atStart=>exact ⟨0, [],a0,e0,Nat.zero_le _,rfl,HL,HX1⟩
 case round=>
  obtain ⟨j,done,a',e',hj,rfl,HLj,HXj⟩:=hrel;clear HL HX1;have b0:wr.cell? ⟨W.heap.size,0,none⟩=some (.pointer (some ⟨p,0,none⟩)):=HXj.out.cell 0;have b1:wr.cell? ⟨W.heap.size,1,none⟩=some (.bool sat):=HXj.out.cell 1;have hwl:=HXj.out.lt;by_cases hlt:j< c
  ·have hlt2:(j:Int)<(c:Int):=by omega
   by_cases he:e' =0
   ·subst he;have HPG:=Lib.hid (bz wr p q B a' 0 sat true HLj.out.cur rfl);have HV:=Lib.hid (HV0.out (wr.alloc (.cells #[.pointer (some ⟨p,0,none⟩), .bool sat] 67)) a' (HLj.out.cur.alloc _) (by rw [World.size_alloc];omega));have ht0:=HLj.out.t;rw [show c - j=(c - (j+1))+1 from by omega,lsM,if_pos rfl]at ht0;generalize rd a' 0=r at *;obtain ⟨x,a1,e1⟩:=r;have HT0:=Lib.hid ht0;have hX:=HLj.out.g.size;have hdl:=HLj.out.len;clear ht0;go_wp2_with fail;refine HPG.out.mono ?_;rintro E wg ⟨rfl,rfl⟩;go_wp2_with fail;refine HV.out.mono ?_;rintro E W2 ⟨⟨cs,rfl,hF⟩,hG2⟩;have hz2:=hG2.2.size;rw [World.size_alloc]at hz2;have hne:∀k,u5.ownBlock=some k→W.heap.size≤k∧k< wr.heap.size:=fun k hk=>Own.block HLj.out.own hk
    have np:u5.ownBlock≠some p:=fun e=>by have:=hne _ e;omega
    have hOw:=((HLj.out.own.below ((Below.refl _ _).alloc (Nat.le_refl _) (.cells #[.pointer (some ⟨p,0,none⟩), .bool sat] 67))).grown hG2.2 (.inr np) (fun k hk e=>by injection e with e;omega));have HO2:=Lib.hid hOw;have HG2:=Lib.hid (HLj.out.g.trans ((World.grownBy_alloc wr (.cells #[.pointer (some ⟨p,0,none⟩), .bool sat] 67) (some p)).trans hG2.2));have HC2:=Lib.hid hG2.1;have HX2:=Lib.hid ((HXj.out.alloc (.cells #[.pointer (some ⟨p,0,none⟩), .bool sat] 67)).grown hG2.2 (fun e=>by injection e with e;omega));obtain rfl:=lF hF
    have HF:=Lib.hid (Ft.mono hF (fun k hk=>⟨by have h:(wr.alloc (.cells #[.pointer (some ⟨p,0,none⟩), .bool sat] 67)).heap.size≤k:=(by first|exact hk|(rw [World.size_alloc];exact hk));rw [World.size_alloc]at h;omega,fun e=>by
     have h:(wr.alloc (.cells #[.pointer (some ⟨p,0,none⟩), .bool sat] 67)).heap.size≤k:=by (first|exact hk|(rw [World.size_alloc];exact hk))
     rw [World.size_alloc]at h;have:=(hne _ e.symm).2
     omega⟩):FK iF W2 (fun k=>W.heap.size≤k∧some k≠u5.ownBlock) x _)
    have hgs:W.heap.size≤W2.heap.size:=by omega
    clear hG2 HV HPG hF b0 b1 hOw;go_wp2_with (at_builtin;refine Own.append (d:=iF) W.heap.size rfl (.tmp 20) (.tmp 23) 25 105 _ 64 rfl Tryz.underlying25 Du rfl (by decide) (by decide) u5 done x _ (fun k=>W.heap.size≤k) rfl rfl HF.out HO2.out hgs (by omega) ?_;intro v1 w1 hown1 hg1 hat1);have HO3:=Lib.hid hown1;have HG3:=Lib.hid hg1
    have hnX:some W.heap.size≠u5.ownBlock:=fun e=>by
     obtain ⟨_,ho,_⟩:=HO2.out;obtain ⟨cs,hcs⟩:=cK ho _ e.symm;rw [HX2.out]at hcs;simp at hcs
    clear hown1 hg1 hat1 HF HO2;go_wp2_with fail;go_roundw
    case rel=>
     refine ⟨j+1,done++ [x],a1,e1,by omega,by go_num,⟨HO3.out,HC2.out.grown' HG3.out (fun e=>np e.symm) (fun hl e=>by have:=(hne _ e.symm).1;have:=HQ.out hl;omega),bC HG2.out HG3.out (fun k hk=> .inr (hne k hk).1), ?_,by simp;omega⟩,HX2.out.grown HG3.out hnX⟩;rw [←HT0.out,List.append_assoc];rfl
    case measure=>simp [intOf];omega
   ·have he2:(e' ==0)=false:=beq_eq_false_iff_ne.2 he;have HPG:=Lib.hid (bz wr p q B a' e' sat false HLj.out.cur he2);have ht:=HLj.out.t;rw [gV _ _ _ _ he2,List.append_nil]at ht;have HT:=Lib.hid ht;clear ht he he2;go_wp2_with fail;refine HPG.out.mono ?_;rintro E wg ⟨rfl,rfl⟩;go_wp2_with fail;go_ret;rw [←HT.out];exact ⟨⟨_,rfl,HLj.out.own.below ((Below.refl _ _).alloc (Nat.le_refl _) _)⟩,HLj.out.cur.alloc _,HLj.out.g.trans (World.grownBy_alloc _ _ _)⟩
  ·obtain rfl:j=c:=by omega
   have ht:=HLj.out.t;rw [Nat.sub_self,lsM,List.append_nil]at ht;have HT:=Lib.hid ht;clear ht;go_wp2_with fail;go_ret;rw [←HT.out];exact ⟨⟨_,rfl,HLj.out.own⟩,HLj.out.cur,HLj.out.g⟩
theorem DU (g:FuncId) (hent:Enters Tryz.prog g) (rd:Nat→Int→Int×Nat×Int) (W:World) (p q:Nat) (B:List Int) (a:Nat) (e:Int) (sat:Bool) (hC:Cur W p q B a e) (hB:aK B)
  (hv:∀X a,Cur X p q B a 0→W.heap.size≤X.heap.size→Calls Tryz.prog g #[.pointer (some ⟨p,0,none⟩)] X (Js X p q B (rd a 0))):
  Calls Tryz.prog 77 #[.agg #[.pointer (some ⟨p,0,none⟩), .bool sat], .func (.func g) #[.pointer (some ⟨p,0,none⟩)] #[]] W (bM (rng .u32) 30 W p q B (bq rd B a e)):=by
 have hc:=bK (a:=a) (e:=e) hB;have hin:∀args w,Sem.run Tryz.prog (callFunc g args) w= .ok (.enter g args) w:=hent;have hpl:=hC.lt;have HQ:=Lib.hid (fun hl=>hC.jN hl:0< B.length→q< W.heap.size);have H0:=Lib.hid (eT _ p q B a e (hC.alloc (.cells #[.pointer (some ⟨p,0,none⟩), .bool sat] 67)) hB);have HV0:=Lib.hid hv;have hdef:bq rd B a e=lsM rd (az (aG B a) a e).1.toNat (az (aG B a) a e).2.1 (az (aG B a) a e).2.2:=rfl;rw [hdef];clear hdef;generalize az (aG B a) a e=r at *;obtain ⟨n,a0,e0⟩:=r;dsimp only at hc;obtain ⟨c,rfl⟩:=Int.eq_ofNat_of_zero_le hc.1;rw [Int.toNat_natCast];obtain ⟨tg,htg⟩:∃tg,lsM rd c a0 e0=tg:=⟨_,rfl⟩;have HTG:=Lib.hid htg;rw [htg];have hc2:(c:Int)≤4096:=hc.2;have HX:=Lib.hid (Blk.new W #[.pointer (some ⟨p,0,none⟩), .bool sat] 67);clear hC hB hc htg hv hent;go_enter Tryz.func77,Tryz.ntmps77;go_wp2_with fail;refine H0.out.mono ?_;rintro E W1 ⟨rfl,hG1⟩;have hz1:=hG1.2.size;rw [World.size_alloc]at hz1;have HX1:=Lib.hid (HX.out.grown hG1.2 (fun e=>by injection e with e;omega));have HL:=Lib.hid (⟨Own.nil,hG1.1,(World.grownBy_alloc W _ _).trans hG1.2,by rw [Nat.sub_zero,HTG.out];rfl,Nat.le_refl _⟩:LL (rng .u32) 30 rd W p q B tg c 0 (.slice none 0 0) [] a0 e0 W1);clear hG1 H0;go_wp2_with fail;go_loopw [5,7] (fun v i wr=>∃(j:Nat) (done:List Int) (a:Nat) (e:Int),j≤c∧i= .int .i64 j∧Hid (LL (rng .u32) 30 rd W p q B tg c j v done a e wr)∧Hid (Blk wr W.heap.size #[.pointer (some ⟨p,0,none⟩), .bool sat] 67)) (fun _ i _=>c - (intOf i).toNat)
 case atStart=>exact ⟨0, [],a0,e0,Nat.zero_le _,rfl,HL,HX1⟩
 case round=>
  obtain ⟨j,done,a',e',hj,rfl,HLj,HXj⟩:=hrel;clear HL HX1;have b0:wr.cell? ⟨W.heap.size,0,none⟩=some (.pointer (some ⟨p,0,none⟩)):=HXj.out.cell 0;have b1:wr.cell? ⟨W.heap.size,1,none⟩=some (.bool sat):=HXj.out.cell 1;have hwl:=HXj.out.lt;by_cases hlt:j< c
  ·have hlt2:(j:Int)<(c:Int):=by omega
   by_cases he:e' =0
   ·subst he;have HPG:=Lib.hid (bz wr p q B a' 0 sat true HLj.out.cur rfl);have HV:=Lib.hid (HV0.out (wr.alloc (.cells #[.pointer (some ⟨p,0,none⟩), .bool sat] 67)) a' (HLj.out.cur.alloc _) (by rw [World.size_alloc];omega));have ht0:=HLj.out.t;rw [show c - j=(c - (j+1))+1 from by omega,lsM,if_pos rfl]at ht0;generalize rd a' 0=r at *;obtain ⟨x,a1,e1⟩:=r;have HT0:=Lib.hid ht0;have hX:=HLj.out.g.size;have hdl:=HLj.out.len;clear ht0;go_wp2_with fail;refine HPG.out.mono ?_;rintro E wg ⟨rfl,rfl⟩;go_wp2_with fail;refine HV.out.mono ?_;rintro E W2 ⟨hb,rfl,hG2⟩;have hz2:=hG2.2.size;rw [World.size_alloc]at hz2;have hne:∀k,u5.ownBlock=some k→W.heap.size≤k∧k< wr.heap.size:=fun k hk=>Own.block HLj.out.own hk
    have np:u5.ownBlock≠some p:=fun e=>by have:=hne _ e;omega
    have hOw:=((HLj.out.own.below ((Below.refl _ _).alloc (Nat.le_refl _) (.cells #[.pointer (some ⟨p,0,none⟩), .bool sat] 67))).grown hG2.2 (.inr np) (fun k hk e=>by injection e with e;omega));have HO2:=Lib.hid hOw;have HG2:=Lib.hid (HLj.out.g.trans ((World.grownBy_alloc wr (.cells #[.pointer (some ⟨p,0,none⟩), .bool sat] 67) (some p)).trans hG2.2));have HC2:=Lib.hid hG2.1;have HX2:=Lib.hid ((HXj.out.alloc (.cells #[.pointer (some ⟨p,0,none⟩), .bool sat] 67)).grown hG2.2 (fun e=>by injection e with e;omega));have hF:FK (rng .u32) W2 (fun k=>wr.heap.size+1≤k) x [.int .u32 x]:=fo (wf_u32 hb)
    have HF:=Lib.hid (Ft.mono hF (fun k hk=>⟨by have h:(wr.alloc (.cells #[.pointer (some ⟨p,0,none⟩), .bool sat] 67)).heap.size≤k:=(by first|exact hk|(rw [World.size_alloc];exact hk));rw [World.size_alloc]at h;omega,fun e=>by
     have h:(wr.alloc (.cells #[.pointer (some ⟨p,0,none⟩), .bool sat] 67)).heap.size≤k:=by (first|exact hk|(rw [World.size_alloc];exact hk))
     rw [World.size_alloc]at h;have:=(hne _ e.symm).2
     omega⟩):FK (rng .u32) W2 (fun k=>W.heap.size≤k∧some k≠u5.ownBlock) x _)
    have hgs:W.heap.size≤W2.heap.size:=by omega
    clear hG2 HV HPG hF b0 b1 hOw;go_wp2_with (at_builtin;refine Own.append (d:=(rng .u32)) W.heap.size rfl (.tmp 20) (.tmp 23) 69 30 _ 4 rfl Tryz.underlying69 DJ rfl (by decide) (by decide) u5 done x _ (fun k=>W.heap.size≤k) rfl rfl HF.out HO2.out hgs (by omega) ?_;intro v1 w1 hown1 hg1 hat1);have HO3:=Lib.hid hown1;have HG3:=Lib.hid hg1
    have hnX:some W.heap.size≠u5.ownBlock:=fun e=>by
     obtain ⟨_,ho,_⟩:=HO2.out;obtain ⟨cs,hcs⟩:=cK ho _ e.symm;rw [HX2.out]at hcs;simp at hcs
    clear hown1 hg1 hat1 HF HO2;go_wp2_with fail;go_roundw
    case rel=>
     refine ⟨j+1,done++ [x],a1,e1,by omega,by go_num,⟨HO3.out,HC2.out.grown' HG3.out (fun e=>np e.symm) (fun hl e=>by have:=(hne _ e.symm).1;have:=HQ.out hl;omega),bC HG2.out HG3.out (fun k hk=> .inr (hne k hk).1), ?_,by simp;omega⟩,HX2.out.grown HG3.out hnX⟩;rw [←HT0.out,List.append_assoc];rfl
    case measure=>simp [intOf];omega
   ·have he2:(e' ==0)=false:=beq_eq_false_iff_ne.2 he;have HPG:=Lib.hid (bz wr p q B a' e' sat false HLj.out.cur he2);have ht:=HLj.out.t;rw [gV _ _ _ _ he2,List.append_nil]at ht;have HT:=Lib.hid ht;clear ht he he2;go_wp2_with fail;refine HPG.out.mono ?_;rintro E wg ⟨rfl,rfl⟩;go_wp2_with fail;go_ret;rw [←HT.out];exact ⟨⟨_,rfl,HLj.out.own.below ((Below.refl _ _).alloc (Nat.le_refl _) _)⟩,HLj.out.cur.alloc _,HLj.out.g.trans (World.grownBy_alloc _ _ _)⟩
  ·obtain rfl:j=c:=by omega
   have ht:=HLj.out.t;rw [Nat.sub_self,lsM,List.append_nil]at ht;have HT:=Lib.hid ht;clear ht;go_wp2_with fail;go_ret;rw [←HT.out];exact ⟨⟨_,rfl,HLj.out.own⟩,HLj.out.cur,HLj.out.g⟩
theorem wC (g:FuncId) (hent:Enters Tryz.prog g) (rd:Nat→Int→(Int×Int×Bool)×Nat×Int) (W:World) (p q:Nat) (B:List Int) (a:Nat) (e:Int) (sat:Bool) (hC:Cur W p q B a e) (hB:aK B)
  (hv:∀X a,Cur X p q B a 0→W.heap.size≤X.heap.size→Calls Tryz.prog g #[.pointer (some ⟨p,0,none⟩)] X (iG dK X p q B (rd a 0))):
  Calls Tryz.prog 78 #[.agg #[.pointer (some ⟨p,0,none⟩), .bool sat], .func (.func g) #[.pointer (some ⟨p,0,none⟩)] #[]] W (bM dK 101 W p q B (bq rd B a e)):=by
 have hc:=bK (a:=a) (e:=e) hB;have hin:∀args w,Sem.run Tryz.prog (callFunc g args) w= .ok (.enter g args) w:=hent;have hpl:=hC.lt;have HQ:=Lib.hid (fun hl=>hC.jN hl:0< B.length→q< W.heap.size);have H0:=Lib.hid (eT _ p q B a e (hC.alloc (.cells #[.pointer (some ⟨p,0,none⟩), .bool sat] 67)) hB);have HV0:=Lib.hid hv;have hdef:bq rd B a e=lsM rd (az (aG B a) a e).1.toNat (az (aG B a) a e).2.1 (az (aG B a) a e).2.2:=rfl;rw [hdef];clear hdef;generalize az (aG B a) a e=r at *;obtain ⟨n,a0,e0⟩:=r;dsimp only at hc;obtain ⟨c,rfl⟩:=Int.eq_ofNat_of_zero_le hc.1;rw [Int.toNat_natCast];obtain ⟨tg,htg⟩:∃tg,lsM rd c a0 e0=tg:=⟨_,rfl⟩;have HTG:=Lib.hid htg;rw [htg];have hc2:(c:Int)≤4096:=hc.2;have HX:=Lib.hid (Blk.new W #[.pointer (some ⟨p,0,none⟩), .bool sat] 67);clear hC hB hc htg hv hent;go_enter Tryz.func78,Tryz.ntmps78;go_wp2_with fail;refine H0.out.mono ?_;rintro E W1 ⟨rfl,hG1⟩;have hz1:=hG1.2.size;rw [World.size_alloc]at hz1;have HX1:=Lib.hid (HX.out.grown hG1.2 (fun e=>by injection e with e;omega));have HL:=Lib.hid (⟨Own.nil,hG1.1,(World.grownBy_alloc W _ _).trans hG1.2,by rw [Nat.sub_zero,HTG.out];rfl,Nat.le_refl _⟩:LL dK 101 rd W p q B tg c 0 (.slice none 0 0) [] a0 e0 W1);clear hG1 H0;go_wp2_with fail;go_loopw [5,7] (fun v i wr=>∃(j:Nat) (done:List (Int×Int×Bool)) (a:Nat) (e:Int),j≤c∧i= .int .i64 j∧Hid (LL dK 101 rd W p q B tg c j v done a e wr)∧Hid (Blk wr W.heap.size #[.pointer (some ⟨p,0,none⟩), .bool sat] 67)) (fun _ i _=>c - (intOf i).toNat)
 case atStart=>exact ⟨0, [],a0,e0,Nat.zero_le _,rfl,HL,HX1⟩
 case round=>
  obtain ⟨j,done,a',e',hj,rfl,HLj,HXj⟩:=hrel;clear HL HX1;have b0:wr.cell? ⟨W.heap.size,0,none⟩=some (.pointer (some ⟨p,0,none⟩)):=HXj.out.cell 0;have b1:wr.cell? ⟨W.heap.size,1,none⟩=some (.bool sat):=HXj.out.cell 1;have hwl:=HXj.out.lt;by_cases hlt:j< c
  ·have hlt2:(j:Int)<(c:Int):=by omega
   by_cases he:e' =0
   ·subst he;have HPG:=Lib.hid (bz wr p q B a' 0 sat true HLj.out.cur rfl);have HV:=Lib.hid (HV0.out (wr.alloc (.cells #[.pointer (some ⟨p,0,none⟩), .bool sat] 67)) a' (HLj.out.cur.alloc _) (by rw [World.size_alloc];omega));have ht0:=HLj.out.t;rw [show c - j=(c - (j+1))+1 from by omega,lsM,if_pos rfl]at ht0;generalize rd a' 0=r at *;obtain ⟨x,a1,e1⟩:=r;have HT0:=Lib.hid ht0;have hX:=HLj.out.g.size;have hdl:=HLj.out.len;clear ht0;go_wp2_with fail;refine HPG.out.mono ?_;rintro E wg ⟨rfl,rfl⟩;go_wp2_with fail;refine HV.out.mono ?_;rintro E W2 ⟨⟨cs,rfl,hF⟩,hG2⟩;have hz2:=hG2.2.size;rw [World.size_alloc]at hz2;have hne:∀k,u5.ownBlock=some k→W.heap.size≤k∧k< wr.heap.size:=fun k hk=>Own.block HLj.out.own hk
    have np:u5.ownBlock≠some p:=fun e=>by have:=hne _ e;omega
    have hOw:=((HLj.out.own.below ((Below.refl _ _).alloc (Nat.le_refl _) (.cells #[.pointer (some ⟨p,0,none⟩), .bool sat] 67))).grown hG2.2 (.inr np) (fun k hk e=>by injection e with e;omega));have HO2:=Lib.hid hOw;have HG2:=Lib.hid (HLj.out.g.trans ((World.grownBy_alloc wr (.cells #[.pointer (some ⟨p,0,none⟩), .bool sat] 67) (some p)).trans hG2.2));have HC2:=Lib.hid hG2.1;have HX2:=Lib.hid ((HXj.out.alloc (.cells #[.pointer (some ⟨p,0,none⟩), .bool sat] 67)).grown hG2.2 (fun e=>by injection e with e;omega));obtain rfl:=nT hF
    have HF:=Lib.hid (Ft.mono hF (fun k hk=>⟨by have h:(wr.alloc (.cells #[.pointer (some ⟨p,0,none⟩), .bool sat] 67)).heap.size≤k:=(by first|exact hk|(rw [World.size_alloc];exact hk));rw [World.size_alloc]at h;omega,fun e=>by
     have h:(wr.alloc (.cells #[.pointer (some ⟨p,0,none⟩), .bool sat] 67)).heap.size≤k:=by (first|exact hk|(rw [World.size_alloc];exact hk))
     rw [World.size_alloc]at h;have:=(hne _ e.symm).2
     omega⟩):FK dK W2 (fun k=>W.heap.size≤k∧some k≠u5.ownBlock) x _)
    have hgs:W.heap.size≤W2.heap.size:=by omega
    clear hG2 HV HPG hF b0 b1 hOw;go_wp2_with (at_builtin;refine Own.append (d:=dK) W.heap.size rfl (.tmp 20) (.tmp 23) 27 101 _ 12 rfl Tryz.underlying27 Dc rfl (by decide) (by decide) u5 done x _ (fun k=>W.heap.size≤k) rfl rfl HF.out HO2.out hgs (by omega) ?_;intro v1 w1 hown1 hg1 hat1);have HO3:=Lib.hid hown1;have HG3:=Lib.hid hg1
    have hnX:some W.heap.size≠u5.ownBlock:=fun e=>by
     obtain ⟨_,ho,_⟩:=HO2.out;obtain ⟨cs,hcs⟩:=cK ho _ e.symm;rw [HX2.out]at hcs;simp at hcs
    clear hown1 hg1 hat1 HF HO2;go_wp2_with fail;go_roundw
    case rel=>
     refine ⟨j+1,done++ [x],a1,e1,by omega,by go_num,⟨HO3.out,HC2.out.grown' HG3.out (fun e=>np e.symm) (fun hl e=>by have:=(hne _ e.symm).1;have:=HQ.out hl;omega),bC HG2.out HG3.out (fun k hk=> .inr (hne k hk).1), ?_,by simp;omega⟩,HX2.out.grown HG3.out hnX⟩;rw [←HT0.out,List.append_assoc];rfl
    case measure=>simp [intOf];omega
   ·have he2:(e' ==0)=false:=beq_eq_false_iff_ne.2 he;have HPG:=Lib.hid (bz wr p q B a' e' sat false HLj.out.cur he2);have ht:=HLj.out.t;rw [gV _ _ _ _ he2,List.append_nil]at ht;have HT:=Lib.hid ht;clear ht he he2;go_wp2_with fail;refine HPG.out.mono ?_;rintro E wg ⟨rfl,rfl⟩;go_wp2_with fail;go_ret;rw [←HT.out];exact ⟨⟨_,rfl,HLj.out.own.below ((Below.refl _ _).alloc (Nat.le_refl _) _)⟩,HLj.out.cur.alloc _,HLj.out.g.trans (World.grownBy_alloc _ _ _)⟩
  ·obtain rfl:j=c:=by omega
   have ht:=HLj.out.t;rw [Nat.sub_self,lsM,List.append_nil]at ht;have HT:=Lib.hid ht;clear ht;go_wp2_with fail;go_ret;rw [←HT.out];exact ⟨⟨_,rfl,HLj.out.own⟩,HLj.out.cur,HLj.out.g⟩
theorem Ae (g:FuncId) (hent:Enters Tryz.prog g) (rd:Nat→Int→ky×Nat×Int) (W:World) (p q:Nat) (B:List Int) (a:Nat) (e:Int) (sat:Bool) (hC:Cur W p q B a e) (hB:aK B)
  (hv:∀X a,Cur X p q B a 0→W.heap.size≤X.heap.size→Calls Tryz.prog g #[.agg #[.pointer (some ⟨p,0,none⟩), .bool sat]] X (iG ja X p q B (rd a 0))):
  Calls Tryz.prog 81 #[.agg #[.pointer (some ⟨p,0,none⟩), .bool sat], .func (.func g) #[.agg #[.pointer (some ⟨p,0,none⟩), .bool sat]] #[]] W (bM ja 114 W p q B (bq rd B a e)):=by
 have hc:=bK (a:=a) (e:=e) hB;have hin:∀args w,Sem.run Tryz.prog (callFunc g args) w= .ok (.enter g args) w:=hent;have hpl:=hC.lt;have HQ:=Lib.hid (fun hl=>hC.jN hl:0< B.length→q< W.heap.size);have H0:=Lib.hid (eT _ p q B a e (hC.alloc (.cells #[.pointer (some ⟨p,0,none⟩), .bool sat] 67)) hB);have HV0:=Lib.hid hv;have hdef:bq rd B a e=lsM rd (az (aG B a) a e).1.toNat (az (aG B a) a e).2.1 (az (aG B a) a e).2.2:=rfl;rw [hdef];clear hdef;generalize az (aG B a) a e=r at *;obtain ⟨n,a0,e0⟩:=r;dsimp only at hc;obtain ⟨c,rfl⟩:=Int.eq_ofNat_of_zero_le hc.1;rw [Int.toNat_natCast];obtain ⟨tg,htg⟩:∃tg,lsM rd c a0 e0=tg:=⟨_,rfl⟩;have HTG:=Lib.hid htg;rw [htg];have hc2:(c:Int)≤4096:=hc.2;have HX:=Lib.hid (Blk.new W #[.pointer (some ⟨p,0,none⟩), .bool sat] 67);clear hC hB hc htg hv hent;go_enter Tryz.func81,Tryz.ntmps81;go_wp2_with fail;refine H0.out.mono ?_;rintro E W1 ⟨rfl,hG1⟩;have hz1:=hG1.2.size;rw [World.size_alloc]at hz1;have HX1:=Lib.hid (HX.out.grown hG1.2 (fun e=>by injection e with e;omega));have HL:=Lib.hid (⟨Own.nil,hG1.1,(World.grownBy_alloc W _ _).trans hG1.2,by rw [Nat.sub_zero,HTG.out];rfl,Nat.le_refl _⟩:LL ja 114 rd W p q B tg c 0 (.slice none 0 0) [] a0 e0 W1);clear hG1 H0;go_wp2_with fail;go_loopw [5,7] (fun v i wr=>∃(j:Nat) (done:List ky) (a:Nat) (e:Int),j≤c∧i= .int .i64 j∧Hid (LL ja 114 rd W p q B tg c j v done a e wr)∧Hid (Blk wr W.heap.size #[.pointer (some ⟨p,0,none⟩), .bool sat] 67)) (fun _ i _=>c - (intOf i).toNat)
 case atStart=>exact ⟨0, [],a0,e0,Nat.zero_le _,rfl,HL,HX1⟩
 case round=>
  obtain ⟨j,done,a',e',hj,rfl,HLj,HXj⟩:=hrel;clear HL HX1;have b0:wr.cell? ⟨W.heap.size,0,none⟩=some (.pointer (some ⟨p,0,none⟩)):=HXj.out.cell 0;have b1:wr.cell? ⟨W.heap.size,1,none⟩=some (.bool sat):=HXj.out.cell 1;have hwl:=HXj.out.lt;by_cases hlt:j< c
  ·have hlt2:(j:Int)<(c:Int):=by omega
   by_cases he:e' =0
   ·subst he;have HPG:=Lib.hid (bz wr p q B a' 0 sat true HLj.out.cur rfl);have HV:=Lib.hid (HV0.out (wr.alloc (.cells #[.pointer (some ⟨p,0,none⟩), .bool sat] 67)) a' (HLj.out.cur.alloc _) (by rw [World.size_alloc];omega));have ht0:=HLj.out.t;rw [show c - j=(c - (j+1))+1 from by omega,lsM,if_pos rfl]at ht0;generalize rd a' 0=r at *;obtain ⟨x,a1,e1⟩:=r;have HT0:=Lib.hid ht0;have hX:=HLj.out.g.size;have hdl:=HLj.out.len;clear ht0;go_wp2_with fail;refine HPG.out.mono ?_;rintro E wg ⟨rfl,rfl⟩;go_wp2_with fail;refine HV.out.mono ?_;rintro E W2 ⟨⟨cs,rfl,hF⟩,hG2⟩;have hz2:=hG2.2.size;rw [World.size_alloc]at hz2;have hne:∀k,u5.ownBlock=some k→W.heap.size≤k∧k< wr.heap.size:=fun k hk=>Own.block HLj.out.own hk
    have np:u5.ownBlock≠some p:=fun e=>by have:=hne _ e;omega
    have hOw:=((HLj.out.own.below ((Below.refl _ _).alloc (Nat.le_refl _) (.cells #[.pointer (some ⟨p,0,none⟩), .bool sat] 67))).grown hG2.2 (.inr np) (fun k hk e=>by injection e with e;omega));have HO2:=Lib.hid hOw;have HG2:=Lib.hid (HLj.out.g.trans ((World.grownBy_alloc wr (.cells #[.pointer (some ⟨p,0,none⟩), .bool sat] 67) (some p)).trans hG2.2));have HC2:=Lib.hid hG2.1;have HX2:=Lib.hid ((HXj.out.alloc (.cells #[.pointer (some ⟨p,0,none⟩), .bool sat] 67)).grown hG2.2 (fun e=>by injection e with e;omega));obtain ⟨A1,c1,rfl,_,_⟩:=sD hF
    have HF:=Lib.hid (Ft.mono hF (fun k hk=>⟨by have h:(wr.alloc (.cells #[.pointer (some ⟨p,0,none⟩), .bool sat] 67)).heap.size≤k:=(by first|exact hk|(rw [World.size_alloc];exact hk));rw [World.size_alloc]at h;omega,fun e=>by
     have h:(wr.alloc (.cells #[.pointer (some ⟨p,0,none⟩), .bool sat] 67)).heap.size≤k:=by (first|exact hk|(rw [World.size_alloc];exact hk))
     rw [World.size_alloc]at h;have:=(hne _ e.symm).2
     omega⟩):FK ja W2 (fun k=>W.heap.size≤k∧some k≠u5.ownBlock) x _)
    have hgs:W.heap.size≤W2.heap.size:=by omega
    clear hG2 HV HPG hF b0 b1 hOw;go_wp2_with (at_builtin;refine Own.append (d:=ja) W.heap.size rfl (.tmp 20) (.tmp 23) 28 114 _ 32 rfl Tryz.underlying28 Bg rfl (by decide) (by decide) u5 done x _ (fun k=>W.heap.size≤k) rfl rfl HF.out HO2.out hgs (by omega) ?_;intro v1 w1 hown1 hg1 hat1);have HO3:=Lib.hid hown1;have HG3:=Lib.hid hg1
    have hnX:some W.heap.size≠u5.ownBlock:=fun e=>by
     obtain ⟨_,ho,_⟩:=HO2.out;obtain ⟨cs,hcs⟩:=cK ho _ e.symm;rw [HX2.out]at hcs;simp at hcs
    clear hown1 hg1 hat1 HF HO2;go_wp2_with fail;go_roundw
    case rel=>
     refine ⟨j+1,done++ [x],a1,e1,by omega,by go_num,⟨HO3.out,HC2.out.grown' HG3.out (fun e=>np e.symm) (fun hl e=>by have:=(hne _ e.symm).1;have:=HQ.out hl;omega),bC HG2.out HG3.out (fun k hk=> .inr (hne k hk).1), ?_,by simp;omega⟩,HX2.out.grown HG3.out hnX⟩;rw [←HT0.out,List.append_assoc];rfl
    case measure=>simp [intOf];omega
   ·have he2:(e' ==0)=false:=beq_eq_false_iff_ne.2 he;have HPG:=Lib.hid (bz wr p q B a' e' sat false HLj.out.cur he2);have ht:=HLj.out.t;rw [gV _ _ _ _ he2,List.append_nil]at ht;have HT:=Lib.hid ht;clear ht he he2;go_wp2_with fail;refine HPG.out.mono ?_;rintro E wg ⟨rfl,rfl⟩;go_wp2_with fail;go_ret;rw [←HT.out];exact ⟨⟨_,rfl,HLj.out.own.below ((Below.refl _ _).alloc (Nat.le_refl _) _)⟩,HLj.out.cur.alloc _,HLj.out.g.trans (World.grownBy_alloc _ _ _)⟩
  ·obtain rfl:j=c:=by omega
   have ht:=HLj.out.t;rw [Nat.sub_self,lsM,List.append_nil]at ht;have HT:=Lib.hid ht;clear ht;go_wp2_with fail;go_ret;rw [←HT.out];exact ⟨⟨_,rfl,HLj.out.own⟩,HLj.out.cur,HLj.out.g⟩
theorem BZ (g:FuncId) (hent:Enters Tryz.prog g) (rd:Nat→Int→uw×Nat×Int) (W:World) (p q:Nat) (B:List Int) (a:Nat) (e:Int) (sat:Bool) (hC:Cur W p q B a e) (hB:aK B)
  (hv:∀X a,Cur X p q B a 0→W.heap.size≤X.heap.size→Calls Tryz.prog g #[.agg #[.pointer (some ⟨p,0,none⟩), .bool sat]] X (iG iB X p q B (rd a 0))):
  Calls Tryz.prog 83 #[.agg #[.pointer (some ⟨p,0,none⟩), .bool sat], .func (.func g) #[.agg #[.pointer (some ⟨p,0,none⟩), .bool sat]] #[]] W (bM iB 110 W p q B (bq rd B a e)):=by
 have hc:=bK (a:=a) (e:=e) hB;have hin:∀args w,Sem.run Tryz.prog (callFunc g args) w= .ok (.enter g args) w:=hent;have hpl:=hC.lt;have HQ:=Lib.hid (fun hl=>hC.jN hl:0< B.length→q< W.heap.size);have H0:=Lib.hid (eT _ p q B a e (hC.alloc (.cells #[.pointer (some ⟨p,0,none⟩), .bool sat] 67)) hB);have HV0:=Lib.hid hv;have hdef:bq rd B a e=lsM rd (az (aG B a) a e).1.toNat (az (aG B a) a e).2.1 (az (aG B a) a e).2.2:=rfl;rw [hdef];clear hdef;generalize az (aG B a) a e=r at *;obtain ⟨n,a0,e0⟩:=r;dsimp only at hc;obtain ⟨c,rfl⟩:=Int.eq_ofNat_of_zero_le hc.1;rw [Int.toNat_natCast];obtain ⟨tg,htg⟩:∃tg,lsM rd c a0 e0=tg:=⟨_,rfl⟩;have HTG:=Lib.hid htg;rw [htg];have hc2:(c:Int)≤4096:=hc.2;have HX:=Lib.hid (Blk.new W #[.pointer (some ⟨p,0,none⟩), .bool sat] 67);clear hC hB hc htg hv hent;go_enter Tryz.func83,Tryz.ntmps83;go_wp2_with fail;refine H0.out.mono ?_;rintro E W1 ⟨rfl,hG1⟩;have hz1:=hG1.2.size;rw [World.size_alloc]at hz1;have HX1:=Lib.hid (HX.out.grown hG1.2 (fun e=>by injection e with e;omega));have HL:=Lib.hid (⟨Own.nil,hG1.1,(World.grownBy_alloc W _ _).trans hG1.2,by rw [Nat.sub_zero,HTG.out];rfl,Nat.le_refl _⟩:LL iB 110 rd W p q B tg c 0 (.slice none 0 0) [] a0 e0 W1);clear hG1 H0;go_wp2_with fail;go_loopw [5,7] (fun v i wr=>∃(j:Nat) (done:List uw) (a:Nat) (e:Int),j≤c∧i= .int .i64 j∧Hid (LL iB 110 rd W p q B tg c j v done a e wr)∧Hid (Blk wr W.heap.size #[.pointer (some ⟨p,0,none⟩), .bool sat] 67)) (fun _ i _=>c - (intOf i).toNat)
 case atStart=>exact ⟨0, [],a0,e0,Nat.zero_le _,rfl,HL,HX1⟩
 case round=>
  obtain ⟨j,done,a',e',hj,rfl,HLj,HXj⟩:=hrel;clear HL HX1;have b0:wr.cell? ⟨W.heap.size,0,none⟩=some (.pointer (some ⟨p,0,none⟩)):=HXj.out.cell 0;have b1:wr.cell? ⟨W.heap.size,1,none⟩=some (.bool sat):=HXj.out.cell 1;have hwl:=HXj.out.lt;by_cases hlt:j< c
  ·have hlt2:(j:Int)<(c:Int):=by omega
   by_cases he:e' =0
   ·subst he;have HPG:=Lib.hid (bz wr p q B a' 0 sat true HLj.out.cur rfl);have HV:=Lib.hid (HV0.out (wr.alloc (.cells #[.pointer (some ⟨p,0,none⟩), .bool sat] 67)) a' (HLj.out.cur.alloc _) (by rw [World.size_alloc];omega));have ht0:=HLj.out.t;rw [show c - j=(c - (j+1))+1 from by omega,lsM,if_pos rfl]at ht0;generalize rd a' 0=r at *;obtain ⟨x,a1,e1⟩:=r;have HT0:=Lib.hid ht0;have hX:=HLj.out.g.size;have hdl:=HLj.out.len;clear ht0;go_wp2_with fail;refine HPG.out.mono ?_;rintro E wg ⟨rfl,rfl⟩;go_wp2_with fail;refine HV.out.mono ?_;rintro E W2 ⟨⟨cs,rfl,hF⟩,hG2⟩;have hz2:=hG2.2.size;rw [World.size_alloc]at hz2;have hne:∀k,u5.ownBlock=some k→W.heap.size≤k∧k< wr.heap.size:=fun k hk=>Own.block HLj.out.own hk
    have np:u5.ownBlock≠some p:=fun e=>by have:=hne _ e;omega
    have hOw:=((HLj.out.own.below ((Below.refl _ _).alloc (Nat.le_refl _) (.cells #[.pointer (some ⟨p,0,none⟩), .bool sat] 67))).grown hG2.2 (.inr np) (fun k hk e=>by injection e with e;omega));have HO2:=Lib.hid hOw;have HG2:=Lib.hid (HLj.out.g.trans ((World.grownBy_alloc wr (.cells #[.pointer (some ⟨p,0,none⟩), .bool sat] 67) (some p)).trans hG2.2));have HC2:=Lib.hid hG2.1;have HX2:=Lib.hid ((HXj.out.alloc (.cells #[.pointer (some ⟨p,0,none⟩), .bool sat] 67)).grown hG2.2 (fun e=>by injection e with e;omega));obtain rfl:=nL hF
    have HF:=Lib.hid (Ft.mono hF (fun k hk=>⟨by have h:(wr.alloc (.cells #[.pointer (some ⟨p,0,none⟩), .bool sat] 67)).heap.size≤k:=(by first|exact hk|(rw [World.size_alloc];exact hk));rw [World.size_alloc]at h;omega,fun e=>by
     have h:(wr.alloc (.cells #[.pointer (some ⟨p,0,none⟩), .bool sat] 67)).heap.size≤k:=by (first|exact hk|(rw [World.size_alloc];exact hk))
     rw [World.size_alloc]at h;have:=(hne _ e.symm).2
     omega⟩):FK iB W2 (fun k=>W.heap.size≤k∧some k≠u5.ownBlock) x _)
    have hgs:W.heap.size≤W2.heap.size:=by omega
    clear hG2 HV HPG hF b0 b1 hOw;go_wp2_with (at_builtin;refine Own.append (d:=iB) W.heap.size rfl (.tmp 20) (.tmp 23) 29 110 _ 32 rfl Tryz.underlying29 Ex rfl (by decide) (by decide) u5 done x _ (fun k=>W.heap.size≤k) rfl rfl HF.out HO2.out hgs (by omega) ?_;intro v1 w1 hown1 hg1 hat1);have HO3:=Lib.hid hown1;have HG3:=Lib.hid hg1
    have hnX:some W.heap.size≠u5.ownBlock:=fun e=>by
     obtain ⟨_,ho,_⟩:=HO2.out;obtain ⟨cs,hcs⟩:=cK ho _ e.symm;rw [HX2.out]at hcs;simp at hcs
    clear hown1 hg1 hat1 HF HO2;go_wp2_with fail;go_roundw
    case rel=>
     refine ⟨j+1,done++ [x],a1,e1,by omega,by go_num,⟨HO3.out,HC2.out.grown' HG3.out (fun e=>np e.symm) (fun hl e=>by have:=(hne _ e.symm).1;have:=HQ.out hl;omega),bC HG2.out HG3.out (fun k hk=> .inr (hne k hk).1), ?_,by simp;omega⟩,HX2.out.grown HG3.out hnX⟩;rw [←HT0.out,List.append_assoc];rfl
    case measure=>simp [intOf];omega
   ·have he2:(e' ==0)=false:=beq_eq_false_iff_ne.2 he;have HPG:=Lib.hid (bz wr p q B a' e' sat false HLj.out.cur he2);have ht:=HLj.out.t;rw [gV _ _ _ _ he2,List.append_nil]at ht;have HT:=Lib.hid ht;clear ht he he2;go_wp2_with fail;refine HPG.out.mono ?_;rintro E wg ⟨rfl,rfl⟩;go_wp2_with fail;go_ret;rw [←HT.out];exact ⟨⟨_,rfl,HLj.out.own.below ((Below.refl _ _).alloc (Nat.le_refl _) _)⟩,HLj.out.cur.alloc _,HLj.out.g.trans (World.grownBy_alloc _ _ _)⟩
  ·obtain rfl:j=c:=by omega
   have ht:=HLj.out.t;rw [Nat.sub_self,lsM,List.append_nil]at ht;have HT:=Lib.hid ht;clear ht;go_wp2_with fail;go_ret;rw [←HT.out];exact ⟨⟨_,rfl,HLj.out.own⟩,HLj.out.cur,HLj.out.g⟩
theorem BC (g:FuncId) (hent:Enters Tryz.prog g) (rd:Nat→Int→kN×Nat×Int) (W:World) (p q:Nat) (B:List Int) (a:Nat) (e:Int) (sat:Bool) (hC:Cur W p q B a e) (hB:aK B)
  (hv:∀X a,Cur X p q B a 0→W.heap.size≤X.heap.size→Calls Tryz.prog g #[.agg #[.pointer (some ⟨p,0,none⟩), .bool sat]] X (iG jc X p q B (rd a 0))):
  Calls Tryz.prog 85 #[.agg #[.pointer (some ⟨p,0,none⟩), .bool sat], .func (.func g) #[.agg #[.pointer (some ⟨p,0,none⟩), .bool sat]] #[]] W (bM jc 118 W p q B (bq rd B a e)):=by
 have hc:=bK (a:=a) (e:=e) hB;have hin:∀args w,Sem.run Tryz.prog (callFunc g args) w= .ok (.enter g args) w:=hent;have hpl:=hC.lt;have HQ:=Lib.hid (fun hl=>hC.jN hl:0< B.length→q< W.heap.size);have H0:=Lib.hid (eT _ p q B a e (hC.alloc (.cells #[.pointer (some ⟨p,0,none⟩), .bool sat] 67)) hB);have HV0:=Lib.hid hv;have hdef:bq rd B a e=lsM rd (az (aG B a) a e).1.toNat (az (aG B a) a e).2.1 (az (aG B a) a e).2.2:=rfl;rw [hdef];clear hdef;generalize az (aG B a) a e=r at *;obtain ⟨n,a0,e0⟩:=r;dsimp only at hc;obtain ⟨c,rfl⟩:=Int.eq_ofNat_of_zero_le hc.1;rw [Int.toNat_natCast];obtain ⟨tg,htg⟩:∃tg,lsM rd c a0 e0=tg:=⟨_,rfl⟩;have HTG:=Lib.hid htg;rw [htg];have hc2:(c:Int)≤4096:=hc.2;have HX:=Lib.hid (Blk.new W #[.pointer (some ⟨p,0,none⟩), .bool sat] 67);clear hC hB hc htg hv hent;go_enter Tryz.func85,Tryz.ntmps85;go_wp2_with fail;refine H0.out.mono ?_;rintro E W1 ⟨rfl,hG1⟩;have hz1:=hG1.2.size;rw [World.size_alloc]at hz1;have HX1:=Lib.hid (HX.out.grown hG1.2 (fun e=>by injection e with e;omega));have HL:=Lib.hid (⟨Own.nil,hG1.1,(World.grownBy_alloc W _ _).trans hG1.2,by rw [Nat.sub_zero,HTG.out];rfl,Nat.le_refl _⟩:LL jc 118 rd W p q B tg c 0 (.slice none 0 0) [] a0 e0 W1);clear hG1 H0;go_wp2_with fail;go_loopw [5,7] (fun v i wr=>∃(j:Nat) (done:List kN) (a:Nat) (e:Int),j≤c∧i= .int .i64 j∧Hid (LL jc 118 rd W p q B tg c j v done a e wr)∧Hid (Blk wr W.heap.size #[.pointer (some ⟨p,0,none⟩), .bool sat] 67)) (fun _ i _=>c - (intOf i).toNat)
 case atStart=>exact ⟨0, [],a0,e0,Nat.zero_le _,rfl,HL,HX1⟩
 case round=>
  obtain ⟨j,done,a',e',hj,rfl,HLj,HXj⟩:=hrel;clear HL HX1;have b0:wr.cell? ⟨W.heap.size,0,none⟩=some (.pointer (some ⟨p,0,none⟩)):=HXj.out.cell 0;have b1:wr.cell? ⟨W.heap.size,1,none⟩=some (.bool sat):=HXj.out.cell 1;have hwl:=HXj.out.lt;by_cases hlt:j< c
  ·have hlt2:(j:Int)<(c:Int):=by omega
   by_cases he:e' =0
   ·subst he;have HPG:=Lib.hid (bz wr p q B a' 0 sat true HLj.out.cur rfl);have HV:=Lib.hid (HV0.out (wr.alloc (.cells #[.pointer (some ⟨p,0,none⟩), .bool sat] 67)) a' (HLj.out.cur.alloc _) (by rw [World.size_alloc];omega));have ht0:=HLj.out.t;rw [show c - j=(c - (j+1))+1 from by omega,lsM,if_pos rfl]at ht0;generalize rd a' 0=r at *;obtain ⟨x,a1,e1⟩:=r;have HT0:=Lib.hid ht0;have hX:=HLj.out.g.size;have hdl:=HLj.out.len;clear ht0;go_wp2_with fail;refine HPG.out.mono ?_;rintro E wg ⟨rfl,rfl⟩;go_wp2_with fail;refine HV.out.mono ?_;rintro E W2 ⟨⟨cs,rfl,hF⟩,hG2⟩;have hz2:=hG2.2.size;rw [World.size_alloc]at hz2;have hne:∀k,u5.ownBlock=some k→W.heap.size≤k∧k< wr.heap.size:=fun k hk=>Own.block HLj.out.own hk
    have np:u5.ownBlock≠some p:=fun e=>by have:=hne _ e;omega
    have hOw:=((HLj.out.own.below ((Below.refl _ _).alloc (Nat.le_refl _) (.cells #[.pointer (some ⟨p,0,none⟩), .bool sat] 67))).grown hG2.2 (.inr np) (fun k hk e=>by injection e with e;omega));have HO2:=Lib.hid hOw;have HG2:=Lib.hid (HLj.out.g.trans ((World.grownBy_alloc wr (.cells #[.pointer (some ⟨p,0,none⟩), .bool sat] 67) (some p)).trans hG2.2));have HC2:=Lib.hid hG2.1;have HX2:=Lib.hid ((HXj.out.alloc (.cells #[.pointer (some ⟨p,0,none⟩), .bool sat] 67)).grown hG2.2 (fun e=>by injection e with e;omega));obtain ⟨A1,c1,A2,c2,rfl,_,_⟩:=sG hF
    have HF:=Lib.hid (Ft.mono hF (fun k hk=>⟨by have h:(wr.alloc (.cells #[.pointer (some ⟨p,0,none⟩), .bool sat] 67)).heap.size≤k:=(by first|exact hk|(rw [World.size_alloc];exact hk));rw [World.size_alloc]at h;omega,fun e=>by
     have h:(wr.alloc (.cells #[.pointer (some ⟨p,0,none⟩), .bool sat] 67)).heap.size≤k:=by (first|exact hk|(rw [World.size_alloc];exact hk))
     rw [World.size_alloc]at h;have:=(hne _ e.symm).2
     omega⟩):FK jc W2 (fun k=>W.heap.size≤k∧some k≠u5.ownBlock) x _)
    have hgs:W.heap.size≤W2.heap.size:=by omega
    clear hG2 HV HPG hF b0 b1 hOw;go_wp2_with (at_builtin;refine Own.append (d:=jc) W.heap.size rfl (.tmp 20) (.tmp 23) 31 118 _ 56 rfl Tryz.underlying31 A8 rfl (by decide) (by decide) u5 done x _ (fun k=>W.heap.size≤k) rfl rfl HF.out HO2.out hgs (by omega) ?_;intro v1 w1 hown1 hg1 hat1);have HO3:=Lib.hid hown1;have HG3:=Lib.hid hg1
    have hnX:some W.heap.size≠u5.ownBlock:=fun e=>by
     obtain ⟨_,ho,_⟩:=HO2.out;obtain ⟨cs,hcs⟩:=cK ho _ e.symm;rw [HX2.out]at hcs;simp at hcs
    clear hown1 hg1 hat1 HF HO2;go_wp2_with fail;go_roundw
    case rel=>
     refine ⟨j+1,done++ [x],a1,e1,by omega,by go_num,⟨HO3.out,HC2.out.grown' HG3.out (fun e=>np e.symm) (fun hl e=>by have:=(hne _ e.symm).1;have:=HQ.out hl;omega),bC HG2.out HG3.out (fun k hk=> .inr (hne k hk).1), ?_,by simp;omega⟩,HX2.out.grown HG3.out hnX⟩;rw [←HT0.out,List.append_assoc];rfl
    case measure=>simp [intOf];omega
   ·have he2:(e' ==0)=false:=beq_eq_false_iff_ne.2 he;have HPG:=Lib.hid (bz wr p q B a' e' sat false HLj.out.cur he2);have ht:=HLj.out.t;rw [gV _ _ _ _ he2,List.append_nil]at ht;have HT:=Lib.hid ht;clear ht he he2;go_wp2_with fail;refine HPG.out.mono ?_;rintro E wg ⟨rfl,rfl⟩;go_wp2_with fail;go_ret;rw [←HT.out];exact ⟨⟨_,rfl,HLj.out.own.below ((Below.refl _ _).alloc (Nat.le_refl _) _)⟩,HLj.out.cur.alloc _,HLj.out.g.trans (World.grownBy_alloc _ _ _)⟩
  ·obtain rfl:j=c:=by omega
   have ht:=HLj.out.t;rw [Nat.sub_self,lsM,List.append_nil]at ht;have HT:=Lib.hid ht;clear ht;go_wp2_with fail;go_ret;rw [←HT.out];exact ⟨⟨_,rfl,HLj.out.own⟩,HLj.out.cur,HLj.out.g⟩
theorem list_fn (g:FuncId) (hent:Enters Tryz.prog g) (rd:Nat→Int→FnD×Nat×Int) (W:World) (p q:Nat) (B:List Int) (a:Nat) (e:Int) (sat:Bool) (hC:Cur W p q B a e) (hB:aK B)
  (hv:∀X a,Cur X p q B a 0→W.heap.size≤X.heap.size→Calls Tryz.prog g #[.agg #[.pointer (some ⟨p,0,none⟩), .bool sat]] X (iG kFn X p q B (rd a 0))):
  Calls Tryz.prog 87 #[.agg #[.pointer (some ⟨p,0,none⟩), .bool sat], .func (.func g) #[.agg #[.pointer (some ⟨p,0,none⟩), .bool sat]] #[]] W (bM kFn 75 W p q B (bq rd B a e)):=by
 have hc:=bK (a:=a) (e:=e) hB;have hin:∀args w,Sem.run Tryz.prog (callFunc g args) w= .ok (.enter g args) w:=hent;have hpl:=hC.lt;have HQ:=Lib.hid (fun hl=>hC.jN hl:0< B.length→q< W.heap.size);have H0:=Lib.hid (eT _ p q B a e (hC.alloc (.cells #[.pointer (some ⟨p,0,none⟩), .bool sat] 67)) hB);have HV0:=Lib.hid hv;have hdef:bq rd B a e=lsM rd (az (aG B a) a e).1.toNat (az (aG B a) a e).2.1 (az (aG B a) a e).2.2:=rfl;rw [hdef];clear hdef;generalize az (aG B a) a e=r at *;obtain ⟨n,a0,e0⟩:=r;dsimp only at hc;obtain ⟨c,rfl⟩:=Int.eq_ofNat_of_zero_le hc.1;rw [Int.toNat_natCast];obtain ⟨tg,htg⟩:∃tg,lsM rd c a0 e0=tg:=⟨_,rfl⟩;have HTG:=Lib.hid htg;rw [htg];have hc2:(c:Int)≤4096:=hc.2;have HX:=Lib.hid (Blk.new W #[.pointer (some ⟨p,0,none⟩), .bool sat] 67);clear hC hB hc htg hv hent;go_enter Tryz.func87,Tryz.ntmps87;go_wp2_with fail;refine H0.out.mono ?_;rintro E W1 ⟨rfl,hG1⟩;have hz1:=hG1.2.size;rw [World.size_alloc]at hz1;have HX1:=Lib.hid (HX.out.grown hG1.2 (fun e=>by injection e with e;omega));have HL:=Lib.hid (⟨Own.nil,hG1.1,(World.grownBy_alloc W _ _).trans hG1.2,by rw [Nat.sub_zero,HTG.out];rfl,Nat.le_refl _⟩:LL kFn 75 rd W p q B tg c 0 (.slice none 0 0) [] a0 e0 W1);clear hG1 H0;go_wp2_with fail;go_loopw [5,7] (fun v i wr=>∃(j:Nat) (done:List FnD) (a:Nat) (e:Int),j≤c∧i= .int .i64 j∧Hid (LL kFn 75 rd W p q B tg c j v done a e wr)∧Hid (Blk wr W.heap.size #[.pointer (some ⟨p,0,none⟩), .bool sat] 67)) (fun _ i _=>c - (intOf i).toNat)
 case atStart=>exact ⟨0, [],a0,e0,Nat.zero_le _,rfl,HL,HX1⟩
 case round=>
  obtain ⟨j,done,a',e',hj,rfl,HLj,HXj⟩:=hrel;clear HL HX1;have b0:wr.cell? ⟨W.heap.size,0,none⟩=some (.pointer (some ⟨p,0,none⟩)):=HXj.out.cell 0;have b1:wr.cell? ⟨W.heap.size,1,none⟩=some (.bool sat):=HXj.out.cell 1;have hwl:=HXj.out.lt;by_cases hlt:j< c
  ·have hlt2:(j:Int)<(c:Int):=by omega
   by_cases he:e' =0
   ·subst he;have HPG:=Lib.hid (bz wr p q B a' 0 sat true HLj.out.cur rfl);have HV:=Lib.hid (HV0.out (wr.alloc (.cells #[.pointer (some ⟨p,0,none⟩), .bool sat] 67)) a' (HLj.out.cur.alloc _) (by rw [World.size_alloc];omega));have ht0:=HLj.out.t;rw [show c - j=(c - (j+1))+1 from by omega,lsM,if_pos rfl]at ht0;generalize rd a' 0=r at *;obtain ⟨x,a1,e1⟩:=r;have HT0:=Lib.hid ht0;have hX:=HLj.out.g.size;have hdl:=HLj.out.len;clear ht0;go_wp2_with fail;refine HPG.out.mono ?_;rintro E wg ⟨rfl,rfl⟩;go_wp2_with fail;refine HV.out.mono ?_;rintro E W2 ⟨⟨cs,rfl,hF⟩,hG2⟩;have hz2:=hG2.2.size;rw [World.size_alloc]at hz2;have hne:∀k,u5.ownBlock=some k→W.heap.size≤k∧k< wr.heap.size:=fun k hk=>Own.block HLj.out.own hk
    have np:u5.ownBlock≠some p:=fun e=>by have:=hne _ e;omega
    have hOw:=((HLj.out.own.below ((Below.refl _ _).alloc (Nat.le_refl _) (.cells #[.pointer (some ⟨p,0,none⟩), .bool sat] 67))).grown hG2.2 (.inr np) (fun k hk e=>by injection e with e;omega));have HO2:=Lib.hid hOw;have HG2:=Lib.hid (HLj.out.g.trans ((World.grownBy_alloc wr (.cells #[.pointer (some ⟨p,0,none⟩), .bool sat] 67) (some p)).trans hG2.2));have HC2:=Lib.hid hG2.1;have HX2:=Lib.hid ((HXj.out.alloc (.cells #[.pointer (some ⟨p,0,none⟩), .bool sat] 67)).grown hG2.2 (fun e=>by injection e with e;omega));obtain ⟨A1,c1,A2,c2,rfl,_,_⟩:=uj hF
    have HF:=Lib.hid (Ft.mono hF (fun k hk=>⟨by have h:(wr.alloc (.cells #[.pointer (some ⟨p,0,none⟩), .bool sat] 67)).heap.size≤k:=(by first|exact hk|(rw [World.size_alloc];exact hk));rw [World.size_alloc]at h;omega,fun e=>by
     have h:(wr.alloc (.cells #[.pointer (some ⟨p,0,none⟩), .bool sat] 67)).heap.size≤k:=by (first|exact hk|(rw [World.size_alloc];exact hk))
     rw [World.size_alloc]at h;have:=(hne _ e.symm).2
     omega⟩):FK kFn W2 (fun k=>W.heap.size≤k∧some k≠u5.ownBlock) x _)
    have hgs:W.heap.size≤W2.heap.size:=by omega
    clear hG2 HV HPG hF b0 b1 hOw;go_wp2_with (at_builtin;refine Own.append (d:=kFn) W.heap.size rfl (.tmp 20) (.tmp 23) 26 75 _ 56 rfl Tryz.underlying26 zh rfl (by decide) (by decide) u5 done x _ (fun k=>W.heap.size≤k) rfl rfl HF.out HO2.out hgs (by omega) ?_;intro v1 w1 hown1 hg1 hat1);have HO3:=Lib.hid hown1;have HG3:=Lib.hid hg1
    have hnX:some W.heap.size≠u5.ownBlock:=fun e=>by
     obtain ⟨_,ho,_⟩:=HO2.out;obtain ⟨cs,hcs⟩:=cK ho _ e.symm;rw [HX2.out]at hcs;simp at hcs
    clear hown1 hg1 hat1 HF HO2;go_wp2_with fail;go_roundw
    case rel=>
     refine ⟨j+1,done++ [x],a1,e1,by omega,by go_num,⟨HO3.out,HC2.out.grown' HG3.out (fun e=>np e.symm) (fun hl e=>by have:=(hne _ e.symm).1;have:=HQ.out hl;omega),bC HG2.out HG3.out (fun k hk=> .inr (hne k hk).1), ?_,by simp;omega⟩,HX2.out.grown HG3.out hnX⟩;rw [←HT0.out,List.append_assoc];rfl
    case measure=>simp [intOf];omega
   ·have he2:(e' ==0)=false:=beq_eq_false_iff_ne.2 he;have HPG:=Lib.hid (bz wr p q B a' e' sat false HLj.out.cur he2);have ht:=HLj.out.t;rw [gV _ _ _ _ he2,List.append_nil]at ht;have HT:=Lib.hid ht;clear ht he he2;go_wp2_with fail;refine HPG.out.mono ?_;rintro E wg ⟨rfl,rfl⟩;go_wp2_with fail;go_ret;rw [←HT.out];exact ⟨⟨_,rfl,HLj.out.own.below ((Below.refl _ _).alloc (Nat.le_refl _) _)⟩,HLj.out.cur.alloc _,HLj.out.g.trans (World.grownBy_alloc _ _ _)⟩
  ·obtain rfl:j=c:=by omega
   have ht:=HLj.out.t;rw [Nat.sub_self,lsM,List.append_nil]at ht;have HT:=Lib.hid ht;clear ht;go_wp2_with fail;go_ret;rw [←HT.out];exact ⟨⟨_,rfl,HLj.out.own⟩,HLj.out.cur,HLj.out.g⟩
theorem zR (g:FuncId) (hent:Enters Tryz.prog g) (rd:Nat→Int→j5×Nat×Int) (W:World) (p q:Nat) (B:List Int) (a:Nat) (e:Int) (sat:Bool) (hC:Cur W p q B a e) (hB:aK B)
  (hv:∀X a,Cur X p q B a 0→W.heap.size≤X.heap.size→Calls Tryz.prog g #[.agg #[.pointer (some ⟨p,0,none⟩), .bool sat]] X (iG iZ X p q B (rd a 0))):
  Calls Tryz.prog 89 #[.agg #[.pointer (some ⟨p,0,none⟩), .bool sat], .func (.func g) #[.agg #[.pointer (some ⟨p,0,none⟩), .bool sat]] #[]] W (bM iZ 120 W p q B (bq rd B a e)):=by
 have hc:=bK (a:=a) (e:=e) hB;have hin:∀args w,Sem.run Tryz.prog (callFunc g args) w= .ok (.enter g args) w:=hent;have hpl:=hC.lt;have HQ:=Lib.hid (fun hl=>hC.jN hl:0< B.length→q< W.heap.size);have H0:=Lib.hid (eT _ p q B a e (hC.alloc (.cells #[.pointer (some ⟨p,0,none⟩), .bool sat] 67)) hB);have HV0:=Lib.hid hv;have hdef:bq rd B a e=lsM rd (az (aG B a) a e).1.toNat (az (aG B a) a e).2.1 (az (aG B a) a e).2.2:=rfl;rw [hdef];clear hdef;generalize az (aG B a) a e=r at *;obtain ⟨n,a0,e0⟩:=r;dsimp only at hc;obtain ⟨c,rfl⟩:=Int.eq_ofNat_of_zero_le hc.1;rw [Int.toNat_natCast];obtain ⟨tg,htg⟩:∃tg,lsM rd c a0 e0=tg:=⟨_,rfl⟩;have HTG:=Lib.hid htg;rw [htg];have hc2:(c:Int)≤4096:=hc.2;have HX:=Lib.hid (Blk.new W #[.pointer (some ⟨p,0,none⟩), .bool sat] 67);clear hC hB hc htg hv hent;go_enter Tryz.func89,Tryz.ntmps89;go_wp2_with fail;refine H0.out.mono ?_;rintro E W1 ⟨rfl,hG1⟩;have hz1:=hG1.2.size;rw [World.size_alloc]at hz1;have HX1:=Lib.hid (HX.out.grown hG1.2 (fun e=>by injection e with e;omega));have HL:=Lib.hid (⟨Own.nil,hG1.1,(World.grownBy_alloc W _ _).trans hG1.2,by rw [Nat.sub_zero,HTG.out];rfl,Nat.le_refl _⟩:LL iZ 120 rd W p q B tg c 0 (.slice none 0 0) [] a0 e0 W1);clear hG1 H0;go_wp2_with fail;go_loopw [5,7] (fun v i wr=>∃(j:Nat) (done:List j5) (a:Nat) (e:Int),j≤c∧i= .int .i64 j∧Hid (LL iZ 120 rd W p q B tg c j v done a e wr)∧Hid (Blk wr W.heap.size #[.pointer (some ⟨p,0,none⟩), .bool sat] 67)) (fun _ i _=>c - (intOf i).toNat)
 case atStart=>exact ⟨0, [],a0,e0,Nat.zero_le _,rfl,HL,HX1⟩
 case round=>
  obtain ⟨j,done,a',e',hj,rfl,HLj,HXj⟩:=hrel;clear HL HX1;have b0:wr.cell? ⟨W.heap.size,0,none⟩=some (.pointer (some ⟨p,0,none⟩)):=HXj.out.cell 0;have b1:wr.cell? ⟨W.heap.size,1,none⟩=some (.bool sat):=HXj.out.cell 1;have hwl:=HXj.out.lt;by_cases hlt:j< c
  ·have hlt2:(j:Int)<(c:Int):=by omega
   by_cases he:e' =0
   ·subst he;have HPG:=Lib.hid (bz wr p q B a' 0 sat true HLj.out.cur rfl);have HV:=Lib.hid (HV0.out (wr.alloc (.cells #[.pointer (some ⟨p,0,none⟩), .bool sat] 67)) a' (HLj.out.cur.alloc _) (by rw [World.size_alloc];omega));have ht0:=HLj.out.t;rw [show c - j=(c - (j+1))+1 from by omega,lsM,if_pos rfl]at ht0;generalize rd a' 0=r at *;obtain ⟨x,a1,e1⟩:=r;have HT0:=Lib.hid ht0;have hX:=HLj.out.g.size;have hdl:=HLj.out.len;clear ht0;go_wp2_with fail;refine HPG.out.mono ?_;rintro E wg ⟨rfl,rfl⟩;go_wp2_with fail;refine HV.out.mono ?_;rintro E W2 ⟨⟨cs,rfl,hF⟩,hG2⟩;have hz2:=hG2.2.size;rw [World.size_alloc]at hz2;have hne:∀k,u5.ownBlock=some k→W.heap.size≤k∧k< wr.heap.size:=fun k hk=>Own.block HLj.out.own hk
    have np:u5.ownBlock≠some p:=fun e=>by have:=hne _ e;omega
    have hOw:=((HLj.out.own.below ((Below.refl _ _).alloc (Nat.le_refl _) (.cells #[.pointer (some ⟨p,0,none⟩), .bool sat] 67))).grown hG2.2 (.inr np) (fun k hk e=>by injection e with e;omega));have HO2:=Lib.hid hOw;have HG2:=Lib.hid (HLj.out.g.trans ((World.grownBy_alloc wr (.cells #[.pointer (some ⟨p,0,none⟩), .bool sat] 67) (some p)).trans hG2.2));have HC2:=Lib.hid hG2.1;have HX2:=Lib.hid ((HXj.out.alloc (.cells #[.pointer (some ⟨p,0,none⟩), .bool sat] 67)).grown hG2.2 (fun e=>by injection e with e;omega));obtain ⟨A1,c1,A2,c2,rfl,_,_⟩:=sO hF
    have HF:=Lib.hid (Ft.mono hF (fun k hk=>⟨by have h:(wr.alloc (.cells #[.pointer (some ⟨p,0,none⟩), .bool sat] 67)).heap.size≤k:=(by first|exact hk|(rw [World.size_alloc];exact hk));rw [World.size_alloc]at h;omega,fun e=>by
     have h:(wr.alloc (.cells #[.pointer (some ⟨p,0,none⟩), .bool sat] 67)).heap.size≤k:=by (first|exact hk|(rw [World.size_alloc];exact hk))
     rw [World.size_alloc]at h;have:=(hne _ e.symm).2
     omega⟩):FK iZ W2 (fun k=>W.heap.size≤k∧some k≠u5.ownBlock) x _)
    have hgs:W.heap.size≤W2.heap.size:=by omega
    clear hG2 HV HPG hF b0 b1 hOw;go_wp2_with (at_builtin;refine Own.append (d:=iZ) W.heap.size rfl (.tmp 20) (.tmp 23) 32 120 _ 56 rfl Tryz.underlying32 Bh rfl (by decide) (by decide) u5 done x _ (fun k=>W.heap.size≤k) rfl rfl HF.out HO2.out hgs (by omega) ?_;intro v1 w1 hown1 hg1 hat1);have HO3:=Lib.hid hown1;have HG3:=Lib.hid hg1
    have hnX:some W.heap.size≠u5.ownBlock:=fun e=>by
     obtain ⟨_,ho,_⟩:=HO2.out;obtain ⟨cs,hcs⟩:=cK ho _ e.symm;rw [HX2.out]at hcs;simp at hcs
    clear hown1 hg1 hat1 HF HO2;go_wp2_with fail;go_roundw
    case rel=>
     refine ⟨j+1,done++ [x],a1,e1,by omega,by go_num,⟨HO3.out,HC2.out.grown' HG3.out (fun e=>np e.symm) (fun hl e=>by have:=(hne _ e.symm).1;have:=HQ.out hl;omega),bC HG2.out HG3.out (fun k hk=> .inr (hne k hk).1), ?_,by simp;omega⟩,HX2.out.grown HG3.out hnX⟩;rw [←HT0.out,List.append_assoc];rfl
    case measure=>simp [intOf];omega
   ·have he2:(e' ==0)=false:=beq_eq_false_iff_ne.2 he;have HPG:=Lib.hid (bz wr p q B a' e' sat false HLj.out.cur he2);have ht:=HLj.out.t;rw [gV _ _ _ _ he2,List.append_nil]at ht;have HT:=Lib.hid ht;clear ht he he2;go_wp2_with fail;refine HPG.out.mono ?_;rintro E wg ⟨rfl,rfl⟩;go_wp2_with fail;go_ret;rw [←HT.out];exact ⟨⟨_,rfl,HLj.out.own.below ((Below.refl _ _).alloc (Nat.le_refl _) _)⟩,HLj.out.cur.alloc _,HLj.out.g.trans (World.grownBy_alloc _ _ _)⟩
  ·obtain rfl:j=c:=by omega
   have ht:=HLj.out.t;rw [Nat.sub_self,lsM,List.append_nil]at ht;have HT:=Lib.hid ht;clear ht;go_wp2_with fail;go_ret;rw [←HT.out];exact ⟨⟨_,rfl,HLj.out.own⟩,HLj.out.cur,HLj.out.g⟩
def jm {α:Type} (step:α→Int→Nat→α×Nat×Int) (B:List Int):Nat→α→Int→Nat→Int→α×Nat×Int
 |0,M,_,a,e=>(M,a,e)
 |f+1,M,hi,a,e=>if e=0 then (match B[a]? with
  |none=>(M,a,0)
  |some n=>if 11< n∨(0< n∧n≤hi)then (M,a+1,104)else jm step B f (step M n (a+1)).1 (if hi< n then n else hi) (step M n (a+1)).2.1 (step M n (a+1)).2.2)
  else (M,a,e)
theorem qO {α:Type} (step:α→Int→Nat→α×Nat×Int) (B:List Int) (f:Nat) (M:α) (hi:Int) (a:Nat) (e:Int) (he:¬e=0):jm step B f M hi a e=(M,a,e):=by
 cases f with
 |zero=>rfl
 |succ f=>rw [jm,if_neg he]
theorem uo {W W2 X:World} {p m:Nat} (h:Below W.heap.size W W2) (h' :G2 W2 X p m):G2 W X p m:=(G2.iP (aL h none) (fun k e=>by cases e)).trans h'
def FO {α:Type} (I:World→α→Nat→Prop) (W:World) (p q m:Nat) (B:List Int) (r:α×Nat×Int) (E:Ending) (w' :World):Prop:=
 E= .returned (.tuple #[])∧(∃a,I w' r.1 a)∧Cur w' p q B r.2.1 r.2.2∧G2 W w' p m
def Ep {α:Type} (I:World→α→Nat→Prop) (step:α→Int→Nat→α×Nat×Int) (W:World) (p q m:Nat) (B:List Int) (sat:Bool):Prop:=
 ∀(X:World) (M:α) (a:Nat) (n:Int) (bm bn:Nat),W.heap.size≤X.heap.size→I X M a→Cur X p q B (a+1) 0→B[a]? =some n→0≤n→n≤11→X.cell? ⟨bm,0,none⟩=some (.pointer (some ⟨m,0,none⟩))→X.cell? ⟨bn,0,none⟩=some (.int .u8 n)→bm≠p→bn≠p→
  Calls Tryz.prog 42 #[.agg #[.pointer (some ⟨p,0,none⟩), .bool sat], .func (.func 43) #[] #[.pointer (some ⟨bm,0,none⟩), .pointer (some ⟨bn,0,none⟩)]] X fun E Y=>
   E= .returned (.tuple #[])∧I Y (step M n (a+1)).1 (step M n (a+1)).2.1∧Cur Y p q B (step M n (a+1)).2.1 (step M n (a+1)).2.2∧G2 X Y p m∧((step M n (a+1)).2.2=0→a+1≤(step M n (a+1)).2.1)
theorem uU {α:Type} (I:World→α→Nat→Prop) (step:α→Int→Nat→α×Nat×Int) (W:World) (p q m:Nat) (B:List Int) (sat:Bool) (M0:α) (hC:Cur W p q B 0 0) (hB:aK B) (hm:m< W.heap.size) (hmp:m≠p) (hI:I W M0 0)
  (hmove:∀X Y M a,I X M a→X.grownBy Y (some p)→I Y M a) (hstep:Ep I step W p q m B sat):
  Calls Tryz.prog 17 #[.pointer (some ⟨m,0,none⟩), .agg #[.pointer (some ⟨p,0,none⟩), .bool sat]] W (FO I W p q m B (jm step B (B.length+1) M0 0 0 0)):=by
 have hpl:=hC.lt;obtain ⟨tg,htg⟩:∃tg,jm step B (B.length+1) M0 0 0 0=tg:=⟨_,rfl⟩;rw [htg];have HB:=Lib.hid hB;have HMP:=Lib.hid hmp;have HMV:=Lib.hid hmove;have HST:=Lib.hid hstep;have hb2:=(Blk.new W #[.pointer (some ⟨m,0,none⟩)] 68).alloc (.cells #[.pointer (some ⟨p,0,none⟩), .bool sat] 67);have hb3:=Blk.new (W.alloc (.cells #[.pointer (some ⟨m,0,none⟩)] 68)) #[.pointer (some ⟨p,0,none⟩), .bool sat] 67;rw [World.size_alloc]at hb3;have HW2:=Lib.hid (show Below W.heap.size W ((W.alloc (.cells #[.pointer (some ⟨m,0,none⟩)] 68)).alloc (.cells #[.pointer (some ⟨p,0,none⟩), .bool sat] 67))from ((Below.refl _ _).alloc (Nat.le_refl _) _).alloc (by rw [World.size_alloc];omega) _);have HC2:=Lib.hid ((hC.alloc (.cells #[.pointer (some ⟨m,0,none⟩)] 68)).alloc (.cells #[.pointer (some ⟨p,0,none⟩), .bool sat] 67));have HI2:=Lib.hid (hmove _ _ _ _ hI (aL HW2.out (some p)));have HTG:=Lib.hid htg;have hW2:W.heap.size+2≤((W.alloc (.cells #[.pointer (some ⟨m,0,none⟩)] 68)).alloc (.cells #[.pointer (some ⟨p,0,none⟩), .bool sat] 67)).heap.size:=by rw [World.size_alloc,World.size_alloc];omega
 clear hC hB hmp hmove hstep hI htg;go_enter Tryz.func17,Tryz.ntmps17;go_wp2_with fail;generalize (W.alloc (.cells #[.pointer (some ⟨m,0,none⟩)] 68)).alloc (.cells #[.pointer (some ⟨p,0,none⟩), .bool sat] 67)=W2 at *;go_loopw [4] (fun v wr=>∃(f:Nat) (M:α) (hi:Int) (a ai:Nat) (e:Int),v= .int .u8 hi∧0≤hi∧hi≤11∧Hid (I wr M ai∧(e=0→ai=a))∧Hid (Cur wr p q B a e)∧Hid (G2 W2 wr p m)∧Hid (jm step B f M hi a e=tg∧(e=0→B.length< a+f))) (fun _ wr=>jQ wr p B.length)
 case atStart=>exact ⟨B.length+1,M0,0,0,0,0,rfl,by omega,by omega,⟨HI2.out,fun _=>rfl⟩,HC2,G2.refl _ _ _,HTG.out,fun _=>by omega⟩
 case round=>
  obtain ⟨f,M,hi,a,ai,e,rfl,hi0,hi1,HI,HC,HG,HS⟩:=hrel;have hx3:=hb3.g2 HG.out (by omega) (by omega);have hx2:=hb2.g2 HG.out (by omega) (by omega);have b0:wr.cell? ⟨W.heap.size+1,0,none⟩=some (.pointer (some ⟨p,0,none⟩)):=hx3.cell 0;have b1:wr.cell? ⟨W.heap.size+1,1,none⟩=some (.bool sat):=hx3.cell 1;have hl3:=hx3.lt;have HX2:=Lib.hid hx2;have HX3:=Lib.hid hx3;clear hx2 hx3;by_cases he:e=0
  ·subst he;have HPG:=Lib.hid (bz wr p q B a 0 sat true HC.out rfl);have hx3:=(HX3.out.alloc (.cells #[.pointer (some ⟨p,0,none⟩), .bool sat] 67));have d0:(wr.alloc (.cells #[.pointer (some ⟨p,0,none⟩), .bool sat] 67)).cell? ⟨W.heap.size+1,0,none⟩=some (.pointer (some ⟨p,0,none⟩)):=hx3.cell 0;have HL:=Lib.hid (kr _ p q B a 0 (HC.out.alloc (.cells #[.pointer (some ⟨p,0,none⟩), .bool sat] 67)) HB.out);clear hx3;go_wp2_with fail;refine HPG.out.mono ?_;rintro E w' ⟨rfl,rfl⟩;go_wp2_with fail;refine HL.out.mono ?_;rintro E W3 ⟨rfl,hG3⟩;have hG3w:Goes wr W3 p q B a 0:=Goes.aW hG3;have hz3:=hG3w.2.size;have hxl3:=HX3.out.lt;have hx3:=HX3.out.grown hG3w.2 (fun e=>by injection e with e;omega);have hx2:=HX2.out.grown hG3w.2 (fun e=>by injection e with e;omega);have HX32:=Lib.hid hx2;have HX33:=Lib.hid hx3;have d0:W3.cell? ⟨W.heap.size+1,0,none⟩=some (.pointer (some ⟨p,0,none⟩)):=hx3.cell 0;have d1:W3.cell? ⟨W.heap.size+1,1,none⟩=some (.bool sat):=hx3.cell 1;have hl3:=hx3.lt;have HC3:=Lib.hid hG3w.1;have HG3:=Lib.hid hG3w.2;have HGA:=Lib.hid (HG.out.grown hG3w.2 (fun r e=>by injection e with e;left;exact e.symm));clear hG3 hG3w hx2 hx3 HL HPG b0 b1;have hal:=HC.out.2.1;by_cases h7:a< B.length
   ·have h8:decide ((B.length:Int) - (a:Int) >0)=true:=by simp;omega
    obtain ⟨n,hn⟩:∃n,B[a]? =some n:=⟨_,List.getElem?_eq_getElem h7⟩;have hnb:=HB.out.get hn;have HBY:=Lib.hid (iw W3 p q B a 0 HC3.out HB.out);rw [show aQ B a 0=(n,a+1,0)from by rw [aQ,if_pos rfl,hn]]at HBY;have HN:=Lib.hid hn;have H7:=Lib.hid h7;clear hn h7;go_wp2_with fail;refine HBY.out.mono ?_;rintro E W4 ⟨rfl,hG4⟩;have hG4:Goes W3 W4 p q B (a+1) 0:=hG4;have hz4:=hG4.2.size;have hx3:=(HX33.out.grown hG4.2 (fun e=>by injection e with e;omega)).alloc (.cells #[.int .u8 n] 5);have hx2:=(HX32.out.grown hG4.2 (fun e=>by injection e with e;omega)).alloc (.cells #[.int .u8 n] 5);have hxn:=Blk.new W4 #[.int .u8 n] 5;have e0:(W4.alloc (.cells #[.int .u8 n] 5)).cell? ⟨W.heap.size+1,0,none⟩=some (.pointer (some ⟨p,0,none⟩)):=hx3.cell 0;have e1:(W4.alloc (.cells #[.int .u8 n] 5)).cell? ⟨W.heap.size+1,1,none⟩=some (.bool sat):=hx3.cell 1;have e2:(W4.alloc (.cells #[.int .u8 n] 5)).cell? ⟨W4.heap.size,0,none⟩=some (.int .u8 n):=hxn.cell 0;have HX42:=Lib.hid hx2;have HX43:=Lib.hid hx3;have HX4n:=Lib.hid hxn;have HC4:=Lib.hid (hG4.1.alloc (.cells #[.int .u8 n] 5));have HG4:=Lib.hid ((HG3.out.trans hG4.2).trans (World.grownBy_alloc W4 (.cells #[.int .u8 n] 5) (some p)));have HGB:=Lib.hid ((HGA.out.grown hG4.2 (fun r e=>by injection e with e;left;exact e.symm)).alloc (.cells #[.int .u8 n] 5));obtain ⟨f,rfl⟩:∃g,f=g+1:=⟨f - 1,by have:=HS.out.2 (by trivial);have:=H7.out;omega⟩;have hst:=HS.out.1;rw [jm,if_pos rfl,HN.out]at hst;dsimp only at hst;clear hG4 hx2 hx3 hxn d0 d1;have hnn:0≤n:=hnb.1;clear hnb;by_cases hbad:11< n∨(0< n∧n≤hi)
    ·rw [if_pos hbad]at hst;have HF:=Lib.hid (eD _ p q B (a+1) 0 104 HC4.out rfl);have HT:=Lib.hid hst;clear hst;rcases hbad with hb|⟨hb1,hb2⟩
     ·go_wp2_with fail;refine HF.out.mono ?_;rintro E W5 ⟨rfl,hG5⟩;have hG5:Goes _ W5 p q B (a+1) 104:=hG5;have HG5:=Lib.hid hG5;clear hG5;go_wp2_with fail;go_end0;rw [←HT.out];exact ⟨rfl,⟨ai,HMV.out _ _ _ _ (HMV.out _ _ _ _ HI.out.1 HG4.out) HG5.out.2⟩,HG5.out.1,(uo HW2.out HGB.out).grown HG5.out.2 (fun r e=>by injection e with e;left;exact e.symm)⟩
     ·have hb0:¬11< n:=by omega
      go_wp2_with fail;refine HF.out.mono ?_;rintro E W5 ⟨rfl,hG5⟩;have hG5:Goes _ W5 p q B (a+1) 104:=hG5;have HG5:=Lib.hid hG5;clear hG5;go_wp2_with fail;go_end0;rw [←HT.out];exact ⟨rfl,⟨ai,HMV.out _ _ _ _ (HMV.out _ _ _ _ HI.out.1 HG4.out) HG5.out.2⟩,HG5.out.1,(uo HW2.out HGB.out).grown HG5.out.2 (fun r e=>by injection e with e;left;exact e.symm)⟩
    ·rw [if_neg hbad]at hst;have hb0:¬11< n:=fun h=>hbad (.inl h)
     have hb1:¬(0< n∧n≤hi):=fun h=>hbad (.inr h)
     clear hbad;have HW:=Lib.hid (HST.out _ M a n W.heap.size W4.heap.size (by have:=HG4.out.size;have:=HG.out.size;omega) (HMV.out _ _ _ _ (by have h:=HI.out.1;rw [HI.out.2 (by trivial)]at h;exact h) HG4.out) HC4.out HN.out hnn (by omega) (HX42.out.cell 0) (HX4n.out.cell 0) (by omega) (by have:=HG.out.size;omega));generalize step M n (a+1)=r at *;obtain ⟨M',a',e'⟩:=r;dsimp only at hst HW;have HT:=Lib.hid hst;clear hst;rcases Int.lt_or_eq_of_le hnn with h0|h0
     ·have hb2:hi< n:=by omega
      have hb3:¬n≤hi:=by omega
      rw [if_pos hb2]at HT;clear hb1;go_wp2_with fail;refine HW.out.mono ?_;rintro E W5 ⟨rfl,hI5,hC5,hG5,ha5⟩;have HI5:=Lib.hid hI5;have HC5:=Lib.hid hC5;have HG5:=Lib.hid hG5;have HA5:=Lib.hid ha5;clear hI5 hC5 hG5 ha5;go_wp2_with fail;go_roundw
      case rel=>exact ⟨f,M',_,a',a',e',rfl,by omega,by omega,⟨HI5.out,fun _=>rfl⟩,HC5.out,HGB.out.trans HG5.out,HT.out,fun h=>by have:=HA5.out h;have:=HS.out.2 (by trivial);omega⟩
      case measure=>
       rw [dZ HC5.out,dZ HC.out,if_pos rfl];split
       ·rename_i h;have:=HA5.out h;omega
       ·omega
     ·subst h0;rw [if_neg (by omega)]at HT;clear hb1;go_wp2_with fail;refine HW.out.mono ?_;rintro E W5 ⟨rfl,hI5,hC5,hG5,ha5⟩;have HI5:=Lib.hid hI5;have HC5:=Lib.hid hC5;have HG5:=Lib.hid hG5;have HA5:=Lib.hid ha5;clear hI5 hC5 hG5 ha5;go_wp2_with fail;go_roundw
      case rel=>exact ⟨f,M',_,a',a',e',rfl,by omega,by omega,⟨HI5.out,fun _=>rfl⟩,HC5.out,HGB.out.trans HG5.out,HT.out,fun h=>by have:=HA5.out h;have:=HS.out.2 (by trivial);omega⟩
      case measure=>
       rw [dZ HC5.out,dZ HC.out,if_pos rfl];split
       ·rename_i h;have:=HA5.out h;omega
       ·omega
   ·have h8:decide ((B.length:Int) - (a:Int) >0)=false:=by simp;omega
    have ht:=HS.out.1;have hn:B[a]? =none:=List.getElem?_eq_none (by omega);obtain ⟨f,rfl⟩:∃g,f=g+1:=⟨f - 1,by have:=HS.out.2 (by trivial);omega⟩;rw [jm,if_pos rfl,hn]at ht;have HT:=Lib.hid ht;clear ht hn;go_wp2_with fail;go_end0;rw [←HT.out];exact ⟨rfl,⟨ai,HMV.out _ _ _ _ HI.out.1 HG3.out⟩,HC3.out,uo HW2.out HGA.out⟩
  ·have he2:(e==0)=false:=beq_eq_false_iff_ne.2 he;have HPG:=Lib.hid (bz wr p q B a e sat false HC.out he2);have ht:=HS.out.1;rw [qO _ _ _ _ _ _ _ he]at ht;have HT:=Lib.hid ht;clear ht he he2;go_wp2_with fail;refine HPG.out.mono ?_;rintro E w' ⟨rfl,rfl⟩;go_wp2_with fail;go_end0;rw [←HT.out];exact ⟨rfl,⟨ai,HMV.out _ _ _ _ HI.out.1 (World.grownBy_alloc _ _ _)⟩,HC.out.alloc _,uo HW2.out (HG.out.alloc _)⟩
theorem dR (W:World) (A:Option Addr) (B:List Int) (c:Nat) (hR:RdI W .u8 A B):(convert 22 9 (.slice A B.length c)).run Tryz.prog W= .ok (.string (strOfNums B)) W:=by
 rcases Nat.eq_zero_or_pos B.length with h|h
 ·have hb:B= []:=List.length_eq_zero_iff.1 h;subst hb;show (convert 22 9 (.slice A 0 c)).run Tryz.prog W=_
  rw [run_convert_bytes_string W 22 9 5 _ 0 c Tryz.underlying22 Tryz.underlying5 Tryz.underlying9];cases A<;>simp [Conv.bytesToString,loadCells]
  all_goals rfl
 ·obtain ⟨b,o,rfl,hc⟩:=hR.2 h
  exact run_convert_bytes_arg W 22 5 Tryz.underlying22 Tryz.underlying5 b o B.length c B rfl (fun i hi=>by
   rw [hc i B[i] (List.getElem?_eq_getElem hi)]
   simp [List.getD,List.getElem?_eq_getElem hi]) 9 Tryz.underlying9
def bB:List Int:= [0,97,115,109,1,0,0,0]
theorem sQ:strOfNums bB=⟨#[0,97,115,109,1,0,0,0]⟩:=by decide
abbrev dU (v:Value):Array Value:=#[v, .slice none 0 0, .slice none 0 0, .slice none 0 0, .slice none 0 0, .slice none 0 0, .slice none 0 0, .bool false, .int .u32 0, .slice none 0 0, .slice none 0 0]
abbrev xU (v:Value):Array Value:=#[v, .slice none 0 0, .slice none 0 0, .slice none 0 0, .slice none 0 0, .slice none 0 0, .slice none 0 0, .bool false, .int .u32 0, .slice none 0 0, .slice none 0 0, .slice none 0 0, .slice none 0 0]
theorem lN {W0 X Y:World} (n:Nat) (h:Below n W0 X) (p m:Nat) (hg:G2 X Y p m) (hp:n≤p) (hm:n≤m) (hn:n≤X.heap.size):Below n W0 Y:=
 ⟨hg.os.trans h.os,hg.tape.trans h.tape,hg.output.trans h.output,Nat.le_trans h.size hg.size,fun k hk=>(hg.block k (by omega) (by omega) (by omega)).trans (h.block k hk)⟩
theorem d9 {n:Nat} {W X:World} (h:Below n W X) (b i:Nat) (v:Value) (hb:n≤b):Below n W (X.setCell ⟨b,i,none⟩ v):=h.setCell hb v
theorem aY {W X:World} (h:Below W.heap.size W X) (o:Obj):Below W.heap.size W (X.alloc o):=h.alloc h.size o
theorem bH {n:Nat} {W X:World} (h:Below n W X):Below n W X.drew:=⟨h.os,h.tape,h.output,h.size,h.block⟩
def gI (x:Int×Int×Bool):Value:= .agg #[.int .u32 x.1, .int .u32 x.2.1, .bool x.2.2]
def pQ (x:Int×Bool):Value:= .agg #[.int .u8 x.1, .bool x.2]
def kC (B:List Int) (a:Nat):(Int×Int×Bool)×Nat×Int:=
 let h:=az (aV B a [0,1] 107) a 0
 let m:=az (aI B h.2.1) h.2.1 h.2.2
 if h.1=1 then ((m.1,(az (aI B m.2.1) m.2.1 m.2.2).1,true),(az (aI B m.2.1) m.2.1 m.2.2).2)else ((m.1,0,false),m.2)
def fB (B:List Int) (a:Nat) (e:Int):(Int×Int×Bool)×Nat×Int:=fZ (0,0,false) (kC B a) a e
def nV (B:List Int) (a:Nat):(Int×Int×Bool)×Nat×Int:=
 let h:=az (aV B a [112] 106) a 0
 fB B h.2.1 h.2.2
def gJ (B:List Int) (a:Nat) (e:Int):(Int×Int×Bool)×Nat×Int:=fZ (0,0,false) (nV B a) a e
def oU (B:List Int) (a:Nat):(Int×Bool)×Nat×Int:=
 let t:=az (eB B a) a 0
 let m:=az (aV B t.2.1 [0,1] 107) t.2.1 t.2.2
 ((t.1,decide (m.1=1)),m.2)
def jl (B:List Int) (a:Nat) (e:Int):(Int×Bool)×Nat×Int:=fZ (0,false) (oU B a) a e
theorem vU (X:World) (p q l:Nat) (B:List Int) (a:Nat) (e:Int) (hC:Cur X p q B a e) (hB:aK B) (hl:X.heap.size=l):
  Calls Tryz.prog 63 #[.pointer (some ⟨p,0,none⟩), .int .i64 107, .slice (some ⟨l,0,none⟩) 2 2] (X.alloc (.cells #[.int .u8 0, .int .u8 1] 5)) fun E w' =>E= .returned (.int .u8 (az (aV B a [0,1] 107) a e).1)∧Goes X w' p q B (az (aV B a [0,1] 107) a e).2.1 (az (aV B a [0,1] 107) a e).2.2:=by
 subst hl;have hpl:=hC.lt;refine (kH _ p q X.heap.size B a e 107 (some ⟨X.heap.size,0,none⟩) 2 [0,1] (hC.alloc _) hB rfl (by omega) (fM X [0,1] 5) (by decide)).mono ?_;rintro E w' ⟨h1,h2⟩;exact ⟨h1,Goes.aW h2⟩
theorem uY (W:World) (p q r:Nat) (B:List Int) (a:Nat) (hC:Cur W p q B a 0) (hB:aK B) (hr:Blk W r #[.pointer (some ⟨p,0,none⟩)] 53) (hrp:r≠p):
  Calls Tryz.prog 113 #[.pointer (some ⟨r,0,none⟩)] W (dH W p q B (gI (kC B a).1) (kC B a).2.1 (kC B a).2.2):=by
 have hpl:=hC.lt;have HS:=Lib.hid ((St.start hC).alloc (.cells #[.int .u32 0, .int .u32 0, .bool false] 101));have HX:=Lib.hid (Lc.new W #[.int .u32 0, .int .u32 0, .bool false] 101 hpl);have HR:=Lib.hid ((⟨hr,hrp⟩:Lc p W r #[.pointer (some ⟨p,0,none⟩)] 53).alloc (.cells #[.int .u32 0, .int .u32 0, .bool false] 101));have HA:=Lib.hid (vU _ p q (W.heap.size+1) B a 0 HS.out.cur hB (World.size_alloc _ _));have c0:W.cell? ⟨r,0,none⟩=some (.pointer (some ⟨p,0,none⟩)):=hr.cell 0;have hrl:=hr.lt;obtain ⟨R,hR⟩:∃R,R=kC B a:=⟨_,rfl⟩;rw [←hR];unfold kC at hR;generalize az (aV B a [0,1] 107) a 0=r0 at *;obtain ⟨x0,a1,e1⟩:=r0;dsimp only at hR;have HU1:=Lib.hid (fun X (h:Cur X p q B a1 e1)=>dG X p q B a1 e1 h hB);generalize az (aI B a1) a1 e1=r1 at *;obtain ⟨x1,a2,e2⟩:=r1;dsimp only at hR;have HU2:=Lib.hid (fun X (h:Cur X p q B a2 e2)=>dG X p q B a2 e2 h hB);generalize az (aI B a2) a2 e2=r2 at *;obtain ⟨x2,a3,e3⟩:=r2;dsimp only at hR;clear hC hB hr hrp;by_cases hx:x0=1
 ·subst hx;rw [if_pos rfl]at hR;subst hR;go_enter Tryz.func113,Tryz.ntmps113;go_wp2_with fail;refine HA.out.mono ?_;rintro E W1 ⟨rfl,hG⟩;replace HS:=Lib.hid (HS.out.goes hG);replace HX:=Lib.hid (HX.out.goes hG);replace HR:=Lib.hid (HR.out.goes hG);replace c0:=HR.out.c0;replace hrl:=HR.out.lt;have hs1:=HS.out.sz;have hxl:=HX.out.lt;have hrw:r≠W1.heap.size:=by omega
  have hxw:W.heap.size≠W1.heap.size:=by omega
  clear hG HA;go_wp2_with fail;refine (HU1.out _ (HS.out.cur.alloc _)).mono ?_;rintro E W2 ⟨rfl,hG⟩;replace HS:=Lib.hid ((HS.out.alloc _).goes hG);replace HX:=Lib.hid ((HX.out.alloc _).goes hG);replace HR:=Lib.hid ((HR.out.alloc _).goes hG);have HN:=Lib.hid ((Lc.new W1 #[.int .u32 0, .int .u32 0, .bool true] 101 (by omega)).goes hG);replace c0:=HR.out.c0;replace hrl:=HR.out.lt;have n0:=HN.out.c0;have n1:=HN.out.c1;have n2:=HN.out.c2;have f0:=HN.out.fz 0;have f1:=HN.out.fz 1;have hnl:=HN.out.lt;replace hxl:=HX.out.lt;clear hG HU1;go_wp2_with fail;refine (HU2.out _ (HS.out.set W1.heap.size 0 _ (by omega)).cur).mono ?_;rintro E W3 ⟨rfl,hG⟩;replace HS:=Lib.hid ((HS.out.set W1.heap.size 0 _ (by omega)).goes hG);replace HX:=Lib.hid ((HX.out.other W1.heap.size 0 _ hxw).goes hG);replace HN:=Lib.hid ((HN.out.s0 _).goes hG);replace n0:=HN.out.c0;replace n1:=HN.out.c1;replace n2:=HN.out.c2;replace f1:=HN.out.fz 1;have x0:=HX.out.c0;have x1' :=HX.out.c1;have x2' :=HX.out.c2;have g0:=HX.out.fz 0;have g1:=HX.out.fz 1;have g2:=HX.out.fz 2;replace hnl:=HN.out.lt;replace hxl:=HX.out.lt;clear hG HU2;go_wp2_with fail;refine bodyPost_ret (v:=gI (x1,x2,true)) (by simp [results,Tryz.results113,go_sem,x0,x1',x2',hxl,gI,hxw]) rfl ⟨rfl,St.fin (W:=W) ?_⟩
  (repeat (first|with_reducible exact HS.out|(with_reducible refine St.set ?_ _ _ _ ?_;rotate_left;omega)|with_reducible refine St.alloc ?_ _|with_reducible refine St.drew ?_))
 ·rw [if_neg hx]at hR;subst hR;go_enter Tryz.func113,Tryz.ntmps113;go_wp2_with fail;refine HA.out.mono ?_;rintro E W1 ⟨rfl,hG⟩;replace HS:=Lib.hid (HS.out.goes hG);replace HX:=Lib.hid (HX.out.goes hG);replace HR:=Lib.hid (HR.out.goes hG);replace c0:=HR.out.c0;replace hrl:=HR.out.lt;have hs1:=HS.out.sz;have hxl:=HX.out.lt;have hrw:r≠W1.heap.size:=by omega
  have hxw:W.heap.size≠W1.heap.size:=by omega
  clear hG HA;go_wp2_with fail;refine (HU1.out _ (HS.out.cur.alloc _)).mono ?_;rintro E W2 ⟨rfl,hG⟩;replace HS:=Lib.hid ((HS.out.alloc _).goes hG);replace HX:=Lib.hid ((HX.out.alloc _).goes hG);have HN:=Lib.hid ((Lc.new W1 #[.int .u32 0, .int .u32 0, .bool (decide (x0=1))] 101 (by omega)).goes hG);rw [show decide (x0=1)=false from decide_eq_false hx]at HN;have n0:=HN.out.c0;have n1:=HN.out.c1;have n2:=HN.out.c2;have f0:=HN.out.fz 0;have f1:=HN.out.fz 1;have xx0:=HX.out.c0;have xx1:=HX.out.c1;have xx2:=HX.out.c2;have g0:=HX.out.fz 0;have g1:=HX.out.fz 1;have g2:=HX.out.fz 2;have hnl:=HN.out.lt;replace hxl:=HX.out.lt;clear hG HU1;go_wp2_with fail;refine bodyPost_ret (v:=gI (x1,0,false)) (by simp [results,Tryz.results113,go_sem,xx0,xx1,xx2,hxl,gI,hxw]) rfl ⟨rfl,St.fin (W:=W) ?_⟩
  (repeat (first|with_reducible exact HS.out|(with_reducible refine St.set ?_ _ _ _ ?_;rotate_left;omega)|with_reducible refine St.alloc ?_ _|with_reducible refine St.drew ?_))
theorem ve (W:World) (p q r:Nat) (B:List Int) (a:Nat) (hC:Cur W p q B a 0) (hB:aK B) (hr:Blk W r #[.pointer (some ⟨p,0,none⟩)] 53) (hrp:r≠p):
  Calls Tryz.prog 122 #[.pointer (some ⟨r,0,none⟩)] W (dH W p q B (pQ (oU B a).1) (oU B a).2.1 (oU B a).2.2):=by
 have hpl:=hC.lt;have HS:=Lib.hid ((St.start hC).alloc (.cells #[.int .u8 0, .bool false] 103));have HX:=Lib.hid (Lc.new W #[.int .u8 0, .bool false] 103 hpl);have HR:=Lib.hid ((⟨hr,hrp⟩:Lc p W r #[.pointer (some ⟨p,0,none⟩)] 53).alloc (.cells #[.int .u8 0, .bool false] 103));have HA:=Lib.hid (oF _ p q B a 0 HS.out.cur hB);have c0:W.cell? ⟨r,0,none⟩=some (.pointer (some ⟨p,0,none⟩)):=hr.cell 0;have hrl:=hr.lt;obtain ⟨R,hR⟩:∃R,R=oU B a:=⟨_,rfl⟩;rw [←hR];unfold oU at hR;generalize az (eB B a) a 0=r0 at *;obtain ⟨x0,a1,e1⟩:=r0;dsimp only at hR;have HU1:=Lib.hid (fun X l (h:Cur X p q B a1 e1) (hl:X.heap.size=l)=>vU X p q l B a1 e1 h hB hl);generalize az (aV B a1 [0,1] 107) a1 e1=r1 at *;obtain ⟨x1,a2,e2⟩:=r1;dsimp only at hR;subst hR;clear hC hB hr hrp;go_enter Tryz.func122,Tryz.ntmps122;go_wp2_with fail;refine HA.out.mono ?_;rintro E W1 ⟨rfl,hG⟩;replace HS:=Lib.hid (HS.out.goes hG);replace HX:=Lib.hid (HX.out.goes hG);replace HR:=Lib.hid (HR.out.goes hG);replace c0:=HR.out.c0;replace hrl:=HR.out.lt;have hs1:=HS.out.sz;clear hG HA;go_wp2_with fail;refine (HU1.out _ _ HS.out.cur rfl).mono ?_;rintro E W2 ⟨rfl,hG⟩;replace HS:=Lib.hid (HS.out.goes hG);replace HX:=Lib.hid (HX.out.goes hG);have xx0:=HX.out.c0;have xx1:=HX.out.c1;have g0:=HX.out.fz 0;have g1:=HX.out.fz 1;have hxl:=HX.out.lt;clear hG HU1;go_wp2_with fail;refine bodyPost_ret (v:=pQ (x0,decide (x1=1))) (by simp [results,Tryz.results122,go_sem,xx0,xx1,hxl,pQ];rfl) rfl ⟨rfl,St.fin (W:=W) ?_⟩
 (repeat (first|with_reducible exact HS.out|(with_reducible refine St.set ?_ _ _ _ ?_;rotate_left;omega)|with_reducible refine St.alloc ?_ _|with_reducible refine St.drew ?_))
theorem wD:Enters Tryz.prog 113:=enters_of Tryz.func113 (by kernel_rfl) rfl
theorem yu:Enters Tryz.prog 112:=enters_of Tryz.func112 (by kernel_rfl) rfl
theorem wF:Enters Tryz.prog 122:=enters_of Tryz.func122 (by kernel_rfl) rfl
theorem mY (W:World) (p q:Nat) (B:List Int) (a:Nat) (e:Int) (hC:Cur W p q B a e) (hB:aK B):
  Calls Tryz.prog 80 #[.pointer (some ⟨p,0,none⟩)] W (dH W p q B (gI (fB B a e).1) (fB B a e).2.1 (fB B a e).2.2):=by
 have hpl:=hC.lt;have HS:=Lib.hid (((St.start hC).alloc (.cells #[.pointer (some ⟨p,0,none⟩)] 53)).alloc (.cells #[.int .u32 0, .int .u32 0, .bool false] 101));have hb:=(Blk.new W #[.pointer (some ⟨p,0,none⟩)] 53).alloc (.cells #[.int .u32 0, .int .u32 0, .bool false] 101);have HX:=Lib.hid (Lc.newAt (p:=p) (W.alloc (.cells #[.pointer (some ⟨p,0,none⟩)] 53)) #[.int .u32 0, .int .u32 0, .bool false] 101 (by rw [World.size_alloc];omega) (World.size_alloc _ _));obtain ⟨R,hR⟩:∃R,R=fB B a e:=⟨_,rfl⟩;rw [←hR]
 have HK:=Lib.hid (show Calls Tryz.prog 111 #[.pointer (some ⟨p,0,none⟩), .func (.func 113) #[] #[.pointer (some ⟨W.heap.size,0,none⟩)]] ((W.alloc (.cells #[.pointer (some ⟨p,0,none⟩)] 53)).alloc (.cells #[.int .u32 0, .int .u32 0, .bool false] 101)) (dH ((W.alloc (.cells #[.pointer (some ⟨p,0,none⟩)] 53)).alloc (.cells #[.int .u32 0, .int .u32 0, .bool false] 101)) p q B (gI R.1) R.2.1 R.2.2)from by
  unfold fB fZ at hR;by_cases he:e=0
  ·subst he;rw [if_pos rfl]at hR;have h1:=uY (((W.alloc (.cells #[.pointer (some ⟨p,0,none⟩)] 53)).alloc (.cells #[.int .u32 0, .int .u32 0, .bool false] 101)).alloc (.cells #[.int .u32 0, .int .u32 0, .bool false] 101)) p q W.heap.size B a (HS.out.cur.alloc _) hB (hb.alloc _) (by omega);generalize kC B a=r at *;obtain ⟨⟨x,y,z⟩,nx,e'⟩:=r;have h:=sj _ p q B a nx 113 wD #[.pointer (some ⟨W.heap.size,0,none⟩)] x y z e' HS.out.cur h1;by_cases h' :e' =0
   ·subst h';rw [if_pos rfl,if_pos rfl]at h;rw [if_pos rfl]at hR;subst hR;exact h
   ·rw [if_neg h',if_neg h']at h;rw [if_neg h']at hR;subst hR;exact h
  ·rw [if_neg he]at hR;subst hR
   exact mW _ p q B a e _ HS.out.cur (beq_eq_false_iff_ne.2 he))
 clear hR hC hB hb;obtain ⟨⟨x,y,z⟩,nx,e'⟩:=R;dsimp only [gI]at HK ⊢;go_enter Tryz.func80,Tryz.ntmps80;go_wp2_with fail;refine HK.out.mono ?_;rintro E W1 ⟨rfl,hG⟩;replace HS:=Lib.hid (HS.out.goes hG);replace HX:=Lib.hid (HX.out.goes hG);have x0:=HX.out.c0;have x1:=HX.out.c1;have x2:=HX.out.c2;have y0:=HX.out.fz 0;have y1:=HX.out.fz 1;have y2:=HX.out.fz 2;have xl:=HX.out.lt;clear hG HK;go_wp2_with fail;refine bodyPost_ret (v:=gI ⟨x,y,z⟩) (by simp [results,Tryz.results80,go_sem,x0,x1,x2,xl,gI]) rfl ⟨rfl,St.fin (W:=W) ?_⟩
 (repeat (first|with_reducible exact HS.out|(with_reducible refine St.set ?_ _ _ _ ?_;rotate_left;omega)|with_reducible refine St.alloc ?_ _|with_reducible refine St.drew ?_))
theorem qp (W:World) (p q:Nat) (B:List Int) (a:Nat) (e:Int) (hC:Cur W p q B a e) (hB:aK B):
  Calls Tryz.prog 110 #[.pointer (some ⟨p,0,none⟩)] W (dH W p q B (pQ (jl B a e).1) (jl B a e).2.1 (jl B a e).2.2):=by
 have hpl:=hC.lt;have HS:=Lib.hid (((St.start hC).alloc (.cells #[.pointer (some ⟨p,0,none⟩)] 53)).alloc (.cells #[.int .u8 0, .bool false] 103));have hb:=(Blk.new W #[.pointer (some ⟨p,0,none⟩)] 53).alloc (.cells #[.int .u8 0, .bool false] 103);have HX:=Lib.hid (Lc.newAt (p:=p) (W.alloc (.cells #[.pointer (some ⟨p,0,none⟩)] 53)) #[.int .u8 0, .bool false] 103 (by rw [World.size_alloc];omega) (World.size_alloc _ _));obtain ⟨R,hR⟩:∃R,R=jl B a e:=⟨_,rfl⟩;rw [←hR]
 have HK:=Lib.hid (show Calls Tryz.prog 121 #[.pointer (some ⟨p,0,none⟩), .func (.func 122) #[] #[.pointer (some ⟨W.heap.size,0,none⟩)]] ((W.alloc (.cells #[.pointer (some ⟨p,0,none⟩)] 53)).alloc (.cells #[.int .u8 0, .bool false] 103)) (dH ((W.alloc (.cells #[.pointer (some ⟨p,0,none⟩)] 53)).alloc (.cells #[.int .u8 0, .bool false] 103)) p q B (pQ R.1) R.2.1 R.2.2)from by
  unfold jl fZ at hR;by_cases he:e=0
  ·subst he;rw [if_pos rfl]at hR;have h1:=ve (((W.alloc (.cells #[.pointer (some ⟨p,0,none⟩)] 53)).alloc (.cells #[.int .u8 0, .bool false] 103)).alloc (.cells #[.int .u8 0, .bool false] 103)) p q W.heap.size B a (HS.out.cur.alloc _) hB (hb.alloc _) (by omega);generalize oU B a=r at *;obtain ⟨⟨x,z⟩,nx,e'⟩:=r;have h:=Bt _ p q B a nx 122 wF #[.pointer (some ⟨W.heap.size,0,none⟩)] x 0 z e' HS.out.cur h1;by_cases h' :e' =0
   ·subst h';rw [if_pos rfl,if_pos rfl]at h;rw [if_pos rfl]at hR;subst hR;exact h
   ·rw [if_neg h',if_neg h']at h;rw [if_neg h']at hR;subst hR;exact h
  ·rw [if_neg he]at hR;subst hR
   exact rO _ p q B a e _ HS.out.cur (beq_eq_false_iff_ne.2 he))
 clear hR hC hB hb;obtain ⟨⟨x,z⟩,nx,e'⟩:=R;dsimp only [pQ]at HK ⊢;go_enter Tryz.func110,Tryz.ntmps110;go_wp2_with fail;refine HK.out.mono ?_;rintro E W1 ⟨rfl,hG⟩;replace HS:=Lib.hid (HS.out.goes hG);replace HX:=Lib.hid (HX.out.goes hG);have x0:=HX.out.c0;have x1:=HX.out.c1;have x2:=HX.out.c1;have y0:=HX.out.fz 0;have y1:=HX.out.fz 1;have y2:=HX.out.fz 1;have xl:=HX.out.lt;clear hG HK;go_wp2_with fail;refine bodyPost_ret (v:=pQ ⟨x,z⟩) (by simp [results,Tryz.results110,go_sem,x0,x1,x2,xl,pQ]) rfl ⟨rfl,St.fin (W:=W) ?_⟩
 (repeat (first|with_reducible exact HS.out|(with_reducible refine St.set ?_ _ _ _ ?_;rotate_left;omega)|with_reducible refine St.alloc ?_ _|with_reducible refine St.drew ?_))
theorem yF (W:World) (p q r:Nat) (B:List Int) (a:Nat) (hC:Cur W p q B a 0) (hB:aK B) (hr:Blk W r #[.pointer (some ⟨p,0,none⟩)] 53) (hrp:r≠p):
  Calls Tryz.prog 112 #[.pointer (some ⟨r,0,none⟩)] W (dH W p q B (gI (nV B a).1) (nV B a).2.1 (nV B a).2.2):=by
 have hpl:=hC.lt;have HS:=Lib.hid ((St.start hC).alloc (.cells #[.int .u32 0, .int .u32 0, .bool false] 101));have HX:=Lib.hid (Lc.new W #[.int .u32 0, .int .u32 0, .bool false] 101 hpl);have HR:=Lib.hid ((⟨hr,hrp⟩:Lc p W r #[.pointer (some ⟨p,0,none⟩)] 53).alloc (.cells #[.int .u32 0, .int .u32 0, .bool false] 101));have HA:=Lib.hid (kH _ p q (W.heap.size+1) B a 0 106 (some ⟨W.heap.size+1,0,none⟩) 1 [112] (HS.out.cur.alloc (.cells (([112]:List Int).map (Value.int .u8)).toArray 5)) hB rfl (by omega) (by have:=fM (W.alloc (.cells #[.int .u32 0, .int .u32 0, .bool false] 101)) [112] 5;rw [World.size_alloc]at this;exact this) (by decide));have c0:W.cell? ⟨r,0,none⟩=some (.pointer (some ⟨p,0,none⟩)):=hr.cell 0;have hrl:=hr.lt;obtain ⟨R,hR⟩:∃R,R=nV B a:=⟨_,rfl⟩;rw [←hR];unfold nV at hR;generalize az (aV B a [112] 106) a 0=r0 at *;obtain ⟨x0,a1,e1⟩:=r0;dsimp only at hR;have HU1:=Lib.hid (fun X (h:Cur X p q B a1 e1)=>mY X p q B a1 e1 h hB);rw [←hR]at HU1;obtain ⟨⟨x,y,z⟩,a2,e2⟩:=R;dsimp only [gI]at HU1 ⊢;clear hC hB hr hrp hR;go_enter Tryz.func112,Tryz.ntmps112;go_wp2_with fail;refine HA.out.mono ?_;rintro E W1 ⟨rfl,hG0⟩;have hG:=Goes.aW hG0;replace HS:=Lib.hid (HS.out.goes hG);replace HX:=Lib.hid (HX.out.goes hG);replace HR:=Lib.hid (HR.out.goes hG);replace c0:=HR.out.c0;replace hrl:=HR.out.lt;have hs1:=HS.out.sz;clear hG hG0 HA;go_wp2_with fail;refine (HU1.out _ HS.out.cur).mono ?_;rintro E W2 ⟨rfl,hG⟩;replace HS:=Lib.hid (HS.out.goes hG);replace HX:=Lib.hid (HX.out.goes hG);have xx0:=HX.out.c0;have xx1:=HX.out.c1;have xx2:=HX.out.c2;have g0:=HX.out.fz 0;have g1:=HX.out.fz 1;have g2:=HX.out.fz 2;have hxl:=HX.out.lt;clear hG HU1;go_wp2_with fail;refine bodyPost_ret (v:=gI (x,y,z)) (by simp [results,Tryz.results112,go_sem,xx0,xx1,xx2,hxl,gI]) rfl ⟨rfl,St.fin (W:=W) ?_⟩
 (repeat (first|with_reducible exact HS.out|(with_reducible refine St.set ?_ _ _ _ ?_;rotate_left;omega)|with_reducible refine St.alloc ?_ _|with_reducible refine St.drew ?_))
theorem sZ (W:World) (p q:Nat) (B:List Int) (a:Nat) (e:Int) (hC:Cur W p q B a e) (hB:aK B):
  Calls Tryz.prog 79 #[.pointer (some ⟨p,0,none⟩)] W (dH W p q B (gI (gJ B a e).1) (gJ B a e).2.1 (gJ B a e).2.2):=by
 have hpl:=hC.lt;have HS:=Lib.hid (((St.start hC).alloc (.cells #[.pointer (some ⟨p,0,none⟩)] 53)).alloc (.cells #[.int .u32 0, .int .u32 0, .bool false] 101));have hb:=(Blk.new W #[.pointer (some ⟨p,0,none⟩)] 53).alloc (.cells #[.int .u32 0, .int .u32 0, .bool false] 101);have HX:=Lib.hid (Lc.newAt (p:=p) (W.alloc (.cells #[.pointer (some ⟨p,0,none⟩)] 53)) #[.int .u32 0, .int .u32 0, .bool false] 101 (by rw [World.size_alloc];omega) (World.size_alloc _ _));obtain ⟨R,hR⟩:∃R,R=gJ B a e:=⟨_,rfl⟩;rw [←hR]
 have HK:=Lib.hid (show Calls Tryz.prog 111 #[.pointer (some ⟨p,0,none⟩), .func (.func 112) #[] #[.pointer (some ⟨W.heap.size,0,none⟩)]] ((W.alloc (.cells #[.pointer (some ⟨p,0,none⟩)] 53)).alloc (.cells #[.int .u32 0, .int .u32 0, .bool false] 101)) (dH ((W.alloc (.cells #[.pointer (some ⟨p,0,none⟩)] 53)).alloc (.cells #[.int .u32 0, .int .u32 0, .bool false] 101)) p q B (gI R.1) R.2.1 R.2.2)from by
  unfold gJ fZ at hR;by_cases he:e=0
  ·subst he;rw [if_pos rfl]at hR;have h1:=yF (((W.alloc (.cells #[.pointer (some ⟨p,0,none⟩)] 53)).alloc (.cells #[.int .u32 0, .int .u32 0, .bool false] 101)).alloc (.cells #[.int .u32 0, .int .u32 0, .bool false] 101)) p q W.heap.size B a (HS.out.cur.alloc _) hB (hb.alloc _) (by omega);generalize nV B a=r at *;obtain ⟨⟨x,y,z⟩,nx,e'⟩:=r;have h:=sj _ p q B a nx 112 yu #[.pointer (some ⟨W.heap.size,0,none⟩)] x y z e' HS.out.cur h1;by_cases h' :e' =0
   ·subst h';rw [if_pos rfl,if_pos rfl]at h;rw [if_pos rfl]at hR;subst hR;exact h
   ·rw [if_neg h',if_neg h']at h;rw [if_neg h']at hR;subst hR;exact h
  ·rw [if_neg he]at hR;subst hR
   exact mW _ p q B a e _ HS.out.cur (beq_eq_false_iff_ne.2 he))
 clear hR hC hB hb;obtain ⟨⟨x,y,z⟩,nx,e'⟩:=R;dsimp only [gI]at HK ⊢;go_enter Tryz.func79,Tryz.ntmps79;go_wp2_with fail;refine HK.out.mono ?_;rintro E W1 ⟨rfl,hG⟩;replace HS:=Lib.hid (HS.out.goes hG);replace HX:=Lib.hid (HX.out.goes hG);have x0:=HX.out.c0;have x1:=HX.out.c1;have x2:=HX.out.c2;have y0:=HX.out.fz 0;have y1:=HX.out.fz 1;have y2:=HX.out.fz 2;have xl:=HX.out.lt;clear hG HK;go_wp2_with fail;refine bodyPost_ret (v:=gI ⟨x,y,z⟩) (by simp [results,Tryz.results79,go_sem,x0,x1,x2,xl,gI]) rfl ⟨rfl,St.fin (W:=W) ?_⟩
 (repeat (first|with_reducible exact HS.out|(with_reducible refine St.set ?_ _ _ _ ?_;rotate_left;omega)|with_reducible refine St.alloc ?_ _|with_reducible refine St.drew ?_))
def knM (B:List Int) (a:Nat) (e:Int):Int×Nat×Int:=
 let b:=aQ B a e
 (b.1,b.2.1,if 3< b.1 then cz b.2.2 107 else b.2.2)
theorem rF {B:List Int} {a:Nat} {e:Int} (hB:aK B):0≤(aQ B a e).1∧(aQ B a e).1≤255:=by
 unfold aQ;split
 ·cases h:B[a]? with
  |none=>simp
  |some x=>exact hB.get h
 ·simp
theorem wG (W:World) (p q:Nat) (B:List Int) (a:Nat) (e:Int) (sat:Bool) (hC:Cur W p q B a e) (hB:aK B):
  Calls Tryz.prog 109 #[.agg #[.pointer (some ⟨p,0,none⟩), .bool sat]] W (dH W p q B (.int .i64 (knM B a e).1) (knM B a e).2.1 (knM B a e).2.2):=by
 have hpl:=hC.lt;have HS:=Lib.hid ((St.start hC).alloc (.cells #[.pointer (some ⟨p,0,none⟩), .bool sat] 67));have HX:=Lib.hid (Lc.new W #[.pointer (some ⟨p,0,none⟩), .bool sat] 67 hpl);have HA:=Lib.hid (iw _ p q B a e HS.out.cur hB);have hbb:=rF (a:=a) (e:=e) hB;obtain ⟨R,hR⟩:∃R,R=knM B a e:=⟨_,rfl⟩;rw [←hR];unfold knM at hR;generalize aQ B a e=r0 at *;obtain ⟨x0,a1,e1⟩:=r0;dsimp only at hR hbb;clear hC hB;by_cases hx:3< x0
 ·rw [if_pos hx]at hR;subst hR;go_enter Tryz.func109,Tryz.ntmps109;go_wp2_with fail;refine HA.out.mono ?_;rintro E W1 ⟨rfl,hG⟩;replace HS:=Lib.hid (HS.out.goes hG);replace HX:=Lib.hid (HX.out.goes hG);have c0:=HX.out.c0;have hxl:=HX.out.lt;clear hG HA;go_wp2_with fail;refine (eD _ p q B a1 e1 107 HS.out.cur rfl).mono ?_;rintro E W2 ⟨rfl,hG⟩;replace HS:=Lib.hid (HS.out.goes hG);clear hG;go_wp2_with fail;go_ret;exact ⟨rfl,HS.out.fin⟩
 ·rw [if_neg hx]at hR;subst hR;go_enter Tryz.func109,Tryz.ntmps109;go_wp2_with fail;refine HA.out.mono ?_;rintro E W1 ⟨rfl,hG⟩;replace HS:=Lib.hid (HS.out.goes hG);clear hG HA;go_wp2_with fail;go_ret;exact ⟨rfl,HS.out.fin⟩
theorem mh (W:World) (p q:Nat) (B:List Int) (a:Nat) (e:Int) (sat:Bool) (hC:Cur W p q B a e) (hB:aK B):
  Calls Tryz.prog 114 #[.agg #[.pointer (some ⟨p,0,none⟩), .bool sat]] W (rG W p q B (eX sat B a e)):=by
 have hpl:=hC.lt;have HX:=Lib.hid (Lc.new W #[.pointer (some ⟨p,0,none⟩), .bool sat] 67 hpl);have c0:=HX.out.c0;have c1:=HX.out.c1;have HE:=Lib.hid (DR _ p q sat B a e (hC.alloc (.cells #[.pointer (some ⟨p,0,none⟩), .bool sat] 67)) hB);generalize eX sat B a e=r at *;clear hC hB;go_enter Tryz.func114,Tryz.ntmps114;go_wp2_with fail;refine HE.out.mono ?_;rintro E W1 ⟨⟨A,c,rfl,hl,hF⟩,hG⟩;have HF:=Lib.hid hF;have HG:=Lib.hid (Goes.aW hG);clear hF hG HE c0 c1;go_wp2_with fail;go_ret;exact ⟨⟨A,c,rfl,hl,HF.out.mono (fun k hk=>by rw [World.size_alloc]at hk;omega)⟩,HG.out⟩
theorem yK {B:List Int} {a:Nat} {e:Int} (hB:aK B):0≤(knM B a e).1∧(knM B a e).1≤4294967295:=by
 have:=rF (a:=a) (e:=e) hB;unfold knM;dsimp only;omega
def gu (s:ByteArray) (at_:Nat) (c:Int):Bool:=if c=65533 then (if at_+3≤s.size then (s.extract at_ (at_+3)).toList== [239,191,189]else false)else true
def lI (s:ByteArray):Nat→Nat→Bool
 |0,_=>true
 |f+1,pos=>if pos< s.size then gu s pos (Utf8.decode s pos).1 && lI s f (pos+(Utf8.decode s pos).2)else true
def jd (s:ByteArray):Bool:=lI s (s.size+1) 0
theorem vv (s:ByteArray) (pos:Nat) (h:pos< s.size):1≤(Utf8.decode s pos).2:=by
 by_cases ha:(s[pos]'h).toNat< 128
 ·rw [decode_ascii s pos h ha];exact Nat.le_refl _
 ·exact (decode_high s pos h (by omega)).2
theorem Ag (s:ByteArray) (f pos:Nat) (h:¬pos< s.size):lI s f pos=true:=by
 cases f with
 |zero=>rfl
 |succ f=>rw [lI,if_neg h]
theorem tO (W:World) (s:ByteArray) (at_:Nat) (c:Int) (hs:s.size≤1048576) (ha:at_≤s.size):
  Calls Tryz.prog 139 #[.string s, .int .i64 at_, .int .i32 c] W fun E w' =>E= .returned (.bool (gu s at_ c))∧W=w' :=by
 by_cases hc:c=65533
 ·subst hc;by_cases h3:at_+3≤s.size
  ·have h4:decide ((s.size:Int) - at_ ≥ 3)=true:=by simp;omega
   have h5:(3:Int)≤(s.size:Int) - at_:=by omega
   have h6:(at_:Int)+3≤s.size:=by omega
   obtain ⟨R,hR⟩:∃R:Bool,R=((s.extract at_ (at_+3)).toList== [239,191,189]):=⟨_,rfl⟩;have HR:=Lib.hid (show gu s at_ 65533=R by rw [hR,gu,if_pos rfl,if_pos h3]);go_enter Tryz.func139,Tryz.ntmps139;go_wp2_with fail;go_ret;exact ⟨by rw [HR.out,hR];rfl,rfl⟩
  ·have h4:decide ((s.size:Int) - at_ ≥ 3)=false:=by simp;omega
   have h5:¬(3:Int)≤(s.size:Int) - at_:=by omega
   have HR:=Lib.hid (show gu s at_ 65533=false by rw [gu,if_pos rfl,if_neg h3]);go_enter Tryz.func139,Tryz.ntmps139;go_wp2_with fail;go_ret;exact ⟨by rw [HR.out];rfl,rfl⟩
 ·have HR:=Lib.hid (show gu s at_ c=true by rw [gu,if_neg hc]);go_enter Tryz.func139,Tryz.ntmps139;go_wp2_with fail;go_ret;exact ⟨by rw [HR.out];rfl,rfl⟩
theorem vk (W:World) (nb:Nat) (v c nx:Int) (hb:Blk W nb #[.int .i64 v] 3):
  Calls Tryz.prog 132 #[.int .i32 c, .int .i64 nx, .pointer (some ⟨nb,0,none⟩)] W fun E w' =>E= .returned (.bool true)∧∃v',w' =W.setCell ⟨nb,0,none⟩ (.int .i64 v'):=by
 have c0:W.cell? ⟨nb,0,none⟩=some (.int .i64 v):=hb.cell 0;have f0:=hb.frozen 0;have hl:=hb.lt;go_enter Tryz.func132,Tryz.ntmps132;go_wp2_with fail;go_ret;exact ⟨rfl,_,rfl⟩
theorem uB {W X:World} {row:Option Nat} (h:W.grownBy X row) {k:Nat} (hk:W.heap.size≤k) (s:ByteArray) (pos:Nat):W.grownBy (X.iterAt k s pos) row:=
 ⟨h.os,h.tape,h.output,by rw [Lib.iterAt_size];exact h.size,fun j hj hr=>(Lib.iterAt_other X k j s pos (by omega)).trans (h.block j hj hr)⟩
def uW (W:World) (nb:Nat) (s:ByteArray) (E:Ending) (w' :World):Prop:=E= .returned (.bool (jd s))∧(∃v,Blk w' nb #[.int .i64 v] 3)∧W.grownBy w' (some nb)
theorem D5 (W:World) (nb:Nat) (v0:Int) (s:ByteArray) (hs:s.size≤1048576) (hb:Blk W nb #[.int .i64 v0] 3):
  Calls Tryz.prog 131 #[.string s, .func (.func 132) #[] #[.pointer (some ⟨nb,0,none⟩)]] W (uW W nb s):=by
 have hin:∀args w,Sem.run Tryz.prog (callFunc 132 args) w= .ok (.enter 132 args) w:=enters_of Tryz.func132 (by kernel_rfl) rfl;have hnl:=hb.lt;have HB:=Lib.hid hb;clear hb;go_enter Tryz.func131,Tryz.ntmps131;go_wp2_with fail;have hit0:(W.iter s 0).heap[W.heap.size]? =some (.stringIter s 0):=World.iter_heap W s 0;have hg0:W.grownBy (W.iter s 0) (some nb):=World.grownBy_alloc W (.stringIter s 0) _;have hb0:Blk (W.iter s 0) nb #[.int .i64 v0] 3:=HB.out.alloc (.stringIter s 0);go_loopw [5,6] (fun bg ls wr=>∃(f pos:Nat) (v:Int),((bg= .int .i64 (-1)∧ls= .int .i32 0∧Hid (jd s=lI s f pos))∨(∃b:Nat,∃c:Int,bg= .int .i64 b∧ls= .int .i32 c∧b≤s.size∧Hid (jd s=(gu s b c && lI s f pos))))∧Hid (s.size< pos+f)∧Hid (wr.heap[W.heap.size]? =some (.stringIter s pos))∧Hid (Blk wr nb #[.int .i64 v] 3)∧Hid (W.grownBy wr (some nb))) (fun _ _ wr=>s.size - wr.iterPos W.heap.size)
 case atStart=>exact ⟨s.size+1,0,v0, .inl ⟨rfl,rfl,rfl⟩,Lib.hid (by omega),hit0,hb0,hg0⟩
 case round=>
  obtain ⟨f,pos,v,hst,HF,HI,HBK,HG⟩:=hrel;by_cases hp:pos< s.size
  ·have hnx:∀ty,(Instr.next (.pointer (some ⟨W.heap.size,0,none⟩)) true ty).run Tryz.prog wr=_:=fun ty=>Lib.run_next_any_at wr W.heap.size s pos ty HI.out hp
   have hwd:=vv s pos hp;obtain ⟨f,rfl⟩:∃g,f=g+1:=⟨f - 1,by have:=HF.out;omega⟩;have HGo:=Lib.hid (show lI s (f+1) pos=(gu s pos (Utf8.decode s pos).1 && lI s f (pos+(Utf8.decode s pos).2))by rw [lI,if_pos hp]);have HI2:=Lib.hid (Lib.iterAt_heap wr W.heap.size s pos (pos+(Utf8.decode s pos).2) HI.out);have HB2:=Lib.hid (show Blk (wr.iterAt W.heap.size s (pos+(Utf8.decode s pos).2)) nb #[.int .i64 v] 3 from (Lib.iterAt_other wr W.heap.size nb s (pos+(Utf8.decode s pos).2) (by omega)).trans HBK.out);have HG2:=Lib.hid (uB HG.out (Nat.le_refl _) s (pos+(Utf8.decode s pos).2));have hpi:=iterPos_of HI.out;generalize wr.iterAt W.heap.size s (pos+(Utf8.decode s pos).2)=wi at *;generalize Utf8.decode s pos=d at *;obtain ⟨c1,wd⟩:=d;dsimp only at hnx hwd HGo HI2;rcases hst with ⟨rfl,rfl,HE⟩|⟨b,c,rfl,rfl,hbs,HE⟩
   ·go_wp2_with fail;go_roundw
    case rel=>exact ⟨f,pos+wd,v, .inr ⟨pos,c1,rfl,rfl,by omega,Lib.hid (by rw [HE.out,HGo.out])⟩,Lib.hid (by have:=HF.out;omega),HI2,HB2,HG2⟩
    case measure=>
     rw [hpi,iterPos_of HI2.out];omega
   ·have HR:=Lib.hid (tO wi s b c hs hbs);have HC:=Lib.hid (fun cx nx=>vk wi nb v cx nx HB2.out);obtain ⟨rb,hrb⟩:∃rb,rb=gu s b c:=⟨_,rfl⟩;rw [←hrb]at HR HE;clear hrb
    cases rb with
    |false=>
     go_wp2_with fail;refine HR.out.mono ?_;rintro E w' ⟨rfl,rfl⟩;go_wp2_with fail;go_ret;exact ⟨by rw [HE.out];rfl,⟨v,HB2.out⟩,HG2.out⟩
    |true=>
     go_wp2_with fail;refine HR.out.mono ?_;rintro E w' ⟨rfl,rfl⟩;go_wp2_with fail;refine (HC.out _ _).mono ?_;rintro E w' ⟨rfl,v',rfl⟩;go_wp2_with fail;go_roundw
     case rel=>exact ⟨f,pos+wd,v', .inr ⟨pos,c1,rfl,rfl,by omega,Lib.hid (by rw [HE.out,Bool.true_and,HGo.out])⟩,Lib.hid (by have:=HF.out;omega),Lib.hid ((Below.heap_setCell _ _ _ _ (by show W.heap.size≠nb;omega)).trans HI2.out),HB2.out.set 0 _,HG2.out.trans (bA _ nb 0 _)⟩
     case measure=>
      rw [hpi,iterPos_of ((Below.heap_setCell _ _ _ _ (by show W.heap.size≠nb;omega)).trans HI2.out)];omega
  ·have hnx:∀ty,(Instr.next (.pointer (some ⟨W.heap.size,0,none⟩)) true ty).run Tryz.prog wr=_:=fun ty=>Lib.run_next_end_at wr W.heap.size s pos ty HI.out hp
   have HGo:=Lib.hid (Ag s f pos hp);rcases hst with ⟨rfl,rfl,HE⟩|⟨b,c,rfl,rfl,hbs,HE⟩
   ·go_wp2_with fail;go_ret;exact ⟨by rw [HE.out,HGo.out];rfl,⟨v,HBK.out⟩,HG.out⟩
   ·have HR:=Lib.hid (tO wr s b c hs hbs);have HC:=Lib.hid (fun cx nx=>vk wr nb v cx nx HBK.out);obtain ⟨rb,hrb⟩:∃rb,rb=gu s b c:=⟨_,rfl⟩;rw [←hrb]at HR HE;clear hrb
    cases rb with
    |false=>
     go_wp2_with fail;refine HR.out.mono ?_;rintro E w' ⟨rfl,rfl⟩;go_wp2_with fail;go_ret;exact ⟨by rw [HE.out];rfl,⟨v,HBK.out⟩,HG.out⟩
    |true=>
     go_wp2_with fail;refine HR.out.mono ?_;rintro E w' ⟨rfl,rfl⟩;go_wp2_with fail;refine (HC.out _ _).mono ?_;rintro E w' ⟨rfl,v',rfl⟩;go_wp2_with fail;go_ret;exact ⟨by rw [HE.out,HGo.out];rfl,⟨v',HBK.out.set 0 _⟩,HG.out.trans (bA _ nb 0 _)⟩
def Ie (W:World) (v:Value) (E:Ending) (w' :World):Prop:=E= .returned v∧Below W.heap.size W w'
theorem DI {W X Y:World} {nb:Nat} (hb:Below W.heap.size W X) (hg:X.grownBy Y (some nb)) (hn:W.heap.size≤nb):Below W.heap.size W Y:=hb.grown hg hb.size (fun k hk=>by injection hk with hk;omega)
theorem xC (B:List Int):(strOfNums B).size=B.length:=strOfNums_size B
theorem xI (W:World) (A:Option Addr) (c:Nat) (B:List Int) (hR:RdI W .u8 A B) (hB:aK B):
  Calls Tryz.prog 120 #[.slice A B.length c] W fun E w' =>(∃v,E= .returned (.tuple #[.int .i64 v, .bool (jd (strOfNums B))]))∧Below W.heap.size W w' :=by
 have hBl:=Blk.new W #[.int .i64 0] 3;have hb0:Below W.heap.size W (W.alloc (.cells #[.int .i64 0] 3)):=(Below.refl _ _).alloc (Nat.le_refl _) _;have hk:=dR (W.alloc (.cells #[.int .i64 0] 3)) A B c (hR.below hb0);have HT:=Lib.hid (D5 _ W.heap.size 0 (strOfNums B) (by rw [xC];exact hB.1) hBl);have HB0:=Lib.hid hb0;clear hR hB hBl hb0;generalize strOfNums B=s at *;obtain ⟨ok,hok⟩:∃ok,ok=jd s:=⟨_,rfl⟩;unfold uW at HT;rw [←hok]at HT ⊢;clear hok;go_enter Tryz.func120,Tryz.ntmps120;go_wp2_with fail;refine HT.out.mono ?_;rintro E w' ⟨rfl,⟨v,hv⟩,hg⟩;have HB:=Lib.hid (DI HB0.out hg (Nat.le_refl _));have HV:=Lib.hid hv;have v0:w'.cell? ⟨W.heap.size,0,none⟩=some (.int .i64 v):=hv.cell 0;have vf:=hv.frozen 0;have vl:=hv.lt;clear HT HB0 hk hv hg
 cases ok with
 |false=>
  go_wp2_with fail;refine bodyPost_ret (v:= .tuple #[.int .i64 0, .bool false]) (by simp [results,Tryz.results120,go_sem,v0,vl]) rfl ⟨⟨0,rfl⟩, ?_⟩
  (repeat (first|with_reducible exact HB.out|(with_reducible refine d9 ?_ _ _ _ ?_;rotate_left;omega)|with_reducible refine aY ?_ _|with_reducible refine bH ?_))
 |true=>
  go_wp2_with fail;refine bodyPost_ret (v:= .tuple #[.int .i64 v, .bool true]) (by simp [results,Tryz.results120,go_sem,v0,vl]) rfl ⟨⟨v,rfl⟩, ?_⟩
  (repeat (first|with_reducible exact HB.out|(with_reducible refine d9 ?_ _ _ _ ?_;rotate_left;omega)|with_reducible refine aY ?_ _|with_reducible refine bH ?_))
theorem zD (W:World) (A:Option Addr) (c:Nat) (B:List Int) (hR:RdI W .u8 A B) (hB:aK B):
  Calls Tryz.prog 105 #[.slice A B.length c] W (Ie W (.bool (jd (strOfNums B)))):=by
 have HT:=Lib.hid (xI W A c B hR hB);clear hR hB;generalize jd (strOfNums B)=ok at *;go_enter Tryz.func105,Tryz.ntmps105;go_wp2_with fail;refine HT.out.mono ?_;rintro E w' ⟨⟨v,rfl⟩,hb⟩;have HB:=Lib.hid hb;clear hb HT;go_wp2_with fail;go_ret;exact ⟨rfl,HB.out⟩
def pK (B:List Int) (a:Nat):ByteArray×Nat×Int:=
 let t:=aT B a 0
 (strOfNums t.1,t.2.1,if t.2.2=0 then (if jd (strOfNums t.1)=true then 0 else 102)else t.2.2)
def jI (B:List Int) (a:Nat) (e:Int):ByteArray×Nat×Int:=fZ ⟨#[]⟩ (pK B a) a e
theorem fw {B:List Int} (hB:aK B) (a:Nat) (e:Int):aK (aT B a e).1:=by
 unfold aT rdL;split
 ·unfold cO;by_cases h:(az (aI B a) a e).2.1+(az (aI B a) a e).1.toNat≤B.length
  ·rw [if_pos h];refine ⟨?_,fun x hx=>hB.2 x (List.mem_of_mem_drop (List.mem_of_mem_take hx))⟩;have:=hB.1;simp only [List.length_take,List.length_drop];omega
  ·rw [if_neg h];exact ⟨by simp,by simp⟩
 ·exact ⟨by simp,by simp⟩
theorem zq (W:World) (p q r:Nat) (B:List Int) (a:Nat) (hC:Cur W p q B a 0) (hB:aK B) (hr:Blk W r #[.pointer (some ⟨p,0,none⟩)] 53) (hrp:r≠p):
  Calls Tryz.prog 104 #[.pointer (some ⟨r,0,none⟩)] W (dH W p q B (.string (pK B a).1) (pK B a).2.1 (pK B a).2.2):=by
 have hpl:=hC.lt;have HS:=Lib.hid (St.start hC);have HR:=Lib.hid (⟨hr,hrp⟩:Lc p W r #[.pointer (some ⟨p,0,none⟩)] 53);have hu:=bP (a:=a) (e:=0) hB;have hpb:=fw hB a 0;have HU:=Lib.hid (fun X (h:Cur X p q B a 0)=>dG X p q B a 0 h hB);obtain ⟨R,hR⟩:∃R,R=pK B a:=⟨_,rfl⟩;rw [←hR];unfold pK at hR;have hpm:aT B a 0=rdL (cO B (az (aI B a) a 0).2.1 (az (aI B a) a 0).1.toNat) (az (aI B a) a 0).2.1 (az (aI B a) a 0).2.2:=rfl;rw [hpm]at hR hpb;clear hpm;generalize az (aI B a) a 0=r0 at *;obtain ⟨n,a1,e1⟩:=r0;dsimp only at hu hR hpb;obtain ⟨k,rfl⟩:=Int.eq_ofNat_of_zero_le hu.1;rw [Int.toNat_natCast]at hR hpb;have HT:=Lib.hid (fun X (h:Cur X p q B a1 e1)=>j6 X p q B a1 k e1 h hB (by omega));generalize rdL (cO B a1 k) a1 e1=t at *;obtain ⟨bs,a2,e2⟩:=t;dsimp only at hR hpb;have HRR:=Lib.hid hR;have HBS:=Lib.hid hpb;have d0:W.cell? ⟨r,0,none⟩=some (.pointer (some ⟨p,0,none⟩)):=hr.cell 0;have HD:=Lib.hid (fun Y (h:Lc p Y r #[.pointer (some ⟨p,0,none⟩)] 53)=>h.c0);have hrl:=hr.lt;clear hC hB hr hrp hu hR hpb;go_enter Tryz.func104,Tryz.ntmps104;go_wp2_with fail
 go_region_held3 (fun w' =>w'.cell? ⟨r,0,none⟩=some (.pointer (some ⟨p,0,none⟩)))
  (first
   |exact d0
   |exact d2
   |exact d1)
  (first
   |(go_at_call 71;refine (HT.out _ hS1.cur).mono ?_;rintro E W2 ⟨⟨v,rfl,hO⟩,hG2⟩;have hS2:=hS1.goes hG2;have hR2:=hR1.goes hG2;have d2:=HD.out _ hR2)
   |(go_at_call 34;refine (HU.out _ HS.out.drew.cur).mono ?_;rintro E W1 ⟨rfl,hG1⟩;have hS1:=HS.out.drew.goes hG1;have hR1:=HR.out.drew.goes hG1;have d1:=HD.out _ hR1))
 have hO:=bX hO (show W.heap.size≤W1.heap.size from hS1.sz);obtain ⟨A,c,rfl,hl,hF⟩:=hO.reads;have HO:=Lib.hid hO;have HRI:=Lib.hid (kM hF.now (by have:=HBS.out.1;omega));have HS2:=Lib.hid hS2;have HR2:=Lib.hid hR2;have hrl2:=hR2.lt;clear d0 d1 HS HR HT HU hG1 hG2 hS1 hR1 hO hF hS2 hR2 hl HD;by_cases he:e2=0
 ·subst he;have HV:=Lib.hid (zD W2 A c bs HRI.out HBS.out);have hk:=fun X (h:Below W2.heap.size W2 X)=>dR X A bs c (HRI.out.below h)
  have HK:=Lib.hid hk;clear hk;obtain ⟨ok,hok⟩:∃ok,ok=jd (strOfNums bs):=⟨_,rfl⟩;rw [←hok]at HV;rw [if_pos rfl,←hok]at HRR;clear hok
  cases ok with
  |true=>
   go_wp2_with fail;refine (bu _ _ _ _ _ _ true HS2.out.cur rfl).mono ?_;rintro E w' ⟨rfl,rfl⟩;go_wp2_with fail;refine HV.out.mono ?_;rintro E W3 ⟨rfl,hb⟩;have HS3:=Lib.hid (HS2.out.below hb);have hk:=HK.out W3 hb;clear hb HV HK;go_wp2_with fail;go_ret;rw [HRR.out];exact ⟨rfl,HS3.out.fin⟩
  |false=>
   go_wp2_with fail;refine (bu _ _ _ _ _ _ true HS2.out.cur rfl).mono ?_;rintro E w' ⟨rfl,rfl⟩;go_wp2_with fail;refine HV.out.mono ?_;rintro E W3 ⟨rfl,hb⟩;have HS3:=Lib.hid (HS2.out.below hb);have HR3:=Lib.hid (HR2.out.below hb);have HB3:=Lib.hid hb;have d3:=HR3.out.c0;replace hrl2:=HR3.out.lt;obtain ⟨A',c',g0,g1,g2,k0,k1,k2,gle,gq,glt,ga⟩:=HS3.out.cur.cells;clear hb HV d2 gq;go_wp2_with fail;go_still_tail 8,(by kernel_rfl);change wpList _ _ _ _ _ W3.drew;have HS4:=Lib.hid HS3.out.drew;have HB4:=Lib.hid (bH HB3.out);have HO4:=Lib.hid (HO.out.below HB4.out);generalize W3.drew=W4 at *;go_wp2_with fail;refine (j4 W4 p q B a2 a2 102 HS4.out.cur rfl HS4.out.le).mono ?_;rintro E W5 ⟨rfl,hG⟩;have HS5:=Lib.hid (HS4.out.goes hG);have hO5:=HO4.out.grown hG.2 (row:=some p) (.inr (fun e=>by have:=(Own.block HO4.out e).1;omega)) (fun k hk=>hk.elim)
   have hR5:RdI W5 .u8 A bs:=by
    obtain ⟨A',c',h1,h2,h3⟩:=hO5.reads;injection h1 with h1 _ _;subst h1;exact kM h3.now (by have:=HBS.out.1;omega)
   have hk:=dR W5 A bs c hR5;clear hG HS4 hR5 hO5;go_wp2_with fail;go_ret;rw [HRR.out];exact ⟨rfl,HS5.out.fin⟩
 ·have hk:=dR W2 A bs c HRI.out;have HE2:=Lib.hid he;rw [if_neg he]at HRR;clear he;go_wp2_with fail;refine (bu _ _ _ _ _ _ false HS2.out.cur (beq_eq_false_iff_ne.2 HE2.out)).mono ?_;rintro E w' ⟨rfl,rfl⟩;go_wp2_with fail;go_ret;rw [HRR.out];exact ⟨rfl,HS2.out.fin⟩
theorem zx:Enters Tryz.prog 104:=enters_of Tryz.func104 (by kernel_rfl) rfl
theorem nI (W:World) (p q:Nat) (B:List Int) (a:Nat) (e:Int) (hC:Cur W p q B a e) (hB:aK B):
  Calls Tryz.prog 72 #[.pointer (some ⟨p,0,none⟩)] W (dH W p q B (.string (jI B a e).1) (jI B a e).2.1 (jI B a e).2.2):=by
 have hpl:=hC.lt;have HS:=Lib.hid ((St.start hC).alloc (.cells #[.pointer (some ⟨p,0,none⟩)] 53));have hb:=Blk.new W #[.pointer (some ⟨p,0,none⟩)] 53;obtain ⟨R,hR⟩:∃R,R=jI B a e:=⟨_,rfl⟩;rw [←hR]
 have HK:=Lib.hid (show Calls Tryz.prog 103 #[.pointer (some ⟨p,0,none⟩), .func (.func 104) #[] #[.pointer (some ⟨W.heap.size,0,none⟩)]] (W.alloc (.cells #[.pointer (some ⟨p,0,none⟩)] 53)) (dH (W.alloc (.cells #[.pointer (some ⟨p,0,none⟩)] 53)) p q B (.string R.1) R.2.1 R.2.2)from by
  unfold jI fZ at hR;by_cases he:e=0
  ·subst he;rw [if_pos rfl]at hR;have h1:=zq (W.alloc (.cells #[.pointer (some ⟨p,0,none⟩)] 53)) p q W.heap.size B a HS.out.cur hB hb (by omega);generalize pK B a=r at *;obtain ⟨x,nx,e'⟩:=r;have h:=vo (W.alloc (.cells #[.pointer (some ⟨p,0,none⟩)] 53)) p q B a nx 104 zx #[.pointer (some ⟨W.heap.size,0,none⟩)] (fun v _=>v= .string x) e' HS.out.cur (h1.mono fun E w' ⟨g1,g2⟩=>⟨_,g1,rfl,g2⟩);refine h.mono ?_;rintro E w' ⟨⟨v,rfl,g1,g2⟩,g3⟩;by_cases h' :e' =0
   ·subst h';rw [if_pos rfl]at hR;subst hR;rw [g1 rfl];exact ⟨rfl,g3⟩
   ·rw [if_neg h']at hR;subst hR;rw [g2 h'];rw [rsA,if_neg h']at g3;exact ⟨rfl,g3⟩
  ·rw [if_neg he]at hR;subst hR;refine (rP _ p q B a e _ HS.out.cur (beq_eq_false_iff_ne.2 he)).mono ?_;rintro E w' ⟨rfl,rfl⟩
   exact ⟨rfl,Goes.same HS.out.cur⟩)
 clear hR hC hB hb;obtain ⟨x,nx,e'⟩:=R;go_enter Tryz.func72,Tryz.ntmps72;go_wp2_with fail;refine HK.out.mono ?_;rintro E W1 ⟨rfl,hG⟩;replace HS:=Lib.hid (HS.out.goes hG);clear hG HK;go_wp2_with fail;go_ret;exact ⟨rfl,HS.out.fin⟩
end Go.Proofs.YtofaiocffifhfaaGreat
section
namespace Go.Proofs.YtofaiocffifhfaaGreatB
open Go.RowKit Go.Proofs.YtofaiocffifhfaaGreatW.PrintWords
section
variable {P:Program} {ops:Array Oper} {rest:List Oper} {o:Oper} {a:Act} {Q:Exit→Act→World→Prop} {W:World}
end
end Go.Proofs.YtofaiocffifhfaaGreatB
end
