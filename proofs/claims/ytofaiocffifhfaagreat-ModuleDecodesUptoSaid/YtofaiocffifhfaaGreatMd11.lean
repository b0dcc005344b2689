/- Lemmas towards this claim's statement, each under the conditions that it states itself. -/
import Derived.Test.YtofaiocffifhfaaGreatMd10
set_option maxRecDepth 100000
set_option maxHeartbeats 8000000
set_option linter.unusedVariables false
set_option linter.unusedSimpArgs false
section
namespace Go.Proofs.YtofaiocffifhfaaGreat
open Go.RowKit Go.Shelf YtofaiocffifhfaaGreatB Go.Proofs.YtofaiocffifhfaaGreatW.PrintWords
theorem GL {α:Type} {d:Kd α} {t base:Nat} {ok:Nat→Prop} {W X:World} {v:Value} {xs:List α} (h:Own d t W base ok v xs) (ha:Agr (fun k=>(ok k∧some k≠v.ownBlock)∨v.ownBlock=some k) W X):Own d t X base ok v xs:=by
 obtain ⟨inner,⟨h1,h2⟩,hr⟩:=h;refine ⟨inner,⟨h1, ?_⟩,hr.jV (fun _ _ hp=>Ft.step hp ⟨ha.os,ha.tape,ha.output,ha.size,fun k hk hl=>ha.block k (.inl hk) hl⟩)⟩;rcases h2 with h2|⟨g,cap,cur,rfl,hg,hh,h3⟩
 ·exact .inl h2
 ·exact .inr ⟨g,cap,cur,rfl,hg,(ha.block g (.inr rfl) (Array.getElem?_eq_some_iff.1 hh).1).trans hh,h3⟩
structure lM (ok:Nat→Prop) (X:World) (M:df) (v0 v1 v3 v4 v5 v6 v9 v10 v11:Value):Prop where
 r0:Row kFt ok X v0 M.types
 r1:Row iF ok X v1 M.imports
 r3:Row dK ok X v3 M.tables
 r4:Row dK ok X v4 M.mems
 r5:Row gH ok X v5 M.globals
 r6:Row iB ok X v6 M.exports
 r9:Row iE ok X v9 M.elems
 r10:Row iy ok X v10 M.datas
 r11:Row (rng .u32) ok X v11 M.tys
theorem lM.step {ok:Nat→Prop} {X Y:World} {M:df} {v0 v1 v3 v4 v5 v6 v9 v10 v11:Value} (h:lM ok X M v0 v1 v3 v4 v5 v6 v9 v10 v11) (ha:Agr ok X Y):lM ok Y M v0 v1 v3 v4 v5 v6 v9 v10 v11:=
 ⟨h.r0.step ha,h.r1.step ha,h.r3.step ha,h.r4.step ha,h.r5.step ha,h.r6.step ha,h.r9.step ha,h.r10.step ha,h.r11.step ha⟩
theorem lM.bound {ok ok' :Nat→Prop} {X:World} {M:df} {v0 v1 v3 v4 v5 v6 v9 v10 v11:Value} (h:lM ok X M v0 v1 v3 v4 v5 v6 v9 v10 v11) (hk:∀k,ok k→k< X.heap.size→ok' k):lM ok' X M v0 v1 v3 v4 v5 v6 v9 v10 v11:=
 ⟨h.r0.bound hk,h.r1.bound hk,h.r3.bound hk,h.r4.bound hk,h.r5.bound hk,h.r6.bound hk,h.r9.bound hk,h.r10.bound hk,h.r11.bound hk⟩
structure JO (hi:Int) (v0 v1 v2 v3 v4 v5 v6 v9 v10 v11:Value):Prop where
 n1:hi< 1→v0= .slice none 0 0
 n2:hi< 2→v1= .slice none 0 0
 n3:hi< 3→v11= .slice none 0 0
 n4:hi< 4→v3= .slice none 0 0
 n5:hi< 5→v4= .slice none 0 0
 n6:hi< 6→v5= .slice none 0 0
 n7:hi< 7→v6= .slice none 0 0
 n9:hi< 9→v9= .slice none 0 0
 n10:hi< 10→v2= .slice none 0 0
 n11:hi< 11→v10= .slice none 0 0
def RI (ok:Nat→Prop) (n0:Nat) (X:World) (p m:Nat) (hi:Int) (M:df):Prop:=∃v0 v1 v2 v3 v4 v5 v6 v9 v10 v11,
 JO hi v0 v1 v2 v3 v4 v5 v6 v9 v10 v11∧(∀k,v2.ownBlock=some k→k≠p)∧Blk X m #[v0,v1,v2,v3,v4,v5,v6, .bool M.starts, .int .u32 M.start,v9,v10,v11] 78∧
 lM (fun k=>ok k∧some k≠v2.ownBlock) X M v0 v1 v3 v4 v5 v6 v9 v10 v11∧Own jo 87 X n0 ok v2 M.bodies
def og (sat:Bool) (B:List Int) (n:Int) (M:df) (e:Int):df×Nat×Int:=match n.toNat with
 |0=>(M,AJ B 0 e)
 |1=>({M with types:=(bq (ik B) B 0 e).1},(bq (ik B) B 0 e).2)
 |2=>({M with imports:=(bq (kv B) B 0 e).1},(bq (kv B) B 0 e).2)
 |3=>({M with tys:=(bq (dP B) B 0 e).1},(bq (dP B) B 0 e).2)
 |4=>({M with tables:=(bq (gJ B) B 0 e).1},(bq (gJ B) B 0 e).2)
 |5=>({M with mems:=(bq (fB B) B 0 e).1},(bq (fB B) B 0 e).2)
 |6=>({M with globals:=(bq (gZ sat B) B 0 e).1},(bq (gZ sat B) B 0 e).2)
 |7=>({M with exports:=(bq (l7 B) B 0 e).1},(bq (l7 B) B 0 e).2)
 |8=>({M with starts:=true,start:=(dP B 0 e).1},(dP B 0 e).2)
 |9=>({M with elems:=(bq (gM sat B) B 0 e).1},(bq (gM sat B) B 0 e).2)
 |10=>({M with bodies:=(bq (jg sat B) B 0 e).1},(bq (jg sat B) B 0 e).2)
 |_=>({M with datas:=(bq (gP sat B) B 0 e).1},(bq (gP sat B) B 0 e).2)
theorem xD (sat:Bool) (B:List Int) (n:Int) (M:df) (h11:n≤11):og sat B n M 0=je sat B n M:=by
 unfold og je;have hk:n.toNat≤11:=by omega
 generalize n.toNat=k at *
 match k,hk with
 |0,_=>rfl
 |1,_=>rfl
 |2,_=>rfl
 |3,_=>rfl
 |4,_=>rfl
 |5,_=>rfl
 |6,_=>rfl
 |7,_=>rfl
 |8,_=>rfl
 |9,_=>rfl
 |10,_=>rfl
 |11,_=>rfl
 |k+12,h=>omega
def Ju (ok:Nat→Prop) (n0:Nat) (W:World) (p q m:Nat) (B:List Int) (hi:Int) (r:df×Nat×Int) (E:Ending) (Y:World):Prop:=
 E= .returned (.tuple #[])∧RI (fun k=>ok k∨k=q∨W.heap.size≤k) n0 Y p m hi r.1∧Rdr Y p q B r.2.1 r.2.2∧G2 W Y p m
section
variable {ok:Nat→Prop} {n0:Nat} {W Y:World} {p q m:Nat} {M:df} {v v0 v1 v2 v3 v4 v5 v6 v9 v10 v11:Value}
theorem lM.g2 (h:lM (fun k=>ok k∧some k≠v2.ownBlock) W M v0 v1 v3 v4 v5 v6 v9 v10 v11) (hG:G2 W Y p m) (hok:∀k,ok k→k≠m∧k≠p):lM (fun k=>(ok k∨k=q∨W.heap.size≤k)∧some k≠v2.ownBlock) Y M v0 v1 v3 v4 v5 v6 v9 v10 v11:=
 (h.step (gX hG (fun k hk=>hok k hk.1))).bound (fun k hk _=>⟨.inl hk.1,hk.2⟩)
theorem jF (h:Own jo 87 W n0 ok v2 M.bodies) (hG:G2 W Y p m) (hok:∀k,ok k→k≠m∧k≠p) (hp:∀k,v2.ownBlock=some k→k≠p) (hm:m< n0):Own jo 87 Y n0 (fun k=>ok k∨k=q∨W.heap.size≤k) v2 M.bodies:=
 (GL h (gX hG (fun k hk=>by
  rcases hk with hk|hk
  ·exact hok k hk.1
  ·exact ⟨by have:=(Own.block h hk).1;omega,hp k hk⟩))).mono (fun k hk=> .inl hk)
theorem ji {α:Type} {d:Kd α} {t:Nat} {xs:List α} (h:Own d t Y W.heap.size (fun k=>k=q∨W.heap.size≤k) v xs) (hO:Own jo 87 W n0 ok v2 M.bodies) (hq:q< n0):Row d (fun k=>(ok k∨k=q∨W.heap.size≤k)∧some k≠v2.ownBlock) Y v xs:=by
 obtain ⟨A,c,e,hl,hF⟩:=h.reads;refine ⟨A,c,e,hl,Ft.mono hF (fun k hk=>⟨by rcases hk with (hk|hk)|hk;exact .inr (.inl hk);exact .inr (.inr hk);exact .inr (.inr hk),fun e=> ?_⟩)⟩;have h1:=Own.block hO e.symm;rcases hk with (hk|hk)|hk<;>omega
end
theorem sM (ok:Nat→Prop) (n0:Nat) (W:World) (p q m:Nat) (sat:Bool) (B:List Int) (n hi e:Int) (M:df) (hC:Rdr W p q B 0 e) (hB:aK B) (hR:RI ok n0 W p m hi M) (hok:∀k,ok k→k≠m∧k≠p) (hmp:m≠p) (hq:q< n0) (hm:m< n0) (hmq:m≠q) (hn0:n0≤W.heap.size) (h0:0≤n) (h5:n≤5) (hh:n=0∨hi< n) (hi0:0≤hi):
  Calls Tryz.prog 22 #[.pointer (some ⟨m,0,none⟩), .int .i64 n, .pointer (some ⟨p,0,none⟩)] W (Ju ok n0 W p q m B (if hi< n then n else hi) (og sat B n M e)):=by
 obtain ⟨v0,v1,v2,v3,v4,v5,v6,v9,v10,v11,hN,hp2,hb,hD,hO⟩:=hR;have hn:n=0∨n=1∨n=2∨n=3∨n=4∨n=5:=by omega
 have hqW:q< W.heap.size:=by omega
 rcases hn with rfl|rfl|rfl|rfl|rfl|rfl
 ·refine (EP W p q m B 0 e _ hC hB hb hmp hmq).mono ?_;rintro E Y ⟨rfl,hbv,hC',hG⟩;rw [if_neg (by omega)];exact ⟨rfl,⟨v0,v1,v2,v3,v4,v5,v6,v9,v10,v11,hN,hp2,hbv,hD.g2 hG hok,jF hO hG hok hp2 hm⟩,hC',hG⟩
 ·have hlt:hi< 1:=by omega
  obtain rfl:=hN.n1 hlt;refine (GA W p q m B 0 e _ hC hB hb rfl hmp hmq hqW).mono ?_;rintro E Y ⟨rfl,⟨v,hOv,hbv⟩,hC',hG⟩;rw [if_pos hlt];exact ⟨rfl,⟨v,v1,v2,v3,v4,v5,v6,v9,v10,v11,⟨fun h=>by first|exact hN.n1 (by omega)|omega,fun h=>by first|exact hN.n2 (by omega)|omega,fun h=>by first|exact hN.n3 (by omega)|omega,fun h=>by first|exact hN.n4 (by omega)|omega,fun h=>by first|exact hN.n5 (by omega)|omega,fun h=>hN.n6 (by omega),fun h=>hN.n7 (by omega),fun h=>hN.n9 (by omega),fun h=>hN.n10 (by omega),fun h=>hN.n11 (by omega)⟩,hp2,hbv,{hD.g2 hG hok with r0:=ji hOv hO hq},jF hO hG hok hp2 hm⟩,hC',hG⟩
 ·have hlt:hi< 2:=by omega
  obtain rfl:=hN.n2 hlt;refine (E8 W p q m B 0 e _ hC hB hb rfl hmp hmq hqW).mono ?_;rintro E Y ⟨rfl,⟨v,hOv,hbv⟩,hC',hG⟩;rw [if_pos hlt];exact ⟨rfl,⟨v0,v,v2,v3,v4,v5,v6,v9,v10,v11,⟨fun h=>by first|exact hN.n1 (by omega)|omega,fun h=>by first|exact hN.n2 (by omega)|omega,fun h=>by first|exact hN.n3 (by omega)|omega,fun h=>by first|exact hN.n4 (by omega)|omega,fun h=>by first|exact hN.n5 (by omega)|omega,fun h=>hN.n6 (by omega),fun h=>hN.n7 (by omega),fun h=>hN.n9 (by omega),fun h=>hN.n10 (by omega),fun h=>hN.n11 (by omega)⟩,hp2,hbv,{hD.g2 hG hok with r1:=ji hOv hO hq},jF hO hG hok hp2 hm⟩,hC',hG⟩
 ·have hlt:hi< 3:=by omega
  obtain rfl:=hN.n3 hlt;refine (Fy W p q m B 0 e _ hC hB hb rfl hmp hmq hqW).mono ?_;rintro E Y ⟨rfl,⟨v,hOv,hbv⟩,hC',hG⟩;rw [if_pos hlt];exact ⟨rfl,⟨v0,v1,v2,v3,v4,v5,v6,v9,v10,v,⟨fun h=>by first|exact hN.n1 (by omega)|omega,fun h=>by first|exact hN.n2 (by omega)|omega,fun h=>by first|exact hN.n3 (by omega)|omega,fun h=>by first|exact hN.n4 (by omega)|omega,fun h=>by first|exact hN.n5 (by omega)|omega,fun h=>hN.n6 (by omega),fun h=>hN.n7 (by omega),fun h=>hN.n9 (by omega),fun h=>hN.n10 (by omega),fun h=>hN.n11 (by omega)⟩,hp2,hbv,{hD.g2 hG hok with r11:=ji hOv hO hq},jF hO hG hok hp2 hm⟩,hC',hG⟩
 ·have hlt:hi< 4:=by omega
  obtain rfl:=hN.n4 hlt;refine (EZ W p q m B 0 e _ hC hB hb rfl hmp hmq hqW).mono ?_;rintro E Y ⟨rfl,⟨v,hOv,hbv⟩,hC',hG⟩;rw [if_pos hlt];exact ⟨rfl,⟨v0,v1,v2,v,v4,v5,v6,v9,v10,v11,⟨fun h=>by first|exact hN.n1 (by omega)|omega,fun h=>by first|exact hN.n2 (by omega)|omega,fun h=>by first|exact hN.n3 (by omega)|omega,fun h=>by first|exact hN.n4 (by omega)|omega,fun h=>by first|exact hN.n5 (by omega)|omega,fun h=>hN.n6 (by omega),fun h=>hN.n7 (by omega),fun h=>hN.n9 (by omega),fun h=>hN.n10 (by omega),fun h=>hN.n11 (by omega)⟩,hp2,hbv,{hD.g2 hG hok with r3:=ji hOv hO hq},jF hO hG hok hp2 hm⟩,hC',hG⟩
 ·have hlt:hi< 5:=by omega
  obtain rfl:=hN.n5 hlt;refine (G8 W p q m B 0 e _ hC hB hb rfl hmp hmq hqW).mono ?_;rintro E Y ⟨rfl,⟨v,hOv,hbv⟩,hC',hG⟩;rw [if_pos hlt];exact ⟨rfl,⟨v0,v1,v2,v3,v,v5,v6,v9,v10,v11,⟨fun h=>by first|exact hN.n1 (by omega)|omega,fun h=>by first|exact hN.n2 (by omega)|omega,fun h=>by first|exact hN.n3 (by omega)|omega,fun h=>by first|exact hN.n4 (by omega)|omega,fun h=>by first|exact hN.n5 (by omega)|omega,fun h=>hN.n6 (by omega),fun h=>hN.n7 (by omega),fun h=>hN.n9 (by omega),fun h=>hN.n10 (by omega),fun h=>hN.n11 (by omega)⟩,hp2,hbv,{hD.g2 hG hok with r4:=ji hOv hO hq},jF hO hG hok hp2 hm⟩,hC',hG⟩
theorem ma {α:Type} {d:Kd α} {t base base' :Nat} {ok:Nat→Prop} {W:World} {v:Value} {xs:List α} (h:Own d t W base ok v xs) (hb:base' ≤base):Own d t W base' ok v xs:=by
 obtain ⟨inner,ho,hr⟩:=h;refine ⟨inner,⟨ho.1, ?_⟩,hr⟩;rcases ho.2 with h2|⟨g,cap,cur,e,hg,h3⟩
 ·exact .inl h2
 ·exact .inr ⟨g,cap,cur,e,Nat.le_trans hb hg,h3⟩
theorem Cf (ok:Nat→Prop) (n0:Nat) (W:World) (p q m:Nat) (sat:Bool) (B:List Int) (n hi e:Int) (M:df) (hC:Rdr W p q B 0 e) (hB:aK B) (hR:RI ok n0 W p m hi M) (hok:∀k,ok k→k≠m∧k≠p) (hmp:m≠p) (hq:q< n0) (hm:m< n0) (hmq:m≠q) (hn0:n0≤W.heap.size) (h0:6≤n) (h5:n≤11) (hh:hi< n):
  Calls Tryz.prog 23 #[.pointer (some ⟨m,0,none⟩), .int .i64 n, .pointer (some ⟨p,0,none⟩), .bool sat] W (Ju ok n0 W p q m B n (og sat B n M e)):=by
 obtain ⟨v0,v1,v2,v3,v4,v5,v6,v9,v10,v11,hN,hp2,hb,hD,hO⟩:=hR;have hn:n=6∨n=7∨n=8∨n=9∨n=10∨n=11:=by omega
 have hqW:q< W.heap.size:=by omega
 have hpW:=hC.lt;rcases hn with rfl|rfl|rfl|rfl|rfl|rfl
 ·obtain rfl:=hN.n6 hh;refine (IJ W p q m sat B 0 e _ hC hB hb rfl hmp hmq hqW).mono ?_;rintro E Y ⟨rfl,⟨v,hOv,hbv⟩,hC',hG⟩;exact ⟨rfl,⟨v0,v1,v2,v3,v4,v,v6,v9,v10,v11,⟨fun h=>hN.n1 (by omega),fun h=>hN.n2 (by omega),fun h=>hN.n3 (by omega),fun h=>hN.n4 (by omega),fun h=>hN.n5 (by omega),fun h=>by first|exact hN.n6 (by omega)|omega,fun h=>by first|exact hN.n7 (by omega)|omega,fun h=>by first|exact hN.n9 (by omega)|omega,fun h=>by first|exact hN.n10 (by omega)|omega,fun h=>by first|exact hN.n11 (by omega)|omega⟩,hp2,hbv,{hD.g2 hG hok with r5:=ji hOv hO hq},jF hO hG hok hp2 hm⟩,hC',hG⟩
 ·obtain rfl:=hN.n7 hh;refine (Iw W p q m sat B 0 e _ hC hB hb rfl hmp hmq hqW).mono ?_;rintro E Y ⟨rfl,⟨v,hOv,hbv⟩,hC',hG⟩;exact ⟨rfl,⟨v0,v1,v2,v3,v4,v5,v,v9,v10,v11,⟨fun h=>hN.n1 (by omega),fun h=>hN.n2 (by omega),fun h=>hN.n3 (by omega),fun h=>hN.n4 (by omega),fun h=>hN.n5 (by omega),fun h=>by first|exact hN.n6 (by omega)|omega,fun h=>by first|exact hN.n7 (by omega)|omega,fun h=>by first|exact hN.n9 (by omega)|omega,fun h=>by first|exact hN.n10 (by omega)|omega,fun h=>by first|exact hN.n11 (by omega)|omega⟩,hp2,hbv,{hD.g2 hG hok with r6:=ji hOv hO hq},jF hO hG hok hp2 hm⟩,hC',hG⟩
 ·refine (IU W p q m sat B 0 e _ (.bool M.starts) (.int .u32 M.start) hC hB hb rfl rfl hmp hmq).mono ?_;rintro E Y ⟨rfl,hbv,hC',hG⟩;exact ⟨rfl,⟨v0,v1,v2,v3,v4,v5,v6,v9,v10,v11,⟨fun h=>hN.n1 (by omega),fun h=>hN.n2 (by omega),fun h=>hN.n3 (by omega),fun h=>hN.n4 (by omega),fun h=>hN.n5 (by omega),fun h=>hN.n6 (by omega),fun h=>hN.n7 (by omega),fun h=>hN.n9 (by omega),fun h=>hN.n10 (by omega),fun h=>hN.n11 (by omega)⟩,hp2,hbv,(have h:=hD.g2 (q:=q) hG hok;⟨h.r0,h.r1,h.r3,h.r4,h.r5,h.r6,h.r9,h.r10,h.r11⟩),jF hO hG hok hp2 hm⟩,hC',hG⟩
 ·obtain rfl:=hN.n9 hh;refine (IX W p q m sat B 0 e _ hC hB hb rfl hmp hmq hqW).mono ?_;rintro E Y ⟨rfl,⟨v,hOv,hbv⟩,hC',hG⟩;exact ⟨rfl,⟨v0,v1,v2,v3,v4,v5,v6,v,v10,v11,⟨fun h=>hN.n1 (by omega),fun h=>hN.n2 (by omega),fun h=>hN.n3 (by omega),fun h=>hN.n4 (by omega),fun h=>hN.n5 (by omega),fun h=>by first|exact hN.n6 (by omega)|omega,fun h=>by first|exact hN.n7 (by omega)|omega,fun h=>by first|exact hN.n9 (by omega)|omega,fun h=>by first|exact hN.n10 (by omega)|omega,fun h=>by first|exact hN.n11 (by omega)|omega⟩,hp2,hbv,{hD.g2 hG hok with r9:=ji hOv hO hq},jF hO hG hok hp2 hm⟩,hC',hG⟩
 ·obtain rfl:=hN.n10 hh;refine (Gy W p q m sat B 0 e _ hC hB hb rfl hmp hmq hqW).mono ?_;rintro E Y ⟨rfl,⟨v,hOv,hbv⟩,hC',hG⟩;have hvb:∀k,v.ownBlock=some k→W.heap.size≤k:=fun k hk=>(Own.block hOv hk).1
  have hD2:=((hD.bound (ok' :=fun k=>ok k∧k< W.heap.size) (fun k hk hl=>⟨hk.1,hl⟩)).step (gX hG (fun k hk=>hok k hk.1))).bound (ok' :=fun k=>(ok k∨k=q∨W.heap.size≤k)∧some k≠v.ownBlock) (fun k hk _=>⟨.inl hk.1,fun e=>by have h1:=hvb k e.symm;have h2:=hk.2;omega⟩);exact ⟨rfl,⟨v0,v1,v,v3,v4,v5,v6,v9,v10,v11,⟨fun h=>hN.n1 (by omega),fun h=>hN.n2 (by omega),fun h=>hN.n3 (by omega),fun h=>hN.n4 (by omega),fun h=>hN.n5 (by omega),fun h=>hN.n6 (by omega),fun h=>hN.n7 (by omega),fun h=>hN.n9 (by omega),fun h=>by omega,fun h=>hN.n11 (by omega)⟩,fun k hk e=>by have:=hvb k hk;omega,hbv,⟨hD2.r0,hD2.r1,hD2.r3,hD2.r4,hD2.r5,hD2.r6,hD2.r9,hD2.r10,hD2.r11⟩,ma (hOv.mono (fun k hk=> .inr hk)) hn0⟩,hC',hG⟩
 ·obtain rfl:=hN.n11 hh;refine (EL W p q m sat B 0 e _ hC hB hb rfl hmp hmq hqW).mono ?_;rintro E Y ⟨rfl,⟨v,hOv,hbv⟩,hC',hG⟩;exact ⟨rfl,⟨v0,v1,v2,v3,v4,v5,v6,v9,v,v11,⟨fun h=>hN.n1 (by omega),fun h=>hN.n2 (by omega),fun h=>hN.n3 (by omega),fun h=>hN.n4 (by omega),fun h=>hN.n5 (by omega),fun h=>by first|exact hN.n6 (by omega)|omega,fun h=>by first|exact hN.n7 (by omega)|omega,fun h=>by first|exact hN.n9 (by omega)|omega,fun h=>by first|exact hN.n10 (by omega)|omega,fun h=>by first|exact hN.n11 (by omega)|omega⟩,hp2,hbv,{hD.g2 hG hok with r10:=ji hOv hO hq},jF hO hG hok hp2 hm⟩,hC',hG⟩
end Go.Proofs.YtofaiocffifhfaaGreat
end
namespace Go.Proofs.YtofaiocffifhfaaGreat
open Go.RowKit Go.Shelf YtofaiocffifhfaaGreatB Go.Proofs.YtofaiocffifhfaaGreatW.PrintWords
theorem Be (P T:List Int) (a:Nat):az (aI (P++T) (P.length+a)) (P.length+a) 0=((az (aI T a) a 0).1,P.length+(az (aI T a) a 0).2.1,(az (aI T a) a 0).2.2):=by
 have hd:(P++T).drop (P.length+a)=T.drop a:=by rw [←List.drop_drop,List.drop_left]
 unfold aI bQ az;rw [hd];simp only [if_true]
 cases bZ jk (T.drop a) 32 with
 |error e=>rfl
 |ok r=>
  obtain ⟨m,h,c⟩:=r;dsimp only;rw [Nat.add_assoc];rfl
theorem wI (P T:List Int) (a:Nat):aT (P++T) (P.length+a) 0=((aT T a 0).1,P.length+(aT T a 0).2.1,(aT T a 0).2.2):=by
 unfold aT;rw [Be];generalize az (aI T a) a 0=r;obtain ⟨n,a1,e1⟩:=r;dsimp only;unfold rdL cO;by_cases he:e1=0
 ·subst he;simp only [if_true]
  have hd:(P++T).drop (P.length+a1)=T.drop a1:=by
   rw [←List.drop_drop,List.drop_left]
  rw [hd,List.length_append];by_cases h:a1+n.toNat≤T.length
  ·rw [if_pos h,if_pos (by omega)];simp [Nat.add_assoc]
  ·rw [if_neg h,if_neg (by omega)]
 ·simp [he]
theorem tH (sat:Bool) (P T:List Int):∀(f:Nat) (M:df) (hi:Int) (a:Nat) (e:Int),
  jm (dz sat (P++T)) (P++T) f M hi (P.length+a) e=((jm (dz sat T) T f M hi a e).1,P.length+(jm (dz sat T) T f M hi a e).2.1,(jm (dz sat T) T f M hi a e).2.2)
 |0,M,hi,a,e=>rfl
 |f+1,M,hi,a,e=>by
  rw [jm,jm];by_cases he:e=0
  ·rw [if_pos he,if_pos he];have hg:(P++T)[P.length+a]? =T[a]? :=by rw [List.getElem?_append_right (by omega)];congr 1;omega
   rw [hg]
   cases T[a]? with
   |none=>rfl
   |some n=>
    dsimp only;by_cases hb:11< n∨(0< n∧n≤hi)
    ·rw [if_pos hb,if_pos hb];rfl
    ·rw [if_neg hb,if_neg hb]
     have hs:dz sat (P++T) M n (P.length+a+1)=((dz sat T M n (a+1)).1,P.length+(dz sat T M n (a+1)).2.1,(dz sat T M n (a+1)).2.2):=by
      unfold dz;rw [Nat.add_assoc,wI];dsimp only;split<;>rfl
     rw [hs];exact tH sat P T f _ _ _ _
  ·rw [if_neg he,if_neg he]
def lZ (M:df) (j:Nat):List FnD:=List.zipWith (fun t b=>⟨t,b.loc,b.body⟩) (M.tys.take j) (M.bodies.take j)++M.bodies.drop j
theorem yn (M:df):lZ M 0=M.bodies:=by simp [lZ]
theorem Bw (M:df) (h:M.tys.length=M.bodies.length):lZ M M.tys.length=iR M:=by
 unfold lZ iR;rw [List.take_length,h,List.take_length,List.drop_length,List.append_nil]
theorem oO (M:df) (j:Nat) (h:M.tys.length=M.bodies.length):(lZ M j).length=M.bodies.length:=by
 unfold lZ;simp only [List.length_append,List.length_zipWith,List.length_take,List.length_drop];omega
theorem rC (M:df) (j:Nat) {t:Int} {x:FnD} (ht:M.tys[j]? =some t) (hx:M.bodies[j]? =some x):(lZ M j)[j]? =some x∧lZ M (j+1)=(lZ M j).set j ⟨t,x.loc,x.body⟩:=by
 have hl1:=(List.getElem?_eq_some_iff.1 ht).1;have hl2:=(List.getElem?_eq_some_iff.1 hx).1
 have hz:(List.zipWith (fun t b=>(⟨t,b.loc,b.body⟩:FnD)) (M.tys.take j) (M.bodies.take j)).length=j:=by
  simp only [List.length_zipWith,List.length_take];omega
 have hd:M.bodies.drop j=x::M.bodies.drop (j+1):=by
  rw [List.drop_eq_getElem_cons hl2,(List.getElem?_eq_some_iff.1 hx).2]
 unfold lZ;constructor
 ·rw [List.getElem?_append_right (by omega),hz,Nat.sub_self,hd];rfl
 ·rw [List.take_add_one,List.take_add_one,ht,hx,Option.toList_some,Option.toList_some,List.zipWith_append (by simp only [List.length_take];omega),hd,List.set_append_right _ _ (by omega),hz,Nat.sub_self];simp
theorem FM (l:List Value) (j k:Nat) (a b c:Value) (hj:j * 3+2< l.length):
  (((((l.set (j * 3) a).set (j * 3+1) b).set (j * 3+2) c).drop (k * 3)).take 3)=if k=j then [a,b,c]else (l.drop (k * 3)).take 3:=by
 by_cases hk:k=j
 ·subst hk;rw [if_pos rfl];apply List.ext_getElem?;intro i;rw [List.getElem?_take];split
  next hi=>
   have h3:i=0∨i=1∨i=2:=by omega
   rcases h3 with rfl|rfl|rfl
   ·rw [List.getElem?_drop,List.getElem?_set_ne (by omega),List.getElem?_set_ne (by omega),Nat.add_zero,List.getElem?_set_self (by omega)];rfl
   ·rw [List.getElem?_drop,List.getElem?_set_ne (by omega),List.getElem?_set_self (by rw [List.length_set];omega)];rfl
   ·rw [List.getElem?_drop,List.getElem?_set_self (by rw [List.length_set,List.length_set];omega)];rfl
  next hi=>rw [List.getElem?_eq_none (by simp;omega)]
 ·rw [if_neg hk];apply List.ext_getElem?;intro i;rw [List.getElem?_take,List.getElem?_take];split
  next hi=>rw [List.getElem?_drop,List.getElem?_drop,List.getElem?_set_ne (by omega),List.getElem?_set_ne (by omega),List.getElem?_set_ne (by omega)]
  next hi=>rfl
theorem BX {α:Type} {d:Kd α} {t base g n c:Nat} {ok:Nat→Prop} {W:World} {xs:List α} {x:α} {v0 v1 v2:Value} (hsz:d.sz=3) (h:Own d t W base ok (.slice (some ⟨g,0,none⟩) n c) xs) (j:Nat) (hj:j< xs.length) (hn:n=xs.length)
  (hx:FK d W (fun k=>ok k∧some k≠some g) x [v0,v1,v2]):
  Own d t (((W.setCell ⟨g,j * 3,none⟩ v0).setCell ⟨g,j * 3+1,none⟩ v1).setCell ⟨g,j * 3+2,none⟩ v2) base ok (.slice (some ⟨g,0,none⟩) n c) (xs.set j x):=by
 subst hn;obtain ⟨inner,ho,hr⟩:=h;have hl:inner.length=xs.length * 3:=by rw [ho.1,hsz]
 have h1:=ho.stored (j * 3) v0;have h2:=h1.1.stored (j * 3+1) v1;have h3:=h2.1.stored (j * 3+2) v2;have hg:=(h1.2.trans h2.2).trans h3.2;refine ⟨((inner.set (j * 3) v0).set (j * 3+1) v1).set (j * 3+2) v2,by rw [List.length_set];exact h3.1,by simp only [List.length_set];exact hr.1,fun k p hk=> ?_⟩;rw [hsz,FM inner j k v0 v1 v2 (by omega)];by_cases hkj:k=j
 ·subst hkj;rw [if_pos rfl];rw [List.getElem?_set_self hj]at hk;injection hk with hk;subst hk;exact Ft.grown hx hg (fun k hk=>hk.2)
 ·rw [if_neg hkj];rw [List.getElem?_set_ne (fun e=>hkj e.symm)]at hk;have:=hr.2 k p hk;rw [hsz]at this;exact Ft.grown this hg (fun k hk=>hk.2)
theorem za {α:Type} {d:Kd α} {t base g n c:Nat} {ok:Nat→Prop} {W:World} {xs:List α} {x:α} (hsz:d.sz=3) (h:Own d t W base ok (.slice (some ⟨g,0,none⟩) n c) xs) (j:Nat) (hx:xs[j]? =some x):
  ∃v0 v1 v2,FK d W (fun k=>ok k∧some k≠some g) x [v0,v1,v2]∧W.cell? ⟨g,j * 3,none⟩=some v0∧W.cell? ⟨g,j * 3+1,none⟩=some v1∧W.cell? ⟨g,j * 3+2,none⟩=some v2∧(∀i,W.frozen? ⟨g,i,none⟩=false):=by
 obtain ⟨inner,ho,hr⟩:=h;have hj:=(List.getElem?_eq_some_iff.1 hx).1;have hl:inner.length=xs.length * 3:=by rw [ho.1,hsz]
 have hk:=hr.2 j x hx;rw [hsz]at hk
 have hn:n=xs.length:=by
  rcases ho.2 with ⟨e,_⟩|⟨g',cap,cur,e,_⟩
  ·cases e
  ·injection e
 subst hn;have g0:∀i,i< 3→((inner.drop (j * 3)).take 3)[i]? =inner[j * 3+i]? :=fun i hi=>by rw [List.getElem?_take,if_pos hi,List.getElem?_drop]
 obtain ⟨v0,e0⟩:∃v,inner[j * 3]? =some v:=⟨_,List.getElem?_eq_getElem (by omega)⟩;obtain ⟨v1,e1⟩:∃v,inner[j * 3+1]? =some v:=⟨_,List.getElem?_eq_getElem (by omega)⟩;obtain ⟨v2,e2⟩:∃v,inner[j * 3+2]? =some v:=⟨_,List.getElem?_eq_getElem (by omega)⟩
 have hs:(inner.drop (j * 3)).take 3= [v0,v1,v2]:=by
  apply List.ext_getElem?;intro i;by_cases hi:i< 3
  ·rw [g0 i hi];have h3:i=0∨i=1∨i=2:=by omega
   rcases h3 with rfl|rfl|rfl
   ·exact e0
   ·exact e1
   ·exact e2
  ·rw [List.getElem?_take,if_neg hi,List.getElem?_eq_none (by simp;omega)]
 rw [hs]at hk;refine ⟨v0,v1,v2,hk, ?_, ?_, ?_,fun i=>ho.frozenAt i⟩
 ·rw [ho.cellAt _ (by rw [hsz];omega)];exact e0
 ·rw [ho.cellAt _ (by rw [hsz];omega)];exact e1
 ·rw [ho.cellAt _ (by rw [hsz];omega)];exact e2
def lH (W:World) (q:Nat) (r:(df×List FnD)×Int) (E:Ending) (W' :World):Prop:=
 Below W.heap.size W W' ∧∃v0 v1 v2 v3 v4 v5 v6 v9 v10,E= .returned (.tuple #[.agg #[v0,v1,v2,v3,v4,v5,v6, .bool r.1.1.starts, .int .u32 r.1.1.start,v9,v10], .int .i64 r.2])∧
  jB (fun k=>k=q∨W.heap.size≤k) W' r.1.1 r.1.2 v0 v1 v2 v3 v4 v5 v6 v9 v10
theorem gD {W W' :World} {q:Nat} {e:Int} (hb:Below W.heap.size W W'):lH W q (({}, []),e) (.returned (.tuple #[.agg (dU (.slice none 0 0)), .int .i64 e])) W' :=
 ⟨hb,_,_,_,_,_,_,_,_,_,rfl,⟨Row.nil,Row.nil,Row.nil,Row.nil,Row.nil,Row.nil,Row.nil,Row.nil,Row.nil⟩⟩
theorem Blk.eleven {X:World} {b:Nat} {t:TypeId} {v0 v1 v2 v3 v4 v5 v6 v7 v8 v9 v10:Value} (h:Blk X b #[v0,v1,v2,v3,v4,v5,v6,v7,v8,v9,v10] t):
  (X.cell? ⟨b,0,none⟩=some v0∧X.cell? ⟨b,1,none⟩=some v1∧X.cell? ⟨b,2,none⟩=some v2∧X.cell? ⟨b,3,none⟩=some v3∧X.cell? ⟨b,4,none⟩=some v4∧X.cell? ⟨b,5,none⟩=some v5∧X.cell? ⟨b,6,none⟩=some v6∧X.cell? ⟨b,7,none⟩=some v7∧X.cell? ⟨b,8,none⟩=some v8∧X.cell? ⟨b,9,none⟩=some v9∧X.cell? ⟨b,10,none⟩=some v10)∧
  (X.frozen? ⟨b,0,none⟩=false∧X.frozen? ⟨b,1,none⟩=false∧X.frozen? ⟨b,2,none⟩=false∧X.frozen? ⟨b,3,none⟩=false∧X.frozen? ⟨b,4,none⟩=false∧X.frozen? ⟨b,5,none⟩=false∧X.frozen? ⟨b,6,none⟩=false∧X.frozen? ⟨b,7,none⟩=false∧X.frozen? ⟨b,8,none⟩=false∧X.frozen? ⟨b,9,none⟩=false∧X.frozen? ⟨b,10,none⟩=false)∧b< X.heap.size:=
 ⟨⟨h.cell 0,h.cell 1,h.cell 2,h.cell 3,h.cell 4,h.cell 5,h.cell 6,h.cell 7,h.cell 8,h.cell 9,h.cell 10⟩,⟨h.frozen 0,h.frozen 1,h.frozen 2,h.frozen 3,h.frozen 4,h.frozen 5,h.frozen 6,h.frozen 7,h.frozen 8,h.frozen 9,h.frozen 10⟩,h.lt⟩
theorem take8 {W:World} {A:Option Addr} {B:List Int} (hR:RdI W .u8 A B) (h3:¬B.length< 8):RdI W .u8 A (B.take 8):=⟨by rw [List.length_take];omega,fun _=>by
 obtain ⟨b,o,e,hcc⟩:=hR.2 (by omega);refine ⟨b,o,e,fun j x hj=>hcc j x ?_⟩;rw [List.getElem?_take]at hj;split at hj
 ·exact hj
 ·cases hj⟩
theorem sw {W:World} {A:Option Addr} {c:Nat} {B:List Int} (hR:RdI W .u8 A B) (h3:¬B.length< 8) (m:Nat):(convert 22 9 (.slice A 8 c)).run Tryz.prog (W.drewN m)= .ok (.string (strOfNums (B.take 8))) (W.drewN m):=by
 have hl8:(B.take 8).length=8:=by rw [List.length_take];omega
 have:=dR (W.drewN m) A (B.take 8) c ((take8 hR h3).below (mR m));rw [hl8]at this;exact this
theorem qJ (W:World) (m:Nat):(convert 22 9 (.slice (some ⟨W.heap.size,0,none⟩) 8 8)).run Tryz.prog ((W.alloc (.cells #[.int .u8 0, .int .u8 97, .int .u8 115, .int .u8 109, .int .u8 1, .int .u8 0, .int .u8 0, .int .u8 0] 5)).drewN m)= .ok (.string (strOfNums bB)) ((W.alloc (.cells #[.int .u8 0, .int .u8 97, .int .u8 115, .int .u8 109, .int .u8 1, .int .u8 0, .int .u8 0, .int .u8 0] 5)).drewN m):=
 dR _ _ bB 8 ((qz W bB (by decide) 5).below (mR m))
theorem rM (W:World) (q:Nat) (A:Option Addr) (c:Nat) (B:List Int) (sat:Bool) (hR:RdI W .u8 A B) (hB:aK B) (hle:B.length≤c) (h:65536< B.length∨B.length< 8∨¬B.take 8=bB):
  Calls Tryz.prog 9 #[.slice A B.length c, .bool sat] W (lH W q (ig sat B)):=by
 have hz:=Blk.new W (dU (.slice none 0 0)) 47;have hB0:Below W.heap.size W (W.alloc (.cells (dU (.slice none 0 0)) 47)):=(Below.refl _ _).alloc (Nat.le_refl _) _;have HZ:=Lib.hid hz;have HB0:=Lib.hid hB0;by_cases h1:65536< B.length
 ·have hd:ig sat B=(({}, []),3):=if_pos h1;rw [hd];have h2:(65536:Int)< B.length:=by omega
  obtain ⟨⟨z0,z1,z2,z3,z4,z5,z6,z7,z8,z9,z10⟩,⟨zf0,zf1,zf2,zf3,zf4,zf5,zf6,zf7,zf8,zf9,zf10⟩,zl⟩:=Blk.eleven hz;clear hR hB h h1 hd hz hB0;go_enter Tryz.func9,Tryz.ntmps9;go_wp2_with fail;refine bodyPost_ret (v:= .tuple #[.agg (dU (.slice none 0 0)), .int .i64 3]) (by simp [results,Tryz.results9,go_sem,z0,z1,z2,z3,z4,z5,z6,z7,z8,z9,z10,zl]) rfl (gD ?_)
  (repeat (first|with_reducible exact HB0.out|(with_reducible refine d9 ?_ _ _ _ ?_;rotate_left;omega)|with_reducible refine aY ?_ _|with_reducible refine bH ?_))
 ·have h2:¬(65536:Int)< B.length:=by omega
  have hd:ig sat B=(({}, []),103):=by rw [ig,if_neg h1,if_pos (by rcases h with h|h;exact absurd h h1;exact h)]
  rw [hd];by_cases h3:B.length< 8
  ·have h4:(B.length:Int)< 8:=by omega
   clear hR hB h h1 hd h3 hz hB0;go_enter Tryz.func9,Tryz.ntmps9;go_upto_region 4 with fail;generalize W.alloc (.cells (dU (.slice none 0 0)) 47)=W0 at *;have HB1:=Lib.hid (aY (Below.refl W0.heap.size W0) (.cells #[.int .u8 0, .int .u8 97, .int .u8 115, .int .u8 109, .int .u8 1, .int .u8 0, .int .u8 0, .int .u8 0] 5));generalize W0.alloc (.cells #[.int .u8 0, .int .u8 97, .int .u8 115, .int .u8 109, .int .u8 1, .int .u8 0, .int .u8 0, .int .u8 0] 5)=W1 at *;go_cut [29]from 19 to 29 (fun s wx=>s= .bool true∧Hid (Below W0.heap.size W0 wx))
   case first=>
    go_quiet (fail);go_wp2_with fail;go_meet;exact ⟨rfl,HB1.out.trans ((mR _).mono HB1.out.size)⟩
   case rest=>
    obtain ⟨rfl,HB2⟩:=hcut;have HZ2:=Lib.hid (HZ.out.below HB2.out HZ.out.lt);have HB3:=Lib.hid (HB0.out.trans (HB2.out.mono HB0.out.size));obtain ⟨⟨z0,z1,z2,z3,z4,z5,z6,z7,z8,z9,z10⟩,⟨zf0,zf1,zf2,zf3,zf4,zf5,zf6,zf7,zf8,zf9,zf10⟩,zl⟩:=Blk.eleven HZ2.out;go_wp2_with fail;refine bodyPost_ret (v:= .tuple #[.agg (dU (.slice none 0 0)), .int .i64 103]) (by simp [results,Tryz.results9,go_sem,z0,z1,z2,z3,z4,z5,z6,z7,z8,z9,z10,zl]) rfl (gD ?_)
    (repeat (first|with_reducible exact HB3.out|(with_reducible refine d9 ?_ _ _ _ ?_;rotate_left;omega)|with_reducible refine aY ?_ _|with_reducible refine bH ?_))
  ·have h4:¬(B.length:Int)< 8:=by omega
   have h5:¬B.take 8=bB:=by rcases h with h|h|h;exact absurd h h1;exact absurd h h3;exact h
   have h6:(8:Int)≤c:=by omega
   have hs:strOfNums (B.take 8)≠strOfNums bB:=fun e=>h5 (tu (fun x hx=>hB.2 x (List.mem_of_mem_take hx)) (by decide) e)
   have hk1:=fun m=>sw (c:=c) (hR.below (hB0.trans ((aY (Below.refl (W.alloc (.cells (dU (.slice none 0 0)) 47)).heap.size _) (.cells #[.int .u8 0, .int .u8 97, .int .u8 115, .int .u8 109, .int .u8 1, .int .u8 0, .int .u8 0, .int .u8 0] 5)).mono hB0.size))) h3 m
   have hk2:=fun m=>qJ (W.alloc (.cells (dU (.slice none 0 0)) 47)) m
   have hz0:(W.alloc (.cells (dU (.slice none 0 0)) 47)).heap.size=W.heap.size+1:=World.size_alloc _ _;generalize strOfNums (B.take 8)=s1 at *;generalize strOfNums bB=s2 at *;have hsb2:(s1.toList==s2.toList)=false:=by rw [ByteArray.toList_eq s2];exact pF hs
   clear hR hB h h1 hd h3 hz hB0 h5 hs;go_enter Tryz.func9,Tryz.ntmps9;go_upto_region 4 with fail;generalize W.alloc (.cells (dU (.slice none 0 0)) 47)=W0 at *;have HB1:=Lib.hid (aY (Below.refl W0.heap.size W0) (.cells #[.int .u8 0, .int .u8 97, .int .u8 115, .int .u8 109, .int .u8 1, .int .u8 0, .int .u8 0, .int .u8 0] 5));generalize W0.alloc (.cells #[.int .u8 0, .int .u8 97, .int .u8 115, .int .u8 109, .int .u8 1, .int .u8 0, .int .u8 0, .int .u8 0] 5)=W1 at *;try rw [hz0]at hk2
   go_cut [29]from 19 to 29 (fun s wx=>s= .bool true∧Hid (Below W0.heap.size W0 wx))
   case first=>
    go_quiet (fail);go_wp2_with fail;go_meet;exact ⟨rfl,HB1.out.trans ((mR _).mono HB1.out.size)⟩
   case rest=>
    obtain ⟨rfl,HB2⟩:=hcut;have HZ2:=Lib.hid (HZ.out.below HB2.out HZ.out.lt);have HB3:=Lib.hid (HB0.out.trans (HB2.out.mono HB0.out.size));obtain ⟨⟨z0,z1,z2,z3,z4,z5,z6,z7,z8,z9,z10⟩,⟨zf0,zf1,zf2,zf3,zf4,zf5,zf6,zf7,zf8,zf9,zf10⟩,zl⟩:=Blk.eleven HZ2.out;go_wp2_with fail;refine bodyPost_ret (v:= .tuple #[.agg (dU (.slice none 0 0)), .int .i64 103]) (by simp [results,Tryz.results9,go_sem,z0,z1,z2,z3,z4,z5,z6,z7,z8,z9,z10,zl]) rfl (gD ?_)
    (repeat (first|with_reducible exact HB3.out|(with_reducible refine d9 ?_ _ _ _ ?_;rotate_left;omega)|with_reducible refine aY ?_ _|with_reducible refine bH ?_))
end Go.Proofs.YtofaiocffifhfaaGreat
section
namespace Go.Proofs.YtofaiocffifhfaaGreat
open Go.RowKit Go.Shelf YtofaiocffifhfaaGreatB Go.Proofs.YtofaiocffifhfaaGreatW.PrintWords
section
variable {ok ok' :Nat→Prop} {n0:Nat} {X Y:World} {p p0 q m:Nat} {hi:Int} {M:df}
theorem Av {α:Type} {d:Kd α} {t base:Nat} {v:Value} {xs:List α} (h:Own d t X base ok v xs) (hk:∀k,ok k→k< X.heap.size→ok' k):Own d t X base ok' v xs:=by
 obtain ⟨inner,ho,hr⟩:=h;exact ⟨inner,ho,hr.jV (fun _ _ hp=>Ft.bound hp (fun k h1 h2=>⟨hk k h1.1 h2,h1.2⟩))⟩
theorem RI.step (h:RI ok n0 X p m hi M) (hG:X.grownBy Y (some p0)) (hm:m≠p0) (hok:∀k,ok k→k≠p0) (hp0:p0< n0):RI ok n0 Y p m hi M:=by
 obtain ⟨v0,v1,v2,v3,v4,v5,v6,v9,v10,v11,hN,hp2,hb,hD,hO⟩:=h;exact ⟨v0,v1,v2,v3,v4,v5,v6,v9,v10,v11,hN,hp2,hb.grown hG (fun e=>hm (by injection e)),hD.step (bS hG (fun k hk e=>hok k hk.1 (by injection e))),hO.grown hG (.inr (fun e=>by have:=(Own.block hO e).1;omega)) (fun k hk e=>hok k hk (by injection e))⟩
theorem RI.to (h:RI ok n0 X p m hi M) (hk:∀k,ok k→k< X.heap.size→ok' k) (hp:∀k,n0≤k→k< X.heap.size→k≠p0):RI ok' n0 X p0 m hi M:=by
 obtain ⟨v0,v1,v2,v3,v4,v5,v6,v9,v10,v11,hN,hp2,hb,hD,hO⟩:=h;exact ⟨v0,v1,v2,v3,v4,v5,v6,v9,v10,v11,hN,fun k e=>hp k (Own.block hO e).1 (Own.block hO e).2,hb,hD.bound (fun k h1 h2=>⟨hk k h1.1 h2,h1.2⟩),Av hO hk⟩
theorem xQ {B:List Int} {a:Nat} {e:Int} {p2:Nat} (h:Rdr X p q B a e) (hG:G2 X Y p2 m) (h1:p≠p2) (h2:p≠m) (h3:q≠p2) (h4:q≠m):Rdr Y p q B a e:=by
 obtain ⟨k0,k1,A,c,k2,k3,k4⟩:=h;refine ⟨k0,k1,A,c,k2,k3.g2 hG h1 h2,fun hp=> ?_⟩;obtain ⟨o,e,hc⟩:=k4 hp;refine ⟨o,e,fun j x hj=> ?_⟩;have:=hc j x hj;exact (World.cell?_of_block (hG.block q (World.block_lt_of_cell? _ _ this) h3 h4)).trans this
end
def Tgt (sat:Bool) (B:List Int) (TG:df×Nat×Int) (M:df) (hi:Int) (a:Nat) (e:Int):Prop:=
 (e=0→∃f,TG=jm (dz sat B) B f M hi a 0∧B.length< a+f)∧(¬e=0→TG.2.2=e)
theorem E9 {sat:Bool} {B:List Int} {TG:df×Nat×Int} {M:df} {hi:Int} {a:Nat} (h:Tgt sat B TG M hi a 0) (ha:¬a< B.length):TG=(M,a,0):=by
 obtain ⟨f,e,hf⟩:=h.1 rfl;rw [e]
 cases f with
 |zero=>rfl
 |succ f=>rw [jm,if_pos rfl,List.getElem?_eq_none (by omega)]
theorem EW {sat:Bool} {B:List Int} {TG:df×Nat×Int} {M:df} {hi n:Int} {a:Nat} (h:Tgt sat B TG M hi a 0) (hb:B[a]? =some n) (hn:11< n∨(0< n∧n≤hi)):TG.2.2=104:=by
 obtain ⟨f,e,hf⟩:=h.1 rfl;have ha:=(List.getElem?_eq_some_iff.1 hb).1;rw [e]
 cases f with
 |zero=>omega
 |succ f=>rw [jm,if_pos rfl,hb];dsimp only;rw [if_pos hn]
theorem DT {sat:Bool} {B:List Int} {TG:df×Nat×Int} {M:df} {hi n:Int} {a:Nat} (hB:aK B) (h:Tgt sat B TG M hi a 0) (hb:B[a]? =some n) (hn:¬(11< n∨(0< n∧n≤hi))):
  Tgt sat B TG (og sat (aT B (a+1) 0).1 n M (aT B (a+1) 0).2.2).1 (if hi< n then n else hi) (aT B (a+1) 0).2.1
   (if (aT B (a+1) 0).2.2=0 then eH (og sat (aT B (a+1) 0).1 n M (aT B (a+1) 0).2.2).2 (aT B (a+1) 0).1.length else (aT B (a+1) 0).2.2):=by
 obtain ⟨f,e,hf⟩:=h.1 rfl;have ha:=(List.getElem?_eq_some_iff.1 hb).1;obtain ⟨f,rfl⟩:∃g,f=g+1:=⟨f - 1,by omega⟩;rw [jm,if_pos rfl,hb]at e;dsimp only at e;rw [if_neg hn]at e;have hpos:=oJ hB (a+1);have hst:dz sat B M n (a+1)=(if (aT B (a+1) 0).2.2=0 then ((je sat (aT B (a+1) 0).1 n M).1,(aT B (a+1) 0).2.1,eH (je sat (aT B (a+1) 0).1 n M).2 (aT B (a+1) 0).1.length)else (M,(aT B (a+1) 0).2.1,(aT B (a+1) 0).2.2)):=rfl;rw [hst]at e;clear hst;generalize aT B (a+1) 0=t at *;obtain ⟨L,a2,e2⟩:=t;dsimp only at *;by_cases he:e2=0
 ·subst he;rw [if_pos rfl]at e;rw [if_pos rfl,xD _ _ _ _ (by omega)];refine ⟨fun h0=>⟨f, ?_,by have:=hpos rfl;omega⟩,fun h0=> ?_⟩
  ·rw [e];dsimp only;rw [h0]
  ·rw [e];dsimp only;rw [qO _ _ _ _ _ _ _ h0]
 ·rw [if_neg he]at e;rw [if_neg he];refine ⟨fun h0=>absurd h0 he,fun h0=> ?_⟩;rw [e];dsimp only;rw [qO _ _ _ _ _ _ _ he]
theorem Fu (sat:Bool) (B:List Int) (h1:B.length≤65536) (h8:8≤B.length) (hm:B.take 8=bB):
  ∃TG,Tgt sat B TG {} 0 8 0∧ig sat B=(if TG.2.2=0 then (if TG.1.tys.length=TG.1.bodies.length then ((TG.1,iR TG.1),0)else (({}, []),109))else (({}, []),TG.2.2)):=by
 have hs:B=bB++B.drop 8:=by rw [←hm,List.take_append_drop]
 refine ⟨jm (dz sat B) B ((B.drop 8).length+1) {} 0 8 0,⟨fun _=>⟨_,rfl,by rw [List.length_drop];omega⟩,fun h=>absurd rfl h⟩, ?_⟩;unfold ig;rw [if_neg (by omega),if_neg (by intro h;rcases h with h|h;omega;exact h hm)];have:=tH sat bB (B.drop 8) ((B.drop 8).length+1) {} 0 0 0;rw [←hs]at this;have h8' :bB.length+0=8:=rfl;rw [h8']at this;rw [this]
end Go.Proofs.YtofaiocffifhfaaGreat
end
namespace Go.Proofs.YtofaiocffifhfaaGreat
open Go.RowKit Go.Shelf YtofaiocffifhfaaGreatB Go.Proofs.YtofaiocffifhfaaGreatW.PrintWords
theorem Dx (X:World) (p q m n0:Nat) (hb:Blk X m #[.slice none 0 0, .slice none 0 0, .slice none 0 0, .slice none 0 0, .slice none 0 0, .slice none 0 0, .slice none 0 0, .bool false, .int .u32 0, .slice none 0 0, .slice none 0 0, .slice none 0 0] 78):RI (fun k=>k=q∨n0≤k) n0 X p m 0 {}:=
 ⟨_,_,_,_,_,_,_,_,_,_,⟨fun _=>rfl,fun _=>rfl,fun _=>rfl,fun _=>rfl,fun _=>rfl,fun _=>rfl,fun _=>rfl,fun _=>rfl,fun _=>rfl,fun _=>rfl⟩,fun k h=>(by cases h),hb,⟨Row.nil,Row.nil,Row.nil,Row.nil,Row.nil,Row.nil,Row.nil,Row.nil,Row.nil⟩,Own.nil⟩
theorem I6 {ok:Nat→Prop} {X:World} {A:Option Addr} {n c j:Nat} {xs:List Int} (h:Row (rng .u32) ok X (.slice A n c) xs) (hj:j< xs.length):∃x:Int,∃_:Unit,xs[j]? =some x∧(∃b o,A=some ⟨b,o,none⟩∧X.cell? ⟨b,o+j,none⟩=some (.int .u32 x))∧(Lit.int .u32 x).wf=true:=by
 obtain ⟨A',c',e,hl,hF⟩:=h;injection e with e1 e2 e3;subst e1 e2;obtain ⟨b,o,x,cs,hA,hx,hk,hc⟩:=FC.at_ hF (show 0< 1 by decide) j hj;obtain ⟨rfl,hw⟩:=bI hk;have:=hc 0 _ rfl;exact ⟨x,(),hx.out,⟨b,o,hA,by have h1:(rng .u32).sz=1:=rfl;rw [h1,Nat.mul_one,Nat.add_zero]at this;exact this⟩,hw⟩
theorem Bz {W:World} {ok:Nat→Prop} {x:FnD} {ty:Int} {AL AB:Option Addr} {cL cB:Nat} (h:FK jo W ok x [.int .u32 x.ty, .slice AL x.loc.length cL, .slice AB x.body.length cB]) (hw:(Lit.int .u32 ty).wf=true):FK jo W ok ⟨ty,x.loc,x.body⟩ [.int .u32 ty, .slice AL x.loc.length cL, .slice AB x.body.length cB]:=by
 obtain ⟨c1,c2,e,h1,h2⟩:=aN (dn h);obtain ⟨rfl, -⟩:=bI h1;injection e with e1 e2;subst e2;exact iV (bD (c1:= [.int .u32 ty]) (fo hw) h2)
theorem Aq {W X:World} {b:Nat} (h:W.grownBy X (some b)) (i:Nat) (v:Value):W.grownBy (X.setCell ⟨b,i,none⟩ v) (some b):=h.trans (bA X b i v)
theorem EO {α:Type} {d:Kd α} {t base:Nat} {ok:Nat→Prop} {X:World} {v:Value} {xs:List α} (h:Own d t X base ok v xs):xs.length≤9223372036854775807:=by
 obtain ⟨inner,ho,hr⟩:=h;rcases ho.2 with ⟨_,h0⟩|⟨g,cap,cur,e,_,_,h1,h2,_⟩
 ·omega
 ·simp only [maxLen]at h2;omega
theorem Dy {α:Type} {d:Kd α} {t base n c:Nat} {ok:Nat→Prop} {X:World} {A:Option Addr} {xs:List α} (h:Own d t X base ok (.slice A n c) xs) (hl:0< xs.length):∃g,A=some ⟨g,0,none⟩:=by
 obtain ⟨inner,ho,hr⟩:=h;rcases ho.2 with ⟨_,h0⟩|⟨g,cap,cur,e,_⟩
 ·omega
 ·injection e with e;exact ⟨g,e⟩
theorem uP (W:World) (q o c:Nat) (B:List Int) (sat:Bool) (hR:RdI W .u8 (some ⟨q,o,none⟩) B) (hB:aK B) (hle:B.length≤c) (h1:B.length≤65536) (h8:8≤B.length) (hm8:B.take 8=bB):
  Calls Tryz.prog 9 #[.slice (some ⟨q,o,none⟩) B.length c, .bool sat] W (lH W q (ig sat B)):=by
 have hby:ByQ W q (some ⟨q,o,none⟩) B:=fun hp=>by
  obtain ⟨b,o',e,hcc⟩:=hR.2 hp;injection e with e;injection e with e1 e2;subst e1 e2;exact ⟨o,rfl,hcc⟩
 have hqW:q< W.heap.size:=by
  obtain ⟨o',e,hcc⟩:=hby (by omega);exact World.block_lt_of_cell? _ _ (hcc 0 _ (List.getElem?_eq_getElem (by omega)))
 obtain ⟨TG,hT,hdec⟩:=Fu sat B h1 h8 hm8;obtain ⟨R,hRR⟩:∃R,R=ig sat B:=⟨_,rfl⟩;rw [←hRR];rw [hdec]at hRR;have HRR:=Lib.hid hRR;have HT:=Lib.hid hT;have hz:=Blk.new W (dU (.slice none 0 0)) 47;have hB0:Below W.heap.size W (W.alloc (.cells (dU (.slice none 0 0)) 47)):=(Below.refl _ _).alloc (Nat.le_refl _) _;have hb1:=aY (Below.refl (W.alloc (.cells (dU (.slice none 0 0)) 47)).heap.size (W.alloc (.cells (dU (.slice none 0 0)) 47))) (.cells #[.int .u8 0, .int .u8 97, .int .u8 115, .int .u8 109, .int .u8 1, .int .u8 0, .int .u8 0, .int .u8 0] 5);have HZ:=Lib.hid (hz.below hb1 hz.lt);have HB0:=Lib.hid (hB0.trans (hb1.mono hB0.size));have h2:¬(65536:Int)< B.length:=by omega
 have h4:¬(B.length:Int)< 8:=by omega
 have h6:(8:Int)≤c:=by omega
 have hk1:=fun m=>sw (c:=c) (hR.below (hB0.trans (hb1.mono hB0.size))) (by omega) m
 have hk2:=fun m=>qJ (W.alloc (.cells (dU (.slice none 0 0)) 47)) m
 have hz0:(W.alloc (.cells (dU (.slice none 0 0)) 47)).heap.size=W.heap.size+1:=World.size_alloc _ _;have hz1:((W.alloc (.cells (dU (.slice none 0 0)) 47)).alloc (.cells #[.int .u8 0, .int .u8 97, .int .u8 115, .int .u8 109, .int .u8 1, .int .u8 0, .int .u8 0, .int .u8 0] 5)).heap.size=W.heap.size+2:=by rw [World.size_alloc,World.size_alloc]
 have HBY:=Lib.hid hby;have HB:=Lib.hid hB;rw [hm8]at hk1;generalize strOfNums bB=s2 at *;clear hR hB hby hT hdec hRR hz hB0 hb1 hm8;go_enter Tryz.func9,Tryz.ntmps9;go_upto_region 4 with fail;generalize W.alloc (.cells (dU (.slice none 0 0)) 47)=W0 at *;generalize W0.alloc (.cells #[.int .u8 0, .int .u8 97, .int .u8 115, .int .u8 109, .int .u8 1, .int .u8 0, .int .u8 0, .int .u8 0] 5)=W1 at *;try rw [hz0]at hk2
 go_cut [29]from 19 to 29 (fun s wx=>s= .bool false∧Hid (Below W1.heap.size W1 wx))
 case first=>
  go_quiet (fail);go_wp2_with fail;go_meet;exact ⟨by simp,mR _⟩
 case rest=>
 obtain ⟨rfl,HB2⟩:=hcut;have HZ2:=Lib.hid (HZ.out.below HB2.out HZ.out.lt);have HB3:=Lib.hid (HB0.out.trans (HB2.out.mono HB0.out.size));have hs2:W.heap.size+2≤wc.heap.size:=by have:=HB2.out.size;omega
 have HBY2:=Lib.hid (ByQ.grown HBY.out (aL HB3.out none) (by simp));clear hk1 hk2 HZ HB0 HB2 HBY hz0 hz1;obtain ⟨n0,hn0⟩:∃n0,n0=wc.heap.size+2:=⟨_,rfl⟩;obtain ⟨p,hp⟩:∃p,p=wc.heap.size:=⟨_,rfl⟩;obtain ⟨m,hm⟩:∃m,m=wc.heap.size+1:=⟨_,rfl⟩;have hal1:Below wc.heap.size wc (wc.alloc (.cells #[.slice (some ⟨q,o,none⟩) B.length c, .int .i64 8, .int .i64 0] 57)):=aY (Below.refl _ _) _
 have hrd:Rdr (wc.alloc (.cells #[.slice (some ⟨q,o,none⟩) B.length c, .int .i64 8, .int .i64 0] 57)) p q B 8 0:=
  ⟨by omega,h8,_,c,hle,by rw [hp];exact Blk.new wc _ _,ByQ.grown HBY2.out (aL hal1 none) (by simp)⟩
 have HRD:=Lib.hid (hrd.alloc (.cells #[.slice none 0 0, .slice none 0 0, .slice none 0 0, .slice none 0 0, .slice none 0 0, .slice none 0 0, .slice none 0 0, .bool false, .int .u32 0, .slice none 0 0, .slice none 0 0, .slice none 0 0] 78))
 have HRI:=Lib.hid (Dx ((wc.alloc (.cells #[.slice (some ⟨q,o,none⟩) B.length c, .int .i64 8, .int .i64 0] 57)).alloc (.cells #[.slice none 0 0, .slice none 0 0, .slice none 0 0, .slice none 0 0, .slice none 0 0, .slice none 0 0, .slice none 0 0, .bool false, .int .u32 0, .slice none 0 0, .slice none 0 0, .slice none 0 0] 78)) p q m n0
  (by have h:=Blk.new (wc.alloc (.cells #[.slice (some ⟨q,o,none⟩) B.length c, .int .i64 8, .int .i64 0] 57)) #[.slice none 0 0, .slice none 0 0, .slice none 0 0, .slice none 0 0, .slice none 0 0, .slice none 0 0, .slice none 0 0, .bool false, .int .u32 0, .slice none 0 0, .slice none 0 0, .slice none 0 0] 78;rw [World.size_alloc]at h;rw [hm];exact h))
 have HZ3:=Lib.hid ((HZ2.out.alloc (.cells #[.slice (some ⟨q,o,none⟩) B.length c, .int .i64 8, .int .i64 0] 57)).alloc (.cells #[.slice none 0 0, .slice none 0 0, .slice none 0 0, .slice none 0 0, .slice none 0 0, .slice none 0 0, .slice none 0 0, .bool false, .int .u32 0, .slice none 0 0, .slice none 0 0, .slice none 0 0] 78));have HB4:=Lib.hid ((HB3.out.alloc (by omega) (.cells #[.slice (some ⟨q,o,none⟩) B.length c, .int .i64 8, .int .i64 0] 57)).alloc (by rw [World.size_alloc];omega) (.cells #[.slice none 0 0, .slice none 0 0, .slice none 0 0, .slice none 0 0, .slice none 0 0, .slice none 0 0, .slice none 0 0, .bool false, .int .u32 0, .slice none 0 0, .slice none 0 0, .slice none 0 0] 78));have hzX:((wc.alloc (.cells #[.slice (some ⟨q,o,none⟩) B.length c, .int .i64 8, .int .i64 0] 57)).alloc (.cells #[.slice none 0 0, .slice none 0 0, .slice none 0 0, .slice none 0 0, .slice none 0 0, .slice none 0 0, .slice none 0 0, .bool false, .int .u32 0, .slice none 0 0, .slice none 0 0, .slice none 0 0] 78)).heap.size=n0:=by rw [World.size_alloc,World.size_alloc];omega
 clear hrd hal1 HBY2 HZ2 HB3;have hBmp:m≠p:=by omega
 have hBq:q< n0:=by omega
 have hBm:m< n0:=by omega
 have hBp:p< n0:=by omega
 have hBmq:m≠q:=by omega
 have hBpq:p≠q:=by omega
 have hWp:W.heap.size< p:=by omega
 have hWm:W.heap.size< m:=by omega
 go_wp2_with fail;rw [←hm,←hp];generalize (wc.alloc (.cells #[.slice (some ⟨q,o,none⟩) B.length c, .int .i64 8, .int .i64 0] 57)).alloc (.cells #[.slice none 0 0, .slice none 0 0, .slice none 0 0, .slice none 0 0, .slice none 0 0, .slice none 0 0, .slice none 0 0, .bool false, .int .u32 0, .slice none 0 0, .slice none 0 0, .slice none 0 0] 78)=X at *;have HZX:=Lib.hid hzX;clear hp hm hn0 hzX hs2;go_loopw [9] (fun h wr=>∃(M:df) (hi:Int) (a:Nat) (e:Int),h= .int .i64 hi∧0≤hi∧hi≤11∧Hid (Rdr wr p q B a e)∧Hid (RI (fun k=>k=q∨n0≤k) n0 wr p m hi M)∧Hid (G2 X wr p m)∧Hid (Tgt sat B TG M hi a e)) (fun _ wr=>jQ wr p B.length)
 case atStart=>exact ⟨{},0,8,0,rfl,by omega,by omega,HRD,HRI,G2.refl _ _ _,HT⟩
 case round=>
  obtain ⟨M,hi,a,e,rfl,hi0,hi11,HC,HI,HG,HTT⟩:=hrel;have HZr:=Lib.hid (HZ3.out.g2 HG.out (by omega) (by omega));have HBr:=Lib.hid (lN W.heap.size HB4.out p m HG.out (by omega) (by omega) HB4.out.size);have hnr:n0≤wr.heap.size:=by have h:=HG.out.size;have h2:=HZX.out;omega
  obtain ⟨A9,c9,c0,c1,c2,f0,f1,f2,hle9,hq9,hlt9,ha9⟩:=HC.out.cells;clear hle9 hq9;by_cases h0:e=0
  ·subst h0;by_cases hal:a< B.length
   ·have hal' :(a:Int)<(B.length:Int):=by omega
    have H1:=Lib.hid (fK wr p q B a 0 HC.out HB.out);obtain ⟨n,hn⟩:∃n,B[a]? =some n:=⟨_,List.getElem?_eq_getElem hal⟩;have hnb:=HB.out.2 n (List.mem_of_getElem? hn);have hby:aQ B a 0=(n,a+1,0):=by simp [aQ,hn]
    rw [hby]at H1;dsimp only at H1;have HN:=Lib.hid hn;clear hn hby;go_wp2_with fail;refine H1.out.mono ?_;rintro E W2 ⟨rfl,hG⟩;have HC2:=Lib.hid (show Rdr W2 p q B (a+1) 0 from hG.1);have HG2:=Lib.hid (HG.out.grown hG.2 (fun r e=> .inl (by injection e with e;exact e.symm)));have HI2:=Lib.hid (HI.out.step hG.2 hBmp (fun k hk=>by omega) hBp);have HZ2:=Lib.hid (HZr.out.grown hG.2 (by simp;omega));have HB2:=Lib.hid (lN W.heap.size HB4.out p m HG2.out (by omega) (by omega) HB4.out.size);have hs2:=hG.2.size;clear hG H1 c0 c1 c2 f0 f1 f2 hlt9 HZr HBr;by_cases hbad:11< n∨(0< n∧n≤hi)
    ·have HTB:=Lib.hid (EW HTT.out HN.out hbad);have hcase:11< n∨(¬11< n∧0< n∧n≤hi):=by omega
     have hfl:=dx W2 p q B (a+1) 0 104 HC2.out;have hfe:cz 0 104=104:=rfl;rw [hfe]at hfl;have HFL:=Lib.hid hfl;clear hfl hfe hbad;have hRR:R=(({}, []),104):=by rw [HRR.out,HTB.out];rfl
     have HRB:=Lib.hid hRR;clear hRR;rcases hcase with g1|⟨g1,g2,g3⟩
     all_goals
      go_wp2_with fail;refine HFL.out.mono ?_;rintro E W3 ⟨rfl,hG⟩;have HZ5:=Lib.hid (HZ2.out.grown hG.2 (by simp;omega));have HB5:=Lib.hid (lN W.heap.size HB2.out p m ((G2.refl W2 p m).grown hG.2 (fun r e=> .inl (by injection e with e;exact e.symm))) (by omega) (by omega) HB2.out.size);have hC5:Rdr W3 p q B (a+1) 104:=hG.1;obtain ⟨A9,c9,c0,c1,c2,f0,f1,f2,hle9,hq9,hlt9,ha9⟩:=hC5.cells;obtain ⟨⟨z0,z1,z2,z3,z4,z5,z6,z7,z8,z9,z10⟩,⟨zf0,zf1,zf2,zf3,zf4,zf5,zf6,zf7,zf8,zf9,zf10⟩,zl⟩:=Blk.eleven HZ5.out;have hpw:W.heap.size≠p:=by omega
      have hpw2:p≠W.heap.size:=by omega
      clear hC5 hle9 hq9 hG;go_wp2_with fail;go_region
      all_goals go_wp2_with fail
      refine bodyPost_ret (v:= .tuple #[.agg (dU (.slice none 0 0)), .int .i64 104]) (by simp [results,Tryz.results9,go_sem,z0,z1,z2,z3,z4,z5,z6,z7,z8,z9,z10,zl]) rfl ?_;rw [HRB.out];refine gD ?_
      (repeat (first|with_reducible exact HB5.out|(with_reducible refine d9 ?_ _ _ _ ?_;rotate_left;omega)|with_reducible refine aY ?_ _|with_reducible refine bH ?_))
    ·have HPc:=Lib.hid (qh W2 p q B (a+1) 0 HC2.out HB.out (by omega));have HLB:=Lib.hid (fw HB.out (a+1) 0);have HTS:=Lib.hid (DT HB.out HTT.out HN.out hbad);have HPP:=Lib.hid (oJ HB.out (a+1));generalize aT B (a+1) 0=t at *;obtain ⟨L,a2,e2⟩:=t;dsimp only at HPc HLB HTS HPP;have g1:¬11< n:=by omega
     have hsp:(¬0< n)∨(0< n∧¬n≤hi):=by omega
     have hnn:n=0∨hi< n:=by omega
     have hll:=HLB.out.1;clear hbad;go_upto_region 11 with fail;go_cut [63]from 53 to 63 (fun s wx=>s= .bool false∧wx=W2)
     case first=>
      rcases hsp with g2|⟨g2,g3⟩
      all_goals
       go_wp2_with fail;go_meet;exact ⟨by simp;omega,rfl⟩
     case rest=>
     obtain ⟨rfl,rfl⟩:=hcut;obtain ⟨A9,c9,c0,c1,c2,f0,f1,f2,hle9,hq9,hlt9,ha9⟩:=HC2.out.cells;clear hle9 hq9;have hsq:(hi< n∧n≤5)∨(hi< n∧¬n≤5)∨(¬hi< n∧n≤5):=by omega
     rcases hsq with ⟨g4,g5⟩|⟨g4,g5⟩|⟨g4,g5⟩
     ·rw [if_pos g4]at HTS;go_wp2_with fail;refine HPc.out.mono ?_;rintro E W3 ⟨⟨p2,rfl,hp2,hQ⟩,hG⟩;have hp2l:=hQ.lt;have hz3:wc.heap.size≤W3.heap.size:=hG.2.size;have HC3:=Lib.hid (show Rdr W3 p q B a2 e2 from hG.1);have HI3:=Lib.hid ((HI2.out.to (ok' :=fun k=>(k=q∨n0≤k)∧k≠p2) (p0:=p2) (fun k hk hl=>⟨hk,by omega⟩) (fun k _ hl=>by omega)).step hG.2 hBmp (fun k hk=>by have h:=hk.1;omega) hBp);have HG3:=Lib.hid (HG2.out.grown hG.2 (fun r e=> .inl (by injection e with e;exact e.symm)));have HE:=Lib.hid (by have h:=sM _ n0 W3 p2 q m sat L n hi e2 M hQ HLB.out HI3.out (fun k hk=>⟨by have h:=hk.1;omega,hk.2⟩) (by omega) hBq hBm hBmq (by omega) hnb.1 g5 hnn hi0;rw [if_pos g4]at h;exact h);generalize og sat L n M e2=r at *;obtain ⟨M2,r1,r2⟩:=r;dsimp only at HTS HE;clear hG hQ HPc c0 c1 c2 f0 f1 f2 hlt9;go_wp2_with fail;refine HE.out.mono ?_;rintro E W4 ⟨rfl,hI4,hQ4,hG4⟩;have HC4:=Lib.hid (xQ HC3.out hG4 (by omega) (by omega) (by omega) (by omega));have HI4:=Lib.hid (hI4.to (ok' :=fun k=>k=q∨n0≤k) (p0:=p) (fun k hk _=>by rcases hk with hk|hk|hk;exact hk.1;exact .inl hk;exact .inr (by omega)) (fun k hk _=>by omega));have HG4:=Lib.hid (vz HG3.out hG4 (by have h:=HG2.out.size;omega));have hp4:p< W4.heap.size:=HC4.out.lt;have hn4:n0≤W4.heap.size:=by have h:=hG4.size;omega
      clear hG4 hI4;have hD9:=mf W4 p q p2 B L a2 r1 e2 r2 HC4.out hQ4 (by omega) hll
      have hz9:(if e2=0 then eH (r1,r2) L.length else e2)=0→e2=0:=fun h=>by
       by_cases h2:e2=0
       ·exact h2
       ·rw [if_neg h2]at h;exact h
      generalize (if e2=0 then eH (r1,r2) L.length else e2)=e9 at *;have HE2Z:=Lib.hid hz9;clear hz9;have HD9:=Lib.hid hD9;clear hD9 hQ4;go_wp2_with fail;refine HD9.out.mono ?_;rintro E W5 ⟨rfl,hG5⟩;have HI5:=Lib.hid (HI4.out.step hG5.2 hBmp (fun k hk=>by omega) hBp);have HG5:=Lib.hid (HG4.out.grown hG5.2 (fun r e=> .inl (by injection e with e;exact e.symm)));have HC5:=Lib.hid (show Rdr W5 p q B a2 e9 from hG5.1);clear hG5 HD9;go_wp2_with fail;go_roundw
      case rel=>exact ⟨M2,_,a2,e9,rfl,by omega,by omega,HC5,HI5,HG5,HTS⟩
      case measure=>
       rw [dY HC5.out,dY HC.out,if_pos rfl];split
       next h9=>have h:=HPP.out;have h2:=HE2Z.out h9;have h3:=h h2;omega
       next h9=>omega
     ·rw [if_pos g4]at HTS;go_wp2_with fail;refine HPc.out.mono ?_;rintro E W3 ⟨⟨p2,rfl,hp2,hQ⟩,hG⟩;have hp2l:=hQ.lt;have hz3:wc.heap.size≤W3.heap.size:=hG.2.size;have HC3:=Lib.hid (show Rdr W3 p q B a2 e2 from hG.1);have HI3:=Lib.hid ((HI2.out.to (ok' :=fun k=>(k=q∨n0≤k)∧k≠p2) (p0:=p2) (fun k hk hl=>⟨hk,by omega⟩) (fun k _ hl=>by omega)).step hG.2 hBmp (fun k hk=>by have h:=hk.1;omega) hBp);have HG3:=Lib.hid (HG2.out.grown hG.2 (fun r e=> .inl (by injection e with e;exact e.symm)));have HE:=Lib.hid (Cf _ n0 W3 p2 q m sat L n hi e2 M hQ HLB.out HI3.out (fun k hk=>⟨by have h:=hk.1;omega,hk.2⟩) (by omega) hBq hBm hBmq (by omega) (by omega) (by omega) g4);generalize og sat L n M e2=r at *;obtain ⟨M2,r1,r2⟩:=r;dsimp only at HTS HE;clear hG hQ HPc c0 c1 c2 f0 f1 f2 hlt9;go_wp2_with fail;refine HE.out.mono ?_;rintro E W4 ⟨rfl,hI4,hQ4,hG4⟩;have HC4:=Lib.hid (xQ HC3.out hG4 (by omega) (by omega) (by omega) (by omega));have HI4:=Lib.hid (hI4.to (ok' :=fun k=>k=q∨n0≤k) (p0:=p) (fun k hk _=>by rcases hk with hk|hk|hk;exact hk.1;exact .inl hk;exact .inr (by omega)) (fun k hk _=>by omega));have HG4:=Lib.hid (vz HG3.out hG4 (by have h:=HG2.out.size;omega));have hp4:p< W4.heap.size:=HC4.out.lt;have hn4:n0≤W4.heap.size:=by have h:=hG4.size;omega
      clear hG4 hI4;have hD9:=mf W4 p q p2 B L a2 r1 e2 r2 HC4.out hQ4 (by omega) hll
      have hz9:(if e2=0 then eH (r1,r2) L.length else e2)=0→e2=0:=fun h=>by
       by_cases h2:e2=0
       ·exact h2
       ·rw [if_neg h2]at h;exact h
      generalize (if e2=0 then eH (r1,r2) L.length else e2)=e9 at *;have HE2Z:=Lib.hid hz9;clear hz9;have HD9:=Lib.hid hD9;clear hD9 hQ4;go_wp2_with fail;refine HD9.out.mono ?_;rintro E W5 ⟨rfl,hG5⟩;have HI5:=Lib.hid (HI4.out.step hG5.2 hBmp (fun k hk=>by omega) hBp);have HG5:=Lib.hid (HG4.out.grown hG5.2 (fun r e=> .inl (by injection e with e;exact e.symm)));have HC5:=Lib.hid (show Rdr W5 p q B a2 e9 from hG5.1);clear hG5 HD9;go_wp2_with fail;go_roundw
      case rel=>exact ⟨M2,_,a2,e9,rfl,by omega,by omega,HC5,HI5,HG5,HTS⟩
      case measure=>
       rw [dY HC5.out,dY HC.out,if_pos rfl];split
       next h9=>have h:=HPP.out;have h2:=HE2Z.out h9;have h3:=h h2;omega
       next h9=>omega
     ·rw [if_neg (by omega)]at HTS;go_wp2_with fail;refine HPc.out.mono ?_;rintro E W3 ⟨⟨p2,rfl,hp2,hQ⟩,hG⟩;have hp2l:=hQ.lt;have hz3:wc.heap.size≤W3.heap.size:=hG.2.size;have HC3:=Lib.hid (show Rdr W3 p q B a2 e2 from hG.1);have HI3:=Lib.hid ((HI2.out.to (ok' :=fun k=>(k=q∨n0≤k)∧k≠p2) (p0:=p2) (fun k hk hl=>⟨hk,by omega⟩) (fun k _ hl=>by omega)).step hG.2 hBmp (fun k hk=>by have h:=hk.1;omega) hBp);have HG3:=Lib.hid (HG2.out.grown hG.2 (fun r e=> .inl (by injection e with e;exact e.symm)));have HE:=Lib.hid (by have h:=sM _ n0 W3 p2 q m sat L n hi e2 M hQ HLB.out HI3.out (fun k hk=>⟨by have h:=hk.1;omega,hk.2⟩) (by omega) hBq hBm hBmq (by omega) hnb.1 g5 hnn hi0;rw [if_neg (by omega)]at h;exact h);generalize og sat L n M e2=r at *;obtain ⟨M2,r1,r2⟩:=r;dsimp only at HTS HE;clear hG hQ HPc c0 c1 c2 f0 f1 f2 hlt9;go_wp2_with fail;refine HE.out.mono ?_;rintro E W4 ⟨rfl,hI4,hQ4,hG4⟩;have HC4:=Lib.hid (xQ HC3.out hG4 (by omega) (by omega) (by omega) (by omega));have HI4:=Lib.hid (hI4.to (ok' :=fun k=>k=q∨n0≤k) (p0:=p) (fun k hk _=>by rcases hk with hk|hk|hk;exact hk.1;exact .inl hk;exact .inr (by omega)) (fun k hk _=>by omega));have HG4:=Lib.hid (vz HG3.out hG4 (by have h:=HG2.out.size;omega));have hp4:p< W4.heap.size:=HC4.out.lt;have hn4:n0≤W4.heap.size:=by have h:=hG4.size;omega
      clear hG4 hI4;have hD9:=mf W4 p q p2 B L a2 r1 e2 r2 HC4.out hQ4 (by omega) hll
      have hz9:(if e2=0 then eH (r1,r2) L.length else e2)=0→e2=0:=fun h=>by
       by_cases h2:e2=0
       ·exact h2
       ·rw [if_neg h2]at h;exact h
      generalize (if e2=0 then eH (r1,r2) L.length else e2)=e9 at *;have HE2Z:=Lib.hid hz9;clear hz9;have HD9:=Lib.hid hD9;clear hD9 hQ4;go_wp2_with fail;refine HD9.out.mono ?_;rintro E W5 ⟨rfl,hG5⟩;have HI5:=Lib.hid (HI4.out.step hG5.2 hBmp (fun k hk=>by omega) hBp);have HG5:=Lib.hid (HG4.out.grown hG5.2 (fun r e=> .inl (by injection e with e;exact e.symm)));have HC5:=Lib.hid (show Rdr W5 p q B a2 e9 from hG5.1);clear hG5 HD9;go_wp2_with fail;go_roundw
      case rel=>exact ⟨M2,_,a2,e9,rfl,by omega,by omega,HC5,HI5,HG5,HTS⟩
      case measure=>
       rw [dY HC5.out,dY HC.out,if_pos rfl];split
       next h9=>have h:=HPP.out;have h2:=HE2Z.out h9;have h3:=h h2;omega
       next h9=>omega
   ·have hal' :¬(a:Int)<(B.length:Int):=by omega
    have htg:=E9 HTT.out hal;obtain ⟨v0,v1,v2,v3,v4,v5,v6,v9,v10,v11,hN,hp2,hb,hD,hO⟩:=HI.out;obtain ⟨A11,k11,rfl,hl11,F11⟩:=hD.r11;obtain ⟨A2,k2,rfl,hl2,F2⟩:=hO.reads;have b2:wr.cell? ⟨m,2,none⟩=some (.slice A2 M.bodies.length k2):=hb.cell 2;have b11:wr.cell? ⟨m,11,none⟩=some (.slice A11 M.tys.length k11):=hb.cell 11;have bl:=hb.lt;have HBk:=Lib.hid hb;have HD:=Lib.hid hD;have HO:=Lib.hid hO;have HL2:=Lib.hid hl2;clear hb hD hO hl11 F11 hl2 F2 hN hp2;by_cases hlen:M.tys.length=M.bodies.length
    ·have hRR:R=((M,iR M),0):=by rw [HRR.out,htg];simp [hlen]
     have HRB:=Lib.hid hRR;have hlen' :(M.tys.length:Int)=(M.bodies.length:Int):=by omega
     have HLE:=Lib.hid hlen;clear hRR htg hlen;go_upto_region 21 with fail;go_cut [113]from 95 to 113 (fun s wx=>s= .bool false∧Hid (Below wr.heap.size wr wx))
     case first=>
      go_quiet (fail);go_wp2_with fail;go_meet;exact ⟨by simp [HLE.out],mR _⟩
     case rest=>
     obtain ⟨rfl,HBw⟩:=hcut;have HC5:=Lib.hid (HC.out.below HBw.out);have HZ5:=Lib.hid (HZr.out.below HBw.out HZr.out.lt);have HB5:=Lib.hid (HBr.out.trans (HBw.out.mono HBr.out.size));have HK5:=Lib.hid (Blk.below HBk.out HBw.out HBk.out.lt);have HD5:=Lib.hid (HD.out.step (Agr.of_below HBw.out));have HO5:=Lib.hid (HO.out.below HBw.out);have hwz:n0≤wc.heap.size:=by have h:=HBw.out.size;omega
     have hty9:M.tys.length≤9223372036854775807:=by have h:=EO HO.out;have h2:=HLE.out;omega
     clear b2 b11 bl c0 c1 c2 f0 f1 f2 hlt9;obtain ⟨A9,c9,c0,c1,c2,f0,f1,f2,hle9,hq9,hlt9,ha9⟩:=HC5.out.cells;have b11:wc.cell? ⟨m,11,none⟩=some (.slice A11 M.tys.length k11):=HK5.out.cell 11;have bl:=HK5.out.lt;clear hle9 hq9 hlen';go_wp2_with fail;clear c0 c1 c2 f0 f1 f2 hlt9 b11 bl;go_loopw [12] (fun i wr=>∃(j:Nat),j≤M.tys.length∧i= .int .i64 j∧Hid (Blk wr m #[v0,v1, .slice A2 M.bodies.length k2,v3,v4,v5,v6, .bool M.starts, .int .u32 M.start,v9,v10, .slice A11 M.tys.length k11] 78)∧Hid (lM (fun k=>(k=q∨n0≤k)∧some k≠(Value.slice A2 M.bodies.length k2).ownBlock) wr M v0 v1 v3 v4 v5 v6 v9 v10 (.slice A11 M.tys.length k11))∧Hid (Own jo 87 wr n0 (fun k=>k=q∨n0≤k) (.slice A2 M.bodies.length k2) (lZ M j))∧Hid (Blk wr W.heap.size (dU (.slice none 0 0)) 47)∧Hid (Below W.heap.size W wr∧n0≤wr.heap.size)) (fun i _=>M.tys.length - (intOf i).toNat)
     case atStart=>exact ⟨0,Nat.zero_le _,rfl,HK5,HD5,by rw [yn];exact HO5,HZ5,Lib.hid ⟨HB5.out,hwz⟩⟩
     case round=>
      obtain ⟨j,hj,rfl,HK,HDr,HOr,HZw,HBw2⟩:=hrel;have b2:wr.cell? ⟨m,2,none⟩=some (.slice A2 M.bodies.length k2):=HK.out.cell 2;have b11:wr.cell? ⟨m,11,none⟩=some (.slice A11 M.tys.length k11):=HK.out.cell 11;have bl:=HK.out.lt;have hn2:=HBw2.out.2;by_cases hlt:j< M.tys.length
      ·have hlt2:(j:Int)<(M.tys.length:Int):=by omega
       have hlb:j< M.bodies.length:=by have h:=HLE.out;omega
       have hlb2:(j:Int)<(M.bodies.length:Int):=by omega
       obtain ⟨ty,c11,hty,d11,wty⟩:=I6 HDr.out.r11 hlt;obtain ⟨b11',o11,rfl,d11⟩:=d11;obtain ⟨x,hx⟩:∃x,M.bodies[j]? =some x:=⟨_,List.getElem?_eq_getElem hlb⟩;obtain ⟨hxj,hstep⟩:=rC M j hty hx;obtain ⟨g,rfl⟩:=Dy HOr.out (by rw [oO M j HLE.out];omega);have hg:n0≤g∧g< wr.heap.size:=Own.block HOr.out rfl;obtain ⟨y0,y1,y2,hfk,e0,e1,e2,hfz⟩:=za (d:=jo) rfl HOr.out j hxj;obtain ⟨AL,cL,AB,cB,hcs,hFL,hFB⟩:=oh hfk
       obtain ⟨rfl,rfl,rfl⟩:y0= .int .u32 x.ty∧y1= .slice AL x.loc.length cL∧y2= .slice AB x.body.length cB:=by
        injection hcs with h1 h2;injection h2 with h2 h3;injection h3 with h3 h4;exact ⟨h1,h2,h3⟩
       have HFZ:=Lib.hid hfz;have HFK:=Lib.hid hfk;have HST:=Lib.hid hstep;have HWT:=Lib.hid wty;have hb11l:=World.block_lt_of_cell? _ _ d11;clear hfz hfk hstep wty hcs hFL hFB hx hxj hty;go_wp2_with fail;have hbw:Below wr.heap.size wr (wr.alloc (.cells #[.int .u32 ty, .slice AL x.loc.length cL, .slice AB x.body.length cB] 87)):=aY (Below.refl _ _) _;have hnew:=Blk.new wr #[.int .u32 ty, .slice AL x.loc.length cL, .slice AB x.body.length cB] 87;have hsz:wr.heap.size<(wr.alloc (.cells #[.int .u32 ty, .slice AL x.loc.length cL, .slice AB x.body.length cB] 87)).heap.size:=hnew.lt;generalize wr.alloc (.cells #[.int .u32 ty, .slice AL x.loc.length cL, .slice AB x.body.length cB] 87)=Y at *;have HKY:=Lib.hid (Blk.below HK.out hbw HK.out.lt);have b2y:Y.cell? ⟨m,2,none⟩=some (.slice (some ⟨g,0,none⟩) M.bodies.length k2):=HKY.out.cell 2;have bly:=HKY.out.lt;have y0:Y.cell? ⟨wr.heap.size,0,none⟩=some (.int .u32 ty):=hnew.cell 0;have y1:Y.cell? ⟨wr.heap.size,1,none⟩=some (.slice AL x.loc.length cL):=hnew.cell 1;have y2:Y.cell? ⟨wr.heap.size,2,none⟩=some (.slice AB x.body.length cB):=hnew.cell 2;have k0:Y.cell? ⟨g,j * 3,none⟩=some (.int .u32 x.ty):=aB hbw e0;have k1:Y.cell? ⟨g,j * 3+1,none⟩=some (.slice AL x.loc.length cL):=aB hbw e1;have k2' :Y.cell? ⟨g,j * 3+2,none⟩=some (.slice AB x.body.length cB):=aB hbw e2;have HOY:=Lib.hid (HOr.out.below hbw)
       have hfy:∀i,Y.frozen? ⟨g,i,none⟩=false:=by
        obtain ⟨_,_,_,_,_,_,_,h⟩:=za (d:=jo) rfl HOY.out j (rC M j (List.getElem?_eq_getElem hlt) (List.getElem?_eq_getElem hlb)).1;exact h
       have ky0:=hfy (j * 3);have ky1:=hfy (j * 3+1);have ky2:=hfy (j * 3+2);have hgy:g< Y.heap.size:=by omega
       have HDY:=Lib.hid (HDr.out.step (Agr.of_below hbw));have HZY:=Lib.hid (HZw.out.below hbw HZw.out.lt);have HBY:=Lib.hid (⟨HBw2.out.1.trans (hbw.mono HBw2.out.1.size),by omega⟩:Below W.heap.size W Y∧n0≤Y.heap.size);have HFKY:=Lib.hid (show FK jo Y (fun k=>(k=q∨n0≤k)∧some k≠some g) ⟨ty,x.loc,x.body⟩ [.int .u32 ty, .slice AL x.loc.length cL, .slice AB x.body.length cB]from Bz (HFK.out.below hbw) HWT.out);clear hbw hnew hfy b2 b11 d11 e0 e1 e2 bl;go_still_tail 8,(by kernel_rfl);change wpList _ _ _ _ _ Y.drew;go_wp2;go_roundw
       case rel=>
        have hg1:=((bA Y g (j * 3) (.int .u32 ty)).trans (bA _ g (j * 3+1) (.slice AL x.loc.length cL))).trans (bA _ g (j * 3+2) (.slice AB x.body.length cB));have hdw:=fun (Z:World)=>(Below.refl Z.heap.size Z).drew
        refine ⟨j+1,by omega,by go_num, ?_, ?_, ?_, ?_, ?_⟩
        ·exact Lib.hid ((HKY.out.grown hg1 (fun e=>by injection e with e;omega)).drew)
        ·exact Lib.hid ((HDY.out.step (bS hg1 (fun k hk=>hk.2))).step (Agr.of_below (hdw _)))
        ·rw [HST.out];exact Lib.hid ((BX rfl HOY.out j (by rw [oO M j HLE.out];exact hlb) (by rw [oO M j HLE.out]) HFKY.out).below (hdw _))
        ·exact Lib.hid ((HZY.out.grown hg1 (fun e=>by injection e with e;omega)).drew)
        ·exact Lib.hid ⟨(HBY.out.1.grown hg1 HBY.out.1.size (fun k e=>by injection e with e;omega)).drew,Nat.le_trans HBY.out.2 hg1.size⟩
       case measure=>simp [intOf];omega
      ·obtain rfl:j=M.tys.length:=by omega
       have hRw:Row jo (fun k=>(k=q∨W.heap.size≤k)∧k≠W.heap.size) wr (.slice A2 M.bodies.length k2) (iR M):=by
        have h:=HOr.out;rw [Bw M HLE.out]at h;obtain ⟨A',c',e,hl,hF⟩:=h.reads;exact ⟨A',c',e,hl,Ft.mono hF (fun k hk=>⟨by rcases hk with (hk|hk)|hk;exact .inl hk;exact .inr (by omega);exact .inr (by omega),by rcases hk with (hk|hk)|hk<;>omega⟩)⟩
       have HRw:=Lib.hid hRw;have HDZ:=Lib.hid (HDr.out.bound (ok' :=fun k=>(k=q∨W.heap.size≤k)∧k≠W.heap.size) (fun k hk _=>⟨by rcases hk.1 with h|h;exact .inl h;exact .inr (by omega),by have h:=hk.1;omega⟩));obtain ⟨A0,i0,rfl, -, -⟩:=HDZ.out.r0;obtain ⟨A1,i1,rfl, -, -⟩:=HDZ.out.r1;obtain ⟨A3,i3,rfl, -, -⟩:=HDZ.out.r3;obtain ⟨A4,i4,rfl, -, -⟩:=HDZ.out.r4;obtain ⟨A5,i5,rfl, -, -⟩:=HDZ.out.r5;obtain ⟨A6,i6,rfl, -, -⟩:=HDZ.out.r6;obtain ⟨A9,i9,rfl, -, -⟩:=HDZ.out.r9;obtain ⟨A10,i10,rfl, -, -⟩:=HDZ.out.r10;have m0:wr.cell? ⟨m,0,none⟩=some (.slice A0 M.types.length i0):=HK.out.cell 0;have m1:wr.cell? ⟨m,1,none⟩=some (.slice A1 M.imports.length i1):=HK.out.cell 1;have m3:wr.cell? ⟨m,3,none⟩=some (.slice A3 M.tables.length i3):=HK.out.cell 3;have m4:wr.cell? ⟨m,4,none⟩=some (.slice A4 M.mems.length i4):=HK.out.cell 4;have m5:wr.cell? ⟨m,5,none⟩=some (.slice A5 M.globals.length i5):=HK.out.cell 5;have m6:wr.cell? ⟨m,6,none⟩=some (.slice A6 M.exports.length i6):=HK.out.cell 6;have m7:wr.cell? ⟨m,7,none⟩=some (.bool M.starts):=HK.out.cell 7;have m8:wr.cell? ⟨m,8,none⟩=some (.int .u32 M.start):=HK.out.cell 8;have m9:wr.cell? ⟨m,9,none⟩=some (.slice A9 M.elems.length i9):=HK.out.cell 9;have m10:wr.cell? ⟨m,10,none⟩=some (.slice A10 M.datas.length i10):=HK.out.cell 10;obtain ⟨⟨z0,z1,z2,z3,z4,z5,z6,z7,z8,z9,z10⟩,⟨zf0,zf1,zf2,zf3,zf4,zf5,zf6,zf7,zf8,zf9,zf10⟩,zl⟩:=Blk.eleven HZw.out;have hwm2:m≠W.heap.size:=by omega
       have hlt2:¬((M.tys.length:Int)<(M.tys.length:Int)):=by omega
       clear hRw HDr HOr HK;go_wp2_with fail;refine bodyPost_ret (v:= .tuple #[.agg #[.slice A0 M.types.length i0, .slice A1 M.imports.length i1, .slice A2 M.bodies.length k2, .slice A3 M.tables.length i3, .slice A4 M.mems.length i4, .slice A5 M.globals.length i5, .slice A6 M.exports.length i6, .bool M.starts, .int .u32 M.start, .slice A9 M.elems.length i9, .slice A10 M.datas.length i10], .int .i64 0]) (by simp [results,Tryz.results9,go_sem,z0,z1,z2,z3,z4,z5,z6,z7,z8,z9,z10,zl]) rfl ?_;rw [HRB.out]
       have hfin:∀Z,wr.grownBy Z (some W.heap.size)→Below W.heap.size W Z→lH W q ((M,iR M),0) (.returned (.tuple #[.agg #[.slice A0 M.types.length i0, .slice A1 M.imports.length i1, .slice A2 M.bodies.length k2, .slice A3 M.tables.length i3, .slice A4 M.mems.length i4, .slice A5 M.globals.length i5, .slice A6 M.exports.length i6, .bool M.starts, .int .u32 M.start, .slice A9 M.elems.length i9, .slice A10 M.datas.length i10], .int .i64 0])) Z:=fun Z hg hb=>by
        have hD:=(HDZ.out.step (bS hg (fun k hk e=>hk.2 (by injection e)))).bound (ok' :=fun k=>k=q∨W.heap.size≤k) (fun k hk _=>hk.1);exact ⟨hb,_,_,_,_,_,_,_,_,_,rfl,⟨hD.r0,hD.r1,(HRw.out.step (bS hg (fun k hk e=>hk.2 (by injection e)))).mono (fun k hk=>hk.1),hD.r3,hD.r4,hD.r5,hD.r6,hD.r9,hD.r10⟩⟩
       refine hfin _ ?_ ?_
       ·repeat (with_reducible refine Aq ?_ _ _)
        exact World.grownBy.refl _ _
       ·(repeat (first|with_reducible exact HBw2.out.1|(with_reducible refine d9 ?_ _ _ _ ?_;rotate_left;omega)|with_reducible refine aY ?_ _|with_reducible refine bH ?_))
    ·have hRR:R=(({}, []),109):=by rw [HRR.out,htg];simp [hlen]
     have HRB:=Lib.hid hRR;have hlen' :¬(M.tys.length:Int)=(M.bodies.length:Int):=by omega
     clear hRR htg;go_upto_region 21 with fail;go_cut [113]from 95 to 113 (fun s wx=>s= .bool true∧Hid (Below wr.heap.size wr wx))
     case first=>
      go_quiet (fail);go_wp2_with fail;go_meet;exact ⟨by simp;omega,mR _⟩
     case rest=>
     obtain ⟨rfl,HBw⟩:=hcut;have HC5:=Lib.hid (HC.out.below HBw.out);have HZ5:=Lib.hid (HZr.out.below HBw.out HZr.out.lt);have HB5:=Lib.hid (HBr.out.trans (HBw.out.mono HBr.out.size));have hfl:=dx wc p q B a 0 109 HC5.out;have hfe:cz 0 109=109:=rfl;rw [hfe]at hfl;have HFL:=Lib.hid hfl;clear hfl hfe hlen b2 b11 bl c0 c1 c2 f0 f1 f2 hlt9;go_wp2_with fail;refine HFL.out.mono ?_;rintro E W3 ⟨rfl,hG⟩;have HZ6:=Lib.hid (HZ5.out.grown hG.2 (by simp;omega));have HB6:=Lib.hid (lN W.heap.size HB5.out p m ((G2.refl wc p m).grown hG.2 (fun r e=> .inl (by injection e with e;exact e.symm))) (by omega) (by omega) HB5.out.size);have HC6:=Lib.hid (show Rdr W3 p q B a 109 from hG.1);clear hG HFL;obtain ⟨A9,c9,c0,c1,c2,f0,f1,f2,hle9,hq9,hlt9,ha9⟩:=HC6.out.cells;obtain ⟨⟨z0,z1,z2,z3,z4,z5,z6,z7,z8,z9,z10⟩,⟨zf0,zf1,zf2,zf3,zf4,zf5,zf6,zf7,zf8,zf9,zf10⟩,zl⟩:=Blk.eleven HZ6.out;have hpw:W.heap.size≠p:=by omega
     have hpw2:p≠W.heap.size:=by omega
     clear hle9 hq9;go_wp2_with fail;go_region
     all_goals go_wp2_with fail
     refine bodyPost_ret (v:= .tuple #[.agg (dU (.slice none 0 0)), .int .i64 109]) (by simp [results,Tryz.results9,go_sem,z0,z1,z2,z3,z4,z5,z6,z7,z8,z9,z10,zl]) rfl ?_;rw [HRB.out];refine gD ?_
     (repeat (first|with_reducible exact HB6.out|(with_reducible refine d9 ?_ _ _ _ ?_;rotate_left;omega)|with_reducible refine aY ?_ _|with_reducible refine bH ?_))
  ·have h0' :(e==0)=false:=by simp;exact h0
   have h0'' :(e !=0)=true:=by simp;exact h0
   have hRR:R=(({}, []),e):=by rw [HRR.out,HTT.out.2 h0,if_neg h0]
   have HRB:=Lib.hid hRR;clear hRR;go_upto_region 21 with fail;go_cut [113]from 95 to 113 (fun s wx=>s= .bool false∧Hid (Below wr.heap.size wr wx))
   case first=>
    go_quiet (fail);go_wp2_with fail;go_meet;exact ⟨by simp,mR _⟩
   case rest=>
   obtain ⟨rfl,HBw⟩:=hcut;have HC6:=Lib.hid (HC.out.below HBw.out);have HZ6:=Lib.hid (HZr.out.below HBw.out HZr.out.lt);have HB6:=Lib.hid (HBr.out.trans (HBw.out.mono HBr.out.size));clear c0 c1 c2 f0 f1 f2 hlt9;obtain ⟨A9,c9,c0,c1,c2,f0,f1,f2,hle9,hq9,hlt9,ha9⟩:=HC6.out.cells;obtain ⟨⟨z0,z1,z2,z3,z4,z5,z6,z7,z8,z9,z10⟩,⟨zf0,zf1,zf2,zf3,zf4,zf5,zf6,zf7,zf8,zf9,zf10⟩,zl⟩:=Blk.eleven HZ6.out;have hpw:W.heap.size≠p:=by omega
   have hpw2:p≠W.heap.size:=by omega
   clear hle9 hq9;go_wp2_with fail;go_region
   all_goals go_wp2_with fail
   refine bodyPost_ret (v:= .tuple #[.agg (dU (.slice none 0 0)), .int .i64 e]) (by simp [results,Tryz.results9,go_sem,z0,z1,z2,z3,z4,z5,z6,z7,z8,z9,z10,zl]) rfl ?_;rw [HRB.out];refine gD ?_
   (repeat (first|with_reducible exact HB6.out|(with_reducible refine d9 ?_ _ _ _ ?_;rotate_left;omega)|with_reducible refine aY ?_ _|with_reducible refine bH ?_))
end Go.Proofs.YtofaiocffifhfaaGreat
namespace Go.Proofs.YtofaiocffifhfaaGreat
open Go.RowKit YtofaiocffifhfaaGreatB
abbrev Rr (α:Type):=List Int→Nat→Int→α×Nat×Int
def Agl (n:Nat) (B B' :List Int):Prop:=∀i,i< n→B'[i]? =B[i]?
theorem Agl.mono {n m:Nat} {B B' :List Int} (h:Agl n B B') (hm:m≤n):Agl m B B' :=fun i hi=>h i (by omega)
theorem Agl.take {B:List Int} {k:Nat}:Agl k B (B.take k):=fun i hi=>by rw [List.getElem?_take,if_pos hi]
theorem Agl.len {n:Nat} {B B' :List Int} (h:Agl n B B') (hn:n≤B.length):n≤B'.length:=by
 rcases Nat.eq_zero_or_pos n with h0|h0
 ·omega
 ·have:=h (n - 1) (by omega);rw [List.getElem?_eq_getElem (show n - 1< B.length by omega)]at this;have:=(List.getElem?_eq_some_iff.1 this).1;omega
structure Good {α:Type} (R:Rr α):Prop where
 bad:∀B a e,e≠0→(R B a e).2.2=e
 le:∀B a,a≤B.length→(R B a 0).2.2=0→a≤(R B a 0).2.1∧(R B a 0).2.1≤B.length
theorem Good.congr {α:Type} {R S:Rr α} (hS:Good S) (h1:∀B a e,(R B a e).2.2=(S B a e).2.2) (h2:∀B a,(S B a 0).2.2=0→R B a 0=S B a 0):Good R where
 bad:=fun B a e he=>by rw [h1];exact hS.bad B a e he
 le:=fun B a ha h=>by rw [h1]at h;rw [h2 B a h];exact hS.le B a ha h
theorem Good.bind {α β γ:Type} {R:Rr α} {S:α→Rr β} {f:α→β→γ} (hR:Good R) (hS:∀v,Good (S v)):
  Good (fun B a e=>(f (R B a e).1 (S (R B a e).1 B (R B a e).2.1 (R B a e).2.2).1,(S (R B a e).1 B (R B a e).2.1 (R B a e).2.2).2):Rr γ):=by
 have hE:∀B a,(S (R B a 0).1 B (R B a 0).2.1 (R B a 0).2.2).2.2=0→(R B a 0).2.2=0:=fun B a h=>by
  apply Classical.byContradiction;intro hn;rw [(hS _).bad _ _ _ hn]at h;exact hn h
 refine ⟨fun B a e he=> ?_,fun B a ha h=> ?_⟩
 ·have:=hR.bad B a e he;try simp only
  rw [(hS _).bad _ _ _ (by rw [this];exact he),this]
 ·try simp only at h ⊢
  have h0:=hE _ _ h;have l1:=hR.le B a ha h0;rw [h0]at h ⊢;have l2:=(hS _).le _ _ l1.2 h;omega
theorem Good.map {α β:Type} {R:Rr α} (hR:Good R) (f:α→β):Good (fun B a e=>(f (R B a e).1,(R B a e).2):Rr β) where
 bad:=hR.bad
 le:=hR.le
theorem Good.pure {α:Type} (v:α):Good (fun _ a e=>(v,a,e)) where
 bad:=fun _ _ _ _=>rfl
 le:=fun _ _ ha _=>⟨Nat.le_refl _,ha⟩
theorem Good.fail {α:Type} (v:α) (c:Int) (hc:c≠0):Good (fun _ a e=>(v,a,if e=0 then c else e)) where
 bad:=fun _ _ _ he=>by simp [he]
 le:=fun _ _ _ h=>absurd h (by simpa using hc)
def jb:Rr Int:=fun B a e=>if e=0 then (match B[a]? with|some x=>(x,a+1,0)|none=>(0,a,100))else (0,a,e)
theorem gW {B:List Int} {a:Nat} {x:Int} (h:B[a]? =some x):jb B a 0=(x,a+1,0):=by simp [jb,h]
theorem nC {B:List Int} {a:Nat} (h:B[a]? =none):jb B a 0=(0,a,100):=by simp [jb,h]
theorem kJ:Good jb:=by
 have key:∀B a,(jb B a 0).2.2=0→∃x,B[a]? =some x:=fun B a h=>by
  cases hx:B[a]? with
  |none=>rw [nC hx]at h;exact absurd h (by simp)
  |some x=>exact ⟨x,rfl⟩
 refine ⟨fun B a e he=>by simp [jb,he],fun B a ha h=> ?_⟩
 ·obtain ⟨x,hx⟩:=key B a h;rw [gW hx];have:=(List.getElem?_eq_some_iff.1 hx).1;try simp only
  omega
def gY {α:Type} [Inhabited α] (T:Int→Rr α):Rr α:=fun B a e=>if e=0 then (match B[a]? with|some b=>T b B a 0|none=>(default,a,100))else (default,a,e)
theorem Good.look {α:Type} [Inhabited α] (T:Int→Rr α) (hT:∀b,Good (T b)) (hp:∀b B a,B[a]? =some b→(T b B a 0).2.2=0→a<(T b B a 0).2.1):Good (gY T):=by
 have h0:∀B a,B[a]? =none→(gY T B a 0).2.2=100:=fun B a h=>by simp [gY,h]
 have h1:∀B a b,B[a]? =some b→gY T B a 0=T b B a 0:=fun B a b h=>by simp [gY,h]
 have key:∀B a,(gY T B a 0).2.2=0→∃x,B[a]? =some x:=fun B a h=>by
  cases hx:B[a]? with
  |none=>rw [h0 B a hx]at h;exact absurd h (by simp)
  |some x=>exact ⟨x,rfl⟩
 refine ⟨fun B a e he=>by simp [gY,he],fun B a ha h=> ?_⟩
 ·obtain ⟨x,hx⟩:=key B a h;rw [h1 B a x hx]at h ⊢;exact (hT x).le B a ha h
theorem Good.ite {α:Type} {R S:Rr α} {c:Prop} [Decidable c] (hR:Good R) (hS:Good S):Good (fun B a e=>if c then R B a e else S B a e):=by
 by_cases h:c
 ·simpa [h] using hR
 ·simpa [h] using hS
theorem oC {M:List Int→Nat→Except Int (Nat×Nat)} (hle:∀B a n nx,a≤B.length→M B a= .ok (n,nx)→a≤nx∧nx≤B.length)
 (hz:∀B a,M B a≠ .error 0):Good (fun B a e=>az (M B a) a e):=by
 have key:∀B a,(az (M B a) a 0).2.2=0→∃n nx,M B a= .ok (n,nx):=fun B a h=>by
  cases hm:M B a with
  |error e=>
   rw [hm]at h;simp [az,eP]at h;exact absurd (h ▸ hm) (hz B a)
  |ok y=>exact ⟨y.1,y.2,rfl⟩
 have ok:∀B a n nx,M B a= .ok (n,nx)→az (M B a) a 0=((n:Int),nx,0):=fun B a n nx h=>by rw [h];rfl
 refine ⟨fun B a e he=>by simp [az,he],fun B a ha h=> ?_⟩
 ·obtain ⟨n,nx,hm⟩:=key B a h;try simp only
  rw [ok B a n nx hm];exact hle B a n nx ha hm
theorem iM {lst:Int→Int→Bool}:∀(R:List Int) (l:Nat),bZ lst R l≠ .error 0
 | [],l=>by simp [bZ]
 |x::r,l=>by
  rw [bZ];split
  ·split<;>simp
  ·split
   ·simp
   ·have:=iM (lst:=lst) r (l - 7)
    cases hr:bZ lst r (l - 7)with
    |error e' =>rw [hr]at this;exact this
    |ok z=>simp
theorem nZ {M:List Int→Nat→Except Int (Nat×Nat)} (lst:Int→Int→Bool) (l:Nat) (g:Nat→Nat→Except Int Nat) (hg:∀m h,g m h≠ .error 0)
  (hM:∀B a,M B a=match bZ lst (B.drop a) l with| .error e=> .error e| .ok (m,h,c)=>(match g m h with| .error e=> .error e| .ok n=> .ok (n,a+c))):Good (fun B a e=>az (M B a) a e):=by
 have key:∀B a n nx,M B a= .ok (n,nx)→∃m h c,bZ lst (B.drop a) l= .ok (m,h,c)∧g m h= .ok n∧nx=a+c:=fun B a n nx hh=>by
  rw [hM]at hh
  cases hr:bZ lst (B.drop a) l with
  |error e=>rw [hr]at hh;cases hh
  |ok z=>
   obtain ⟨m,h,c⟩:=z;rw [hr]at hh;try simp only at hh
   cases hgm:g m h with
   |error e=>rw [hgm]at hh;cases hh
   |ok y=>rw [hgm]at hh;simp at hh;exact ⟨m,h,c,rfl,by rw [hgm,hh.1],hh.2.symm⟩
 have back:∀B a m h c n,bZ lst (B.drop a) l= .ok (m,h,c)→g m h= .ok n→M B a= .ok (n,a+c):=fun B a m h c n h1 h2=>by rw [hM,h1];simp only [h2]
 refine oC (fun B a n nx ha hh=> ?_) (fun B a hh=> ?_)
 ·obtain ⟨m,h,c,h1,h2,rfl⟩:=key B a n nx hh;have:=qZ _ _ _ _ _ h1;rw [List.length_drop]at this;omega
 ·rw [hM]at hh
  cases hr:bZ lst (B.drop a) l with
  |error e=>rw [hr]at hh;exact iM _ _ (hr.trans (by simpa using hh))
  |ok z=>
   obtain ⟨m,h,c⟩:=z;rw [hr]at hh;try simp only at hh
   cases hgm:g m h with
   |error e=>rw [hgm]at hh;exact hg m h (hgm.trans (by simpa using hh))
   |ok y=>rw [hgm]at hh;cases hh
theorem Good.of0 {α : Type} {R S : Rr α} (hS : Good S) (hb : ∀ B a e, e ≠ 0 → (R B a e).2.2 = e) (h0 : ∀ B a, R B a 0 = S B a 0) : Good R :=
  hS.congr (fun B a e => by by_cases he : e = 0; · rw [he, h0]
                            · rw [hb B a e he, hS.bad B a e he]) (fun B a _ => h0 B a)
theorem gQ:Good (fun B a e=>az (aI B a) a e):=nZ jk 32 (fun m _=> .ok (m % 18446744073709551616)) (fun _ _ h=>by cases h) (fun B a=>by
 unfold aI bQ;cases bZ jk (B.drop a) 32<;>rfl)
theorem Ca:Good (fun B a e=>az (fu B a) a e):=nZ iY 32 (fun m h=> .ok (nW m h % 4294967296)) (fun _ _ h=>by cases h) (fun B a=>by
 unfold fu di;cases bZ iY (B.drop a) 32<;>rfl)
theorem DD:Good (fun B a e=>az (fC B a) a e):=nZ iY 64 (fun m h=> .ok (nW m h)) (fun _ _ h=>by cases h) (fun B a=>by
 unfold fC di;cases bZ iY (B.drop a) 64<;>rfl)
theorem qU:Good (fun B a e=>az (aG B a) a e):=nZ jk 32 (fun m _=>if m % 18446744073709551616 >4096 then .error 3 else .ok (m % 18446744073709551616)) (fun m _ h=>by split at h<;>cases h) (fun B a=>by
 unfold aG aI bQ
 cases bZ jk (B.drop a) 32 with
 |error e=>rfl
 |ok y=>simp only;split<;>rfl)
theorem wN (n:Nat):Good (fun B a e=>az (dN B a n) a e):=by
 have key:∀B a v nx,dN B a n= .ok (v,nx)→a+n≤B.length∧v=leN ((B.drop a).take n)∧nx=a+n:=fun B a v nx h=>by
  unfold dN at h;split at h
  next c=>cases h;exact ⟨c,rfl,rfl⟩
  next=>cases h
 refine oC (fun B a v nx ha hh=> ?_) (fun B a hh=> ?_)
 ·have:=key B a v nx hh;omega
 ·unfold dN at hh;split at hh<;>cases hh
theorem rH:Good (fun B a e=>az (ek B a) a e):=by
 have key:∀B a v nx,ek B a= .ok (v,nx)→∃x,B[a]? =some x∧nx=a+1:=fun B a v nx h=>by
  unfold ek aV at h
  cases hx:B[a]? with
  |none=>rw [hx]at h;cases h
  |some x=>
   rw [hx]at h;try simp only at h
   split at h
   ·cases h
   next h' =>split at h' <;>cases h';cases h;exact ⟨x,rfl,rfl⟩
 have cong:∀B B' a,B'[a]? =B[a]? →ek B' a=ek B a:=fun B B' a h=>by unfold ek aV;rw [h]
 refine oC (fun B a v nx ha hh=> ?_) (fun B a hh=> ?_)
 ·obtain ⟨x,hx,rfl⟩:=key B a v nx hh;have:=(List.getElem?_eq_some_iff.1 hx).1;omega
 ·unfold ek aV at hh
  cases hx:B[a]? with
  |none=>rw [hx]at hh;cases hh
  |some x=>
   rw [hx]at hh;try simp only at hh
   split at hh
   next h' =>split at h' <;>cases h';cases hh
   next=>cases hh
def tQ:Rr Unit:=fun B a e=>((),dO B a e)
theorem tC:Good tQ:=by
 refine (Good.bind (f:=fun _ _=>()) kJ (S:=fun x=>fun B a e=>if x=0 then ((),a,e)else ((),a,if e=0 then 107 else e)) (fun x=>Good.ite (Good.pure ()) (Good.fail () 107 (by decide)))).congr (fun B a e=> ?_) (fun B a h=> ?_)
 ·by_cases he:e=0
  ·subst he
   cases hx:B[a]? with
   |none=>rw [nC hx];simp [tQ,dO,hx]
   |some x=>rw [gW hx];simp only [tQ,dO,hx];by_cases h:x=0<;>simp [h]
  ·rw [show jb B a e=(0,a,e)from by simp [jb,he]];simp [tQ,dO,he]
 ·cases hx:B[a]? with
  |none=>rw [nC hx]at h;simp at h
  |some x=>
   rw [gW hx]at h ⊢;by_cases h2:x=0
   ·simp [tQ,dO,hx,h2]
   ·simp [h2]at h
theorem vw:∀(k:Nat) (acc:List Int),Good (fun B a e=>jL B k a e acc)
 |0,acc=>Good.pure acc
 |k+1,acc=>by
  refine (Good.bind (f:=fun _ y=>y) gQ (S:=fun v=>fun B a e=>jL B k a e (acc++ [v])) (fun v=>vw k _)).of0 (fun B a e he=> ?_) (fun B a=> ?_)
  ·rw [lK _ _ _ _ _ he]
  ·rw [jL,if_pos rfl]
theorem pI:Good (fun B a e=>bT B a e):=Good.bind (f:=fun _ y=>y) qU (S:=fun (n:Int)=>fun B a e=>jL B n.toNat a e []) (fun n=>vw _ _)
def mG:Rr Int:=fun B a e=>fD B a e
theorem pG:Good mG:=by
 refine (Good.bind (f:=fun _ y=>y) gQ (S:=fun n=>fun B a e=>if n >7 then (64512+n,a,if e=0 then 108 else e)else (64512+n,a,e)) (fun n=>Good.ite (Good.fail _ 108 (by decide)) (Good.pure _))).congr (fun B a e=> ?_) (fun B a h=> ?_)
 ·simp only [mG,fD];split<;>rfl
 ·simp only [mG,fD]at h ⊢;split<;>rfl
def opT (sat:Bool) (deep:Nat) (b:Int):Rr Int:=fun B a e=>
 if (bN b).1=1∧64≤deep then (0,a,if e=0 then 3 else e)else if b=252∧sat=true then ((mG B (jb B a e).2.1 (jb B a e).2.2).1,(mG B (jb B a e).2.1 (jb B a e).2.2).2)
 else if (bN b).2=true then jb B a e else (0,a,if e=0 then 108 else e)
theorem DX (sat:Bool) (deep:Nat) (b:Int):Good (opT sat deep b):=
 Good.ite (Good.fail _ 3 (by decide)) (Good.ite (Good.bind (f:=fun _ y=>y) kJ (S:=fun _=>mG) (fun _=>pG)) (Good.ite kJ (Good.fail _ 108 (by decide))))
theorem Dn (sat:Bool) (deep:Nat) (b:Int) (B:List Int) (a:Nat) (hx:B[a]? =some b) (h:(opT sat deep b B a 0).2.2=0):a<(opT sat deep b B a 0).2.1:=by
 have hl:=(List.getElem?_eq_some_iff.1 hx).1;unfold opT at h ⊢;rw [gW hx]at h ⊢;split at h
 next=>exact absurd h (by simp)
 next c=>
 rw [if_neg c];split at h
 next c1=>
  rw [if_pos c1];have:=pG.le B (a+1) (by omega) h;try simp only
  omega
 next c1=>
 rw [if_neg c1];split at h
 next c2=>rw [if_pos c2];simp
 next=>exact absurd h (by simp)
def opR (sat:Bool) (deep:Nat):Rr Int:=fun B a e=>opM sat B a (iC B deep a e)
theorem FQ (sat:Bool) (deep:Nat) (B:List Int) (a:Nat) (e:Int) (he:e≠0):opR sat deep B a e=(0,a,e):=by
 simp [opR,opM,iC,aO,he]
theorem wS (sat:Bool) (deep:Nat) (B:List Int) (a:Nat):opR sat deep B a 0=gY (opT sat deep) B a 0:=by
 cases hx:B[a]? with
 |none=>simp [opR,opM,iC,aO,hx,gY]
 |some b=>
  have hp0:aO B a 0=(b,0):=by simp [aO,hx]
  have hp3:aO B a 3=(0,3):=by simp [aO]
  have hd:iC B deep a 0=if (bN b).1=1∧64≤deep then 3 else 0:=by simp only [iC,hp0];by_cases c:(bN b).1=1∧64≤deep<;>simp [c]
  rw [show gY (opT sat deep) B a 0=opT sat deep b B a 0 from by simp [gY,hx],show opR sat deep B a 0=opM sat B a (iC B deep a 0)from rfl,hd];unfold opT;by_cases c:(bN b).1=1∧64≤deep
  ·rw [if_pos c,if_pos c];simp [opM,hp3]
  ·rw [if_neg c,if_neg c,gW hx];simp only [opM,hp0,if_true];rfl
theorem uf (sat:Bool) (deep:Nat):Good (opR sat deep):=
 (Good.look (opT sat deep) (DX sat deep) (fun b B a=>Dn sat deep b B a)).of0 (fun B a e he=>by rw [FQ _ _ _ _ _ he]) (fun B a=>wS sat deep B a)
theorem Hr {sat:Bool} {deep:Nat} {B:List Int} {a:Nat} (h:(opR sat deep B a 0).2.2=0):a<(opR sat deep B a 0).2.1:=by
 rw [wS]at h ⊢
 cases hx:B[a]? with
 |none=>simp [gY,hx]at h
 |some b=>
  simp only [gY,hx,if_true]at h ⊢;exact Dn sat deep b B a hx h
abbrev Bk:=List Int→Bool→Nat→Int→List Ins×Int×Nat×Int
def bkR (bk:Bk) (m:Bool):Rr (List Ins×Int):=fun B a e=>(((bk B m a e).1,(bk B m a e).2.1),(bk B m a e).2.2.1,(bk B m a e).2.2.2)
def kD (bk:Bk) (op i:Int):Rr Ins:=fun B a e=>if e=0 then bE (bk B) B op i a else (fP op,a,e)
theorem jZ (bk:Bk) (hbk:∀m,Good (bkR bk m)) (op i:Int):Good (kD bk op i):=by
 have hb:∀(B:List Int) (a:Nat) (e:Int),e≠0→(kD bk op i B a e).2.2=e:=fun B a e he=>by simp [kD,he]
 by_cases h1:i=1
 ·refine (Good.bind (f:=fun _ y=>y) rH (S:=fun t=>fun B a e=>
   ((if (bkR bk (op==4) B a e).1.2=5 then ((Ins.mk op t 0 0 0 [] (bkR bk (op==4) B a e).1.1 (bkR bk false B (bkR bk (op==4) B a e).2.1 (bkR bk (op==4) B a e).2.2).1.1 true),(bkR bk false B (bkR bk (op==4) B a e).2.1 (bkR bk (op==4) B a e).2.2).2)
    else ((Ins.mk op t 0 0 0 [] (bkR bk (op==4) B a e).1.1 [] false),(bkR bk (op==4) B a e).2)):Ins×Nat×Int))
   (fun t=>(Good.bind (f:=fun _ y=>y) (hbk (op==4)) (S:=fun v=>fun B a e=>if v.2=5 then (Ins.mk op t 0 0 0 [] v.1 (bkR bk false B a e).1.1 true,(bkR bk false B a e).2)else (Ins.mk op t 0 0 0 [] v.1 [] false,a,e))
    (fun v=>Good.ite ((hbk false).map (fun y=>Ins.mk op t 0 0 0 [] v.1 y.1 true)) (Good.pure (Ins.mk op t 0 0 0 [] v.1 [] false)))).congr (fun B a e=>rfl) (fun B a _=>rfl))).of0 hb (fun B a=> ?_)
  rw [show kD bk op i B a 0=(if (bkR bk (op==4) B (az (ek B a) a 0).2.1 (az (ek B a) a 0).2.2).1.2=5 then
    ((Ins.mk op (az (ek B a) a 0).1 0 0 0 [] (bkR bk (op==4) B (az (ek B a) a 0).2.1 (az (ek B a) a 0).2.2).1.1 (bkR bk false B (bkR bk (op==4) B (az (ek B a) a 0).2.1 (az (ek B a) a 0).2.2).2.1 (bkR bk (op==4) B (az (ek B a) a 0).2.1 (az (ek B a) a 0).2.2).2.2).1.1 true),(bkR bk false B (bkR bk (op==4) B (az (ek B a) a 0).2.1 (az (ek B a) a 0).2.2).2.1 (bkR bk (op==4) B (az (ek B a) a 0).2.1 (az (ek B a) a 0).2.2).2.2).2)
    else ((Ins.mk op (az (ek B a) a 0).1 0 0 0 [] (bkR bk (op==4) B (az (ek B a) a 0).2.1 (az (ek B a) a 0).2.2).1.1 [] false),(bkR bk (op==4) B (az (ek B a) a 0).2.1 (az (ek B a) a 0).2.2).2))from by
   unfold kD bE;rw [if_pos rfl,if_pos h1]
   rfl]
 ·have hz:∀(B:List Int) (a:Nat),kD bk op i B a 0=bE (bk B) B op i a:=fun B a=>by simp [kD]
  by_cases c2:i=2∨i=4
  ·refine (gQ.map (fun v=>Ins.mk op 0 v 0 0 [] [] [] false)).of0 hb (fun B a=> ?_);rw [hz];unfold bE;rw [if_neg h1,if_pos c2]
  by_cases c3:i=3
  ·refine (Good.bind (f:=fun _ y=>y) pI (S:=fun l=>fun B a e=>(Ins.mk op 0 (az (aI B a) a e).1 0 0 l [] [] false,(az (aI B a) a e).2)) (fun l=>gQ.map (fun w=>Ins.mk op 0 w 0 0 l [] [] false))).of0 hb (fun B a=> ?_);rw [hz];unfold bE;rw [if_neg h1,if_neg c2,if_pos c3]
  by_cases c5:i=5
  ·refine (Good.bind (f:=fun v _=>Ins.mk op 0 v 0 0 [] [] [] false) gQ (S:=fun _=>tQ) (fun _=>tC)).of0 hb (fun B a=> ?_);rw [hz];unfold bE;rw [if_neg h1,if_neg c2,if_neg c3,if_pos c5];rfl
  by_cases c6:i=6
  ·refine (Good.bind (f:=fun v u=>Ins.mk op 0 v u 0 [] [] [] false) gQ (S:=fun _=>fun B a e=>az (aI B a) a e) (fun _=>gQ)).of0 hb (fun B a=> ?_);rw [hz];unfold bE;rw [if_neg h1,if_neg c2,if_neg c3,if_neg c5,if_pos c6]
  by_cases c7:i=7
  ·refine (tC.map (fun _=>fP op)).of0 hb (fun B a=> ?_);rw [hz];unfold bE;rw [if_neg h1,if_neg c2,if_neg c3,if_neg c5,if_neg c6,if_pos c7];rfl
  by_cases c8:i=8
  ·refine (Ca.map (fun v=>Ins.mk op 0 0 0 v [] [] [] false)).of0 hb (fun B a=> ?_);rw [hz];unfold bE;rw [if_neg h1,if_neg c2,if_neg c3,if_neg c5,if_neg c6,if_neg c7,if_pos c8]
  by_cases c9:i=9
  ·refine (DD.map (fun v=>Ins.mk op 0 0 0 v [] [] [] false)).of0 hb (fun B a=> ?_);rw [hz];unfold bE;rw [if_neg h1,if_neg c2,if_neg c3,if_neg c5,if_neg c6,if_neg c7,if_neg c8,if_pos c9]
  by_cases c10:i=10
  ·refine ((wN 4).map (fun v=>Ins.mk op 0 0 0 v [] [] [] false)).of0 hb (fun B a=> ?_);rw [hz];unfold bE;rw [if_neg h1,if_neg c2,if_neg c3,if_neg c5,if_neg c6,if_neg c7,if_neg c8,if_neg c9,if_pos c10]
  by_cases c11:i=11
  ·refine ((wN 8).map (fun v=>Ins.mk op 0 0 0 v [] [] [] false)).of0 hb (fun B a=> ?_);rw [hz];unfold bE;rw [if_neg h1,if_neg c2,if_neg c3,if_neg c5,if_neg c6,if_neg c7,if_neg c8,if_neg c9,if_neg c10,if_pos c11]
  ·refine (Good.pure (fP op)).of0 hb (fun B a=> ?_);rw [hz];unfold bE;rw [if_neg h1,if_neg c2,if_neg c3,if_neg c5,if_neg c6,if_neg c7,if_neg c8,if_neg c9,if_neg c10,if_neg c11]
def jX (bk:Bk) (sat:Bool) (deep:Nat):Rr Ins:=fun B a e=>fQ (bk B) sat B deep a e
theorem om (bk:Bk) (sat:Bool) (deep:Nat) (B:List Int) (a:Nat) (e:Int):(jX bk sat deep B a e).2.2=(kD bk (opR sat deep B a e).1 (bN (opR sat deep B a e).1).1 B (opR sat deep B a e).2.1 (opR sat deep B a e).2.2).2.2∧
  ((opR sat deep B a e).2.2=0→jX bk sat deep B a e=kD bk (opR sat deep B a e).1 (bN (opR sat deep B a e).1).1 B (opR sat deep B a e).2.1 (opR sat deep B a e).2.2):=by
 rw [show jX bk sat deep B a e=if (opR sat deep B a e).2.2=0 then bE (bk B) B (opR sat deep B a e).1 (bN (opR sat deep B a e).1).1 (opR sat deep B a e).2.1 else (fP 0,(opR sat deep B a e).2.1,(opR sat deep B a e).2.2)from rfl];generalize opR sat deep B a e=o;unfold kD;by_cases h:o.2.2=0<;>simp [h]
theorem qC (bk:Bk) (hbk:∀m,Good (bkR bk m)) (sat:Bool) (deep:Nat):Good (jX bk sat deep):=by
 refine (Good.bind (f:=fun _ y=>y) (uf sat deep) (S:=fun op=>kD bk op (bN op).1) (fun op=>jZ bk hbk op _)).congr (fun B a e=>(om bk sat deep B a e).1) (fun B a h=>(om bk sat deep B a 0).2 ?_);apply Classical.byContradiction;intro hn;rw [(jZ bk hbk _ _).bad _ _ _ hn]at h;exact hn h
theorem Hw (bk:Bk) (hbk:∀m,Good (bkR bk m)) {sat:Bool} {deep:Nat} {B:List Int} {a:Nat} (ha:a≤B.length) (h:(jX bk sat deep B a 0).2.2=0):a<(jX bk sat deep B a 0).2.1:=by
 have hp:=om bk sat deep B a 0
 have h0:(opR sat deep B a 0).2.2=0:=by
  apply Classical.byContradiction;intro hn;rw [hp.1,(jZ bk hbk _ _).bad _ _ _ hn]at h;exact hn h
 rw [hp.2 h0]at h ⊢;have g1:=Hr h0;have g2:=(uf sat deep).le B a ha h0;rw [h0]at h ⊢;have g3:=(jZ bk hbk _ _).le _ _ g2.2 h;omega
def bkF (sat:Bool) (f deep:Nat):Bk:=fun B m a e=>dh sat B f deep m a e []
def oK (sat:Bool) (f deep:Nat) (may:Bool) (acc:List Ins):Rr (List Ins×Int):=fun B a e=>(((dh sat B f deep may a e acc).1,(dh sat B f deep may a e acc).2.1),(dh sat B f deep may a e acc).2.2.1,(dh sat B f deep may a e acc).2.2.2)
def Bb (sat:Bool) (f deep:Nat) (may:Bool) (acc:List Ins) (b:Int):Rr (List Ins×Int):=fun B a e=>
 if b=11 then ((acc,11),(jb B a e).2)else if b=5 then (if may=true then ((acc,5),(jb B a e).2)else (([],0),a,if e=0 then 108 else e))
 else ((oK sat f deep may (acc++ [(jX (bkF sat f (deep+1)) sat deep B a e).1]) B (jX (bkF sat f (deep+1)) sat deep B a e).2.1 (jX (bkF sat f (deep+1)) sat deep B a e).2.2).1,
  (oK sat f deep may (acc++ [(jX (bkF sat f (deep+1)) sat deep B a e).1]) B (jX (bkF sat f (deep+1)) sat deep B a e).2.1 (jX (bkF sat f (deep+1)) sat deep B a e).2.2).2)
theorem Ci (sat:Bool) (f deep:Nat) (may:Bool) (acc:List Ins) (B:List Int) (a:Nat) (e:Int) (he:e≠0):oK sat f deep may acc B a e=(([],0),a,e):=by
 cases f with
 |zero=>simp [oK,dh]
 |succ f=>simp [oK,dh,he]
theorem oN (sat:Bool) (f deep:Nat) (may:Bool) (acc:List Ins) (B:List Int) (a:Nat):
  (oK sat (f+1) deep may acc B a 0).2.2=(gY (Bb sat f deep may acc) B a 0).2.2∧((gY (Bb sat f deep may acc) B a 0).2.2=0→oK sat (f+1) deep may acc B a 0=gY (Bb sat f deep may acc) B a 0):=by
 cases hx:B[a]? with
 |none=>simp [oK,dh,gY,hx]
 |some b=>
  simp only [oK,dh,gY,hx,Bb,if_true,gW hx];by_cases c:b=11
  ·simp [c]
  by_cases c5:b=5
  ·subst c5;rw [if_neg c,if_neg c];simp only [if_true];split<;>exact ⟨rfl,fun _=>rfl⟩
  ·rw [if_neg c,if_neg c,if_neg c5,if_neg c5];show (_∧_)
   have hi:fQ (fun m a' e' =>dh sat B f (deep+1) m a' e' []) sat B deep a 0=jX (bkF sat f (deep+1)) sat deep B a 0:=rfl;rw [hi];by_cases h0:(jX (bkF sat f (deep+1)) sat deep B a 0).2.2=0
   ·rw [if_pos h0,h0];exact ⟨rfl,fun _=>rfl⟩
   ·rw [if_neg h0,show dh sat B f deep may (jX (bkF sat f (deep+1)) sat deep B a 0).2.1 (jX (bkF sat f (deep+1)) sat deep B a 0).2.2 (acc++ [(jX (bkF sat f (deep+1)) sat deep B a 0).1])=([],0,(jX (bkF sat f (deep+1)) sat deep B a 0).2.1,(jX (bkF sat f (deep+1)) sat deep B a 0).2.2)from by
     cases f with
     |zero=>rfl
     |succ f=>rw [dh,if_neg h0]]
    exact ⟨rfl,fun h=>rfl⟩
theorem kK (sat:Bool):∀(f deep:Nat) (may:Bool) (acc:List Ins),Good (oK sat f deep may acc)
 |0,deep,may,acc=>Good.pure ([],0)
 |f+1,deep,may,acc=>by
  have hbk:∀m,Good (bkR (bkF sat f (deep+1)) m):=fun m=>kK sat f (deep+1) m []
  refine (Good.look (Bb sat f deep may acc) (fun b=> ?_) (fun b B a hx h=> ?_)).congr (fun B a e=> ?_) (fun B a h=>(oN sat f deep may acc B a).2 h)
  ·exact Good.ite (kJ.map (fun _=>(acc,11))) (Good.ite (Good.ite (kJ.map (fun _=>(acc,5))) (Good.fail _ 108 (by decide))) (Good.bind (f:=fun _ y=>y) (qC _ hbk sat deep) (S:=fun x=>oK sat f deep may (acc++ [x])) (fun x=>kK sat f deep may _)))
  ·have hl:=(List.getElem?_eq_some_iff.1 hx).1;unfold Bb at h ⊢;rw [gW hx]at h ⊢;split at h
   next c=>rw [if_pos c];simp
   next c=>
   rw [if_neg c];split at h
   next c5=>
    rw [if_pos c5];split at h
    next c6=>rw [if_pos c6];simp
    next=>exact absurd h (by simp)
   next c5=>
   rw [if_neg c5]
   have h0:(jX (bkF sat f (deep+1)) sat deep B a 0).2.2=0:=by
    apply Classical.byContradiction;intro hn;rw [(kK sat f deep may _).bad _ _ _ hn]at h;exact hn h
   have g1:=Hw _ hbk (by omega) h0;have g2:=(qC _ hbk sat deep).le B a (by omega) h0;rw [h0]at h ⊢;have g3:=(kK sat f deep may _).le _ _ g2.2 h;try simp only
   omega
  ·by_cases he:e=0
   ·subst he;exact (oN sat f deep may acc B a).1
   ·rw [Ci _ _ _ _ _ _ _ _ he];simp [gY,he]
def tE (en:Int):Nat:=if en=0 then 0 else 1
theorem yN (sat:Bool) (f d:Nat) (B:List Int):bkF sat f d B=fun m a' e' =>dh sat B f d m a' e' []:=rfl
theorem Jj {B:List Int} {a:Nat} (h:(az (aI B a) a 0).2.2=0):a<(az (aI B a) a 0).2.1:=by
 unfold az at h ⊢;rw [if_pos rfl]at h ⊢;unfold aI bQ at h ⊢
 cases hr:bZ jk (B.drop a) 32 with
 |error e=>
  rw [hr]at h;simp only [eP]at h;rw [h]at hr;exact absurd hr (iM _ _)
 |ok y=>
  obtain ⟨m,hh,c⟩:=y;have:=qZ _ _ _ _ _ hr;simp only [gm];omega
theorem qV:∀(l m:List Ins),bkL (l++m)=bkL l+bkL m
 | [],m=>by simp [bkL]
 |x::l,m=>by rw [List.cons_append,bkL,bkL,qV l m];omega
theorem F7 (x:Ins):bkL [x]=bkI x:=by simp [bkL]
theorem yP {B:List Int}:∀(k a:Nat) (acc:List Int),a≤B.length→(jL B k a 0 acc).2.2=0→(jL B k a 0 acc).1.length+a≤acc.length+(jL B k a 0 acc).2.1
 |0,a,acc,ha,h=>Nat.le_refl _
 |k+1,a,acc,ha,h=>by
  rw [jL,if_pos rfl]at h ⊢
  have e1:(az (aI B a) a 0).2.2=0:=by
   apply Classical.byContradiction;intro hn;rw [lK _ _ _ _ _ hn]at h;exact hn h
  have g1:=gQ.le B a ha e1;try simp only at g1
  have g2:=Jj e1;rw [e1]at h ⊢;have ih:=yP k _ (acc++ [(az (aI B a) a 0).1]) g1.2 h;rw [List.length_append,List.length_singleton]at ih;omega
theorem yt {B:List Int} {a:Nat} (ha:a≤B.length) (h:(bT B a 0).2.2=0):(bT B a 0).1.length+a≤(bT B a 0).2.1:=by
 unfold bT at h ⊢
 have e1:(az (aG B a) a 0).2.2=0:=by
  apply Classical.byContradiction;intro hn;rw [lK _ _ _ _ _ hn]at h;exact hn h
 have g1:=qU.le B a ha e1;try simp only at g1
 rw [e1]at h ⊢;have:=yP _ _ [] g1.2 h;rw [List.length_nil]at this;omega
theorem Aj {bk:Bk} {B:List Int} {op i:Int} {a:Nat} (ha:a≤B.length) (hg:∀m,Good (bkR bk m)) (hs:∀m a',a' ≤B.length→(bk B m a' 0).2.2.2=0→bkL (bk B m a' 0).1+a' ≤(bk B m a' 0).2.2.1)
  (h:(bE (bk B) B op i a).2.2=0):bkI (bE (bk B) B op i a).1+a≤(bE (bk B) B op i a).2.1+1:=by
 by_cases h1:i=1
 ·unfold bE at h ⊢;simp only [h1,if_true]at h ⊢
  have hb:∀m a' e',(bk B m a' e').2.2.2=0→e' =0:=fun m a' e' hh=>by
   apply Classical.byContradiction;intro hn;have:=(hg m).bad B a' e' hn;simp only [bkR]at this;exact hn (this.symm.trans hh)
  split at h
  next c5=>
   rw [if_pos c5];have e1:=hb _ _ _ h;have e0:=hb _ _ _ e1;have g1:=rH.le B a ha e0;try simp only at g1
   rw [e0]at e1 c5 ⊢;have g2:=(hg (op==4)).le B _ g1.2 e1;simp only [bkR]at g2;have s1:=hs _ _ g1.2 e1;rw [e0,e1]at h;rw [e1];have s2:=hs _ _ g2.2 h;rw [bkI];simp only [List.length_nil];omega
  next c5=>
   rw [if_neg c5];have e0:=hb _ _ _ h;have g1:=rH.le B a ha e0;try simp only at g1
   rw [e0]at h ⊢;have s1:=hs _ _ g1.2 h;rw [bkI,bkL];simp only [List.length_nil];omega
 ·have hb:=(jZ bk hg op i).le B a ha (by unfold kD;rw [if_pos rfl];exact h);unfold kD at hb;rw [if_pos rfl]at hb;by_cases h3:i=3
  ·unfold bE at h hb ⊢;subst h3;simp only [show ¬((3:Int)=1)from by omega,show ¬((3:Int)=2∨(3:Int)=4)from by omega,if_false,if_true]at h hb ⊢
   have e2:(bT B a 0).2.2=0:=by
    apply Classical.byContradiction;intro hn;have:=gQ.bad B (bT B a 0).2.1 _ hn;try simp only at this
    exact hn (this.symm.trans h)
   have g1:=pI.le B a ha e2;try simp only at g1
   have g3:=yt ha e2;rw [e2]at h;have g2:=gQ.le B _ g1.2 h;try simp only at g2
   rw [e2];simp only [bkI,bkL];omega
  ·have:bkI (bE (bk B) B op i a).1=1:=by
    unfold bE;simp only [h1,if_false,h3]
    repeat' split
    all_goals rfl
   omega
theorem Dl {bk:Bk} {sat:Bool} {B:List Int} {deep a:Nat} (ha:a≤B.length) (hg:∀m,Good (bkR bk m)) (hs:∀m a',a' ≤B.length→(bk B m a' 0).2.2.2=0→bkL (bk B m a' 0).1+a' ≤(bk B m a' 0).2.2.1)
  (h:(fQ (bk B) sat B deep a 0).2.2=0):bkI (fQ (bk B) sat B deep a 0).1+a≤(fQ (bk B) sat B deep a 0).2.1:=by
 unfold fQ at h ⊢;simp only at h ⊢;split at h
 next c=>
  rw [if_pos c];have g1:=Hr (sat:=sat) (deep:=deep) (B:=B) (a:=a) c;have g2:=(uf sat deep).le B a ha c;simp only [opR]at g1 g2;have:=Aj g2.2 hg hs h;omega
 next c=>exact absurd h c
theorem rJ {sat:Bool} {B:List Int}:∀(f deep:Nat) (may:Bool) (a:Nat) (acc:List Ins),a≤B.length→(dh sat B f deep may a 0 acc).2.2.2=0→
  bkL (dh sat B f deep may a 0 acc).1+a+tE (dh sat B f deep may a 0 acc).2.1≤bkL acc+(dh sat B f deep may a 0 acc).2.2.1
 |0,deep,may,a,acc,ha,h=>by simp [dh,bkL,tE]
 |f+1,deep,may,a,acc,ha,h=>by
  rw [dh]at h ⊢;simp only [if_true]at h ⊢
  cases hx:B[a]? with
  |none=>rw [hx]at h;exact absurd h (by simp)
  |some b=>
   rw [hx]at h;simp only at h ⊢;by_cases c:b=11
   ·rw [if_pos c];simp [tE];omega
   rw [if_neg c]at h ⊢;by_cases c5:b=5
   ·rw [if_pos c5]at h ⊢;cases may
    ·exact absurd h (by simp)
    ·simp [tE];omega
   rw [if_neg c5]at h ⊢;have hg:∀m,Good (bkR (bkF sat f (deep+1)) m):=fun m=>kK sat f (deep+1) m []
   by_cases h0:(fQ (fun m a' e' =>dh sat B f (deep+1) m a' e' []) sat B deep a 0).2.2=0
   ·rw [if_pos h0]at h ⊢;have g2:=(qC (bkF sat f (deep+1)) hg sat deep).le B a ha h0;have g3:=Dl (bk:=bkF sat f (deep+1)) ha hg (fun m a' ha' hh=>by have:=rJ f (deep+1) m a' [] ha' hh;simp only [bkL,yN]at this ⊢;omega) h0;simp only [jX,yN]at g2 g3;have ih:=rJ f deep may _ _ g2.2 h;rw [qV,F7]at ih;omega
   ·rw [if_neg h0]at h;exact absurd h h0
end Go.Proofs.YtofaiocffifhfaaGreat
namespace Go.Proofs.YtofaiocffifhfaaGreat
open Go.RowKit Go.Shelf YtofaiocffifhfaaGreatB Go.Proofs.YtofaiocffifhfaaGreatW.PrintWords
theorem xg {B:List Int} (hB:aK B) (a:Nat) (e:Int):(l8 B a e).1.length≤1024:=by
 unfold l8;dsimp only;split
 ·split
  ·simp
  ·split
   ·simp
   ·rename_i h1 h2;have:=yg _ (fun x hx=>(mi hB (az (aG B a) a e).1.toNat (az (aG B a) a e).2.1 (az (aG B a) a e).2.2 x hx).1.1);unfold gz at h2;dsimp only;omega
 ·simp
theorem nM {sat:Bool} {B:List Int} (a:Nat) (e:Int):bkL (eX sat B a e).1≤B.length:=by
 by_cases he:e=0
 ·subst he;unfold eX;dsimp only;split
  next h0=>
   by_cases ha:a≤B.length
   ·have hL:=(kK sat (B.length+1) 0 false []).le B a ha h0;have hS:=rJ (sat:=sat) (B:=B) (B.length+1) 0 false a [] ha h0;simp only [oK]at hL;simp only [bkL]at hS;omega
   ·have h1:=oN sat B.length 0 false [] B a;unfold gY at h1;rw [if_pos rfl,List.getElem?_eq_none (by omega)]at h1;simp only [oK]at h1;have h2:=h1.1;rw [h0]at h2;omega
  next=>simp [bkL]
 ·unfold eX;rw [gN _ _ _ _ _ _ he];simp [he,bkL]
theorem yQ {α:Type} {P:α→Prop} (rd:Nat→Int→α×Nat×Int) (h:∀a e,P (rd a e).1):∀(k a:Nat) (e:Int),∀x∈(lsM rd k a e).1,P x
 |0,a,e,x,hx=>by simp [lsM]at hx
 |k+1,a,e,x,hx=>by
  rw [lsM]at hx;split at hx
  ·simp only [List.mem_cons]at hx;rcases hx with rfl|hx
   ·exact h _ _
   ·exact yQ rd h k _ _ x hx
  ·simp at hx
theorem lX {α:Type} {P:α→Prop} (rd:Nat→Int→α×Nat×Int) (B:List Int) (h:∀a e,P (rd a e).1) (a:Nat) (e:Int):∀x∈(bq rd B a e).1,P x:=yQ rd h _ _ _
theorem wu (B:List Int):∀(k a:Nat) (e:Int),(mP B k a e).1.length≤k
 |0,a,e=>by simp [mP]
 |k+1,a,e=>by
  rw [mP];split
  ·have:=wu B k (az (eB B a) a 0).2.1 (az (eB B a) a 0).2.2;simp only [List.length_cons];omega
  ·simp
theorem tK {B:List Int} (hB:aK B) (a:Nat) (e:Int):(gy B a e).1.length≤4096:=by
 have h1:=wu B (az (aG B a) a e).1.toNat (az (aG B a) a e).2.1 (az (aG B a) a e).2.2;have h2:=bK (a:=a) (e:=e) hB;unfold gy;omega
theorem BP {B:List Int} (hB:aK B) (a:Nat) (e:Int):(ik B a e).1.1.length≤1048576∧(ik B a e).1.2.length≤1048576:=by
 have key:(lG B a).1.1.length≤4096∧(lG B a).1.2.length≤4096:=by
  unfold lG;dsimp only;exact ⟨tK hB _ _,tK hB _ _⟩
 unfold ik;split
 ·split
  ·exact ⟨by simp only;omega,by simp only;omega⟩
  ·simp
 ·simp
theorem take_len {B:List Int} (a n:Nat) (e:Int):(rdL (cO B a n) a e).1.length≤B.length:=by
 unfold rdL cO;split
 ·split
  next l nx h=>
   split at h
   ·injection h with h;injection h with h1 h2;rw [←h1,List.length_take];simp only [List.length_drop];omega
   ·cases h
  next=>simp
 ·simp
theorem tV {B:List Int} (a:Nat) (e:Int):(aT B a e).1.length≤B.length:=take_len _ _ _
structure SmM (M:df):Prop where
 l0:M.types.length≤4096
 l1:M.imports.length≤4096
 l3:M.tables.length≤4096
 l4:M.mems.length≤4096
 l5:M.globals.length≤4096
 l6:M.exports.length≤4096
 l9:M.elems.length≤4096
 l10:M.datas.length≤4096
 l12:M.bodies.length≤4096
 t0:∀x∈M.types,x.1.length≤1048576∧x.2.length≤1048576
 b5:∀x∈M.globals,bkL x.init≤1048576
 b9:∀x∈M.elems,bkL x.off≤1048576∧x.fns.length≤1048576
 b10:∀x∈M.datas,bkL x.off≤1048576∧x.bts.length≤1048576
 b12:∀x∈M.bodies,bkL x.body≤1048576∧x.loc.length≤1048576
theorem D8:SmM {}:=by constructor<;>simp
theorem xX {sat:Bool} {B:List Int} (hB:aK B) (a:Nat) (e:Int):bkL (jg sat B a e).1.body≤1048576∧(jg sat B a e).1.loc.length≤1048576:=by
 have h1:=tV (B:=B) a e;have hP:=fw hB a e;have hl:=hB.1;unfold jg;dsimp only;split
 ·have h2:=nM (sat:=sat) (B:=(aT B a e).1) (l8 (aT B a e).1 0 0).2.1 (l8 (aT B a e).1 0 0).2.2;have h3:=xg hP 0 0;unfold lW;dsimp only;omega
 ·simp [bkL]
theorem wQ {sat:Bool} {B:List Int} (hB:aK B) (a:Nat) (e:Int):bkL (gZ sat B a e).1.init≤1048576:=by
 have h1:=nM (sat:=sat) (B:=B) (jl B a e).2.1 (jl B a e).2.2;have hl:=hB.1;unfold gZ;dsimp only;omega
theorem wJ {sat:Bool} {B:List Int} (hB:aK B) (a:Nat) (e:Int):bkL (gM sat B a e).1.off≤1048576∧(gM sat B a e).1.fns.length≤1048576:=by
 have h1:=nM (sat:=sat) (B:=B) (dP B a e).2.1 (dP B a e).2.2;have h2:=fV (dP B) hB (eX sat B (dP B a e).2.1 (dP B a e).2.2).2.1 (eX sat B (dP B a e).2.1 (dP B a e).2.2).2.2;have hl:=hB.1;unfold gM;dsimp only [wK];omega
theorem vR {sat:Bool} {B:List Int} (hB:aK B) (a:Nat) (e:Int):bkL (gP sat B a e).1.off≤1048576∧(gP sat B a e).1.bts.length≤1048576:=by
 have h1:=nM (sat:=sat) (B:=B) (dP B a e).2.1 (dP B a e).2.2;have h2:=tV (B:=B) (eX sat B (dP B a e).2.1 (dP B a e).2.2).2.1 (eX sat B (dP B a e).2.1 (dP B a e).2.2).2.2;have hl:=hB.1;unfold gP;dsimp only;omega
theorem vX {sat:Bool} {B:List Int} (hB:aK B) (n:Int) (M:df) (h:SmM M):SmM (je sat B n M).1:=by
 have hl:=hB.1;unfold je;split
 ·exact h
 ·exact {h with l0:=fV _ hB 0 0,t0:=lX _ B (fun a e=>BP hB a e) 0 0}
 ·exact {h with l1:=fV _ hB 0 0}
 ·exact {h with}
 ·exact {h with l3:=fV _ hB 0 0}
 ·exact {h with l4:=fV _ hB 0 0}
 ·exact {h with l5:=fV _ hB 0 0,b5:=lX (gZ sat B) B (fun a e=>wQ hB a e) 0 0}
 ·exact {h with l6:=fV _ hB 0 0}
 ·exact {h with}
 ·exact {h with l9:=fV _ hB 0 0,b9:=lX (gM sat B) B (fun a e=>wJ hB a e) 0 0}
 ·exact {h with l12:=fV _ hB 0 0,b12:=lX _ B (fun a e=>xX hB a e) 0 0}
 ·exact {h with l10:=fV _ hB 0 0,b10:=lX (gP sat B) B (fun a e=>vR hB a e) 0 0}
 ·exact h
theorem rU {sat:Bool} {B:List Int} (hB:aK B) (M:df) (n:Int) (a:Nat) (h:SmM M):SmM (dz sat B M n a).1:=by
 unfold dz;dsimp only;split
 ·exact vX (fw hB a 0) n M h
 ·exact h
theorem Es {M:df} (h:SmM M) (he:M.tys.length=M.bodies.length):Small M (iR M):=by
 have h2:(iR M).length≤4096:=by have:=h.l12;simp [iR];omega
 have h3:∀x∈iR M,bkL x.body≤1048576∧x.loc.length≤1048576:=fun x hx=>by
  obtain ⟨i,hi,rfl⟩:=List.getElem_of_mem hx;have hib:i< M.bodies.length:=by simp [iR]at hi;omega
  have:=h.b12 _ (List.getElem_mem hib);simpa [iR] using this
 have a0:=h.l0;have a1:=h.l1;have a3:=h.l3;have a4:=h.l4;have a5:=h.l5;have a6:=h.l6;have a9:=h.l9;have a10:=h.l10;exact ⟨by omega,by omega,by omega,by omega,by omega,by omega,by omega,by omega,by omega,h.t0,fun x hx=>(h3 x hx).1,h.b5,fun x hx=>(h.b9 x hx).1,fun x hx=>(h.b10 x hx).1,fun x hx=>(h3 x hx).2,fun x hx=>(h.b9 x hx).2,fun x hx=>(h.b10 x hx).2⟩
theorem kY:Small {} []:=by constructor<;>simp
theorem zo {sat:Bool} {B:List Int} (hB:aK B):Small (ig sat B).1.1 (ig sat B).1.2:=by
 unfold ig;split
 ·exact kY
 ·split
  ·exact kY
  ·dsimp only;have hT:aK (B.drop 8):=⟨by have:=hB.1;simp only [List.length_drop];omega,fun x hx=>hB.2 x (List.mem_of_mem_drop hx)⟩;have hs:=rq SmM (dz sat (B.drop 8)) (B.drop 8) (fun M n a h=>rU hT M n a h) ((B.drop 8).length+1) {} 0 0 0 D8;split
   ·split
    next he=>exact Es hs he
    next=>exact kY
   ·exact kY
theorem vB (W:World) (A:Option Addr) (c:Nat) (B:List Int) (sat:Bool) (hR:RdI W .u8 A B) (hB:aK B) (hle:B.length≤c):
  ∃q,Calls Tryz.prog 9 #[.slice A B.length c, .bool sat] W (lH W q (ig sat B)):=by
 by_cases h:65536< B.length∨B.length< 8∨¬B.take 8=bB
 ·exact ⟨0,rM W 0 A c B sat hR hB hle h⟩
 ·have h1:¬65536< B.length:=fun e=>h (.inl e)
  have h2:¬B.length< 8:=fun e=>h (.inr (.inl e))
  have h3:B.take 8=bB:=Classical.byContradiction fun e=>h (.inr (.inr e))
  obtain ⟨b,o,e,hc⟩:=hR.2 (by omega);subst e;exact ⟨b,uP W b o c B sat hR hB hle (by omega) (by omega) h3⟩
theorem ou (W:World) (A:Option Addr) (c:Nat) (B:List Int) (sat:Bool) (hR:RdI W .u8 A B) (hB:aK B) (hle:B.length≤c):
  Calls Tryz.prog 3 #[.slice A B.length c, .bool sat] W (jG W):=by
 have HR:=Lib.hid hR;have HB:=Lib.hid hB;have HSM:=Lib.hid (zo (sat:=sat) hB);have hl:=hB.1;clear hR hB;go_enter Tryz.func3,Tryz.ntmps3;go_wp2_with fail;refine (vZ _).mono ?_;rintro e1 W1 ⟨rfl,hB1⟩;have HB1:=Lib.hid hB1;have HR1:=Lib.hid (HR.out.below hB1);clear hB1 HR;obtain ⟨r,hr⟩:∃r,r=ig sat B:=⟨_,rfl⟩;have HD1:=Lib.hid (qB W1 A c B sat HR1.out HB.out hle);have HD2:=Lib.hid (fun X (h:Below W1.heap.size W1 X)=>vB X A c B sat (HR1.out.below h) HB.out hle);rw [←hr]at HD1 HD2 HSM;clear hr;obtain ⟨⟨M,F⟩,er⟩:=r;dsimp only at HSM HD1 HD2;go_upto_region 3 with fail;obtain ⟨sk,hsk⟩:∃sk,sk=(decide (6000< B.length∧B.length≤65536∨70000< B.length)):=⟨_,rfl⟩;have HSK:=Lib.hid hsk;clear hsk;go_cut [23]from 11 to 23 (fun s wx=>s= .bool sk∧wx=W1)
 case first=>
  have hc:(70000:Int)< B.length∧(6000:Int)< B.length∧¬(B.length:Int)≤65536∨(¬(70000:Int)< B.length∧(6000:Int)< B.length∧(B.length:Int)≤65536)∨(¬(70000:Int)< B.length∧(6000:Int)< B.length∧¬(B.length:Int)≤65536)∨(¬(70000:Int)< B.length∧¬(6000:Int)< B.length∧(B.length:Int)≤65536):=by omega
  rcases hc with ⟨k1,k2,k3⟩|⟨k1,k2,k3⟩|⟨k1,k2,k3⟩|⟨k1,k2,k3⟩
  all_goals
   go_wp2_with fail;go_meet;refine ⟨?_,rfl⟩;rw [HSK.out]
   first
    |(congr 1;rw [eq_comm,decide_eq_true_eq];omega)
    |(congr 1;rw [eq_comm,decide_eq_false_iff_not];omega)
    |(congr 1;rw [Bool.eq_iff_iff,decide_eq_true_eq];simp;omega)
    |trace_state
 case rest=>
 obtain ⟨rfl,rfl⟩:=hcut
 cases sk with
 |true=>
  go_wp2_with fail;go_ret;exact ⟨rfl,HB1.out⟩
 |false=>
  go_wp2_with fail;refine HD1.out.mono ?_;rintro E W2 ⟨hb2,v0,v1,v2,v3,v4,v5,v6,v9,v10,v11,v12,rfl,hR,h2⟩;dsimp only at hR h2 ⊢;have HRR:=Lib.hid hR;have HF2:=Lib.hid h2;obtain ⟨P0,Pc0,rfl,_,_⟩:=hR.r0;obtain ⟨P1,Pc1,rfl,_,_⟩:=hR.r1;obtain ⟨P2,Pc2,rfl,_,_⟩:=h2;obtain ⟨P3,Pc3,rfl,_,_⟩:=hR.r3;obtain ⟨P4,Pc4,rfl,_,_⟩:=hR.r4;obtain ⟨P5,Pc5,rfl,_,_⟩:=hR.r5;obtain ⟨P6,Pc6,rfl,_,_⟩:=hR.r6;obtain ⟨P9,Pc9,rfl,_,_⟩:=hR.r9;obtain ⟨P10,Pc10,rfl,_,_⟩:=hR.r10;have hal2:Below wc.heap.size wc (W2.alloc (.cells #[.slice P0 M.types.length Pc0, .slice P1 M.imports.length Pc1, .slice P2 F.length Pc2, .slice P3 M.tables.length Pc3, .slice P4 M.mems.length Pc4, .slice P5 M.globals.length Pc5, .slice P6 M.exports.length Pc6, .bool M.starts, .int .u32 M.start, .slice P9 M.elems.length Pc9, .slice P10 M.datas.length Pc10] 34)):=hb2.alloc hb2.size _;have hbp:=Blk.new W2 #[.slice P0 M.types.length Pc0, .slice P1 M.imports.length Pc1, .slice P2 F.length Pc2, .slice P3 M.tables.length Pc3, .slice P4 M.mems.length Pc4, .slice P5 M.globals.length Pc5, .slice P6 M.exports.length Pc6, .bool M.starts, .int .u32 M.start, .slice P9 M.elems.length Pc9, .slice P10 M.datas.length Pc10] 34;have HA2:=Lib.hid hal2;have HBP:=Lib.hid hbp;have hst:=aY (Below.refl W2.heap.size W2) (.cells #[.slice P0 M.types.length Pc0, .slice P1 M.imports.length Pc1, .slice P2 F.length Pc2, .slice P3 M.tables.length Pc3, .slice P4 M.mems.length Pc4, .slice P5 M.globals.length Pc5, .slice P6 M.exports.length Pc6, .bool M.starts, .int .u32 M.start, .slice P9 M.elems.length Pc9, .slice P10 M.datas.length Pc10] 34);have HX2:=Lib.hid (HRR.out.step (Agr.of_below hst));have HY2:=Lib.hid (Row.step HF2.out (Agr.of_below hst));clear hb2 hR hal2 hbp hst HRR HF2 HD1;go_wp2_with fail;generalize W2.alloc (.cells #[.slice P0 M.types.length Pc0, .slice P1 M.imports.length Pc1, .slice P2 F.length Pc2, .slice P3 M.tables.length Pc3, .slice P4 M.mems.length Pc4, .slice P5 M.globals.length Pc5, .slice P6 M.exports.length Pc6, .bool M.starts, .int .u32 M.start, .slice P9 M.elems.length Pc9, .slice P10 M.datas.length Pc10] 34)=W3 at *;obtain ⟨q,hD⟩:=HD2.out W3 HA2.out;have HDD:=Lib.hid hD;clear hD HD2;refine HDD.out.mono ?_;rintro E W4 ⟨hb4,v0,v1,v2,v3,v4,v5,v6,v9,v10,rfl,hR⟩;dsimp only at hR ⊢;have HR4:=Lib.hid hR;obtain ⟨Q0,Qc0,rfl,_,_⟩:=hR.r0;obtain ⟨Q1,Qc1,rfl,_,_⟩:=hR.r1;obtain ⟨Q2,Qc2,rfl,_,_⟩:=hR.r2;obtain ⟨Q3,Qc3,rfl,_,_⟩:=hR.r3;obtain ⟨Q4,Qc4,rfl,_,_⟩:=hR.r4;obtain ⟨Q5,Qc5,rfl,_,_⟩:=hR.r5;obtain ⟨Q6,Qc6,rfl,_,_⟩:=hR.r6;obtain ⟨Q9,Qc9,rfl,_,_⟩:=hR.r9;obtain ⟨Q10,Qc10,rfl,_,_⟩:=hR.r10;have hal4:Below W3.heap.size W3 (W4.alloc (.cells #[.slice Q0 M.types.length Qc0, .slice Q1 M.imports.length Qc1, .slice Q2 F.length Qc2, .slice Q3 M.tables.length Qc3, .slice Q4 M.mems.length Qc4, .slice Q5 M.globals.length Qc5, .slice Q6 M.exports.length Qc6, .bool M.starts, .int .u32 M.start, .slice Q9 M.elems.length Qc9, .slice Q10 M.datas.length Qc10] 47)):=hb4.alloc hb4.size _;have hbq:=Blk.new W4 #[.slice Q0 M.types.length Qc0, .slice Q1 M.imports.length Qc1, .slice Q2 F.length Qc2, .slice Q3 M.tables.length Qc3, .slice Q4 M.mems.length Qc4, .slice Q5 M.globals.length Qc5, .slice Q6 M.exports.length Qc6, .bool M.starts, .int .u32 M.start, .slice Q9 M.elems.length Qc9, .slice Q10 M.datas.length Qc10] 47;have hal5:Below wc.heap.size wc (W4.alloc (.cells #[.slice Q0 M.types.length Qc0, .slice Q1 M.imports.length Qc1, .slice Q2 F.length Qc2, .slice Q3 M.tables.length Qc3, .slice Q4 M.mems.length Qc4, .slice Q5 M.globals.length Qc5, .slice Q6 M.exports.length Qc6, .bool M.starts, .int .u32 M.start, .slice Q9 M.elems.length Qc9, .slice Q10 M.datas.length Qc10] 47)):=HA2.out.trans (hal4.mono HA2.out.size);have HA5:=Lib.hid hal5;have hbp:=HBP.out.below hal4 HBP.out.lt;have HP5:=Lib.hid (HX2.out.step (Agr.of_below hal4));have HPF5:=Lib.hid (Row.step HY2.out (Agr.of_below hal4));have HQ5:=Lib.hid (HR4.out.step (Agr.of_below (aY (Below.refl W4.heap.size W4) (.cells #[.slice Q0 M.types.length Qc0, .slice Q1 M.imports.length Qc1, .slice Q2 F.length Qc2, .slice Q3 M.tables.length Qc3, .slice Q4 M.mems.length Qc4, .slice Q5 M.globals.length Qc5, .slice Q6 M.exports.length Qc6, .bool M.starts, .int .u32 M.start, .slice Q9 M.elems.length Qc9, .slice Q10 M.datas.length Qc10] 47))))
  clear hb4 hR hal4 hal5 HDD;go_wp2_with fail;generalize W4.alloc (.cells #[.slice Q0 M.types.length Qc0, .slice Q1 M.imports.length Qc1, .slice Q2 F.length Qc2, .slice Q3 M.tables.length Qc3, .slice Q4 M.mems.length Qc4, .slice Q5 M.globals.length Qc5, .slice Q6 M.exports.length Qc6, .bool M.starts, .int .u32 M.start, .slice Q9 M.elems.length Qc9, .slice Q10 M.datas.length Qc10] 47)=W5 at *;have HSP:=Lib.hid (fun X (h:Below W5.heap.size W5 X)=>(⟨(hbp.below h hbp.lt).cell 0,(hbp.below h hbp.lt).cell 1,(hbp.below h hbp.lt).cell 2,(hbp.below h hbp.lt).cell 3,(hbp.below h hbp.lt).cell 4,(hbp.below h hbp.lt).cell 5,(hbp.below h hbp.lt).cell 6,(hbp.below h hbp.lt).cell 7,(hbp.below h hbp.lt).cell 8,(hbp.below h hbp.lt).cell 9,(hbp.below h hbp.lt).cell 10,(hbq.below h hbq.lt).cell 0,(hbq.below h hbq.lt).cell 1,(hbq.below h hbq.lt).cell 2,(hbq.below h hbq.lt).cell 3,(hbq.below h hbq.lt).cell 4,(hbq.below h hbq.lt).cell 5,(hbq.below h hbq.lt).cell 6,(hbq.below h hbq.lt).cell 7,(hbq.below h hbq.lt).cell 8,(hbq.below h hbq.lt).cell 9,(hbq.below h hbq.lt).cell 10⟩:X.cell? ⟨W2.heap.size,0,none⟩=some (.slice P0 M.types.length Pc0)∧X.cell? ⟨W2.heap.size,1,none⟩=some (.slice P1 M.imports.length Pc1)∧X.cell? ⟨W2.heap.size,2,none⟩=some (.slice P2 F.length Pc2)∧X.cell? ⟨W2.heap.size,3,none⟩=some (.slice P3 M.tables.length Pc3)∧X.cell? ⟨W2.heap.size,4,none⟩=some (.slice P4 M.mems.length Pc4)∧X.cell? ⟨W2.heap.size,5,none⟩=some (.slice P5 M.globals.length Pc5)∧X.cell? ⟨W2.heap.size,6,none⟩=some (.slice P6 M.exports.length Pc6)∧X.cell? ⟨W2.heap.size,7,none⟩=some (.bool M.starts)∧X.cell? ⟨W2.heap.size,8,none⟩=some (.int .u32 M.start)∧X.cell? ⟨W2.heap.size,9,none⟩=some (.slice P9 M.elems.length Pc9)∧X.cell? ⟨W2.heap.size,10,none⟩=some (.slice P10 M.datas.length Pc10)∧X.cell? ⟨W4.heap.size,0,none⟩=some (.slice Q0 M.types.length Qc0)∧X.cell? ⟨W4.heap.size,1,none⟩=some (.slice Q1 M.imports.length Qc1)∧X.cell? ⟨W4.heap.size,2,none⟩=some (.slice Q2 F.length Qc2)∧X.cell? ⟨W4.heap.size,3,none⟩=some (.slice Q3 M.tables.length Qc3)∧X.cell? ⟨W4.heap.size,4,none⟩=some (.slice Q4 M.mems.length Qc4)∧X.cell? ⟨W4.heap.size,5,none⟩=some (.slice Q5 M.globals.length Qc5)∧X.cell? ⟨W4.heap.size,6,none⟩=some (.slice Q6 M.exports.length Qc6)∧X.cell? ⟨W4.heap.size,7,none⟩=some (.bool M.starts)∧X.cell? ⟨W4.heap.size,8,none⟩=some (.int .u32 M.start)∧X.cell? ⟨W4.heap.size,9,none⟩=some (.slice Q9 M.elems.length Qc9)∧X.cell? ⟨W4.heap.size,10,none⟩=some (.slice Q10 M.datas.length Qc10)));have HPL:=Lib.hid (fun X (h:Below W5.heap.size W5 X)=>wR X _ M F (.slice P0 M.types.length Pc0) (.slice P1 M.imports.length Pc1) (.slice P2 F.length Pc2) (.slice P3 M.tables.length Pc3) (.slice P4 M.mems.length Pc4) (.slice P5 M.globals.length Pc5) (.slice P6 M.exports.length Pc6) (.slice P9 M.elems.length Pc9) (.slice P10 M.datas.length Pc10) (HP5.out.r0.step (Agr.of_below h)) (HP5.out.r1.step (Agr.of_below h)) (HPF5.out.step (Agr.of_below h)) (HP5.out.r3.step (Agr.of_below h)) (HP5.out.r4.step (Agr.of_below h)) (HP5.out.r5.step (Agr.of_below h)) (HP5.out.r6.step (Agr.of_below h)) (HP5.out.r9.step (Agr.of_below h)) (HP5.out.r10.step (Agr.of_below h)) HSM.out.l3 HSM.out.l4 HSM.out.l0 HSM.out.l1 HSM.out.l6 HSM.out.l2 HSM.out.l5 HSM.out.l9 HSM.out.l10 HSM.out.b2 HSM.out.b5 HSM.out.b9 HSM.out.b10);clear hbp hbq
  go_region_held3 (fun X=>X.cell? ⟨W2.heap.size,0,none⟩=some (.slice P0 M.types.length Pc0)∧X.cell? ⟨W2.heap.size,1,none⟩=some (.slice P1 M.imports.length Pc1)∧X.cell? ⟨W2.heap.size,2,none⟩=some (.slice P2 F.length Pc2)∧X.cell? ⟨W2.heap.size,3,none⟩=some (.slice P3 M.tables.length Pc3)∧X.cell? ⟨W2.heap.size,4,none⟩=some (.slice P4 M.mems.length Pc4)∧X.cell? ⟨W2.heap.size,5,none⟩=some (.slice P5 M.globals.length Pc5)∧X.cell? ⟨W2.heap.size,6,none⟩=some (.slice P6 M.exports.length Pc6)∧X.cell? ⟨W2.heap.size,7,none⟩=some (.bool M.starts)∧X.cell? ⟨W2.heap.size,8,none⟩=some (.int .u32 M.start)∧X.cell? ⟨W2.heap.size,9,none⟩=some (.slice P9 M.elems.length Pc9)∧X.cell? ⟨W2.heap.size,10,none⟩=some (.slice P10 M.datas.length Pc10)∧X.cell? ⟨W4.heap.size,0,none⟩=some (.slice Q0 M.types.length Qc0)∧X.cell? ⟨W4.heap.size,1,none⟩=some (.slice Q1 M.imports.length Qc1)∧X.cell? ⟨W4.heap.size,2,none⟩=some (.slice Q2 F.length Qc2)∧X.cell? ⟨W4.heap.size,3,none⟩=some (.slice Q3 M.tables.length Qc3)∧X.cell? ⟨W4.heap.size,4,none⟩=some (.slice Q4 M.mems.length Qc4)∧X.cell? ⟨W4.heap.size,5,none⟩=some (.slice Q5 M.globals.length Qc5)∧X.cell? ⟨W4.heap.size,6,none⟩=some (.slice Q6 M.exports.length Qc6)∧X.cell? ⟨W4.heap.size,7,none⟩=some (.bool M.starts)∧X.cell? ⟨W4.heap.size,8,none⟩=some (.int .u32 M.start)∧X.cell? ⟨W4.heap.size,9,none⟩=some (.slice Q9 M.elems.length Qc9)∧X.cell? ⟨W4.heap.size,10,none⟩=some (.slice Q10 M.datas.length Qc10))
   (first|with_reducible exact HSP.out _ hx3|with_reducible exact HSP.out _ hx1|exact HSP.out _ (bH (Below.refl _ _)))
   (first
   |(go_at_call 11;refine (HPL.out _ (bH (Below.refl _ _))).mono ?_;rintro E X1 ⟨hy1,a0,a1,a2,a3,a4,a5,a6,a9,a10,rfl,hr1⟩;have hx1:=dA (bH (Below.refl W5.heap.size W5)) hy1)
   |(go_at_call 10;refine (zy _ M F _ _ a0 a1 a2 a3 a4 a5 a6 a9 a10 (.slice Q0 M.types.length Qc0) (.slice Q1 M.imports.length Qc1) (.slice Q2 F.length Qc2) (.slice Q3 M.tables.length Qc3) (.slice Q4 M.mems.length Qc4) (.slice Q5 M.globals.length Qc5) (.slice Q6 M.exports.length Qc6) (.slice Q9 M.elems.length Qc9) (.slice Q10 M.datas.length Qc10) HSM.out hr1 (HQ5.out.step (Agr.of_below hx1))).mono ?_;rintro E X3 ⟨rfl,hy3⟩;have hx3:=dA hx1 hy3))
  all_goals have HZ:=Lib.hid (HB1.out.trans ((HA5.out.trans (hx3.mono HA5.out.size)).mono HB1.out.size))
  all_goals clear hx1 hx3 hy1 hy3 hr1
  all_goals go_wp2_with fail
  all_goals go_ret
  all_goals exact ⟨rfl,HZ.out⟩
theorem Gc (n:Nat):jR Tryz.prog 4 Kd.bool (fun _=>1) n:=xy Tryz.underlying4 (by kernel_rfl) n
theorem nu (W:World) (a0:List Int) (a1:Bool) {A:Option Addr} {n c:Nat} {b:Bool} (h0:(Kd.slice 5 (rng .u8)).K W a0 (Value.slice A n c).cells.toList) (h1:Kd.bool.K W a1 (Value.bool b).cells.toList) (hb:a0.length≤1048576):
  Calls Tryz.prog 3 #[.slice A n c, .bool b] W fun e W' =>e= .returned (.bool true)∧Below W.heap.size W W' :=by
 obtain ⟨rfl,hR,hB,hle⟩:=yx h0 hb;exact ou W A c a0 b hR hB hle
end Go.Proofs.YtofaiocffifhfaaGreat
