/- Lemmas towards this claim's statement, each under the conditions that it states itself. -/
import Derived.Test.YtofaiocffifhfaaGreatMd7
set_option maxRecDepth 100000
set_option maxHeartbeats 8000000
set_option linter.unusedVariables false
set_option linter.unusedSimpArgs false
namespace Go.Proofs.YtofaiocffifhfaaGreat
open Go.RowKit Go.Shelf YtofaiocffifhfaaGreatB Go.Proofs.YtofaiocffifhfaaGreatW.PrintWords
theorem uh (W1 W:World) (n:Nat) (hn:n≤W1.heap.size) (v:Value) (xs:List (Int×Int×Bool)) (ok:Nat→Prop) (hB:Below W1.heap.size W1 W) (hF:Row dK (fun k=>ok k∧k< W1.heap.size) W1 v xs) (hl:xs.length≤1048576):
  Calls Tryz.prog 30 #[v] W (fun E W' =>∃u,E= .returned u∧Row dK (fun k=>W.heap.size≤k) W' u xs∧Below W.heap.size W W'):=by
 obtain ⟨A,c,rfl,hc,hF⟩:=hF;refine (uR W A c xs _ (Ft.below hF hB) hl).mono ?_;rintro E W' ⟨⟨u,rfl,ho⟩,hb⟩;exact ⟨u,rfl,Row.jH (ho.mono (fun k hk=>hk.elim)),hb⟩
theorem z11 {X:World} {g:Nat} {t:TypeId} (h:Blk X g #[.slice none 0 0, .slice none 0 0, .slice none 0 0, .slice none 0 0, .slice none 0 0, .slice none 0 0, .slice none 0 0, .bool false, .int .u32 0, .slice none 0 0, .slice none 0 0] t):X.cell? ⟨g,0,none⟩=some (.slice none 0 0)∧X.cell? ⟨g,1,none⟩=some (.slice none 0 0)∧X.cell? ⟨g,2,none⟩=some (.slice none 0 0)∧X.cell? ⟨g,3,none⟩=some (.slice none 0 0)∧X.cell? ⟨g,4,none⟩=some (.slice none 0 0)∧X.cell? ⟨g,5,none⟩=some (.slice none 0 0)∧X.cell? ⟨g,6,none⟩=some (.slice none 0 0)∧X.cell? ⟨g,7,none⟩=some (.bool false)∧X.cell? ⟨g,8,none⟩=some (.int .u32 0)∧X.cell? ⟨g,9,none⟩=some (.slice none 0 0)∧X.cell? ⟨g,10,none⟩=some (.slice none 0 0)∧X.frozen? ⟨g,0,none⟩=false∧X.frozen? ⟨g,1,none⟩=false∧X.frozen? ⟨g,2,none⟩=false∧X.frozen? ⟨g,3,none⟩=false∧X.frozen? ⟨g,4,none⟩=false∧X.frozen? ⟨g,5,none⟩=false∧X.frozen? ⟨g,6,none⟩=false∧X.frozen? ⟨g,7,none⟩=false∧X.frozen? ⟨g,8,none⟩=false∧X.frozen? ⟨g,9,none⟩=false∧X.frozen? ⟨g,10,none⟩=false∧g< X.heap.size:=
 ⟨h.cell 0,h.cell 1,h.cell 2,h.cell 3,h.cell 4,h.cell 5,h.cell 6,h.cell 7,h.cell 8,h.cell 9,h.cell 10,h.frozen 0,h.frozen 1,h.frozen 2,h.frozen 3,h.frozen 4,h.frozen 5,h.frozen 6,h.frozen 7,h.frozen 8,h.frozen 9,h.frozen 10,h.lt⟩
theorem Cg {X:World} {g:Nat} {t:TypeId} {c0 c1 c2 c3 c4 c5 c6 c7 c8 c9 c10:Value} (h:Blk X g #[c0,c1,c2,c3,c4,c5,c6,c7,c8,c9,c10] t) (v0 v1 v2 v3 v4 v5 v6 v7 v8 v9 v10:Value):
  Blk (((((((((((X.setCell ⟨g,0,none⟩ v0).setCell ⟨g,1,none⟩ v1).setCell ⟨g,2,none⟩ v2).setCell ⟨g,3,none⟩ v3).setCell ⟨g,4,none⟩ v4).setCell ⟨g,5,none⟩ v5).setCell ⟨g,6,none⟩ v6).setCell ⟨g,7,none⟩ v7).setCell ⟨g,8,none⟩ v8).setCell ⟨g,9,none⟩ v9).setCell ⟨g,10,none⟩ v10) g #[v0,v1,v2,v3,v4,v5,v6,v7,v8,v9,v10] t:=by
 have h0:Blk (X.setCell ⟨g,0,none⟩ v0) g #[v0,c1,c2,c3,c4,c5,c6,c7,c8,c9,c10] t:=h.set 0 v0;have h1:Blk ((X.setCell ⟨g,0,none⟩ v0).setCell ⟨g,1,none⟩ v1) g #[v0,v1,c2,c3,c4,c5,c6,c7,c8,c9,c10] t:=h0.set 1 v1;have h2:Blk (((X.setCell ⟨g,0,none⟩ v0).setCell ⟨g,1,none⟩ v1).setCell ⟨g,2,none⟩ v2) g #[v0,v1,v2,c3,c4,c5,c6,c7,c8,c9,c10] t:=h1.set 2 v2;have h3:Blk ((((X.setCell ⟨g,0,none⟩ v0).setCell ⟨g,1,none⟩ v1).setCell ⟨g,2,none⟩ v2).setCell ⟨g,3,none⟩ v3) g #[v0,v1,v2,v3,c4,c5,c6,c7,c8,c9,c10] t:=h2.set 3 v3;have h4:Blk (((((X.setCell ⟨g,0,none⟩ v0).setCell ⟨g,1,none⟩ v1).setCell ⟨g,2,none⟩ v2).setCell ⟨g,3,none⟩ v3).setCell ⟨g,4,none⟩ v4) g #[v0,v1,v2,v3,v4,c5,c6,c7,c8,c9,c10] t:=h3.set 4 v4;have h5:Blk ((((((X.setCell ⟨g,0,none⟩ v0).setCell ⟨g,1,none⟩ v1).setCell ⟨g,2,none⟩ v2).setCell ⟨g,3,none⟩ v3).setCell ⟨g,4,none⟩ v4).setCell ⟨g,5,none⟩ v5) g #[v0,v1,v2,v3,v4,v5,c6,c7,c8,c9,c10] t:=h4.set 5 v5;have h6:Blk (((((((X.setCell ⟨g,0,none⟩ v0).setCell ⟨g,1,none⟩ v1).setCell ⟨g,2,none⟩ v2).setCell ⟨g,3,none⟩ v3).setCell ⟨g,4,none⟩ v4).setCell ⟨g,5,none⟩ v5).setCell ⟨g,6,none⟩ v6) g #[v0,v1,v2,v3,v4,v5,v6,c7,c8,c9,c10] t:=h5.set 6 v6;have h7:Blk ((((((((X.setCell ⟨g,0,none⟩ v0).setCell ⟨g,1,none⟩ v1).setCell ⟨g,2,none⟩ v2).setCell ⟨g,3,none⟩ v3).setCell ⟨g,4,none⟩ v4).setCell ⟨g,5,none⟩ v5).setCell ⟨g,6,none⟩ v6).setCell ⟨g,7,none⟩ v7) g #[v0,v1,v2,v3,v4,v5,v6,v7,c8,c9,c10] t:=h6.set 7 v7;have h8:Blk (((((((((X.setCell ⟨g,0,none⟩ v0).setCell ⟨g,1,none⟩ v1).setCell ⟨g,2,none⟩ v2).setCell ⟨g,3,none⟩ v3).setCell ⟨g,4,none⟩ v4).setCell ⟨g,5,none⟩ v5).setCell ⟨g,6,none⟩ v6).setCell ⟨g,7,none⟩ v7).setCell ⟨g,8,none⟩ v8) g #[v0,v1,v2,v3,v4,v5,v6,v7,v8,c9,c10] t:=h7.set 8 v8;have h9:Blk ((((((((((X.setCell ⟨g,0,none⟩ v0).setCell ⟨g,1,none⟩ v1).setCell ⟨g,2,none⟩ v2).setCell ⟨g,3,none⟩ v3).setCell ⟨g,4,none⟩ v4).setCell ⟨g,5,none⟩ v5).setCell ⟨g,6,none⟩ v6).setCell ⟨g,7,none⟩ v7).setCell ⟨g,8,none⟩ v8).setCell ⟨g,9,none⟩ v9) g #[v0,v1,v2,v3,v4,v5,v6,v7,v8,v9,c10] t:=h8.set 9 v9;have h10:Blk (((((((((((X.setCell ⟨g,0,none⟩ v0).setCell ⟨g,1,none⟩ v1).setCell ⟨g,2,none⟩ v2).setCell ⟨g,3,none⟩ v3).setCell ⟨g,4,none⟩ v4).setCell ⟨g,5,none⟩ v5).setCell ⟨g,6,none⟩ v6).setCell ⟨g,7,none⟩ v7).setCell ⟨g,8,none⟩ v8).setCell ⟨g,9,none⟩ v9).setCell ⟨g,10,none⟩ v10) g #[v0,v1,v2,v3,v4,v5,v6,v7,v8,v9,v10] t:=h9.set 10 v10;exact h10
theorem ze (X:World) (g:Nat) (v0 v1 v2 v3 v4 v5 v6 v7 v8 v9 v10:Value):X.grownBy (((((((((((X.setCell ⟨g,0,none⟩ v0).setCell ⟨g,1,none⟩ v1).setCell ⟨g,2,none⟩ v2).setCell ⟨g,3,none⟩ v3).setCell ⟨g,4,none⟩ v4).setCell ⟨g,5,none⟩ v5).setCell ⟨g,6,none⟩ v6).setCell ⟨g,7,none⟩ v7).setCell ⟨g,8,none⟩ v8).setCell ⟨g,9,none⟩ v9).setCell ⟨g,10,none⟩ v10) (some g):=(((((((((((World.grownBy.refl X _).trans (bA _ g 0 v0)).trans (bA _ g 1 v1)).trans (bA _ g 2 v2)).trans (bA _ g 3 v3)).trans (bA _ g 4 v4)).trans (bA _ g 5 v5)).trans (bA _ g 6 v6)).trans (bA _ g 7 v7)).trans (bA _ g 8 v8)).trans (bA _ g 9 v9)).trans (bA _ g 10 v10)
theorem uL {V X:World} {n:Nat} (hb:Below n V X) (g:Nat) (hg:n≤g) (v0 v1 v2 v3 v4 v5 v6 v7 v8 v9 v10:Value):Below n V (((((((((((X.setCell ⟨g,0,none⟩ v0).setCell ⟨g,1,none⟩ v1).setCell ⟨g,2,none⟩ v2).setCell ⟨g,3,none⟩ v3).setCell ⟨g,4,none⟩ v4).setCell ⟨g,5,none⟩ v5).setCell ⟨g,6,none⟩ v6).setCell ⟨g,7,none⟩ v7).setCell ⟨g,8,none⟩ v8).setCell ⟨g,9,none⟩ v9).setCell ⟨g,10,none⟩ v10):=d9 (d9 (d9 (d9 (d9 (d9 (d9 (d9 (d9 (d9 (d9 (hb) g 0 v0 hg) g 1 v1 hg) g 2 v2 hg) g 3 v3 hg) g 4 v4 hg) g 5 v5 hg) g 6 v6 hg) g 7 v7 hg) g 8 v8 hg) g 9 v9 hg) g 10 v10 hg
theorem GD {X:World} {b:Nat} {cs:Array Value} {t:TypeId} (hb:Blk X b cs t) (g:Nat) (hg:b≠g) (v0 v1 v2 v3 v4 v5 v6 v7 v8 v9 v10:Value):Blk (((((((((((X.setCell ⟨g,0,none⟩ v0).setCell ⟨g,1,none⟩ v1).setCell ⟨g,2,none⟩ v2).setCell ⟨g,3,none⟩ v3).setCell ⟨g,4,none⟩ v4).setCell ⟨g,5,none⟩ v5).setCell ⟨g,6,none⟩ v6).setCell ⟨g,7,none⟩ v7).setCell ⟨g,8,none⟩ v8).setCell ⟨g,9,none⟩ v9).setCell ⟨g,10,none⟩ v10) b cs t:=(((((((((((hb).aJ _ v0 hg).aJ _ v1 hg).aJ _ v2 hg).aJ _ v3 hg).aJ _ v4 hg).aJ _ v5 hg).aJ _ v6 hg).aJ _ v7 hg).aJ _ v8 hg).aJ _ v9 hg).aJ _ v10 hg
theorem yY {α:Type} {d:Kd α} {X:World} {n g:Nat} {v:Value} {xs:List α} (h:Row d (fun k=>n≤k∧k≠g) X v xs) (v0 v1 v2 v3 v4 v5 v6 v7 v8 v9 v10:Value):Row d (fun k=>n≤k∧k≠g) (((((((((((X.setCell ⟨g,0,none⟩ v0).setCell ⟨g,1,none⟩ v1).setCell ⟨g,2,none⟩ v2).setCell ⟨g,3,none⟩ v3).setCell ⟨g,4,none⟩ v4).setCell ⟨g,5,none⟩ v5).setCell ⟨g,6,none⟩ v6).setCell ⟨g,7,none⟩ v7).setCell ⟨g,8,none⟩ v8).setCell ⟨g,9,none⟩ v9).setCell ⟨g,10,none⟩ v10) v xs:=
 h.step (bS (ze X g v0 v1 v2 v3 v4 v5 v6 v7 v8 v9 v10) (fun k hk e=>by injection e with e;exact hk.2 e))
theorem wR (W:World) (ok:Nat→Prop) (M:df) (fns:List FnD) (v0 v1 v2 v3 v4 v5 v6 v9 v10:Value)
  (h0:Row kFt ok W v0 M.types) (h1:Row iF ok W v1 M.imports) (h2:Row kFn ok W v2 fns) (h3:Row dK ok W v3 M.tables) (h4:Row dK ok W v4 M.mems)
  (h5:Row ja ok W v5 M.globals) (h6:Row iB ok W v6 M.exports) (h9:Row jc ok W v9 M.elems) (h10:Row iZ ok W v10 M.datas)
  (l3:M.tables.length≤1048576) (l4:M.mems.length≤1048576)
  (l0:M.types.length≤1048576) (l1:M.imports.length≤1048576) (l6:M.exports.length≤1048576) (l2:fns.length≤1048576) (l5:M.globals.length≤1048576) (l9:M.elems.length≤1048576) (l10:M.datas.length≤1048576)
  (b2:∀x∈fns,bkL x.body≤1048576) (b5:∀x∈M.globals,bkL x.init≤1048576) (b9:∀x∈M.elems,bkL x.off≤1048576) (b10:∀x∈M.datas,bkL x.off≤1048576):
  Calls Tryz.prog 11 #[.agg #[v0,v1,v2,v3,v4,v5,v6, .bool M.starts, .int .u32 M.start,v9,v10]] W (wV W ok M fns):=by
 go_enter Tryz.func11,Tryz.ntmps11;go_wp2_with fail;have hz1:((W.alloc (.cells #[v0,v1,v2,v3,v4,v5,v6, .bool M.starts, .int .u32 M.start,v9,v10] 34)).alloc (.cells (dU (.slice none 0 0)) 47)).heap.size=W.heap.size+2:=by rw [World.size_alloc,World.size_alloc]
 have hal:Below W.heap.size W ((W.alloc (.cells #[v0,v1,v2,v3,v4,v5,v6, .bool M.starts, .int .u32 M.start,v9,v10] 34)).alloc (.cells (dU (.slice none 0 0)) 47)):=aY (aY (Below.refl _ _) _) _;have hPB:=(Blk.new W #[v0,v1,v2,v3,v4,v5,v6, .bool M.starts, .int .u32 M.start,v9,v10] 34).alloc (.cells (dU (.slice none 0 0)) 47);have hOB:=Blk.new (W.alloc (.cells #[v0,v1,v2,v3,v4,v5,v6, .bool M.starts, .int .u32 M.start,v9,v10] 34)) (dU (.slice none 0 0)) 47;rw [World.size_alloc]at hOB;simp only [dU]at hz1 hal hPB hOB;generalize (W.alloc (.cells #[v0,v1,v2,v3,v4,v5,v6, .bool M.starts, .int .u32 M.start,v9,v10] 34)).alloc (.cells #[.slice none 0 0, .slice none 0 0, .slice none 0 0, .slice none 0 0, .slice none 0 0, .slice none 0 0, .slice none 0 0, .bool false, .int .u32 0, .slice none 0 0, .slice none 0 0] 47)=W1 at *;have hrow:∀{α:Type} {d:Kd α} {v:Value} {xs:List α},Row d ok W v xs→Row d (fun k=>ok k∧k< W.heap.size) W1 v xs:=fun h=>(h.bound (fun k hk hl=>⟨hk,hl⟩)).step (Agr.of_below hal)
 have R0:=Lib.hid (hrow h0);have R1:=Lib.hid (hrow h1);have R2:=Lib.hid (hrow h2);have R5:=Lib.hid (hrow h5);have R6:=Lib.hid (hrow h6);have R9:=Lib.hid (hrow h9);have R10:=Lib.hid (hrow h10)
 have hlim:∀(v:Value) (xs:List (Int×Int×Bool)),Row dK ok W v xs→xs.length≤1048576→∀X,Below W1.heap.size W1 X→Calls Tryz.prog 30 #[v] X (fun E W' =>∃u,E= .returned u∧Row dK (fun k=>X.heap.size≤k) W' u xs∧Below W1.heap.size W1 W' ∧Below X.heap.size X W' ∧(∀V,Below V.heap.size V X→Below V.heap.size V W')):=by
  intro v xs hr hl X hX;refine (uh W1 X _ (Nat.le_refl _) v xs ok hX ((hrow hr).mono (fun k hk=>⟨hk.1,by have:=hk.2;omega⟩)) hl).mono ?_;rintro E W' ⟨u,rfl,hu,hb⟩;exact ⟨u,rfl,hu,hX.trans (hb.mono hX.size),hb,fun V hV=>hV.trans (hb.mono hV.size)⟩
 obtain ⟨A0,c0,hv0,hc0,hF0⟩:=R0.out;have HF0:=Lib.hid hF0;obtain ⟨A1,c1,hv1,hc1,hF1⟩:=R1.out;have HF1:=Lib.hid hF1;obtain ⟨A2,c2,hv2,hc2,hF2⟩:=R2.out;have HF2:=Lib.hid hF2;obtain ⟨A5,c5,hv5,hc5,hF5⟩:=R5.out;have HF5:=Lib.hid hF5;obtain ⟨A6,c6,hv6,hc6,hF6⟩:=R6.out;have HF6:=Lib.hid hF6;obtain ⟨A9,c9,hv9,hc9,hF9⟩:=R9.out;have HF9:=Lib.hid hF9;obtain ⟨A10,c10,hv10,hc10,hF10⟩:=R10.out;have HF10:=Lib.hid hF10;have HLN0:=Lib.hid l0;have HLN1:=Lib.hid l1;have HLN2:=Lib.hid l2;have HLN5:=Lib.hid l5;have HLN6:=Lib.hid l6;have HLN9:=Lib.hid l9;have HLN10:=Lib.hid l10;have HBK2:=Lib.hid b2;have HBK5:=Lib.hid b5;have HBK9:=Lib.hid b9;have HBK10:=Lib.hid b10;have HV0:=Lib.hid hv0;have HV1:=Lib.hid hv1;have HV2:=Lib.hid hv2;have HV5:=Lib.hid hv5;have HV6:=Lib.hid hv6;have HV9:=Lib.hid hv9;have HV10:=Lib.hid hv10;clear hc0 hF0 l0 hv0 hc1 hF1 l1 hv1 hc2 hF2 l2 hv2 hc5 hF5 l5 hv5 hc6 hF6 l6 hv6 hc9 hF9 l9 hv9 hc10 hF10 l10 hv10 b2 b5 b9 b10;have H3:=Lib.hid (hlim v3 M.tables h3 l3);have H4:=Lib.hid (hlim v4 M.mems h4 l4);have HB1:=Lib.hid hal;have HP:=Lib.hid hPB;have HO:=Lib.hid hOB;have p3:=hPB.cell 3;have p4:=hPB.cell 4;have p7:=hPB.cell 7;have p8:=hPB.cell 8;have lp:=hPB.lt;have HK:=Lib.hid (fun w' (h:Blk w' W.heap.size #[v0,v1,v2,v3,v4,v5,v6, .bool M.starts, .int .u32 M.start,v9,v10] 34)=>(⟨h.cell 3,h.cell 4,h.cell 7,h.cell 8,h.lt⟩:w'.cell? ⟨W.heap.size,3,none⟩=some v3∧w'.cell? ⟨W.heap.size,4,none⟩=some v4∧w'.cell? ⟨W.heap.size,7,none⟩=some (.bool M.starts)∧w'.cell? ⟨W.heap.size,8,none⟩=some (.int .u32 M.start)∧W.heap.size< w'.heap.size));have HZ1:=Lib.hid hz1;clear h0 h1 h2 h3 h4 h5 h6 h9 h10 hrow hlim hal hPB hOB hz1;go_cut [3] (fun s3 wx=>∃(g3:Nat) (u3 u4:Value),s3= .pointer (some ⟨g3,0,none⟩)∧W1.heap.size≤g3∧Hid (Below W1.heap.size W1 wx)∧Hid (Blk wx g3 #[.slice none 0 0, .slice none 0 0, .slice none 0 0,u3,u4, .slice none 0 0, .slice none 0 0, .bool M.starts, .int .u32 M.start, .slice none 0 0, .slice none 0 0] 47)∧Hid (Row dK (fun k=>W1.heap.size≤k∧k≠g3) wx u3 M.tables)∧Hid (Row dK (fun k=>W1.heap.size≤k∧k≠g3) wx u4 M.mems))
 case first=>
  go_region_held3 (fun w' =>w'.cell? ⟨W.heap.size,3,none⟩=some v3∧w'.cell? ⟨W.heap.size,4,none⟩=some v4∧w'.cell? ⟨W.heap.size,7,none⟩=some (.bool M.starts)∧w'.cell? ⟨W.heap.size,8,none⟩=some (.int .u32 M.start)∧W.heap.size< w'.heap.size)
   (first|with_reducible exact HK.out _ HP.out.drew|with_reducible exact HK.out _ (HP.out.drew.alloc _)|with_reducible exact HK.out _ hp2|with_reducible exact HK.out _ (hp2.alloc _)|with_reducible exact HK.out _ hp3|with_reducible exact HK.out _ (hp3.alloc _)|(with_reducible refine HK.out _ (GD ?_ _ ?_ _ _ _ _ _ _ _ _ _ _ _);(with_reducible first|exact hp3|exact hp3.alloc _);omega)|exact HK.out _ (HP.out.drew.alloc _)|exact HK.out _ (hp2.alloc _)|exact HK.out _ (hp3.alloc _))
   (first
   |(go_at_call_of 30 v3;refine (H3.out _ (by exact bH (Below.refl _ _))).mono ?_;rintro E W2 ⟨u3,rfl,⟨A3,c3,rfl,hc3,hF3⟩,hb3,hx3,hv3⟩;have hp2:=HP.out.below hb3 (by omega);have hz2:=hb3.size;have HF3:=Lib.hid (iK hF3 (ok' :=fun k=>W1.heap.size≤k∧k< W2.heap.size) (fun k hk hl=>⟨hk,hl⟩)))
   |(go_at_call_of 30 v3;refine (H3.out _ (by exact aY (bH (Below.refl _ _)) _)).mono ?_;rintro E W2 ⟨u3,rfl,⟨A3,c3,rfl,hc3,hF3⟩,hb3,hx3,hv3⟩;have hp2:=HP.out.below hb3 (by omega);have hz2:=hb3.size;have hT1:=Blk.new W1.drew #[.slice none 0 0, .slice none 0 0, .slice none 0 0, .slice none 0 0, .slice none 0 0, .slice none 0 0, .slice none 0 0, .bool false, .int .u32 0, .slice none 0 0, .slice none 0 0] 47;have hT2:Blk W2 W1.heap.size #[.slice none 0 0, .slice none 0 0, .slice none 0 0, .slice none 0 0, .slice none 0 0, .slice none 0 0, .slice none 0 0, .bool false, .int .u32 0, .slice none 0 0, .slice none 0 0] 47:=hT1.below hx3 hT1.lt;have HT2:=Lib.hid hT2;have HF3:=Lib.hid (iK hF3 (ok' :=fun k=>W1.heap.size≤k∧k≠W1.heap.size) (fun k hk hl=>by have hk2:(W1.drew.alloc (.cells #[.slice none 0 0, .slice none 0 0, .slice none 0 0, .slice none 0 0, .slice none 0 0, .slice none 0 0, .slice none 0 0, .bool false, .int .u32 0, .slice none 0 0, .slice none 0 0] 47)).heap.size≤k:=hk;rw [World.size_alloc]at hk2;change W1.heap.size+1≤k at hk2;exact ⟨by omega,by omega⟩));clear hT1 hT2)
   |(go_at_call_of 30 v4;refine (H4.out _ (by first|exact hb3|exact aY hb3 _)).mono ?_;rintro E W3 ⟨u4,rfl,⟨A4,c4,rfl,hc4,hF4⟩,hb4,hx4,hv4⟩;have hp3:=HP.out.below hb4 (by omega);have hz3:=hb4.size;have HQ:Hid (FC dK W2 (fun k=>W1.heap.size≤k∧k< W2.heap.size) A3 M.tables):=HF3;have hT1:=Blk.new W2 #[.slice none 0 0, .slice none 0 0, .slice none 0 0, .slice none 0 0, .slice none 0 0, .slice none 0 0, .slice none 0 0, .bool false, .int .u32 0, .slice none 0 0, .slice none 0 0] 47;have hT3:Blk W3 W2.heap.size #[.slice none 0 0, .slice none 0 0, .slice none 0 0, .slice none 0 0, .slice none 0 0, .slice none 0 0, .slice none 0 0, .bool false, .int .u32 0, .slice none 0 0, .slice none 0 0] 47:=hT1.below hx4 hT1.lt;have HT3:=Lib.hid hT3;have HF3' :=Lib.hid (dJ (Ft.below HF3.out (hv4 W2 (aY (Below.refl _ _) _))) (ok' :=fun k=>W1.heap.size≤k∧k≠W2.heap.size) (fun k hk=>⟨hk.1,by have:=hk.2;omega⟩));have HF4:=Lib.hid (iK hF4 (ok' :=fun k=>W1.heap.size≤k∧k≠W2.heap.size) (fun k hk hl=>by have hk2:(W2.alloc (.cells #[.slice none 0 0, .slice none 0 0, .slice none 0 0, .slice none 0 0, .slice none 0 0, .slice none 0 0, .slice none 0 0, .bool false, .int .u32 0, .slice none 0 0, .slice none 0 0] 47)).heap.size≤k:=hk;rw [World.size_alloc]at hk2;exact ⟨by omega,by omega⟩));obtain ⟨y0,y1,y2,y3,y4,y5,y6,y7,y8,y9,y10,yf0,yf1,yf2,yf3,yf4,yf5,yf6,yf7,yf8,yf9,yf10,yl⟩:=z11 hT3;clear hT3)
   |(go_at_call_of 30 v4;refine (H4.out _ (by first|exact hb3|exact aY hb3 _)).mono ?_;rintro E W3 ⟨u4,rfl,⟨A4,c4,rfl,hc4,hF4⟩,hb4,hx4,hv4⟩;have hp3:=HP.out.below hb4 (by omega);have hz3:=hb4.size;have HQ:Hid (FC dK W2 (fun k=>W1.heap.size≤k∧k< W2.heap.size) A3 M.tables):=HF3;have HF3' :=Lib.hid (iK (Ft.below HF3.out hx4) (ok' :=fun k=>W1.heap.size≤k∧k≠W3.heap.size) (fun k hk hl=>⟨hk.1,by omega⟩));have HF4:=Lib.hid (iK hF4 (ok' :=fun k=>W1.heap.size≤k∧k≠W3.heap.size) (fun k hk hl=>by have hk2:W2.heap.size≤k:=hk;exact ⟨by omega,by omega⟩)))
   |(go_at_call_of 30 v4;refine (H4.out _ (by first|exact hb3|exact aY hb3 _)).mono ?_;rintro E W3 ⟨u4,rfl,⟨A4,c4,rfl,hc4,hF4⟩,hb4,hx4,hv4⟩;have hp3:=HP.out.below hb4 (by omega);have hz3:=hb4.size;have hT3:=HT2.out.below hx4 (HT2.out.lt);have HT3:=Lib.hid hT3;have HF3' :=Lib.hid (Ft.below HF3.out hx4);have HF4:=Lib.hid (iK hF4 (ok' :=fun k=>W1.heap.size≤k∧k≠W1.heap.size) (fun k hk hl=>by have hk2:W2.heap.size≤k:=hk;have:=HT2.out.lt;exact ⟨by omega,by omega⟩));obtain ⟨y0,y1,y2,y3,y4,y5,y6,y7,y8,y9,y10,yf0,yf1,yf2,yf3,yf4,yf5,yf6,yf7,yf8,yf9,yf10,yl⟩:=z11 hT3;clear hT3))
  all_goals go_wp2_with fail
  all_goals go_meet
  ·refine ⟨W3.heap.size,(.slice A3 M.tables.length c3),(.slice A4 M.mems.length c4),rfl,hb4.size, ?_, ?_, ?_, ?_⟩
   ·exact aY hb4 _
   ·exact Blk.new W3 _ _
   ·exact Row.step (X:=W3) ⟨A3,c3,rfl,hc3,HF3'.out⟩ (Agr.of_below (aY (Below.refl _ _) _))
   ·exact Row.step (X:=W3) ⟨A4,c4,rfl,hc4,HF4.out⟩ (Agr.of_below (aY (Below.refl _ _) _))
  ·refine ⟨W2.heap.size,(.slice A3 M.tables.length c3),(.slice A4 M.mems.length c4),rfl,hb3.size, ?_, ?_, ?_, ?_⟩
   ·refine Lib.hid ?_
    with_reducible exact uL hb4 _ hb3.size _ _ _ _ _ _ _ _ _ _ _
   ·refine Lib.hid ?_
    with_reducible exact Cg HT3.out _ _ _ _ _ _ _ _ _ _ _
   ·refine Lib.hid ?_;have r3:Row dK (fun k=>W1.heap.size≤k∧k≠W2.heap.size) W3 (.slice A3 M.tables.length c3) M.tables:=⟨A3,c3,rfl,hc3,HF3'.out⟩
    with_reducible exact yY r3 _ _ _ _ _ _ _ _ _ _ _
   ·refine Lib.hid ?_;have r4:Row dK (fun k=>W1.heap.size≤k∧k≠W2.heap.size) W3 (.slice A4 M.mems.length c4) M.mems:=⟨A4,c4,rfl,hc4,HF4.out⟩
    with_reducible exact yY r4 _ _ _ _ _ _ _ _ _ _ _
  ·refine ⟨W1.heap.size,(.slice A3 M.tables.length c3),(.slice A4 M.mems.length c4),rfl,Nat.le_refl _, ?_, ?_, ?_, ?_⟩
   ·refine Lib.hid ?_
    with_reducible exact uL hb4 _ (Nat.le_refl _) _ _ _ _ _ _ _ _ _ _ _
   ·refine Lib.hid ?_
    with_reducible exact Cg HT3.out _ _ _ _ _ _ _ _ _ _ _
   ·refine Lib.hid ?_;have r3:Row dK (fun k=>W1.heap.size≤k∧k≠W1.heap.size) W3 (.slice A3 M.tables.length c3) M.tables:=⟨A3,c3,rfl,hc3,HF3'.out⟩
    with_reducible exact yY r3 _ _ _ _ _ _ _ _ _ _ _
   ·refine Lib.hid ?_;have r4:Row dK (fun k=>W1.heap.size≤k∧k≠W1.heap.size) W3 (.slice A4 M.mems.length c4) M.mems:=⟨A4,c4,rfl,hc4,HF4.out⟩
    with_reducible exact yY r4 _ _ _ _ _ _ _ _ _ _ _
 case rest=>
 obtain ⟨g,u3',u4',rfl,hle,HBw,HBk,HR3,HR4⟩:=hcut
 have HS:Hid (PSt 0 (fun k=>ok k∧k< W.heap.size) W1 g wc (⟨[], [],M.tables,M.mems, [], [],M.starts,M.start, [], [], [], []⟩:df) []):=
  ⟨HBw.out,_,_,_,_,_,_,_,_,_,⟨fun _=>rfl,fun _=>rfl,fun _=>rfl,fun _=>rfl,fun _=>rfl,fun _=>rfl,fun _=>rfl⟩,HBk.out,⟨Row.nil,Row.nil,Row.nil,HR3.out.mono (fun k hk=> .inr hk),HR4.out.mono (fun k hk=> .inr hk),Row.nil,Row.nil,Row.nil,Row.nil⟩⟩
 clear HBw HBk HR3 HR4;have hpw:=HP.out.below HS.out.1 lp;have pk:wc.cell? ⟨W.heap.size,0,none⟩=some (.slice A0 M.types.length c0):=by have h:=hpw.cell 0;rw [HV0.out]at h;exact h
 have pl:=hpw.lt;clear hpw;go_upto_block 0 with fail;go_cut [3] (fun s3 wx=>∃(g:Nat),s3= .pointer (some ⟨g,0,none⟩)∧W1.heap.size≤g∧Hid (PSt 1 (fun k=>ok k∧k< W.heap.size) W1 g wx (⟨M.types, [],M.tables,M.mems, [], [],M.starts,M.start, [], [], [], []⟩:df) []))
 case first=>
  obtain ⟨hB0,y0,y1,y2,y3,y4,y5,y6,y9,y10,hN0,hblk0,hR0⟩:=HS.out;obtain rfl:=hN0.n0 (by decide);have HN0:=Lib.hid hN0;have HB0:=Lib.hid hB0;have HK0:=Lib.hid hblk0;have HR0:=Lib.hid hR0;have hgl:=hblk0.lt;obtain ⟨n,hn⟩:∃n,n=wc.heap.size:=⟨_,rfl⟩;have HGn:=Lib.hid (show g< n by omega);have HWg:=Lib.hid (show W.heap.size< g by omega);have h1n:=hB0.size;have HN1:=Lib.hid (show W1.heap.size≤n by omega);have HYtofaiocffifhfaaGreat:=Lib.hid hn;have HF:=Lib.hid (Ft.step HF0.out (Agr.of_below hB0));clear hB0 hN0 hblk0 hR0 HS pk pl hgl hn h1n;go_wp2_with fail;go_loopw [32] (fun i wr=>∃(j:Nat) (vf:Value),j≤M.types.length∧i= .int .i64 j∧Hid (Own kFt 99 wr n (fun k=>(ok k∧k< W.heap.size)∨n≤k) vf (M.types.take j))∧Hid (Blk wr g #[vf,y1,y2,y3,y4,y5,y6, .bool M.starts, .int .u32 M.start,y9,y10] 47)∧Hid (wc.grownBy wr (some g))) (fun i _=>M.types.length - (intOf i).toNat)
  case atStart=>exact ⟨0, .slice none 0 0,Nat.zero_le _,rfl,Own.nil,HK0.out,World.grownBy.refl _ _⟩
  case round=>
   obtain ⟨j,vf,hj,rfl,HO,HMb,HG⟩:=hrel;have hzr:=HG.out.size;rw [←HYtofaiocffifhfaaGreat.out]at hzr;have HFr:=Lib.hid (Ft.step HF.out (bS HG.out (fun k hk e=>by injection e with e;have h1:=hk.2;have h2:=HWg.out;omega)));have hll:=HLN0.out;by_cases hlt:j< M.types.length
   ·have hlt2:(j:Int)<(M.types.length:Int):=by omega
    obtain ⟨b,o,x,cs,hA,hx,hk,hc⟩:=FC.at_ HFr.out (show 0< 2 by decide) j hlt;obtain ⟨AP,cP,AQ,cQ,rfl⟩:=DL hk;have hszk:kFt.sz=2:=rfl;have d0:=hc 0 _ rfl;have d1:=hc 1 _ rfl;simp only [hszk,Nat.add_zero]at d0 d1;have hbl:=World.block_lt_of_cell? _ _ d0;simp only at hbl;have hmb:=HMb.out;have kc:=hmb.cell 0;have kl:=hmb.lt;have HX:=Lib.hid hx.out;have HKx:=Lib.hid hk;have hne:∀k,vf.ownBlock=some k→n≤k:=fun k hk=>(Own.block HO.out hk).1
    have HNE:=Lib.hid hne;clear hx hk hc hmb hszk;have hal:Below wr.heap.size wr (wr.alloc (.cells #[.slice AP x.1.length cP, .slice AQ x.2.length cQ] 98)):=(Below.refl _ _).alloc (Nat.le_refl _) _;have HK2:=Lib.hid (show FK kFt (wr.alloc (.cells #[.slice AP x.1.length cP, .slice AQ x.2.length cQ] 98)) (fun k=>((ok k∧k< W.heap.size)∨n≤k)∧some k≠vf.ownBlock) x (List.toArray _).toList from Ft.mono (Ft.below HKx.out hal) (fun k hk=>⟨.inl hk,fun e=>by have h1:=hne k e.symm;have h2:=hk.2;have h3:=HWg.out;have h4:=HGn.out;omega⟩));have HO1:=Lib.hid (HO.out.below hal);have hnb:n≤(wr.alloc (.cells #[.slice AP x.1.length cP, .slice AQ x.2.length cQ] 98)).heap.size:=by rw [World.size_alloc];omega
    have HNB:=Lib.hid hnb;have HL9:=Lib.hid (show ((M.types.take j).length+1) * 48≤140737488355328 from by have h:=HLN0.out;rw [List.length_take];omega)
    have HMD:=Lib.hid (fun Y (h:World.grownBy (wr.alloc (.cells #[.slice AP x.1.length cP, .slice AQ x.2.length cQ] 98)) Y vf.ownBlock)=>(by
     have hb:Blk Y g #[vf,y1,y2,y3,y4,y5,y6, .bool M.starts, .int .u32 M.start,y9,y10] 47:=Blk.grown (HMb.out.alloc _) h (fun e=>by have h1:=HNE.out g e.symm;have h2:=HGn.out;omega)
     exact ⟨hb.cell 0,hb.frozen 0,hb.lt⟩:Y.cell? ⟨g,0,none⟩=some vf∧Y.frozen? ⟨g,0,none⟩=false∧g< Y.heap.size))
    clear hal hnb hne;go_wp2_with (at_builtin;refine Own.append (d:=kFt) n rfl (.tmp 37) (.tmp 39) 38 99 _ 48 rfl Tryz.underlying38 tY rfl (by decide) (by decide) vf (M.types.take j) x _ (fun k=>(ok k∧k< W.heap.size)∨n≤k) rfl (by rw [World.size_alloc];rfl) HK2.out HO1.out HNB.out HL9.out ?_;intro v1 w1 hown1 hg1 hat1;obtain ⟨A9,c9,rfl,hl9,hF9⟩:=Own.reads hown1;obtain ⟨q2,qf,ql⟩:=HMD.out _ hg1);have htk:M.types.take (j+1)=M.types.take j++ [x]:=by rw [List.take_add_one,HX.out];rfl
    have hlen9:(M.types.take j++ [x]).length=j+1:=by rw [List.length_append,List.length_take];simp only [List.length_cons,List.length_nil];omega
    rw [hlen9]at hown1;have hbk:∀k,(Value.slice A9 (j+1) c9).ownBlock=some k→n≤k:=fun k hk=>(Own.block hown1 hk).1
    have hoz:=hown1.grown (bA w1 g 0 (.slice A9 (j+1) c9)) (.inr (fun e=>by have h1:=hbk g e;have h2:=HGn.out;omega)) (fun k hk e=>by injection e with e;have h2:=HGn.out;have h3:=HWg.out;rcases hk with hk|hk<;>omega);rw [←htk]at hoz;have HOZ:=Lib.hid hoz;have HMZ:=Lib.hid ((Blk.grown (HMb.out.alloc (.cells #[.slice AP x.1.length cP, .slice AQ x.2.length cQ] 98)) hg1 (fun e=>by have h1:=HNE.out g e.symm;have h2:=HGn.out;omega)).set 0 (.slice A9 (j+1) c9));have HGZ:=Lib.hid ((bC (gK HG.out (.cells #[.slice AP x.1.length cP, .slice AQ x.2.length cQ] 98)) hg1 (fun k hk=> .inr (by rw [←HYtofaiocffifhfaaGreat.out];exact HNE.out k hk))).trans (bA w1 g 0 (.slice A9 (j+1) c9)));clear hown1 hg1 hat1 hl9 hF9 htk hbk hoz;go_wp2_with fail;go_roundw
    case rel=>exact ⟨j+1,by omega,by go_num,_,HOZ,HMZ,HGZ⟩
    case measure=>simp [intOf];omega
   ·obtain rfl:j=M.types.length:=by omega
    go_wp2_with fail;go_meet;have hown:=HO.out;rw [List.take_length]at hown;have hst:=HR0.out.step (kU HG.out (fun k hk=>by have h1:=hk.2;have h2:=HWg.out;omega));exact ⟨g,rfl,hle,HB0.out.grown HG.out HB0.out.size (fun k e=>by injection e with e;omega),_,_,_,_,_,_,_,_,_,{HN0.out.up with n0:=fun h=>absurd h (by decide)},HMb.out,{hst with r0:=kS hown HN1.out HGn.out}⟩
 case rest=>
 obtain ⟨g,rfl,hle,HS⟩:=hcut;have hpw:=HP.out.below HS.out.1 lp;have pk:wc.cell? ⟨W.heap.size,1,none⟩=some (.slice A1 M.imports.length c1):=by have h:=hpw.cell 1;rw [HV1.out]at h;exact h
 have pl:=hpw.lt;clear hpw;go_upto_block 2 with fail;go_cut [3] (fun s3 wx=>∃(g:Nat),s3= .pointer (some ⟨g,0,none⟩)∧W1.heap.size≤g∧Hid (PSt 2 (fun k=>ok k∧k< W.heap.size) W1 g wx (⟨M.types,M.imports,M.tables,M.mems, [], [],M.starts,M.start, [], [], [], []⟩:df) []))
 case first=>
  obtain ⟨hB0,y0,y1,y2,y3,y4,y5,y6,y9,y10,hN0,hblk0,hR0⟩:=HS.out;obtain rfl:=hN0.n1 (by decide);have HN0:=Lib.hid hN0;have HB0:=Lib.hid hB0;have HK0:=Lib.hid hblk0;have HR0:=Lib.hid hR0;have hgl:=hblk0.lt;obtain ⟨n,hn⟩:∃n,n=wc.heap.size:=⟨_,rfl⟩;have HGn:=Lib.hid (show g< n by omega);have HWg:=Lib.hid (show W.heap.size< g by omega);have h1n:=hB0.size;have HN1:=Lib.hid (show W1.heap.size≤n by omega);have HYtofaiocffifhfaaGreat:=Lib.hid hn;have HF:=Lib.hid (Ft.step HF1.out (Agr.of_below hB0));clear hB0 hN0 hblk0 hR0 HS pk pl hgl hn h1n;go_wp2_with fail;go_loopw [46] (fun i wr=>∃(j:Nat) (vf:Value),j≤M.imports.length∧i= .int .i64 j∧Hid (Own iF 108 wr n (fun k=>(ok k∧k< W.heap.size)∨n≤k) vf (M.imports.take j))∧Hid (Blk wr g #[y0,vf,y2,y3,y4,y5,y6, .bool M.starts, .int .u32 M.start,y9,y10] 47)∧Hid (wc.grownBy wr (some g))) (fun i _=>M.imports.length - (intOf i).toNat)
  case atStart=>exact ⟨0, .slice none 0 0,Nat.zero_le _,rfl,Own.nil,HK0.out,World.grownBy.refl _ _⟩
  case round=>
   obtain ⟨j,vf,hj,rfl,HO,HMb,HG⟩:=hrel;have hzr:=HG.out.size;rw [←HYtofaiocffifhfaaGreat.out]at hzr;have HFr:=Lib.hid (Ft.step HF.out (bS HG.out (fun k hk e=>by injection e with e;have h1:=hk.2;have h2:=HWg.out;omega)));have hll:=HLN1.out;by_cases hlt:j< M.imports.length
   ·have hlt2:(j:Int)<(M.imports.length:Int):=by omega
    obtain ⟨b,o,x,cs,hA,hx,hk,hc⟩:=FC.at_ HFr.out (show 0< 9 by decide) j hlt;obtain rfl:=lF hk;have hszk:iF.sz=9:=rfl;have d0:=hc 0 _ rfl;have d1:=hc 1 _ rfl;have d2:=hc 2 _ rfl;have d3:=hc 3 _ rfl;have d4:=hc 4 _ rfl;have d5:=hc 5 _ rfl;have d6:=hc 6 _ rfl;have d7:=hc 7 _ rfl;have d8:=hc 8 _ rfl;simp only [hszk,Nat.add_zero]at d0 d1 d2 d3 d4 d5 d6 d7 d8;have hbl:=World.block_lt_of_cell? _ _ d0;simp only at hbl;have hmb:=HMb.out;have kc:=hmb.cell 1;have kl:=hmb.lt;have HX:=Lib.hid hx.out;have HKx:=Lib.hid hk;have hne:∀k,vf.ownBlock=some k→n≤k:=fun k hk=>(Own.block HO.out hk).1
    have HNE:=Lib.hid hne;clear hx hk hc hmb hszk;have hal:Below wr.heap.size wr (wr.alloc (.cells #[.string x.m, .string x.n, .int .i64 x.kind, .int .u32 x.ty, .int .u32 x.lim.1, .int .u32 x.lim.2.1, .bool x.lim.2.2, .int .u8 x.glob.1, .bool x.glob.2] 105)):=(Below.refl _ _).alloc (Nat.le_refl _) _;have HK2:=Lib.hid (show FK iF (wr.alloc (.cells #[.string x.m, .string x.n, .int .i64 x.kind, .int .u32 x.ty, .int .u32 x.lim.1, .int .u32 x.lim.2.1, .bool x.lim.2.2, .int .u8 x.glob.1, .bool x.glob.2] 105)) (fun k=>((ok k∧k< W.heap.size)∨n≤k)∧some k≠vf.ownBlock) x (List.toArray _).toList from Ft.mono (Ft.below HKx.out hal) (fun k hk=>⟨.inl hk,fun e=>by have h1:=hne k e.symm;have h2:=hk.2;have h3:=HWg.out;have h4:=HGn.out;omega⟩));have HO1:=Lib.hid (HO.out.below hal);have hnb:n≤(wr.alloc (.cells #[.string x.m, .string x.n, .int .i64 x.kind, .int .u32 x.ty, .int .u32 x.lim.1, .int .u32 x.lim.2.1, .bool x.lim.2.2, .int .u8 x.glob.1, .bool x.glob.2] 105)).heap.size:=by rw [World.size_alloc];omega
    have HNB:=Lib.hid hnb;have HL9:=Lib.hid (show ((M.imports.take j).length+1) * 64≤140737488355328 from by have h:=HLN1.out;rw [List.length_take];omega)
    have HMD:=Lib.hid (fun Y (h:World.grownBy (wr.alloc (.cells #[.string x.m, .string x.n, .int .i64 x.kind, .int .u32 x.ty, .int .u32 x.lim.1, .int .u32 x.lim.2.1, .bool x.lim.2.2, .int .u8 x.glob.1, .bool x.glob.2] 105)) Y vf.ownBlock)=>(by
     have hb:Blk Y g #[y0,vf,y2,y3,y4,y5,y6, .bool M.starts, .int .u32 M.start,y9,y10] 47:=Blk.grown (HMb.out.alloc _) h (fun e=>by have h1:=HNE.out g e.symm;have h2:=HGn.out;omega)
     exact ⟨hb.cell 1,hb.frozen 1,hb.lt⟩:Y.cell? ⟨g,1,none⟩=some vf∧Y.frozen? ⟨g,1,none⟩=false∧g< Y.heap.size))
    clear hal hnb hne;go_wp2_with (at_builtin;refine Own.append (d:=iF) n rfl (.tmp 51) (.tmp 69) 39 108 _ 64 rfl Tryz.underlying39 sP rfl (by decide) (by decide) vf (M.imports.take j) x _ (fun k=>(ok k∧k< W.heap.size)∨n≤k) rfl (by rw [World.size_alloc];rfl) HK2.out HO1.out HNB.out HL9.out ?_;intro v1 w1 hown1 hg1 hat1;obtain ⟨A9,c9,rfl,hl9,hF9⟩:=Own.reads hown1;obtain ⟨q2,qf,ql⟩:=HMD.out _ hg1);have htk:M.imports.take (j+1)=M.imports.take j++ [x]:=by rw [List.take_add_one,HX.out];rfl
    have hlen9:(M.imports.take j++ [x]).length=j+1:=by rw [List.length_append,List.length_take];simp only [List.length_cons,List.length_nil];omega
    rw [hlen9]at hown1;have hbk:∀k,(Value.slice A9 (j+1) c9).ownBlock=some k→n≤k:=fun k hk=>(Own.block hown1 hk).1
    have hoz:=hown1.grown (bA w1 g 1 (.slice A9 (j+1) c9)) (.inr (fun e=>by have h1:=hbk g e;have h2:=HGn.out;omega)) (fun k hk e=>by injection e with e;have h2:=HGn.out;have h3:=HWg.out;rcases hk with hk|hk<;>omega);rw [←htk]at hoz;have HOZ:=Lib.hid hoz;have HMZ:=Lib.hid ((Blk.grown (HMb.out.alloc (.cells #[.string x.m, .string x.n, .int .i64 x.kind, .int .u32 x.ty, .int .u32 x.lim.1, .int .u32 x.lim.2.1, .bool x.lim.2.2, .int .u8 x.glob.1, .bool x.glob.2] 105)) hg1 (fun e=>by have h1:=HNE.out g e.symm;have h2:=HGn.out;omega)).set 1 (.slice A9 (j+1) c9));have HGZ:=Lib.hid ((bC (gK HG.out (.cells #[.string x.m, .string x.n, .int .i64 x.kind, .int .u32 x.ty, .int .u32 x.lim.1, .int .u32 x.lim.2.1, .bool x.lim.2.2, .int .u8 x.glob.1, .bool x.glob.2] 105)) hg1 (fun k hk=> .inr (by rw [←HYtofaiocffifhfaaGreat.out];exact HNE.out k hk))).trans (bA w1 g 1 (.slice A9 (j+1) c9)));clear hown1 hg1 hat1 hl9 hF9 htk hbk hoz;go_wp2_with fail;go_roundw
    case rel=>exact ⟨j+1,by omega,by go_num,_,HOZ,HMZ,HGZ⟩
    case measure=>simp [intOf];omega
   ·obtain rfl:j=M.imports.length:=by omega
    go_wp2_with fail;go_meet;have hown:=HO.out;rw [List.take_length]at hown;have hst:=HR0.out.step (kU HG.out (fun k hk=>by have h1:=hk.2;have h2:=HWg.out;omega));exact ⟨g,rfl,hle,HB0.out.grown HG.out HB0.out.size (fun k e=>by injection e with e;omega),_,_,_,_,_,_,_,_,_,{HN0.out.up with n1:=fun h=>absurd h (by decide)},HMb.out,{hst with r1:=kS hown HN1.out HGn.out}⟩
 case rest=>
 obtain ⟨g,rfl,hle,HS⟩:=hcut;have hpw:=HP.out.below HS.out.1 lp;have pk:wc.cell? ⟨W.heap.size,6,none⟩=some (.slice A6 M.exports.length c6):=by have h:=hpw.cell 6;rw [HV6.out]at h;exact h
 have pl:=hpw.lt;clear hpw;go_upto_block 4 with fail;go_cut [3] (fun s3 wx=>∃(g:Nat),s3= .pointer (some ⟨g,0,none⟩)∧W1.heap.size≤g∧Hid (PSt 3 (fun k=>ok k∧k< W.heap.size) W1 g wx (⟨M.types,M.imports,M.tables,M.mems, [],M.exports,M.starts,M.start, [], [], [], []⟩:df) []))
 case first=>
  obtain ⟨hB0,y0,y1,y2,y3,y4,y5,y6,y9,y10,hN0,hblk0,hR0⟩:=HS.out;obtain rfl:=hN0.n6 (by decide);have HN0:=Lib.hid hN0;have HB0:=Lib.hid hB0;have HK0:=Lib.hid hblk0;have HR0:=Lib.hid hR0;have hgl:=hblk0.lt;obtain ⟨n,hn⟩:∃n,n=wc.heap.size:=⟨_,rfl⟩;have HGn:=Lib.hid (show g< n by omega);have HWg:=Lib.hid (show W.heap.size< g by omega);have h1n:=hB0.size;have HN1:=Lib.hid (show W1.heap.size≤n by omega);have HYtofaiocffifhfaaGreat:=Lib.hid hn;have HF:=Lib.hid (Ft.step HF6.out (Agr.of_below hB0));clear hB0 hN0 hblk0 hR0 HS pk pl hgl hn h1n;go_wp2_with fail;go_loopw [76] (fun i wr=>∃(j:Nat) (vf:Value),j≤M.exports.length∧i= .int .i64 j∧Hid (Own iB 111 wr n (fun k=>(ok k∧k< W.heap.size)∨n≤k) vf (M.exports.take j))∧Hid (Blk wr g #[y0,y1,y2,y3,y4,y5,vf, .bool M.starts, .int .u32 M.start,y9,y10] 47)∧Hid (wc.grownBy wr (some g))) (fun i _=>M.exports.length - (intOf i).toNat)
  case atStart=>exact ⟨0, .slice none 0 0,Nat.zero_le _,rfl,Own.nil,HK0.out,World.grownBy.refl _ _⟩
  case round=>
   obtain ⟨j,vf,hj,rfl,HO,HMb,HG⟩:=hrel;have hzr:=HG.out.size;rw [←HYtofaiocffifhfaaGreat.out]at hzr;have HFr:=Lib.hid (Ft.step HF.out (bS HG.out (fun k hk e=>by injection e with e;have h1:=hk.2;have h2:=HWg.out;omega)));have hll:=HLN6.out;by_cases hlt:j< M.exports.length
   ·have hlt2:(j:Int)<(M.exports.length:Int):=by omega
    obtain ⟨b,o,x,cs,hA,hx,hk,hc⟩:=FC.at_ HFr.out (show 0< 3 by decide) j hlt;obtain rfl:=nL hk;have hszk:iB.sz=3:=rfl;have d0:=hc 0 _ rfl;have d1:=hc 1 _ rfl;have d2:=hc 2 _ rfl;simp only [hszk,Nat.add_zero]at d0 d1 d2;have hbl:=World.block_lt_of_cell? _ _ d0;simp only at hbl;have hmb:=HMb.out;have kc:=hmb.cell 6;have kl:=hmb.lt;have HX:=Lib.hid hx.out;have HKx:=Lib.hid hk;have hne:∀k,vf.ownBlock=some k→n≤k:=fun k hk=>(Own.block HO.out hk).1
    have HNE:=Lib.hid hne;clear hx hk hc hmb hszk;have hal:Below wr.heap.size wr (wr.alloc (.cells #[.string x.n, .int .i64 x.kind, .int .u32 x.ix] 110)):=(Below.refl _ _).alloc (Nat.le_refl _) _;have HK2:=Lib.hid (show FK iB (wr.alloc (.cells #[.string x.n, .int .i64 x.kind, .int .u32 x.ix] 110)) (fun k=>((ok k∧k< W.heap.size)∨n≤k)∧some k≠vf.ownBlock) x (List.toArray _).toList from Ft.mono (Ft.below HKx.out hal) (fun k hk=>⟨.inl hk,fun e=>by have h1:=hne k e.symm;have h2:=hk.2;have h3:=HWg.out;have h4:=HGn.out;omega⟩));have HO1:=Lib.hid (HO.out.below hal);have hnb:n≤(wr.alloc (.cells #[.string x.n, .int .i64 x.kind, .int .u32 x.ix] 110)).heap.size:=by rw [World.size_alloc];omega
    have HNB:=Lib.hid hnb;have HL9:=Lib.hid (show ((M.exports.take j).length+1) * 32≤140737488355328 from by have h:=HLN6.out;rw [List.length_take];omega)
    have HMD:=Lib.hid (fun Y (h:World.grownBy (wr.alloc (.cells #[.string x.n, .int .i64 x.kind, .int .u32 x.ix] 110)) Y vf.ownBlock)=>(by
     have hb:Blk Y g #[y0,y1,y2,y3,y4,y5,vf, .bool M.starts, .int .u32 M.start,y9,y10] 47:=Blk.grown (HMb.out.alloc _) h (fun e=>by have h1:=HNE.out g e.symm;have h2:=HGn.out;omega)
     exact ⟨hb.cell 6,hb.frozen 6,hb.lt⟩:Y.cell? ⟨g,6,none⟩=some vf∧Y.frozen? ⟨g,6,none⟩=false∧g< Y.heap.size))
    clear hal hnb hne;go_wp2_with (at_builtin;refine Own.append (d:=iB) n rfl (.tmp 81) (.tmp 83) 43 111 _ 32 rfl Tryz.underlying43 sN rfl (by decide) (by decide) vf (M.exports.take j) x _ (fun k=>(ok k∧k< W.heap.size)∨n≤k) rfl (by rw [World.size_alloc];rfl) HK2.out HO1.out HNB.out HL9.out ?_;intro v1 w1 hown1 hg1 hat1;obtain ⟨A9,c9,rfl,hl9,hF9⟩:=Own.reads hown1;obtain ⟨q2,qf,ql⟩:=HMD.out _ hg1);have htk:M.exports.take (j+1)=M.exports.take j++ [x]:=by rw [List.take_add_one,HX.out];rfl
    have hlen9:(M.exports.take j++ [x]).length=j+1:=by rw [List.length_append,List.length_take];simp only [List.length_cons,List.length_nil];omega
    rw [hlen9]at hown1;have hbk:∀k,(Value.slice A9 (j+1) c9).ownBlock=some k→n≤k:=fun k hk=>(Own.block hown1 hk).1
    have hoz:=hown1.grown (bA w1 g 6 (.slice A9 (j+1) c9)) (.inr (fun e=>by have h1:=hbk g e;have h2:=HGn.out;omega)) (fun k hk e=>by injection e with e;have h2:=HGn.out;have h3:=HWg.out;rcases hk with hk|hk<;>omega);rw [←htk]at hoz;have HOZ:=Lib.hid hoz;have HMZ:=Lib.hid ((Blk.grown (HMb.out.alloc (.cells #[.string x.n, .int .i64 x.kind, .int .u32 x.ix] 110)) hg1 (fun e=>by have h1:=HNE.out g e.symm;have h2:=HGn.out;omega)).set 6 (.slice A9 (j+1) c9));have HGZ:=Lib.hid ((bC (gK HG.out (.cells #[.string x.n, .int .i64 x.kind, .int .u32 x.ix] 110)) hg1 (fun k hk=> .inr (by rw [←HYtofaiocffifhfaaGreat.out];exact HNE.out k hk))).trans (bA w1 g 6 (.slice A9 (j+1) c9)));clear hown1 hg1 hat1 hl9 hF9 htk hbk hoz;go_wp2_with fail;go_roundw
    case rel=>exact ⟨j+1,by omega,by go_num,_,HOZ,HMZ,HGZ⟩
    case measure=>simp [intOf];omega
   ·obtain rfl:j=M.exports.length:=by omega
    go_wp2_with fail;go_meet;have hown:=HO.out;rw [List.take_length]at hown;have hst:=HR0.out.step (kU HG.out (fun k hk=>by have h1:=hk.2;have h2:=HWg.out;omega));exact ⟨g,rfl,hle,HB0.out.grown HG.out HB0.out.size (fun k e=>by injection e with e;omega),_,_,_,_,_,_,_,_,_,{HN0.out.up with n6:=fun h=>absurd h (by decide)},HMb.out,{hst with r6:=kS hown HN1.out HGn.out}⟩
 case rest=>
 obtain ⟨g,rfl,hle,HS⟩:=hcut;have hpw:=HP.out.below HS.out.1 lp;have pk:wc.cell? ⟨W.heap.size,2,none⟩=some (.slice A2 fns.length c2):=by have h:=hpw.cell 2;rw [HV2.out]at h;exact h
 have pl:=hpw.lt;clear hpw;go_upto_block 6 with fail;go_cut [3] (fun s3 wx=>∃(g:Nat),s3= .pointer (some ⟨g,0,none⟩)∧W1.heap.size≤g∧Hid (PSt 4 (fun k=>ok k∧k< W.heap.size) W1 g wx (⟨M.types,M.imports,M.tables,M.mems, [],M.exports,M.starts,M.start, [], [], [], []⟩:df) fns))
 case first=>
  obtain ⟨hB0,y0,y1,y2,y3,y4,y5,y6,y9,y10,hN0,hblk0,hR0⟩:=HS.out;obtain rfl:=hN0.n2 (by decide);have HN0:=Lib.hid hN0;have HB0:=Lib.hid hB0;have HK0:=Lib.hid hblk0;have HR0:=Lib.hid hR0;have hgl:=hblk0.lt;obtain ⟨n,hn⟩:∃n,n=wc.heap.size:=⟨_,rfl⟩;have HGn:=Lib.hid (show g< n by omega);have HWg:=Lib.hid (show W.heap.size< g by omega);have h1n:=hB0.size;have HN1:=Lib.hid (show W1.heap.size≤n by omega);have HYtofaiocffifhfaaGreat:=Lib.hid hn;have HF:=Lib.hid (Ft.step HF2.out (Agr.of_below hB0));clear hB0 hN0 hblk0 hR0 HS pk pl hgl hn h1n;go_wp2_with fail;go_loopw [90] (fun i wr=>∃(j:Nat) (vf:Value),j≤fns.length∧i= .int .i64 j∧Hid (Own jo 87 wr n (fun k=>(ok k∧k< W.heap.size)∨n≤k) vf (fns.take j))∧Hid (Blk wr g #[y0,y1,vf,y3,y4,y5,y6, .bool M.starts, .int .u32 M.start,y9,y10] 47)∧Hid (wc.grownBy wr (some g))) (fun i _=>fns.length - (intOf i).toNat)
  case atStart=>exact ⟨0, .slice none 0 0,Nat.zero_le _,rfl,Own.nil,HK0.out,World.grownBy.refl _ _⟩
  case round=>
   obtain ⟨j,vf,hj,rfl,HO,HMb,HG⟩:=hrel;have hzr:=HG.out.size;rw [←HYtofaiocffifhfaaGreat.out]at hzr;have HFr:=Lib.hid (Ft.step HF.out (bS HG.out (fun k hk e=>by injection e with e;have h1:=hk.2;have h2:=HWg.out;omega)));have hll:=HLN2.out;by_cases hlt:j< fns.length
   ·have hlt2:(j:Int)<(fns.length:Int):=by omega
    obtain ⟨b,o,x,cs,hA,hx,hk,hc⟩:=FC.at_ HFr.out (show 0< 3 by decide) j hlt;obtain ⟨AL,cL,AB,cB,rfl,hlL,hFL,hlB,hFB⟩:=uj hk;have hszk:kFn.sz=3:=rfl;have d0:=hc 0 _ rfl;have d1:=hc 1 _ rfl;have d2:=hc 2 _ rfl;simp only [hszk,Nat.add_zero]at d0 d1 d2;have hbl:=World.block_lt_of_cell? _ _ d0;simp only at hbl;have hmb:=HMb.out;have kc:=hmb.cell 2;have kl:=hmb.lt;have HX:=Lib.hid hx.out;have HKx:=Lib.hid hk;have hne:∀k,vf.ownBlock=some k→n≤k:=fun k hk=>(Own.block HO.out hk).1
    have HNE:=Lib.hid hne;clear hx hk hc hmb hszk;have HWF:=Lib.hid (Jm HKx.out);have HBK:=Lib.hid (HBK2.out x (List.mem_of_getElem? HX.out));have HFB:=Lib.hid (eu (ed hFB (.cells #[.int .u32 x.ty, .slice AL x.loc.length cL, .slice AB x.body.length cB] 75)));have HLB:=Lib.hid hlB;have HFL:=Lib.hid (eu (ed hFL (.cells #[.int .u32 x.ty, .slice AL x.loc.length cL, .slice AB x.body.length cB] 75)));have HLL:=Lib.hid hlL;clear hFL hlL;clear hFB hlB hne;have HF9:=Lib.hid (Blk.new wr #[.int .u32 x.ty, .slice AL x.loc.length cL, .slice AB x.body.length cB] 75).drew;have HM9:=Lib.hid (HMb.out.alloc (.cells #[.int .u32 x.ty, .slice AL x.loc.length cL, .slice AB x.body.length cB] 75)).drew;have HO9:=Lib.hid (HO.out.below (bH (aY (Below.refl wr.heap.size wr) (.cells #[.int .u32 x.ty, .slice AL x.loc.length cL, .slice AB x.body.length cB] 75))));have HG9:=Lib.hid (lu (gK HG.out (.cells #[.int .u32 x.ty, .slice AL x.loc.length cL, .slice AB x.body.length cB] 75)));have hzw:(wr.alloc (.cells #[.int .u32 x.ty, .slice AL x.loc.length cL, .slice AB x.body.length cB] 75)).drew.heap.size=wr.heap.size+1:=World.size_alloc _ _;have HZW:=Lib.hid hzw;clear hzw;go_wp2_with fail;generalize wr.alloc (.cells #[.int .u32 x.ty, .slice AL x.loc.length cL, .slice AB x.body.length cB] 75)=X at *;have hnx:n≤X.drew.heap.size:=by have h:=HZW.out;omega
    have HNX:=Lib.hid hnx;have hPl:=mg _ x.body (Nat.le_refl _) HBK.out _ X.drew AB cB HFB.out;have HPl:=Lib.hid hPl;clear hPl hnx d0 d1 d2 kc kl hbl;refine wp_region_noPanic ?_;refine dI (fun w' =>Blk w' wr.heap.size #[.int .u32 x.ty, .slice AL x.loc.length cL, .slice AB x.body.length cB] 75∧Blk w' g #[y0,y1,vf,y3,y4,y5,y6, .bool M.starts, .int .u32 M.start,y9,y10] 47) (fun i=>i==13) (by kernel_rfl) ⟨HF9.out,HM9.out⟩ (fun hHeld=> ?_);refine aC (i:=0) (oi:= ?_) (v:= ?_) ?_ (by kernel_rfl) (by kernel_rfl) (by kernel_rfl) (by kernel_rfl) (fun _ _ _ h=>h) (Or.inl ⟨?_, ?_⟩) hHeld ?_;rotate_left 2
    ·simp only [List.getElem?_toArray,List.getElem?_cons_succ,List.getElem?_cons_zero];exact rfl
    ·rfl
    ·(intro w hSw;go_simp;try with_reducible rfl)
    refine aC (i:=1) (oi:= ?_) (v:= ?_) ?_ (by kernel_rfl) (by kernel_rfl) (by kernel_rfl) (by kernel_rfl) (fun _ _ _ h=>h) (Or.inl ⟨?_, ?_⟩) hHeld ?_;rotate_left 2
    ·simp only [List.getElem?_toArray,List.getElem?_cons_succ,List.getElem?_cons_zero];exact rfl
    ·rfl
    ·(intro w hSw;have e:=(show w.cell? ⟨_,2,none⟩=some _ from Blk.cell hSw.2 2);go_simp;try with_reducible rfl)
    refine aC (i:=2) (oi:= ?_) (v:= ?_) ?_ (by kernel_rfl) (by kernel_rfl) (by kernel_rfl) (by kernel_rfl) (fun _ _ _ h=>h) (Or.inl ⟨?_, ?_⟩) hHeld ?_;rotate_left 2
    ·simp only [List.getElem?_toArray,List.getElem?_cons_succ,List.getElem?_cons_zero];exact rfl
    ·rfl
    ·(intro w hSw;go_simp;try with_reducible rfl)
    refine aC (i:=3) (oi:= ?_) (v:= ?_) ?_ (by kernel_rfl) (by kernel_rfl) (by kernel_rfl) (by kernel_rfl) (fun _ _ _ h=>h) (Or.inl ⟨?_, ?_⟩) hHeld ?_;rotate_left 2
    ·simp only [List.getElem?_toArray,List.getElem?_cons_succ,List.getElem?_cons_zero];exact rfl
    ·rfl
    ·(intro w hSw;have e:=(show w.cell? ⟨_,0,none⟩=some _ from Blk.cell hSw.1 0);go_simp;try with_reducible rfl)
    refine aC (i:=4) (oi:= ?_) (v:= ?_) ?_ (by kernel_rfl) (by kernel_rfl) (by kernel_rfl) (by kernel_rfl) (fun _ _ _ h=>h) (Or.inl ⟨?_, ?_⟩) hHeld ?_;rotate_left 2
    ·simp only [List.getElem?_toArray,List.getElem?_cons_succ,List.getElem?_cons_zero];exact rfl
    ·rfl
    ·(intro w hSw;go_simp;try with_reducible rfl)
    refine aC (i:=5) (oi:= ?_) (v:= ?_) ?_ (by kernel_rfl) (by kernel_rfl) (by kernel_rfl) (by kernel_rfl) (fun _ _ _ h=>h) (Or.inl ⟨?_, ?_⟩) hHeld ?_;rotate_left 2
    ·simp only [List.getElem?_toArray,List.getElem?_cons_succ,List.getElem?_cons_zero];exact rfl
    ·rfl
    ·(intro w hSw;have e:=(show w.cell? ⟨_,1,none⟩=some _ from Blk.cell hSw.1 1);go_simp;try with_reducible rfl)
    refine aC (i:=6) (oi:= ?_) (v:= ?_) ?_ (by kernel_rfl) (by kernel_rfl) (by kernel_rfl) (by kernel_rfl) (fun _ _ _ h=>h) (Or.inl ⟨?_, ?_⟩) hHeld ?_;rotate_left 2
    ·simp only [List.getElem?_toArray,List.getElem?_cons_succ,List.getElem?_cons_zero];exact rfl
    ·rfl
    ·(intro w hSw;go_simp;try with_reducible rfl)
    refine aC (i:=7) (oi:= ?_) (v:= ?_) ?_ (by kernel_rfl) (by kernel_rfl) (by kernel_rfl) (by kernel_rfl) (fun _ _ _ h=>h) (Or.inl ⟨?_, ?_⟩) hHeld ?_;rotate_left 2
    ·simp only [List.getElem?_toArray,List.getElem?_cons_succ,List.getElem?_cons_zero];exact rfl
    ·rfl
    ·(intro w hSw;have e:=(show w.cell? ⟨_,2,none⟩=some _ from Blk.cell hSw.1 2);go_simp;try with_reducible rfl)
    refine aP (i:=8) (o:= ?_) (by kernel_rfl) ?_ rfl (fun K hK=> ?_);rotate_left
    ·simp only [List.getElem?_toArray,List.getElem?_cons_succ,List.getElem?_cons_zero];exact rfl
    go_simp;refine HPl.out.mono ?_;rintro E W2 ⟨hB2,AE,cE,rfl,hl2,hF2⟩;have HM2:=Lib.hid (HM9.out.below hB2 HM9.out.lt);have hH2:=hHeld.1.below hB2 hHeld.1.lt;go_wp2_with fail;refine hK.out _ _ ⟨hH2,HM2.out⟩ (fun hHeld=> ?_);clear hK K;try simp only [Act.put,List.setIfInBounds_toArray,List.set_cons_zero,List.set_cons_succ]
    have hs2:=hB2.size;have HO2:=Lib.hid (HO9.out.below hB2);have HN2:=Lib.hid (show n≤W2.heap.size by have h:=HNX.out;omega);have hvb:∀k,vf.ownBlock=some k→k< X.drew.heap.size:=fun k hk=>by have h:=(Own.block HO.out hk).2;have h2:=HZW.out;omega
    have hFB2:FC kR W2 (fun k=>((ok k∧k< W.heap.size)∨n≤k)∧some k≠vf.ownBlock) AE x.body:=Ft.mono hF2 (fun k hk=>by
     rcases hk with hk|hk
     ·exact ⟨.inl hk,fun e=>by have h1:=HNE.out k e.symm;have h2:=hk.2;have h3:=HWg.out;have h4:=HGn.out;omega⟩
     ·exact ⟨.inr (by have h:=HNX.out;omega),fun e=>by have h1:=hvb k e.symm;omega⟩)
    have hFL2:FC (rng .u8) W2 (fun k=>((ok k∧k< W.heap.size)∨n≤k)∧some k≠vf.ownBlock) AL x.loc:=Ft.mono (Ft.below HFL.out hB2) (fun k hk=>⟨.inl hk,fun e=>by have h1:=HNE.out k e.symm;have h2:=hk.2;have h3:=HWg.out;have h4:=HGn.out;omega⟩);have HFK:=Lib.hid (show FK jo W2 (fun k=>((ok k∧k< W.heap.size)∨n≤k)∧some k≠vf.ownBlock) x [.int .u32 x.ty, .slice AL x.loc.length cL, .slice AE x.body.length cE]from CJ HWF.out hFL2 HLL.out hFB2 hl2);have HL9:=Lib.hid (show ((fns.take j).length+1) * 56≤140737488355328 from by have h:=HLN2.out;rw [List.length_take];omega)
    have HMD:=Lib.hid (fun Y (h:W2.grownBy Y vf.ownBlock)=>(by
     have hb:Blk Y g #[y0,y1,vf,y3,y4,y5,y6, .bool M.starts, .int .u32 M.start,y9,y10] 47:=Blk.grown HM2.out h (fun e=>by have h1:=HNE.out g e.symm;have h2:=HGn.out;omega)
     exact ⟨hb.cell 2,hb.frozen 2,hb.lt⟩:Y.cell? ⟨g,2,none⟩=some vf∧Y.frozen? ⟨g,2,none⟩=false∧g< Y.heap.size))
    have HBX:=Lib.hid (show some wr.heap.size≠vf.ownBlock from fun e=>by have h:=(Own.block HO.out e.symm).2;omega);have HBV:=Lib.hid (show some g≠vf.ownBlock from fun e=>by have h1:=HNE.out g e.symm;have h2:=HGn.out;omega);have HBG:=Lib.hid (show wr.heap.size≠g from by have h:=HMb.out.lt;omega);have HB2:=Lib.hid hB2;clear hFB2 hFL2 hvb hs2 hl2 hF2 hB2;refine aC (i:=9) (oi:= ?_) (v:= ?_) ?_ (by kernel_rfl) (by kernel_rfl) (by kernel_rfl) (by kernel_rfl) (fun _ _ _ h=>h) (Or.inl ⟨?_, ?_⟩) hHeld ?_;rotate_left 2
    ·simp only [List.getElem?_toArray,List.getElem?_cons_succ,List.getElem?_cons_zero];exact rfl
    ·rfl
    ·(intro w hSw;go_simp;try with_reducible rfl)
    refine aP (i:=10) (o:= ?_) (by kernel_rfl) ?_ rfl (fun K hK=> ?_);rotate_left
    ·simp only [List.getElem?_toArray,List.getElem?_cons_succ,List.getElem?_cons_zero];exact rfl
    go_simp;refine hK.out _ _ ⟨hHeld.1.alloc _,hHeld.2.alloc _⟩ (fun hHeld=> ?_);clear hK K;try simp only [Act.put,List.setIfInBounds_toArray,List.set_cons_zero,List.set_cons_succ]
    refine aP (i:=11) (o:= ?_) (by kernel_rfl) ?_ rfl (fun K hK=> ?_);rotate_left
    ·simp only [List.getElem?_toArray,List.getElem?_cons_succ,List.getElem?_cons_zero];exact rfl
    refine Own.bY (d:=jo) n rfl (.tmp 95) (.tmp 104) 40 87 _ 56 rfl Tryz.underlying40 wP rfl (by decide) (by decide) vf (fns.take j) x [.int .u32 x.ty, .slice AL x.loc.length cL, .slice AE x.body.length cE] (fun k=>(ok k∧k< W.heap.size)∨n≤k) rfl rfl HFK.out HO2.out HN2.out HL9.out ?_;intro v1 w1 hown1 hg1 hat1;obtain ⟨A9,c9,rfl,hl9,hF9⟩:=Own.reads hown1;obtain ⟨q2,qf,ql⟩:=HMD.out _ hg1;refine hK.out _ _ ⟨Blk.grown hH2 hg1 HBX.out,Blk.grown HM2.out hg1 HBV.out⟩ (fun hHeld=> ?_);clear hK K;try simp only [Act.put,List.setIfInBounds_toArray,List.set_cons_zero,List.set_cons_succ]
    refine aC (i:=12) (oi:= ?_) (v:= ?_) ?_ (by kernel_rfl) (by kernel_rfl) (by kernel_rfl) (by kernel_rfl) (fun _ _ _ h=>h) (Or.inl ⟨?_, ?_⟩) hHeld ?_;rotate_left 2
    ·simp only [List.getElem?_toArray,List.getElem?_cons_succ,List.getElem?_cons_zero];exact rfl
    ·rfl
    ·(intro w hSw;go_simp;try with_reducible rfl)
    refine fG (i:=13) (o:= ?_) (by kernel_rfl) ?_ rfl (fun K hK=> ?_);rotate_left
    ·simp only [List.getElem?_toArray,List.getElem?_cons_succ,List.getElem?_cons_zero];exact rfl
    go_simp;refine hK.out _ _ ?_;clear hK K;try simp only [Act.put,List.setIfInBounds_toArray,List.set_cons_zero,List.set_cons_succ]
    refine eQ (by kernel_rfl) ?_ _;refine NoPanic.normal ?_;have htk:fns.take (j+1)=fns.take j++ [x]:=by rw [List.take_add_one,HX.out];rfl
    have hlen9:(fns.take j++ [x]).length=j+1:=by rw [List.length_append,List.length_take];simp only [List.length_cons,List.length_nil];omega
    rw [hlen9]at hown1;have hbk:∀k,(Value.slice A9 (j+1) c9).ownBlock=some k→n≤k:=fun k hk=>(Own.block hown1 hk).1
    have hoz:=hown1.grown (bA w1 g 2 (.slice A9 (j+1) c9)) (.inr (fun e=>by have h1:=hbk g e;have h2:=HGn.out;omega)) (fun k hk e=>by injection e with e;have h2:=HGn.out;have h3:=HWg.out;rcases hk with hk|hk<;>omega);rw [←htk]at hoz;have HOZ:=Lib.hid hoz;have HMZ:=Lib.hid ((Blk.grown HM2.out hg1 (fun e=>by have h1:=HNE.out g e.symm;have h2:=HGn.out;omega)).set 2 (.slice A9 (j+1) c9));have HGZ:=Lib.hid ((bC (bC HG9.out (aL HB2.out none) (fun k e=>by cases e)) hg1 (fun k hk=> .inr (by rw [←HYtofaiocffifhfaaGreat.out];exact HNE.out k hk))).trans (bA w1 g 2 (.slice A9 (j+1) c9)));clear hown1 hg1 hat1 hl9 hF9 htk hbk hoz hHeld hH2 q2 qf ql;go_wp2_with fail;go_roundw
    case rel=>
     subst hA
     (repeat apply Exists.intro)
     refine ⟨?_,rfl⟩;exact ⟨j+1, .slice A9 (j+1) c9,by omega,by go_num,HOZ,HMZ,HGZ⟩
    case measure=>simp [intOf];omega
   ·obtain rfl:j=fns.length:=by omega
    go_wp2_with fail;go_meet;have hown:=HO.out;rw [List.take_length]at hown;have hst:=HR0.out.step (kU HG.out (fun k hk=>by have h1:=hk.2;have h2:=HWg.out;omega));exact ⟨g,rfl,hle,HB0.out.grown HG.out HB0.out.size (fun k e=>by injection e with e;omega),_,_,_,_,_,_,_,_,_,{HN0.out.up with n2:=fun h=>absurd h (by decide)},HMb.out,{hst with r2:=kS hown HN1.out HGn.out}⟩
 case rest=>
 obtain ⟨g,rfl,hle,HS⟩:=hcut;have hpw:=HP.out.below HS.out.1 lp;have pk:wc.cell? ⟨W.heap.size,5,none⟩=some (.slice A5 M.globals.length c5):=by have h:=hpw.cell 5;rw [HV5.out]at h;exact h
 have pl:=hpw.lt;clear hpw;go_upto_block 8 with fail;go_cut [3] (fun s3 wx=>∃(g:Nat),s3= .pointer (some ⟨g,0,none⟩)∧W1.heap.size≤g∧Hid (PSt 5 (fun k=>ok k∧k< W.heap.size) W1 g wx (⟨M.types,M.imports,M.tables,M.mems,M.globals,M.exports,M.starts,M.start, [], [], [], []⟩:df) fns))
 case first=>
  obtain ⟨hB0,y0,y1,y2,y3,y4,y5,y6,y9,y10,hN0,hblk0,hR0⟩:=HS.out;obtain rfl:=hN0.n5 (by decide);have HN0:=Lib.hid hN0;have HB0:=Lib.hid hB0;have HK0:=Lib.hid hblk0;have HR0:=Lib.hid hR0;have hgl:=hblk0.lt;obtain ⟨n,hn⟩:∃n,n=wc.heap.size:=⟨_,rfl⟩;have HGn:=Lib.hid (show g< n by omega);have HWg:=Lib.hid (show W.heap.size< g by omega);have h1n:=hB0.size;have HN1:=Lib.hid (show W1.heap.size≤n by omega);have HYtofaiocffifhfaaGreat:=Lib.hid hn;have HF:=Lib.hid (Ft.step HF5.out (Agr.of_below hB0));clear hB0 hN0 hblk0 hR0 HS pk pl hgl hn h1n;go_wp2_with fail;go_loopw [111] (fun i wr=>∃(j:Nat) (vf:Value),j≤M.globals.length∧i= .int .i64 j∧Hid (Own gH 116 wr n (fun k=>(ok k∧k< W.heap.size)∨n≤k) vf (M.globals.take j))∧Hid (Blk wr g #[y0,y1,y2,y3,y4,vf,y6, .bool M.starts, .int .u32 M.start,y9,y10] 47)∧Hid (wc.grownBy wr (some g))) (fun i _=>M.globals.length - (intOf i).toNat)
  case atStart=>exact ⟨0, .slice none 0 0,Nat.zero_le _,rfl,Own.nil,HK0.out,World.grownBy.refl _ _⟩
  case round=>
   obtain ⟨j,vf,hj,rfl,HO,HMb,HG⟩:=hrel;have hzr:=HG.out.size;rw [←HYtofaiocffifhfaaGreat.out]at hzr;have HFr:=Lib.hid (Ft.step HF.out (bS HG.out (fun k hk e=>by injection e with e;have h1:=hk.2;have h2:=HWg.out;omega)));have hll:=HLN5.out;by_cases hlt:j< M.globals.length
   ·have hlt2:(j:Int)<(M.globals.length:Int):=by omega
    obtain ⟨b,o,x,cs,hA,hx,hk,hc⟩:=FC.at_ HFr.out (show 0< 3 by decide) j hlt;obtain ⟨AB,cB,rfl,hlB,hFB⟩:=sD hk;have hszk:ja.sz=3:=rfl;have d0:=hc 0 _ rfl;have d1:=hc 1 _ rfl;have d2:=hc 2 _ rfl;simp only [hszk,Nat.add_zero]at d0 d1 d2;have hbl:=World.block_lt_of_cell? _ _ d0;simp only at hbl;have hmb:=HMb.out;have kc:=hmb.cell 5;have kl:=hmb.lt;have HX:=Lib.hid hx.out;have HKx:=Lib.hid hk;have hne:∀k,vf.ownBlock=some k→n≤k:=fun k hk=>(Own.block HO.out hk).1
    have HNE:=Lib.hid hne;clear hx hk hc hmb hszk;have HWF:=Lib.hid (Gs HKx.out);have HBK:=Lib.hid (HBK5.out x (List.mem_of_getElem? HX.out));have HFB:=Lib.hid (eu (ed hFB (.cells #[.int .u8 x.ty.1, .bool x.ty.2, .slice AB x.init.length cB] 114)));have HLB:=Lib.hid hlB;clear hFB hlB hne;have HF9:=Lib.hid (Blk.new wr #[.int .u8 x.ty.1, .bool x.ty.2, .slice AB x.init.length cB] 114).drew;have HM9:=Lib.hid (HMb.out.alloc (.cells #[.int .u8 x.ty.1, .bool x.ty.2, .slice AB x.init.length cB] 114)).drew;have HO9:=Lib.hid (HO.out.below (bH (aY (Below.refl wr.heap.size wr) (.cells #[.int .u8 x.ty.1, .bool x.ty.2, .slice AB x.init.length cB] 114))));have HG9:=Lib.hid (lu (gK HG.out (.cells #[.int .u8 x.ty.1, .bool x.ty.2, .slice AB x.init.length cB] 114)));have hzw:(wr.alloc (.cells #[.int .u8 x.ty.1, .bool x.ty.2, .slice AB x.init.length cB] 114)).drew.heap.size=wr.heap.size+1:=World.size_alloc _ _;have HZW:=Lib.hid hzw;clear hzw;go_wp2_with fail;generalize wr.alloc (.cells #[.int .u8 x.ty.1, .bool x.ty.2, .slice AB x.init.length cB] 114)=X at *;have hnx:n≤X.drew.heap.size:=by have h:=HZW.out;omega
    have HNX:=Lib.hid hnx;have hPl:=mg _ x.init (Nat.le_refl _) HBK.out _ X.drew AB cB HFB.out;have HPl:=Lib.hid hPl;clear hPl hnx d0 d1 d2 kc kl hbl;refine wp_region_noPanic ?_;refine dI (fun w' =>Blk w' wr.heap.size #[.int .u8 x.ty.1, .bool x.ty.2, .slice AB x.init.length cB] 114∧Blk w' g #[y0,y1,y2,y3,y4,vf,y6, .bool M.starts, .int .u32 M.start,y9,y10] 47) (fun i=>i==15) (by kernel_rfl) ⟨HF9.out,HM9.out⟩ (fun hHeld=> ?_);refine aC (i:=0) (oi:= ?_) (v:= ?_) ?_ (by kernel_rfl) (by kernel_rfl) (by kernel_rfl) (by kernel_rfl) (fun _ _ _ h=>h) (Or.inl ⟨?_, ?_⟩) hHeld ?_;rotate_left 2
    ·simp only [List.getElem?_toArray,List.getElem?_cons_succ,List.getElem?_cons_zero];exact rfl
    ·rfl
    ·(intro w hSw;go_simp;try with_reducible rfl)
    refine aC (i:=1) (oi:= ?_) (v:= ?_) ?_ (by kernel_rfl) (by kernel_rfl) (by kernel_rfl) (by kernel_rfl) (fun _ _ _ h=>h) (Or.inl ⟨?_, ?_⟩) hHeld ?_;rotate_left 2
    ·simp only [List.getElem?_toArray,List.getElem?_cons_succ,List.getElem?_cons_zero];exact rfl
    ·rfl
    ·(intro w hSw;have e:=(show w.cell? ⟨_,5,none⟩=some _ from Blk.cell hSw.2 5);go_simp;try with_reducible rfl)
    refine aC (i:=2) (oi:= ?_) (v:= ?_) ?_ (by kernel_rfl) (by kernel_rfl) (by kernel_rfl) (by kernel_rfl) (fun _ _ _ h=>h) (Or.inl ⟨?_, ?_⟩) hHeld ?_;rotate_left 2
    ·simp only [List.getElem?_toArray,List.getElem?_cons_succ,List.getElem?_cons_zero];exact rfl
    ·rfl
    ·(intro w hSw;go_simp;try with_reducible rfl)
    refine aC (i:=3) (oi:= ?_) (v:= ?_) ?_ (by kernel_rfl) (by kernel_rfl) (by kernel_rfl) (by kernel_rfl) (fun _ _ _ h=>h) (Or.inl ⟨?_, ?_⟩) hHeld ?_;rotate_left 2
    ·simp only [List.getElem?_toArray,List.getElem?_cons_succ,List.getElem?_cons_zero];exact rfl
    ·rfl
    ·(intro w hSw;go_simp;try with_reducible rfl)
    refine aC (i:=4) (oi:= ?_) (v:= ?_) ?_ (by kernel_rfl) (by kernel_rfl) (by kernel_rfl) (by kernel_rfl) (fun _ _ _ h=>h) (Or.inl ⟨?_, ?_⟩) hHeld ?_;rotate_left 2
    ·simp only [List.getElem?_toArray,List.getElem?_cons_succ,List.getElem?_cons_zero];exact rfl
    ·rfl
    ·(intro w hSw;have e:=(show w.cell? ⟨_,0,none⟩=some _ from Blk.cell hSw.1 0);go_simp;try with_reducible rfl)
    refine aC (i:=5) (oi:= ?_) (v:= ?_) ?_ (by kernel_rfl) (by kernel_rfl) (by kernel_rfl) (by kernel_rfl) (fun _ _ _ h=>h) (Or.inl ⟨?_, ?_⟩) hHeld ?_;rotate_left 2
    ·simp only [List.getElem?_toArray,List.getElem?_cons_succ,List.getElem?_cons_zero];exact rfl
    ·rfl
    ·(intro w hSw;go_simp;try with_reducible rfl)
    refine aC (i:=6) (oi:= ?_) (v:= ?_) ?_ (by kernel_rfl) (by kernel_rfl) (by kernel_rfl) (by kernel_rfl) (fun _ _ _ h=>h) (Or.inl ⟨?_, ?_⟩) hHeld ?_;rotate_left 2
    ·simp only [List.getElem?_toArray,List.getElem?_cons_succ,List.getElem?_cons_zero];exact rfl
    ·rfl
    ·(intro w hSw;go_simp;try with_reducible rfl)
    refine aC (i:=7) (oi:= ?_) (v:= ?_) ?_ (by kernel_rfl) (by kernel_rfl) (by kernel_rfl) (by kernel_rfl) (fun _ _ _ h=>h) (Or.inl ⟨?_, ?_⟩) hHeld ?_;rotate_left 2
    ·simp only [List.getElem?_toArray,List.getElem?_cons_succ,List.getElem?_cons_zero];exact rfl
    ·rfl
    ·(intro w hSw;have e:=(show w.cell? ⟨_,1,none⟩=some _ from Blk.cell hSw.1 1);go_simp;try with_reducible rfl)
    refine aC (i:=8) (oi:= ?_) (v:= ?_) ?_ (by kernel_rfl) (by kernel_rfl) (by kernel_rfl) (by kernel_rfl) (fun _ _ _ h=>h) (Or.inl ⟨?_, ?_⟩) hHeld ?_;rotate_left 2
    ·simp only [List.getElem?_toArray,List.getElem?_cons_succ,List.getElem?_cons_zero];exact rfl
    ·rfl
    ·(intro w hSw;go_simp;try with_reducible rfl)
    refine aC (i:=9) (oi:= ?_) (v:= ?_) ?_ (by kernel_rfl) (by kernel_rfl) (by kernel_rfl) (by kernel_rfl) (fun _ _ _ h=>h) (Or.inl ⟨?_, ?_⟩) hHeld ?_;rotate_left 2
    ·simp only [List.getElem?_toArray,List.getElem?_cons_succ,List.getElem?_cons_zero];exact rfl
    ·rfl
    ·(intro w hSw;have e:=(show w.cell? ⟨_,2,none⟩=some _ from Blk.cell hSw.1 2);go_simp;try with_reducible rfl)
    refine aP (i:=10) (o:= ?_) (by kernel_rfl) ?_ rfl (fun K hK=> ?_);rotate_left
    ·simp only [List.getElem?_toArray,List.getElem?_cons_succ,List.getElem?_cons_zero];exact rfl
    go_simp;refine HPl.out.mono ?_;rintro E W2 ⟨hB2,AE,cE,rfl,hl2,hF2⟩;have HM2:=Lib.hid (HM9.out.below hB2 HM9.out.lt);have hH2:=hHeld.1.below hB2 hHeld.1.lt;go_wp2_with fail;refine hK.out _ _ ⟨hH2,HM2.out⟩ (fun hHeld=> ?_);clear hK K;try simp only [Act.put,List.setIfInBounds_toArray,List.set_cons_zero,List.set_cons_succ]
    have hs2:=hB2.size;have HO2:=Lib.hid (HO9.out.below hB2);have HN2:=Lib.hid (show n≤W2.heap.size by have h:=HNX.out;omega);have hvb:∀k,vf.ownBlock=some k→k< X.drew.heap.size:=fun k hk=>by have h:=(Own.block HO.out hk).2;have h2:=HZW.out;omega
    have hFB2:FC kR W2 (fun k=>((ok k∧k< W.heap.size)∨n≤k)∧some k≠vf.ownBlock) AE x.init:=Ft.mono hF2 (fun k hk=>by
     rcases hk with hk|hk
     ·exact ⟨.inl hk,fun e=>by have h1:=HNE.out k e.symm;have h2:=hk.2;have h3:=HWg.out;have h4:=HGn.out;omega⟩
     ·exact ⟨.inr (by have h:=HNX.out;omega),fun e=>by have h1:=hvb k e.symm;omega⟩)
    have HFK:=Lib.hid (show FK gH W2 (fun k=>((ok k∧k< W.heap.size)∨n≤k)∧some k≠vf.ownBlock) x [.int .u8 x.ty.1, .bool x.ty.2, .slice AE x.init.length cE]from vS HWF.out hFB2 hl2);have HL9:=Lib.hid (show ((M.globals.take j).length+1) * 32≤140737488355328 from by have h:=HLN5.out;rw [List.length_take];omega)
    have HMD:=Lib.hid (fun Y (h:W2.grownBy Y vf.ownBlock)=>(by
     have hb:Blk Y g #[y0,y1,y2,y3,y4,vf,y6, .bool M.starts, .int .u32 M.start,y9,y10] 47:=Blk.grown HM2.out h (fun e=>by have h1:=HNE.out g e.symm;have h2:=HGn.out;omega)
     exact ⟨hb.cell 5,hb.frozen 5,hb.lt⟩:Y.cell? ⟨g,5,none⟩=some vf∧Y.frozen? ⟨g,5,none⟩=false∧g< Y.heap.size))
    have HBX:=Lib.hid (show some wr.heap.size≠vf.ownBlock from fun e=>by have h:=(Own.block HO.out e.symm).2;omega);have HBV:=Lib.hid (show some g≠vf.ownBlock from fun e=>by have h1:=HNE.out g e.symm;have h2:=HGn.out;omega);have HBG:=Lib.hid (show wr.heap.size≠g from by have h:=HMb.out.lt;omega);have HB2:=Lib.hid hB2;clear hFB2  hvb hs2 hl2 hF2 hB2;refine aC (i:=11) (oi:= ?_) (v:= ?_) ?_ (by kernel_rfl) (by kernel_rfl) (by kernel_rfl) (by kernel_rfl) (fun _ _ _ h=>h) (Or.inl ⟨?_, ?_⟩) hHeld ?_;rotate_left 2
    ·simp only [List.getElem?_toArray,List.getElem?_cons_succ,List.getElem?_cons_zero];exact rfl
    ·rfl
    ·(intro w hSw;go_simp;try with_reducible rfl)
    refine aP (i:=12) (o:= ?_) (by kernel_rfl) ?_ rfl (fun K hK=> ?_);rotate_left
    ·simp only [List.getElem?_toArray,List.getElem?_cons_succ,List.getElem?_cons_zero];exact rfl
    go_simp;refine hK.out _ _ ⟨hHeld.1.alloc _,hHeld.2.alloc _⟩ (fun hHeld=> ?_);clear hK K;try simp only [Act.put,List.setIfInBounds_toArray,List.set_cons_zero,List.set_cons_succ]
    refine aP (i:=13) (o:= ?_) (by kernel_rfl) ?_ rfl (fun K hK=> ?_);rotate_left
    ·simp only [List.getElem?_toArray,List.getElem?_cons_succ,List.getElem?_cons_zero];exact rfl
    refine Own.bY (d:=gH) n rfl (.tmp 116) (.tmp 127) 42 116 _ 32 rfl Tryz.underlying42 rz rfl (by decide) (by decide) vf (M.globals.take j) x [.int .u8 x.ty.1, .bool x.ty.2, .slice AE x.init.length cE] (fun k=>(ok k∧k< W.heap.size)∨n≤k) rfl rfl HFK.out HO2.out HN2.out HL9.out ?_;intro v1 w1 hown1 hg1 hat1;obtain ⟨A9,c9,rfl,hl9,hF9⟩:=Own.reads hown1;obtain ⟨q2,qf,ql⟩:=HMD.out _ hg1;refine hK.out _ _ ⟨Blk.grown hH2 hg1 HBX.out,Blk.grown HM2.out hg1 HBV.out⟩ (fun hHeld=> ?_);clear hK K;try simp only [Act.put,List.setIfInBounds_toArray,List.set_cons_zero,List.set_cons_succ]
    refine aC (i:=14) (oi:= ?_) (v:= ?_) ?_ (by kernel_rfl) (by kernel_rfl) (by kernel_rfl) (by kernel_rfl) (fun _ _ _ h=>h) (Or.inl ⟨?_, ?_⟩) hHeld ?_;rotate_left 2
    ·simp only [List.getElem?_toArray,List.getElem?_cons_succ,List.getElem?_cons_zero];exact rfl
    ·rfl
    ·(intro w hSw;go_simp;try with_reducible rfl)
    refine fG (i:=15) (o:= ?_) (by kernel_rfl) ?_ rfl (fun K hK=> ?_);rotate_left
    ·simp only [List.getElem?_toArray,List.getElem?_cons_succ,List.getElem?_cons_zero];exact rfl
    go_simp;refine hK.out _ _ ?_;clear hK K;try simp only [Act.put,List.setIfInBounds_toArray,List.set_cons_zero,List.set_cons_succ]
    refine eQ (by kernel_rfl) ?_ _;refine NoPanic.normal ?_;have htk:M.globals.take (j+1)=M.globals.take j++ [x]:=by rw [List.take_add_one,HX.out];rfl
    have hlen9:(M.globals.take j++ [x]).length=j+1:=by rw [List.length_append,List.length_take];simp only [List.length_cons,List.length_nil];omega
    rw [hlen9]at hown1;have hbk:∀k,(Value.slice A9 (j+1) c9).ownBlock=some k→n≤k:=fun k hk=>(Own.block hown1 hk).1
    have hoz:=hown1.grown (bA w1 g 5 (.slice A9 (j+1) c9)) (.inr (fun e=>by have h1:=hbk g e;have h2:=HGn.out;omega)) (fun k hk e=>by injection e with e;have h2:=HGn.out;have h3:=HWg.out;rcases hk with hk|hk<;>omega);rw [←htk]at hoz;have HOZ:=Lib.hid hoz;have HMZ:=Lib.hid ((Blk.grown HM2.out hg1 (fun e=>by have h1:=HNE.out g e.symm;have h2:=HGn.out;omega)).set 5 (.slice A9 (j+1) c9));have HGZ:=Lib.hid ((bC (bC HG9.out (aL HB2.out none) (fun k e=>by cases e)) hg1 (fun k hk=> .inr (by rw [←HYtofaiocffifhfaaGreat.out];exact HNE.out k hk))).trans (bA w1 g 5 (.slice A9 (j+1) c9)));clear hown1 hg1 hat1 hl9 hF9 htk hbk hoz hHeld hH2 q2 qf ql;go_wp2_with fail;go_roundw
    case rel=>
     subst hA
     (repeat apply Exists.intro)
     refine ⟨?_,rfl⟩;exact ⟨j+1, .slice A9 (j+1) c9,by omega,by go_num,HOZ,HMZ,HGZ⟩
    case measure=>simp [intOf];omega
   ·obtain rfl:j=M.globals.length:=by omega
    go_wp2_with fail;go_meet;have hown:=HO.out;rw [List.take_length]at hown;have hst:=HR0.out.step (kU HG.out (fun k hk=>by have h1:=hk.2;have h2:=HWg.out;omega));exact ⟨g,rfl,hle,HB0.out.grown HG.out HB0.out.size (fun k e=>by injection e with e;omega),_,_,_,_,_,_,_,_,_,{HN0.out.up with n5:=fun h=>absurd h (by decide)},HMb.out,{hst with r5:=kS hown HN1.out HGn.out}⟩
 case rest=>
 obtain ⟨g,rfl,hle,HS⟩:=hcut;have hpw:=HP.out.below HS.out.1 lp;have pk:wc.cell? ⟨W.heap.size,9,none⟩=some (.slice A9 M.elems.length c9):=by have h:=hpw.cell 9;rw [HV9.out]at h;exact h
 have pl:=hpw.lt;clear hpw;go_upto_block 10 with fail;go_cut [3] (fun s3 wx=>∃(g:Nat),s3= .pointer (some ⟨g,0,none⟩)∧W1.heap.size≤g∧Hid (PSt 6 (fun k=>ok k∧k< W.heap.size) W1 g wx (⟨M.types,M.imports,M.tables,M.mems,M.globals,M.exports,M.starts,M.start,M.elems, [], [], []⟩:df) fns))
 case first=>
  obtain ⟨hB0,y0,y1,y2,y3,y4,y5,y6,y9,y10,hN0,hblk0,hR0⟩:=HS.out;obtain rfl:=hN0.n9 (by decide);have HN0:=Lib.hid hN0;have HB0:=Lib.hid hB0;have HK0:=Lib.hid hblk0;have HR0:=Lib.hid hR0;have hgl:=hblk0.lt;obtain ⟨n,hn⟩:∃n,n=wc.heap.size:=⟨_,rfl⟩;have HGn:=Lib.hid (show g< n by omega);have HWg:=Lib.hid (show W.heap.size< g by omega);have h1n:=hB0.size;have HN1:=Lib.hid (show W1.heap.size≤n by omega);have HYtofaiocffifhfaaGreat:=Lib.hid hn;have HF:=Lib.hid (Ft.step HF9.out (Agr.of_below hB0));clear hB0 hN0 hblk0 hR0 HS pk pl hgl hn h1n;go_wp2_with fail;go_loopw [134] (fun i wr=>∃(j:Nat) (vf:Value),j≤M.elems.length∧i= .int .i64 j∧Hid (Own iE 92 wr n (fun k=>(ok k∧k< W.heap.size)∨n≤k) vf (M.elems.take j))∧Hid (Blk wr g #[y0,y1,y2,y3,y4,y5,y6, .bool M.starts, .int .u32 M.start,vf,y10] 47)∧Hid (wc.grownBy wr (some g))) (fun i _=>M.elems.length - (intOf i).toNat)
  case atStart=>exact ⟨0, .slice none 0 0,Nat.zero_le _,rfl,Own.nil,HK0.out,World.grownBy.refl _ _⟩
  case round=>
   obtain ⟨j,vf,hj,rfl,HO,HMb,HG⟩:=hrel;have hzr:=HG.out.size;rw [←HYtofaiocffifhfaaGreat.out]at hzr;have HFr:=Lib.hid (Ft.step HF.out (bS HG.out (fun k hk e=>by injection e with e;have h1:=hk.2;have h2:=HWg.out;omega)));have hll:=HLN9.out;by_cases hlt:j< M.elems.length
   ·have hlt2:(j:Int)<(M.elems.length:Int):=by omega
    obtain ⟨b,o,x,cs,hA,hx,hk,hc⟩:=FC.at_ HFr.out (show 0< 3 by decide) j hlt;obtain ⟨AB,cB,AL,cL,rfl,hlB,hFB,hlL,hFL⟩:=sG hk;have hszk:jc.sz=3:=rfl;have d0:=hc 0 _ rfl;have d1:=hc 1 _ rfl;have d2:=hc 2 _ rfl;simp only [hszk,Nat.add_zero]at d0 d1 d2;have hbl:=World.block_lt_of_cell? _ _ d0;simp only at hbl;have hmb:=HMb.out;have kc:=hmb.cell 9;have kl:=hmb.lt;have HX:=Lib.hid hx.out;have HKx:=Lib.hid hk;have hne:∀k,vf.ownBlock=some k→n≤k:=fun k hk=>(Own.block HO.out hk).1
    have HNE:=Lib.hid hne;clear hx hk hc hmb hszk;have HWF:=Lib.hid (GI HKx.out);have HBK:=Lib.hid (HBK9.out x (List.mem_of_getElem? HX.out));have HFB:=Lib.hid (eu (ed hFB (.cells #[.int .u32 x.tab, .slice AB x.off.length cB, .slice AL x.fns.length cL] 118)));have HLB:=Lib.hid hlB;have HFL:=Lib.hid (eu (ed hFL (.cells #[.int .u32 x.tab, .slice AB x.off.length cB, .slice AL x.fns.length cL] 118)));have HLL:=Lib.hid hlL;clear hFL hlL;clear hFB hlB hne;have HF9:=Lib.hid (Blk.new wr #[.int .u32 x.tab, .slice AB x.off.length cB, .slice AL x.fns.length cL] 118).drew;have HM9:=Lib.hid (HMb.out.alloc (.cells #[.int .u32 x.tab, .slice AB x.off.length cB, .slice AL x.fns.length cL] 118)).drew;have HO9:=Lib.hid (HO.out.below (bH (aY (Below.refl wr.heap.size wr) (.cells #[.int .u32 x.tab, .slice AB x.off.length cB, .slice AL x.fns.length cL] 118))));have HG9:=Lib.hid (lu (gK HG.out (.cells #[.int .u32 x.tab, .slice AB x.off.length cB, .slice AL x.fns.length cL] 118)));have hzw:(wr.alloc (.cells #[.int .u32 x.tab, .slice AB x.off.length cB, .slice AL x.fns.length cL] 118)).drew.heap.size=wr.heap.size+1:=World.size_alloc _ _;have HZW:=Lib.hid hzw;clear hzw;go_wp2_with fail;generalize wr.alloc (.cells #[.int .u32 x.tab, .slice AB x.off.length cB, .slice AL x.fns.length cL] 118)=X at *;have hnx:n≤X.drew.heap.size:=by have h:=HZW.out;omega
    have HNX:=Lib.hid hnx;have hPl:=mg _ x.off (Nat.le_refl _) HBK.out _ X.drew AB cB HFB.out;have HPl:=Lib.hid hPl;clear hPl hnx d0 d1 d2 kc kl hbl;refine wp_region_noPanic ?_;refine dI (fun w' =>Blk w' wr.heap.size #[.int .u32 x.tab, .slice AB x.off.length cB, .slice AL x.fns.length cL] 118∧Blk w' g #[y0,y1,y2,y3,y4,y5,y6, .bool M.starts, .int .u32 M.start,vf,y10] 47) (fun i=>i==13) (by kernel_rfl) ⟨HF9.out,HM9.out⟩ (fun hHeld=> ?_);refine aC (i:=0) (oi:= ?_) (v:= ?_) ?_ (by kernel_rfl) (by kernel_rfl) (by kernel_rfl) (by kernel_rfl) (fun _ _ _ h=>h) (Or.inl ⟨?_, ?_⟩) hHeld ?_;rotate_left 2
    ·simp only [List.getElem?_toArray,List.getElem?_cons_succ,List.getElem?_cons_zero];exact rfl
    ·rfl
    ·(intro w hSw;go_simp;try with_reducible rfl)
    refine aC (i:=1) (oi:= ?_) (v:= ?_) ?_ (by kernel_rfl) (by kernel_rfl) (by kernel_rfl) (by kernel_rfl) (fun _ _ _ h=>h) (Or.inl ⟨?_, ?_⟩) hHeld ?_;rotate_left 2
    ·simp only [List.getElem?_toArray,List.getElem?_cons_succ,List.getElem?_cons_zero];exact rfl
    ·rfl
    ·(intro w hSw;have e:=(show w.cell? ⟨_,9,none⟩=some _ from Blk.cell hSw.2 9);go_simp;try with_reducible rfl)
    refine aC (i:=2) (oi:= ?_) (v:= ?_) ?_ (by kernel_rfl) (by kernel_rfl) (by kernel_rfl) (by kernel_rfl) (fun _ _ _ h=>h) (Or.inl ⟨?_, ?_⟩) hHeld ?_;rotate_left 2
    ·simp only [List.getElem?_toArray,List.getElem?_cons_succ,List.getElem?_cons_zero];exact rfl
    ·rfl
    ·(intro w hSw;go_simp;try with_reducible rfl)
    refine aC (i:=3) (oi:= ?_) (v:= ?_) ?_ (by kernel_rfl) (by kernel_rfl) (by kernel_rfl) (by kernel_rfl) (fun _ _ _ h=>h) (Or.inl ⟨?_, ?_⟩) hHeld ?_;rotate_left 2
    ·simp only [List.getElem?_toArray,List.getElem?_cons_succ,List.getElem?_cons_zero];exact rfl
    ·rfl
    ·(intro w hSw;have e:=(show w.cell? ⟨_,0,none⟩=some _ from Blk.cell hSw.1 0);go_simp;try with_reducible rfl)
    refine aC (i:=4) (oi:= ?_) (v:= ?_) ?_ (by kernel_rfl) (by kernel_rfl) (by kernel_rfl) (by kernel_rfl) (fun _ _ _ h=>h) (Or.inl ⟨?_, ?_⟩) hHeld ?_;rotate_left 2
    ·simp only [List.getElem?_toArray,List.getElem?_cons_succ,List.getElem?_cons_zero];exact rfl
    ·rfl
    ·(intro w hSw;go_simp;try with_reducible rfl)
    refine aC (i:=5) (oi:= ?_) (v:= ?_) ?_ (by kernel_rfl) (by kernel_rfl) (by kernel_rfl) (by kernel_rfl) (fun _ _ _ h=>h) (Or.inl ⟨?_, ?_⟩) hHeld ?_;rotate_left 2
    ·simp only [List.getElem?_toArray,List.getElem?_cons_succ,List.getElem?_cons_zero];exact rfl
    ·rfl
    ·(intro w hSw;have e:=(show w.cell? ⟨_,1,none⟩=some _ from Blk.cell hSw.1 1);go_simp;try with_reducible rfl)
    refine aC (i:=7) (oi:= ?_) (v:= ?_) ?_ (by kernel_rfl) (by kernel_rfl) (by kernel_rfl) (by kernel_rfl) (fun _ _ _ h=>h) (Or.inl ⟨?_, ?_⟩) hHeld ?_;rotate_left 2
    ·simp only [List.getElem?_toArray,List.getElem?_cons_succ,List.getElem?_cons_zero];exact rfl
    ·rfl
    ·(intro w hSw;go_simp;try with_reducible rfl)
    refine aC (i:=8) (oi:= ?_) (v:= ?_) ?_ (by kernel_rfl) (by kernel_rfl) (by kernel_rfl) (by kernel_rfl) (fun _ _ _ h=>h) (Or.inl ⟨?_, ?_⟩) hHeld ?_;rotate_left 2
    ·simp only [List.getElem?_toArray,List.getElem?_cons_succ,List.getElem?_cons_zero];exact rfl
    ·rfl
    ·(intro w hSw;have e:=(show w.cell? ⟨_,2,none⟩=some _ from Blk.cell hSw.1 2);go_simp;try with_reducible rfl)
    refine aP (i:=6) (o:= ?_) (by kernel_rfl) ?_ rfl (fun K hK=> ?_);rotate_left
    ·simp only [List.getElem?_toArray,List.getElem?_cons_succ,List.getElem?_cons_zero];exact rfl
    go_simp;refine HPl.out.mono ?_;rintro E W2 ⟨hB2,AE,cE,rfl,hl2,hF2⟩;have HM2:=Lib.hid (HM9.out.below hB2 HM9.out.lt);have hH2:=hHeld.1.below hB2 hHeld.1.lt;go_wp2_with fail;refine hK.out _ _ ⟨hH2,HM2.out⟩ (fun hHeld=> ?_);clear hK K;try simp only [Act.put,List.setIfInBounds_toArray,List.set_cons_zero,List.set_cons_succ]
    have hs2:=hB2.size;have HO2:=Lib.hid (HO9.out.below hB2);have HN2:=Lib.hid (show n≤W2.heap.size by have h:=HNX.out;omega);have hvb:∀k,vf.ownBlock=some k→k< X.drew.heap.size:=fun k hk=>by have h:=(Own.block HO.out hk).2;have h2:=HZW.out;omega
    have hFB2:FC kR W2 (fun k=>((ok k∧k< W.heap.size)∨n≤k)∧some k≠vf.ownBlock) AE x.off:=Ft.mono hF2 (fun k hk=>by
     rcases hk with hk|hk
     ·exact ⟨.inl hk,fun e=>by have h1:=HNE.out k e.symm;have h2:=hk.2;have h3:=HWg.out;have h4:=HGn.out;omega⟩
     ·exact ⟨.inr (by have h:=HNX.out;omega),fun e=>by have h1:=hvb k e.symm;omega⟩)
    have hFL2:FC (rng .u32) W2 (fun k=>((ok k∧k< W.heap.size)∨n≤k)∧some k≠vf.ownBlock) AL x.fns:=Ft.mono (Ft.below HFL.out hB2) (fun k hk=>⟨.inl hk,fun e=>by have h1:=HNE.out k e.symm;have h2:=hk.2;have h3:=HWg.out;have h4:=HGn.out;omega⟩);have HFK:=Lib.hid (show FK iE W2 (fun k=>((ok k∧k< W.heap.size)∨n≤k)∧some k≠vf.ownBlock) x [.int .u32 x.tab, .slice AE x.off.length cE, .slice AL x.fns.length cL]from vN HWF.out hFB2 hl2 hFL2 HLL.out);have HL9:=Lib.hid (show ((M.elems.take j).length+1) * 56≤140737488355328 from by have h:=HLN9.out;rw [List.length_take];omega)
    have HMD:=Lib.hid (fun Y (h:W2.grownBy Y vf.ownBlock)=>(by
     have hb:Blk Y g #[y0,y1,y2,y3,y4,y5,y6, .bool M.starts, .int .u32 M.start,vf,y10] 47:=Blk.grown HM2.out h (fun e=>by have h1:=HNE.out g e.symm;have h2:=HGn.out;omega)
     exact ⟨hb.cell 9,hb.frozen 9,hb.lt⟩:Y.cell? ⟨g,9,none⟩=some vf∧Y.frozen? ⟨g,9,none⟩=false∧g< Y.heap.size))
    have HBX:=Lib.hid (show some wr.heap.size≠vf.ownBlock from fun e=>by have h:=(Own.block HO.out e.symm).2;omega);have HBV:=Lib.hid (show some g≠vf.ownBlock from fun e=>by have h1:=HNE.out g e.symm;have h2:=HGn.out;omega);have HBG:=Lib.hid (show wr.heap.size≠g from by have h:=HMb.out.lt;omega);have HB2:=Lib.hid hB2;clear hFB2 hFL2 hvb hs2 hl2 hF2 hB2;refine aC (i:=9) (oi:= ?_) (v:= ?_) ?_ (by kernel_rfl) (by kernel_rfl) (by kernel_rfl) (by kernel_rfl) (fun _ _ _ h=>h) (Or.inl ⟨?_, ?_⟩) hHeld ?_;rotate_left 2
    ·simp only [List.getElem?_toArray,List.getElem?_cons_succ,List.getElem?_cons_zero];exact rfl
    ·rfl
    ·(intro w hSw;go_simp;try with_reducible rfl)
    refine aP (i:=10) (o:= ?_) (by kernel_rfl) ?_ rfl (fun K hK=> ?_);rotate_left
    ·simp only [List.getElem?_toArray,List.getElem?_cons_succ,List.getElem?_cons_zero];exact rfl
    go_simp;refine hK.out _ _ ⟨hHeld.1.alloc _,hHeld.2.alloc _⟩ (fun hHeld=> ?_);clear hK K;try simp only [Act.put,List.setIfInBounds_toArray,List.set_cons_zero,List.set_cons_succ]
    refine aP (i:=11) (o:= ?_) (by kernel_rfl) ?_ rfl (fun K hK=> ?_);rotate_left
    ·simp only [List.getElem?_toArray,List.getElem?_cons_succ,List.getElem?_cons_zero];exact rfl
    refine Own.bY (d:=iE) n rfl (.tmp 139) (.tmp 148) 44 92 _ 56 rfl Tryz.underlying44 qI rfl (by decide) (by decide) vf (M.elems.take j) x [.int .u32 x.tab, .slice AE x.off.length cE, .slice AL x.fns.length cL] (fun k=>(ok k∧k< W.heap.size)∨n≤k) rfl rfl HFK.out HO2.out HN2.out HL9.out ?_;intro v1 w1 hown1 hg1 hat1;obtain ⟨A9,c9,rfl,hl9,hF9⟩:=Own.reads hown1;obtain ⟨q2,qf,ql⟩:=HMD.out _ hg1;refine hK.out _ _ ⟨Blk.grown hH2 hg1 HBX.out,Blk.grown HM2.out hg1 HBV.out⟩ (fun hHeld=> ?_);clear hK K;try simp only [Act.put,List.setIfInBounds_toArray,List.set_cons_zero,List.set_cons_succ]
    refine aC (i:=12) (oi:= ?_) (v:= ?_) ?_ (by kernel_rfl) (by kernel_rfl) (by kernel_rfl) (by kernel_rfl) (fun _ _ _ h=>h) (Or.inl ⟨?_, ?_⟩) hHeld ?_;rotate_left 2
    ·simp only [List.getElem?_toArray,List.getElem?_cons_succ,List.getElem?_cons_zero];exact rfl
    ·rfl
    ·(intro w hSw;go_simp;try with_reducible rfl)
    refine fG (i:=13) (o:= ?_) (by kernel_rfl) ?_ rfl (fun K hK=> ?_);rotate_left
    ·simp only [List.getElem?_toArray,List.getElem?_cons_succ,List.getElem?_cons_zero];exact rfl
    go_simp;refine hK.out _ _ ?_;clear hK K;try simp only [Act.put,List.setIfInBounds_toArray,List.set_cons_zero,List.set_cons_succ]
    refine eQ (by kernel_rfl) ?_ _;refine NoPanic.normal ?_;have htk:M.elems.take (j+1)=M.elems.take j++ [x]:=by rw [List.take_add_one,HX.out];rfl
    have hlen9:(M.elems.take j++ [x]).length=j+1:=by rw [List.length_append,List.length_take];simp only [List.length_cons,List.length_nil];omega
    rw [hlen9]at hown1;have hbk:∀k,(Value.slice A9 (j+1) c9).ownBlock=some k→n≤k:=fun k hk=>(Own.block hown1 hk).1
    have hoz:=hown1.grown (bA w1 g 9 (.slice A9 (j+1) c9)) (.inr (fun e=>by have h1:=hbk g e;have h2:=HGn.out;omega)) (fun k hk e=>by injection e with e;have h2:=HGn.out;have h3:=HWg.out;rcases hk with hk|hk<;>omega);rw [←htk]at hoz;have HOZ:=Lib.hid hoz;have HMZ:=Lib.hid ((Blk.grown HM2.out hg1 (fun e=>by have h1:=HNE.out g e.symm;have h2:=HGn.out;omega)).set 9 (.slice A9 (j+1) c9));have HGZ:=Lib.hid ((bC (bC HG9.out (aL HB2.out none) (fun k e=>by cases e)) hg1 (fun k hk=> .inr (by rw [←HYtofaiocffifhfaaGreat.out];exact HNE.out k hk))).trans (bA w1 g 9 (.slice A9 (j+1) c9)));clear hown1 hg1 hat1 hl9 hF9 htk hbk hoz hHeld hH2 q2 qf ql;go_wp2_with fail;go_roundw
    case rel=>
     subst hA
     (repeat apply Exists.intro)
     refine ⟨?_,rfl⟩;exact ⟨j+1, .slice A9 (j+1) c9,by omega,by go_num,HOZ,HMZ,HGZ⟩
    case measure=>simp [intOf];omega
   ·obtain rfl:j=M.elems.length:=by omega
    go_wp2_with fail;go_meet;have hown:=HO.out;rw [List.take_length]at hown;have hst:=HR0.out.step (kU HG.out (fun k hk=>by have h1:=hk.2;have h2:=HWg.out;omega));exact ⟨g,rfl,hle,HB0.out.grown HG.out HB0.out.size (fun k e=>by injection e with e;omega),_,_,_,_,_,_,_,_,_,{HN0.out.up with n9:=fun h=>absurd h (by decide)},HMb.out,{hst with r9:=kS hown HN1.out HGn.out}⟩
 case rest=>
 obtain ⟨g,rfl,hle,HS⟩:=hcut;have hpw:=HP.out.below HS.out.1 lp;have pk:wc.cell? ⟨W.heap.size,10,none⟩=some (.slice A10 M.datas.length c10):=by have h:=hpw.cell 10;rw [HV10.out]at h;exact h
 have pl:=hpw.lt;clear hpw;go_upto_block 12 with fail;go_cut [3] (fun s3 wx=>∃(g:Nat),s3= .pointer (some ⟨g,0,none⟩)∧W1.heap.size≤g∧Hid (PSt 7 (fun k=>ok k∧k< W.heap.size) W1 g wx (⟨M.types,M.imports,M.tables,M.mems,M.globals,M.exports,M.starts,M.start,M.elems,M.datas, [], []⟩:df) fns))
 case first=>
  obtain ⟨hB0,y0,y1,y2,y3,y4,y5,y6,y9,y10,hN0,hblk0,hR0⟩:=HS.out;obtain rfl:=hN0.n10 (by decide);have HN0:=Lib.hid hN0;have HB0:=Lib.hid hB0;have HK0:=Lib.hid hblk0;have HR0:=Lib.hid hR0;have hgl:=hblk0.lt;obtain ⟨n,hn⟩:∃n,n=wc.heap.size:=⟨_,rfl⟩;have HGn:=Lib.hid (show g< n by omega);have HWg:=Lib.hid (show W.heap.size< g by omega);have h1n:=hB0.size;have HN1:=Lib.hid (show W1.heap.size≤n by omega);have HYtofaiocffifhfaaGreat:=Lib.hid hn;have HF:=Lib.hid (Ft.step HF10.out (Agr.of_below hB0));clear hB0 hN0 hblk0 hR0 HS pk pl hgl hn h1n;go_wp2_with fail;go_loopw [155] (fun i wr=>∃(j:Nat) (vf:Value),j≤M.datas.length∧i= .int .i64 j∧Hid (Own iy 95 wr n (fun k=>(ok k∧k< W.heap.size)∨n≤k) vf (M.datas.take j))∧Hid (Blk wr g #[y0,y1,y2,y3,y4,y5,y6, .bool M.starts, .int .u32 M.start,y9,vf] 47)∧Hid (wc.grownBy wr (some g))) (fun i _=>M.datas.length - (intOf i).toNat)
  case atStart=>exact ⟨0, .slice none 0 0,Nat.zero_le _,rfl,Own.nil,HK0.out,World.grownBy.refl _ _⟩
  case round=>
   obtain ⟨j,vf,hj,rfl,HO,HMb,HG⟩:=hrel;have hzr:=HG.out.size;rw [←HYtofaiocffifhfaaGreat.out]at hzr;have HFr:=Lib.hid (Ft.step HF.out (bS HG.out (fun k hk e=>by injection e with e;have h1:=hk.2;have h2:=HWg.out;omega)));have hll:=HLN10.out;by_cases hlt:j< M.datas.length
   ·have hlt2:(j:Int)<(M.datas.length:Int):=by omega
    obtain ⟨b,o,x,cs,hA,hx,hk,hc⟩:=FC.at_ HFr.out (show 0< 3 by decide) j hlt;obtain ⟨AB,cB,AL,cL,rfl,hlB,hFB,hlL,hFL⟩:=sO hk;have hszk:iZ.sz=3:=rfl;have d0:=hc 0 _ rfl;have d1:=hc 1 _ rfl;have d2:=hc 2 _ rfl;simp only [hszk,Nat.add_zero]at d0 d1 d2;have hbl:=World.block_lt_of_cell? _ _ d0;simp only at hbl;have hmb:=HMb.out;have kc:=hmb.cell 10;have kl:=hmb.lt;have HX:=Lib.hid hx.out;have HKx:=Lib.hid hk;have hne:∀k,vf.ownBlock=some k→n≤k:=fun k hk=>(Own.block HO.out hk).1
    have HNE:=Lib.hid hne;clear hx hk hc hmb hszk;have HWF:=Lib.hid (GY HKx.out);have HBK:=Lib.hid (HBK10.out x (List.mem_of_getElem? HX.out));have HFB:=Lib.hid (eu (ed hFB (.cells #[.int .u32 x.mem, .slice AB x.off.length cB, .slice AL x.bts.length cL] 120)));have HLB:=Lib.hid hlB;have HFL:=Lib.hid (eu (ed hFL (.cells #[.int .u32 x.mem, .slice AB x.off.length cB, .slice AL x.bts.length cL] 120)));have HLL:=Lib.hid hlL;clear hFL hlL;clear hFB hlB hne;have HF9:=Lib.hid (Blk.new wr #[.int .u32 x.mem, .slice AB x.off.length cB, .slice AL x.bts.length cL] 120).drew;have HM9:=Lib.hid (HMb.out.alloc (.cells #[.int .u32 x.mem, .slice AB x.off.length cB, .slice AL x.bts.length cL] 120)).drew;have HO9:=Lib.hid (HO.out.below (bH (aY (Below.refl wr.heap.size wr) (.cells #[.int .u32 x.mem, .slice AB x.off.length cB, .slice AL x.bts.length cL] 120))));have HG9:=Lib.hid (lu (gK HG.out (.cells #[.int .u32 x.mem, .slice AB x.off.length cB, .slice AL x.bts.length cL] 120)));have hzw:(wr.alloc (.cells #[.int .u32 x.mem, .slice AB x.off.length cB, .slice AL x.bts.length cL] 120)).drew.heap.size=wr.heap.size+1:=World.size_alloc _ _;have HZW:=Lib.hid hzw;clear hzw;go_wp2_with fail;generalize wr.alloc (.cells #[.int .u32 x.mem, .slice AB x.off.length cB, .slice AL x.bts.length cL] 120)=X at *;have hnx:n≤X.drew.heap.size:=by have h:=HZW.out;omega
    have HNX:=Lib.hid hnx;have hPl:=mg _ x.off (Nat.le_refl _) HBK.out _ X.drew AB cB HFB.out;have HPl:=Lib.hid hPl;clear hPl hnx d0 d1 d2 kc kl hbl;refine wp_region_noPanic ?_;refine dI (fun w' =>Blk w' wr.heap.size #[.int .u32 x.mem, .slice AB x.off.length cB, .slice AL x.bts.length cL] 120∧Blk w' g #[y0,y1,y2,y3,y4,y5,y6, .bool M.starts, .int .u32 M.start,y9,vf] 47) (fun i=>i==13) (by kernel_rfl) ⟨HF9.out,HM9.out⟩ (fun hHeld=> ?_);refine aC (i:=0) (oi:= ?_) (v:= ?_) ?_ (by kernel_rfl) (by kernel_rfl) (by kernel_rfl) (by kernel_rfl) (fun _ _ _ h=>h) (Or.inl ⟨?_, ?_⟩) hHeld ?_;rotate_left 2
    ·simp only [List.getElem?_toArray,List.getElem?_cons_succ,List.getElem?_cons_zero];exact rfl
    ·rfl
    ·(intro w hSw;go_simp;try with_reducible rfl)
    refine aC (i:=1) (oi:= ?_) (v:= ?_) ?_ (by kernel_rfl) (by kernel_rfl) (by kernel_rfl) (by kernel_rfl) (fun _ _ _ h=>h) (Or.inl ⟨?_, ?_⟩) hHeld ?_;rotate_left 2
    ·simp only [List.getElem?_toArray,List.getElem?_cons_succ,List.getElem?_cons_zero];exact rfl
    ·rfl
    ·(intro w hSw;have e:=(show w.cell? ⟨_,10,none⟩=some _ from Blk.cell hSw.2 10);go_simp;try with_reducible rfl)
    refine aC (i:=2) (oi:= ?_) (v:= ?_) ?_ (by kernel_rfl) (by kernel_rfl) (by kernel_rfl) (by kernel_rfl) (fun _ _ _ h=>h) (Or.inl ⟨?_, ?_⟩) hHeld ?_;rotate_left 2
    ·simp only [List.getElem?_toArray,List.getElem?_cons_succ,List.getElem?_cons_zero];exact rfl
    ·rfl
    ·(intro w hSw;go_simp;try with_reducible rfl)
    refine aC (i:=3) (oi:= ?_) (v:= ?_) ?_ (by kernel_rfl) (by kernel_rfl) (by kernel_rfl) (by kernel_rfl) (fun _ _ _ h=>h) (Or.inl ⟨?_, ?_⟩) hHeld ?_;rotate_left 2
    ·simp only [List.getElem?_toArray,List.getElem?_cons_succ,List.getElem?_cons_zero];exact rfl
    ·rfl
    ·(intro w hSw;have e:=(show w.cell? ⟨_,0,none⟩=some _ from Blk.cell hSw.1 0);go_simp;try with_reducible rfl)
    refine aC (i:=4) (oi:= ?_) (v:= ?_) ?_ (by kernel_rfl) (by kernel_rfl) (by kernel_rfl) (by kernel_rfl) (fun _ _ _ h=>h) (Or.inl ⟨?_, ?_⟩) hHeld ?_;rotate_left 2
    ·simp only [List.getElem?_toArray,List.getElem?_cons_succ,List.getElem?_cons_zero];exact rfl
    ·rfl
    ·(intro w hSw;go_simp;try with_reducible rfl)
    refine aC (i:=5) (oi:= ?_) (v:= ?_) ?_ (by kernel_rfl) (by kernel_rfl) (by kernel_rfl) (by kernel_rfl) (fun _ _ _ h=>h) (Or.inl ⟨?_, ?_⟩) hHeld ?_;rotate_left 2
    ·simp only [List.getElem?_toArray,List.getElem?_cons_succ,List.getElem?_cons_zero];exact rfl
    ·rfl
    ·(intro w hSw;have e:=(show w.cell? ⟨_,1,none⟩=some _ from Blk.cell hSw.1 1);go_simp;try with_reducible rfl)
    refine aC (i:=7) (oi:= ?_) (v:= ?_) ?_ (by kernel_rfl) (by kernel_rfl) (by kernel_rfl) (by kernel_rfl) (fun _ _ _ h=>h) (Or.inl ⟨?_, ?_⟩) hHeld ?_;rotate_left 2
    ·simp only [List.getElem?_toArray,List.getElem?_cons_succ,List.getElem?_cons_zero];exact rfl
    ·rfl
    ·(intro w hSw;go_simp;try with_reducible rfl)
    refine aC (i:=8) (oi:= ?_) (v:= ?_) ?_ (by kernel_rfl) (by kernel_rfl) (by kernel_rfl) (by kernel_rfl) (fun _ _ _ h=>h) (Or.inl ⟨?_, ?_⟩) hHeld ?_;rotate_left 2
    ·simp only [List.getElem?_toArray,List.getElem?_cons_succ,List.getElem?_cons_zero];exact rfl
    ·rfl
    ·(intro w hSw;have e:=(show w.cell? ⟨_,2,none⟩=some _ from Blk.cell hSw.1 2);go_simp;try with_reducible rfl)
    refine aP (i:=6) (o:= ?_) (by kernel_rfl) ?_ rfl (fun K hK=> ?_);rotate_left
    ·simp only [List.getElem?_toArray,List.getElem?_cons_succ,List.getElem?_cons_zero];exact rfl
    go_simp;refine HPl.out.mono ?_;rintro E W2 ⟨hB2,AE,cE,rfl,hl2,hF2⟩;have HM2:=Lib.hid (HM9.out.below hB2 HM9.out.lt);have hH2:=hHeld.1.below hB2 hHeld.1.lt;go_wp2_with fail;refine hK.out _ _ ⟨hH2,HM2.out⟩ (fun hHeld=> ?_);clear hK K;try simp only [Act.put,List.setIfInBounds_toArray,List.set_cons_zero,List.set_cons_succ]
    have hs2:=hB2.size;have HO2:=Lib.hid (HO9.out.below hB2);have HN2:=Lib.hid (show n≤W2.heap.size by have h:=HNX.out;omega);have hvb:∀k,vf.ownBlock=some k→k< X.drew.heap.size:=fun k hk=>by have h:=(Own.block HO.out hk).2;have h2:=HZW.out;omega
    have hFB2:FC kR W2 (fun k=>((ok k∧k< W.heap.size)∨n≤k)∧some k≠vf.ownBlock) AE x.off:=Ft.mono hF2 (fun k hk=>by
     rcases hk with hk|hk
     ·exact ⟨.inl hk,fun e=>by have h1:=HNE.out k e.symm;have h2:=hk.2;have h3:=HWg.out;have h4:=HGn.out;omega⟩
     ·exact ⟨.inr (by have h:=HNX.out;omega),fun e=>by have h1:=hvb k e.symm;omega⟩)
    have hFL2:FC (rng .u8) W2 (fun k=>((ok k∧k< W.heap.size)∨n≤k)∧some k≠vf.ownBlock) AL x.bts:=Ft.mono (Ft.below HFL.out hB2) (fun k hk=>⟨.inl hk,fun e=>by have h1:=HNE.out k e.symm;have h2:=hk.2;have h3:=HWg.out;have h4:=HGn.out;omega⟩);have HFK:=Lib.hid (show FK iy W2 (fun k=>((ok k∧k< W.heap.size)∨n≤k)∧some k≠vf.ownBlock) x [.int .u32 x.mem, .slice AE x.off.length cE, .slice AL x.bts.length cL]from wh HWF.out hFB2 hl2 hFL2 HLL.out);have HL9:=Lib.hid (show ((M.datas.take j).length+1) * 56≤140737488355328 from by have h:=HLN10.out;rw [List.length_take];omega)
    have HMD:=Lib.hid (fun Y (h:W2.grownBy Y vf.ownBlock)=>(by
     have hb:Blk Y g #[y0,y1,y2,y3,y4,y5,y6, .bool M.starts, .int .u32 M.start,y9,vf] 47:=Blk.grown HM2.out h (fun e=>by have h1:=HNE.out g e.symm;have h2:=HGn.out;omega)
     exact ⟨hb.cell 10,hb.frozen 10,hb.lt⟩:Y.cell? ⟨g,10,none⟩=some vf∧Y.frozen? ⟨g,10,none⟩=false∧g< Y.heap.size))
    have HBX:=Lib.hid (show some wr.heap.size≠vf.ownBlock from fun e=>by have h:=(Own.block HO.out e.symm).2;omega);have HBV:=Lib.hid (show some g≠vf.ownBlock from fun e=>by have h1:=HNE.out g e.symm;have h2:=HGn.out;omega);have HBG:=Lib.hid (show wr.heap.size≠g from by have h:=HMb.out.lt;omega);have HB2:=Lib.hid hB2;clear hFB2 hFL2 hvb hs2 hl2 hF2 hB2;refine aC (i:=9) (oi:= ?_) (v:= ?_) ?_ (by kernel_rfl) (by kernel_rfl) (by kernel_rfl) (by kernel_rfl) (fun _ _ _ h=>h) (Or.inl ⟨?_, ?_⟩) hHeld ?_;rotate_left 2
    ·simp only [List.getElem?_toArray,List.getElem?_cons_succ,List.getElem?_cons_zero];exact rfl
    ·rfl
    ·(intro w hSw;go_simp;try with_reducible rfl)
    refine aP (i:=10) (o:= ?_) (by kernel_rfl) ?_ rfl (fun K hK=> ?_);rotate_left
    ·simp only [List.getElem?_toArray,List.getElem?_cons_succ,List.getElem?_cons_zero];exact rfl
    go_simp;refine hK.out _ _ ⟨hHeld.1.alloc _,hHeld.2.alloc _⟩ (fun hHeld=> ?_);clear hK K;try simp only [Act.put,List.setIfInBounds_toArray,List.set_cons_zero,List.set_cons_succ]
    refine aP (i:=11) (o:= ?_) (by kernel_rfl) ?_ rfl (fun K hK=> ?_);rotate_left
    ·simp only [List.getElem?_toArray,List.getElem?_cons_succ,List.getElem?_cons_zero];exact rfl
    refine Own.bY (d:=iy) n rfl (.tmp 160) (.tmp 169) 45 95 _ 56 rfl Tryz.underlying45 qA rfl (by decide) (by decide) vf (M.datas.take j) x [.int .u32 x.mem, .slice AE x.off.length cE, .slice AL x.bts.length cL] (fun k=>(ok k∧k< W.heap.size)∨n≤k) rfl rfl HFK.out HO2.out HN2.out HL9.out ?_;intro v1 w1 hown1 hg1 hat1;obtain ⟨A9,c9,rfl,hl9,hF9⟩:=Own.reads hown1;obtain ⟨q2,qf,ql⟩:=HMD.out _ hg1;refine hK.out _ _ ⟨Blk.grown hH2 hg1 HBX.out,Blk.grown HM2.out hg1 HBV.out⟩ (fun hHeld=> ?_);clear hK K;try simp only [Act.put,List.setIfInBounds_toArray,List.set_cons_zero,List.set_cons_succ]
    refine aC (i:=12) (oi:= ?_) (v:= ?_) ?_ (by kernel_rfl) (by kernel_rfl) (by kernel_rfl) (by kernel_rfl) (fun _ _ _ h=>h) (Or.inl ⟨?_, ?_⟩) hHeld ?_;rotate_left 2
    ·simp only [List.getElem?_toArray,List.getElem?_cons_succ,List.getElem?_cons_zero];exact rfl
    ·rfl
    ·(intro w hSw;go_simp;try with_reducible rfl)
    refine fG (i:=13) (o:= ?_) (by kernel_rfl) ?_ rfl (fun K hK=> ?_);rotate_left
    ·simp only [List.getElem?_toArray,List.getElem?_cons_succ,List.getElem?_cons_zero];exact rfl
    go_simp;refine hK.out _ _ ?_;clear hK K;try simp only [Act.put,List.setIfInBounds_toArray,List.set_cons_zero,List.set_cons_succ]
    refine eQ (by kernel_rfl) ?_ _;refine NoPanic.normal ?_;have htk:M.datas.take (j+1)=M.datas.take j++ [x]:=by rw [List.take_add_one,HX.out];rfl
    have hlen9:(M.datas.take j++ [x]).length=j+1:=by rw [List.length_append,List.length_take];simp only [List.length_cons,List.length_nil];omega
    rw [hlen9]at hown1;have hbk:∀k,(Value.slice A9 (j+1) c9).ownBlock=some k→n≤k:=fun k hk=>(Own.block hown1 hk).1
    have hoz:=hown1.grown (bA w1 g 10 (.slice A9 (j+1) c9)) (.inr (fun e=>by have h1:=hbk g e;have h2:=HGn.out;omega)) (fun k hk e=>by injection e with e;have h2:=HGn.out;have h3:=HWg.out;rcases hk with hk|hk<;>omega);rw [←htk]at hoz;have HOZ:=Lib.hid hoz;have HMZ:=Lib.hid ((Blk.grown HM2.out hg1 (fun e=>by have h1:=HNE.out g e.symm;have h2:=HGn.out;omega)).set 10 (.slice A9 (j+1) c9));have HGZ:=Lib.hid ((bC (bC HG9.out (aL HB2.out none) (fun k e=>by cases e)) hg1 (fun k hk=> .inr (by rw [←HYtofaiocffifhfaaGreat.out];exact HNE.out k hk))).trans (bA w1 g 10 (.slice A9 (j+1) c9)));clear hown1 hg1 hat1 hl9 hF9 htk hbk hoz hHeld hH2 q2 qf ql;go_wp2_with fail;go_roundw
    case rel=>
     subst hA
     (repeat apply Exists.intro)
     refine ⟨?_,rfl⟩;exact ⟨j+1, .slice A9 (j+1) c9,by omega,by go_num,HOZ,HMZ,HGZ⟩
    case measure=>simp [intOf];omega
   ·obtain rfl:j=M.datas.length:=by omega
    go_wp2_with fail;go_meet;have hown:=HO.out;rw [List.take_length]at hown;have hst:=HR0.out.step (kU HG.out (fun k hk=>by have h1:=hk.2;have h2:=HWg.out;omega));exact ⟨g,rfl,hle,HB0.out.grown HG.out HB0.out.size (fun k e=>by injection e with e;omega),_,_,_,_,_,_,_,_,_,{HN0.out.up with n10:=fun h=>absurd h (by decide)},HMb.out,{hst with r10:=kS hown HN1.out HGn.out}⟩
 case rest=>
 obtain ⟨g,rfl,hle,HS⟩:=hcut;obtain ⟨hB0,y0,y1,y2,y3,y4,y5,y6,y9,y10,hN0,hblk,hR⟩:=HS.out;have HR:=Lib.hid hR;obtain ⟨B0,b0,rfl,_,_⟩:=hR.r0;obtain ⟨B1,b1,rfl,_,_⟩:=hR.r1;obtain ⟨B2,b2,rfl,_,_⟩:=hR.r2;obtain ⟨B3,b3,rfl,_,_⟩:=hR.r3;obtain ⟨B4,b4,rfl,_,_⟩:=hR.r4;obtain ⟨B5,b5,rfl,_,_⟩:=hR.r5;obtain ⟨B6,b6,rfl,_,_⟩:=hR.r6;obtain ⟨B9,b9,rfl,_,_⟩:=hR.r9;obtain ⟨B10,b10,rfl,_,_⟩:=hR.r10;have hz1:=HZ1.out;have hob:=HO.out.below hB0 (by omega);have hob2:=HO.out.lt;have a0:=hblk.cell 0;have a1:=hblk.cell 1;have a2:=hblk.cell 2;have a3:=hblk.cell 3;have a4:=hblk.cell 4;have a5:=hblk.cell 5;have a6:=hblk.cell 6;have a7:=hblk.cell 7;have a8:=hblk.cell 8;have a9:=hblk.cell 9;have a10:=hblk.cell 10;have al:=hblk.lt;have hsz:=hB0.size;obtain ⟨z0,z1,z2,z3,z4,z5,z6,z7,z8,z9,z10,zf0,zf1,zf2,zf3,zf4,zf5,zf6,zf7,zf8,zf9,zf10,zl⟩:=z11 hob;have HB0:=Lib.hid hB0;have HOB:=Lib.hid hob;have HGO:=Lib.hid (show g≠W.heap.size+1 by omega);have HHB:=Lib.hid (show W.heap.size≤W.heap.size+1∧W.heap.size≤wc.heap.size by omega);clear hB0 hN0 hblk hR HS hob hle hob2 hz1 hsz;go_wp2_with fail;refine bodyPost_ret (v:= .agg #[.slice B0 M.types.length b0, .slice B1 M.imports.length b1, .slice B2 fns.length b2, .slice B3 M.tables.length b3, .slice B4 M.mems.length b4, .slice B5 M.globals.length b5, .slice B6 M.exports.length b6, .bool M.starts, .int .u32 M.start, .slice B9 M.elems.length b9, .slice B10 M.datas.length b10]) (by simp [results,Tryz.results11,go_sem,z0,z1,z2,z3,z4,z5,z6,z7,z8,z9,z10,zl]) rfl ⟨?_,_,_,_,_,_,_,_,_,_,rfl, ?_⟩
 ·exact uL (V:=W) (HB1.out.trans (HB0.out.mono (by have h:=HZ1.out;omega))) (W.heap.size+1) HHB.out.1 _ _ _ _ _ _ _ _ _ _ _
 ·refine jB.full ((HR.out.step (bS (ze wc (W.heap.size+1) _ _ _ _ _ _ _ _ _ _ _) (fun k hk e=> ?_))).mono (fun k hk=> ?_))
  ·injection e with e;have h1:=HZ1.out;rcases hk with hk|hk
   ·have:=hk.2;omega
   ·have:=hk.1;omega
  ·have h1:=HZ1.out;rcases hk with hk|hk
   ·exact .inl hk.1
   ·exact .inr (by have:=hk.1;omega)
theorem rA {W:World} {ok:Nat→Prop} {x:ky} {cs:List Value} (h:FK gH W ok x cs):∃A c,cs= [.int .u8 x.ty.1, .bool x.ty.2, .slice A x.init.length c]∧FC kR W ok A x.init:=by
 obtain ⟨_,_,rfl,h1,h⟩:=aN (dn h);obtain ⟨_,_,rfl,h2,h⟩:=aN h;obtain ⟨_,_,rfl,h3,h⟩:=aN h;obtain ⟨A,c,h3,_,hF⟩:=dW h3;rw [(bI h1).1,iN h2,h3,eF h];exact ⟨A,c,rfl,hF⟩
theorem qw {x:kN} {W:World} {ok:Nat→Prop} {cs:List Value} (h:FK iE W ok x cs):∃A c A' c',cs= [.int .u32 x.tab, .slice A x.off.length c, .slice A' x.fns.length c']∧FC kR W ok A x.off∧FC (rng .u32) W ok A' x.fns:=by
 obtain ⟨_,_,rfl,h1,h⟩:=aN (dn h);obtain ⟨_,_,rfl,h2,h⟩:=aN h;obtain ⟨_,_,rfl,h3,h⟩:=aN h;obtain ⟨A,c,h2,_,hF⟩:=dW h2;obtain ⟨A',c',h3,_,hF'⟩:=dW h3;rw [(bI h1).1,h2,h3,eF h];exact ⟨A,c,A',c',rfl,hF,hF'⟩
theorem qP {x:j5} {W:World} {ok:Nat→Prop} {cs:List Value} (h:FK iy W ok x cs):∃A c A' c',cs= [.int .u32 x.mem, .slice A x.off.length c, .slice A' x.bts.length c']∧FC kR W ok A x.off∧FC (rng .u8) W ok A' x.bts:=by
 obtain ⟨_,_,rfl,h1,h⟩:=aN (dn h);obtain ⟨_,_,rfl,h2,h⟩:=aN h;obtain ⟨_,_,rfl,h3,h⟩:=aN h;obtain ⟨A,c,h2,_,hF⟩:=dW h2;obtain ⟨A',c',h3,_,hF'⟩:=dW h3;rw [(bI h1).1,h2,h3,eF h];exact ⟨A,c,A',c',rfl,hF,hF'⟩
theorem oh {x:FnD} {W:World} {ok:Nat→Prop} {cs:List Value} (h:FK jo W ok x cs):∃A c A' c',cs= [.int .u32 x.ty, .slice A x.loc.length c, .slice A' x.body.length c']∧FC (rng .u8) W ok A x.loc∧FC kR W ok A' x.body:=by
 obtain ⟨_,_,rfl,h1,h⟩:=aN (dn h);obtain ⟨_,_,rfl,h2,h⟩:=aN h;obtain ⟨_,_,rfl,h3,h⟩:=aN h;obtain ⟨A,c,h2,_,hF⟩:=dW h2;obtain ⟨A',c',h3,_,hF'⟩:=dW h3;rw [(bI h1).1,h2,h3,eF h];exact ⟨A,c,A',c',rfl,hF,hF'⟩
theorem uO (W:World) (M:df) (ok1 ok2:Nat→Prop) (a0 a1 a2 a3 a4 a5 a6 a9 a10 b0 b1 b2 b3 b4 b5 b6 b9 b10:Value) (sa sb:Bool) (at_ bt:Int)
  (h1:Row iF ok1 W a1 M.imports) (k1:Row iF ok2 W b1 M.imports) (h6:Row iB ok1 W a6 M.exports) (k6:Row iB ok2 W b6 M.exports) (h5:Row gH ok1 W a5 M.globals) (k5:Row gH ok2 W b5 M.globals)
  (l1:M.imports.length≤1048576) (l6:M.exports.length≤1048576) (l5:M.globals.length≤1048576) (q5:∀x∈M.globals,bkL x.init≤1048576):
  Calls Tryz.prog 26 #[.agg #[a0,a1,a2,a3,a4,a5,a6, .bool sa, .int .u32 at_,a9,a10], .agg #[b0,b1,b2,b3,b4,b5,b6, .bool sb, .int .u32 bt,b9,b10]] W (jG W):=by
 obtain ⟨Aa1,ca1,rfl,_,F1⟩:=h1;obtain ⟨Ab1,cb1,rfl,_,G1⟩:=k1;obtain ⟨Aa6,ca6,rfl,_,F6⟩:=h6;obtain ⟨Ab6,cb6,rfl,_,G6⟩:=k6;obtain ⟨Aa5,ca5,rfl,_,F5⟩:=h5;obtain ⟨Ab5,cb5,rfl,_,G5⟩:=k5;have hal:Below W.heap.size W ((W.alloc (.cells #[a0, .slice Aa1 M.imports.length ca1,a2,a3,a4, .slice Aa5 M.globals.length ca5, .slice Aa6 M.exports.length ca6, .bool sa, .int .u32 at_,a9,a10] 47)).alloc (.cells #[b0, .slice Ab1 M.imports.length cb1,b2,b3,b4, .slice Ab5 M.globals.length cb5, .slice Ab6 M.exports.length cb6, .bool sb, .int .u32 bt,b9,b10] 47)):=aY (aY (Below.refl _ _) _) _;have hA:=(Blk.new W #[a0, .slice Aa1 M.imports.length ca1,a2,a3,a4, .slice Aa5 M.globals.length ca5, .slice Aa6 M.exports.length ca6, .bool sa, .int .u32 at_,a9,a10] 47).alloc (.cells #[b0, .slice Ab1 M.imports.length cb1,b2,b3,b4, .slice Ab5 M.globals.length cb5, .slice Ab6 M.exports.length cb6, .bool sb, .int .u32 bt,b9,b10] 47);have hB:=Blk.new (W.alloc (.cells #[a0, .slice Aa1 M.imports.length ca1,a2,a3,a4, .slice Aa5 M.globals.length ca5, .slice Aa6 M.exports.length ca6, .bool sa, .int .u32 at_,a9,a10] 47)) #[b0, .slice Ab1 M.imports.length cb1,b2,b3,b4, .slice Ab5 M.globals.length cb5, .slice Ab6 M.exports.length cb6, .bool sb, .int .u32 bt,b9,b10] 47;rw [World.size_alloc]at hB;have HF1:=Lib.hid (Ft.below F1 hal);have HG1:=Lib.hid (Ft.below G1 hal);have HF6:=Lib.hid (Ft.below F6 hal);have HG6:=Lib.hid (Ft.below G6 hal);have HF5:=Lib.hid (Ft.below F5 hal);have HG5:=Lib.hid (Ft.below G5 hal);have HBL:=Lib.hid hal;have HQ:=Lib.hid q5;clear F1 G1 F6 G6 F5 G5 q5 hal;go_enter Tryz.func26,Tryz.ntmps26;go_wp2_with fail;generalize (W.alloc (.cells #[a0, .slice Aa1 M.imports.length ca1,a2,a3,a4, .slice Aa5 M.globals.length ca5, .slice Aa6 M.exports.length ca6, .bool sa, .int .u32 at_,a9,a10] 47)).alloc (.cells #[b0, .slice Ab1 M.imports.length cb1,b2,b3,b4, .slice Ab5 M.globals.length cb5, .slice Ab6 M.exports.length cb6, .bool sb, .int .u32 bt,b9,b10] 47)=W1 at *;have p1:=hA.cell 1;have p5:=hA.cell 5;have p6:=hA.cell 6;have r1:=hB.cell 1;have r5:=hB.cell 5;have r6:=hB.cell 6;have pl:=hA.lt;have rl:=hB.lt;have HPA:=Lib.hid hA;have HPB:=Lib.hid hB;clear hA hB;go_wp2_with fail;go_loopw [5] (fun i wr=>∃(j m:Nat),j≤M.imports.length∧i= .int .i64 j∧wr=W1.drewN m) (fun i _=>M.imports.length - (intOf i).toNat)
 case atStart=>exact ⟨0,0,Nat.zero_le _,rfl,rfl⟩
 case round=>
  obtain ⟨j,m,hj,rfl,rfl⟩:=hrel;by_cases hlt:j< M.imports.length
  ·have hlt2:(j:Int)<(M.imports.length:Int):=by omega
   obtain ⟨x1,o1,x2,o2,x,cs1,cs2,rfl,rfl,hx,hk1,hk2,hc1,hc2⟩:=FC.two HF1.out HG1.out (show 0< 9 by decide) j hlt;obtain rfl:=lF hk1;obtain rfl:=lF hk2;have hz:iF.sz=9:=rfl;have d0:=hc1 0 _ rfl;have d1:=hc1 1 _ rfl;have d2:=hc1 2 _ rfl;have d3:=hc1 3 _ rfl;have d4:=hc1 4 _ rfl;have d5:=hc1 5 _ rfl;have d6:=hc1 6 _ rfl;have d7:=hc1 7 _ rfl;have d8:=hc1 8 _ rfl;have e0:=hc2 0 _ rfl;have e1:=hc2 1 _ rfl;have e2:=hc2 2 _ rfl;have e3:=hc2 3 _ rfl;have e4:=hc2 4 _ rfl;have e5:=hc2 5 _ rfl;have e6:=hc2 6 _ rfl;have e7:=hc2 7 _ rfl;have e8:=hc2 8 _ rfl;simp only [hz,Nat.add_zero]at d0 d1 d2 d3 d4 d5 d6 d7 d8 e0 e1 e2 e3 e4 e5 e6 e7 e8;have hb1:=World.block_lt_of_cell? _ _ d0;have hb2:=World.block_lt_of_cell? _ _ e0;clear hx hk1 hk2 hc1 hc2;go_wp2_with fail;go_quiet (fail);go_wp2_with fail;go_roundw
   case rel=>exact ⟨j+1,_,by omega,by go_num,rfl⟩
   case measure=>simp [intOf];omega
  ·have hlt2:¬(j:Int)<(M.imports.length:Int):=by omega
   clear hlt;go_wp2_with fail;go_loopw [6] (fun i wr=>∃(j m:Nat),j≤M.exports.length∧i= .int .i64 j∧wr=W1.drewN m) (fun i _=>M.exports.length - (intOf i).toNat)
   case atStart=>exact ⟨0,m,Nat.zero_le _,rfl,rfl⟩
   case round=>
    obtain ⟨j,m,hj,rfl,rfl⟩:=hrel;by_cases hlt:j< M.exports.length
    ·have hlt2:(j:Int)<(M.exports.length:Int):=by omega
     obtain ⟨x1,o1,x2,o2,x,cs1,cs2,rfl,rfl,hx,hk1,hk2,hc1,hc2⟩:=FC.two HF6.out HG6.out (show 0< 3 by decide) j hlt;obtain rfl:=nL hk1;obtain rfl:=nL hk2;have hz:iB.sz=3:=rfl;have d0:=hc1 0 _ rfl;have d1:=hc1 1 _ rfl;have d2:=hc1 2 _ rfl;have e0:=hc2 0 _ rfl;have e1:=hc2 1 _ rfl;have e2:=hc2 2 _ rfl;simp only [hz,Nat.add_zero]at d0 d1 d2 e0 e1 e2;have hb1:=World.block_lt_of_cell? _ _ d0;have hb2:=World.block_lt_of_cell? _ _ e0;clear hx hk1 hk2 hc1 hc2;go_wp2_with fail;go_quiet (fail);go_wp2_with fail;go_roundw
     case rel=>exact ⟨j+1,_,by omega,by go_num,rfl⟩
     case measure=>simp [intOf];omega
    ·have hlt2:¬(j:Int)<(M.exports.length:Int):=by omega
     clear hlt;go_wp2_with fail;go_loopw [7] (fun i wr=>∃(j:Nat),j≤M.globals.length∧i= .int .i64 j∧Hid (Below W1.heap.size W1 wr)) (fun i _=>M.globals.length - (intOf i).toNat)
     case atStart=>exact ⟨0,Nat.zero_le _,rfl,iD m⟩
     case round=>
      obtain ⟨j,hj,rfl,HB⟩:=hrel;have hpa:=HPA.out.below HB.out pl;have hpb:=HPB.out.below HB.out rl;have p5:=hpa.cell 5;have r5:=hpb.cell 5;have pl' :=hpa.lt;have rl' :=hpb.lt;by_cases hlt:j< M.globals.length
      ·have hlt2:(j:Int)<(M.globals.length:Int):=by omega
       obtain ⟨x1,o1,x2,o2,x,cs1,cs2,hA1,hA2,hx,hk1,hk2,hc1,hc2⟩:=FC.two (Ft.below HF5.out HB.out) (Ft.below HG5.out HB.out) (show 0< 3 by decide) j hlt;obtain ⟨P1,q1,rfl,g1⟩:=rA hk1;obtain ⟨P2,q2,rfl,g2⟩:=rA hk2;have hq:=HQ.out x (List.mem_of_getElem? hx.out);have HS:=Lib.hid (fun X (h:Below wr.heap.size wr X)=>same_eq _ x.init (Nat.le_refl _) hq X P1 P2 q1 q2 (Ft.below g1 h).now (Ft.below g2 h).now);subst hA1 hA2;have hz:gH.sz=3:=rfl;have d0:=hc1 0 _ rfl;have d1:=hc1 1 _ rfl;have d2:=hc1 2 _ rfl;have e0:=hc2 0 _ rfl;have e1:=hc2 1 _ rfl;have e2:=hc2 2 _ rfl;simp only [hz,Nat.add_zero]at d0 d1 d2 e0 e1 e2;have hb1:=World.block_lt_of_cell? _ _ d0;have hb2:=World.block_lt_of_cell? _ _ e0;have HD:=Lib.hid (show ∀X,Below wr.heap.size wr X→X.cell? ⟨W.heap.size,5,none⟩=some (.slice (some ⟨x1,o1,none⟩) M.globals.length ca5)∧X.cell? ⟨W.heap.size+1,5,none⟩=some (.slice (some ⟨x2,o2,none⟩) M.globals.length cb5)∧X.cell? ⟨x1,o1+j * 3,none⟩=some (.int .u8 x.ty.1)∧X.cell? ⟨x1,o1+j * 3+1,none⟩=some (.bool x.ty.2)∧X.cell? ⟨x1,o1+j * 3+2,none⟩=some (.slice P1 x.init.length q1)∧X.cell? ⟨x2,o2+j * 3,none⟩=some (.int .u8 x.ty.1)∧X.cell? ⟨x2,o2+j * 3+1,none⟩=some (.bool x.ty.2)∧X.cell? ⟨x2,o2+j * 3+2,none⟩=some (.slice P2 x.init.length q2)from fun X h=>⟨(h.cell (p:=⟨_,_,none⟩) pl').trans p5,(h.cell (p:=⟨_,_,none⟩) rl').trans r5,aB h d0,aB h d1,aB h d2,aB h e0,aB h e1,aB h e2⟩);clear hx hk1 hk2 hc1 hc2 g1 g2 hpa hpb hq;go_wp2_with fail
       go_region_held3 (fun X=>X.cell? ⟨W.heap.size,5,none⟩=some (.slice (some ⟨x1,o1,none⟩) M.globals.length ca5)∧X.cell? ⟨W.heap.size+1,5,none⟩=some (.slice (some ⟨x2,o2,none⟩) M.globals.length cb5)∧X.cell? ⟨x1,o1+j * 3,none⟩=some (.int .u8 x.ty.1)∧X.cell? ⟨x1,o1+j * 3+1,none⟩=some (.bool x.ty.2)∧X.cell? ⟨x1,o1+j * 3+2,none⟩=some (.slice P1 x.init.length q1)∧X.cell? ⟨x2,o2+j * 3,none⟩=some (.int .u8 x.ty.1)∧X.cell? ⟨x2,o2+j * 3+1,none⟩=some (.bool x.ty.2)∧X.cell? ⟨x2,o2+j * 3+2,none⟩=some (.slice P2 x.init.length q2)) (first|exact HD.out _ (bH (Below.refl _ _))|exact HD.out _ hB2)
        (first|(go_at_call 28;refine (HS.out _ (bH (Below.refl _ _))).mono ?_;rintro E W2 ⟨rfl,hBx⟩;have hB2:=dA (bH (Below.refl wr.heap.size wr)) hBx))
       all_goals have HB3:=Lib.hid (HB.out.trans (hB2.mono HB.out.size))
       all_goals clear hBx hB2
       all_goals go_wp2_with fail
       all_goals go_roundw
       case rel=>exact ⟨j+1,by omega,by go_num,HB3⟩
       case measure=>simp [intOf];omega
      ·have hlt2:¬(j:Int)<(M.globals.length:Int):=by omega
       clear hlt;go_wp2_with fail;go_ret;exact ⟨rfl,HBL.out.trans (HB.out.mono HBL.out.size)⟩
structure Small (M:df) (fns:List FnD):Prop where
 l0:M.types.length≤1048576
 l1:M.imports.length≤1048576
 l2:fns.length≤1048576
 l3:M.tables.length≤1048576
 l4:M.mems.length≤1048576
 l5:M.globals.length≤1048576
 l6:M.exports.length≤1048576
 l9:M.elems.length≤1048576
 l10:M.datas.length≤1048576
 t0:∀x∈M.types,x.1.length≤1048576∧x.2.length≤1048576
 b2:∀x∈fns,bkL x.body≤1048576
 b5:∀x∈M.globals,bkL x.init≤1048576
 b9:∀x∈M.elems,bkL x.off≤1048576
 b10:∀x∈M.datas,bkL x.off≤1048576
 o2:∀x∈fns,x.loc.length≤1048576
 o9:∀x∈M.elems,x.fns.length≤1048576
 o10:∀x∈M.datas,x.bts.length≤1048576
theorem zy (W:World) (M:df) (fns:List FnD) (ok1 ok2:Nat→Prop) (a0 a1 a2 a3 a4 a5 a6 a9 a10 b0 b1 b2 b3 b4 b5 b6 b9 b10:Value) (hs:Small M fns) (ha:jB ok1 W M fns a0 a1 a2 a3 a4 a5 a6 a9 a10) (hb:jB ok2 W M fns b0 b1 b2 b3 b4 b5 b6 b9 b10):
  Calls Tryz.prog 10 #[.agg #[a0,a1,a2,a3,a4,a5,a6, .bool M.starts, .int .u32 M.start,a9,a10], .agg #[b0,b1,b2,b3,b4,b5,b6, .bool M.starts, .int .u32 M.start,b9,b10]] W (jG W):=by
 obtain ⟨Aa0,ca0,rfl,ga0,F0⟩:=ha.r0;obtain ⟨Ab0,cb0,rfl,gb0,G0⟩:=hb.r0;obtain ⟨Aa1,ca1,rfl,ga1,F1⟩:=ha.r1;obtain ⟨Ab1,cb1,rfl,gb1,G1⟩:=hb.r1;obtain ⟨Aa2,ca2,rfl,ga2,F2⟩:=ha.r2;obtain ⟨Ab2,cb2,rfl,gb2,G2⟩:=hb.r2;obtain ⟨Aa3,ca3,rfl,ga3,F3⟩:=ha.r3;obtain ⟨Ab3,cb3,rfl,gb3,G3⟩:=hb.r3;obtain ⟨Aa4,ca4,rfl,ga4,F4⟩:=ha.r4;obtain ⟨Ab4,cb4,rfl,gb4,G4⟩:=hb.r4;obtain ⟨Aa5,ca5,rfl,ga5,F5⟩:=ha.r5;obtain ⟨Ab5,cb5,rfl,gb5,G5⟩:=hb.r5;obtain ⟨Aa6,ca6,rfl,ga6,F6⟩:=ha.r6;obtain ⟨Ab6,cb6,rfl,gb6,G6⟩:=hb.r6;obtain ⟨Aa9,ca9,rfl,ga9,F9⟩:=ha.r9;obtain ⟨Ab9,cb9,rfl,gb9,G9⟩:=hb.r9;obtain ⟨Aa10,ca10,rfl,ga10,F10⟩:=ha.r10;obtain ⟨Ab10,cb10,rfl,gb10,G10⟩:=hb.r10;have hal:Below W.heap.size W ((W.alloc (.cells #[.slice Aa0 M.types.length ca0, .slice Aa1 M.imports.length ca1, .slice Aa2 fns.length ca2, .slice Aa3 M.tables.length ca3, .slice Aa4 M.mems.length ca4, .slice Aa5 M.globals.length ca5, .slice Aa6 M.exports.length ca6, .bool M.starts, .int .u32 M.start, .slice Aa9 M.elems.length ca9, .slice Aa10 M.datas.length ca10] 47)).alloc (.cells #[.slice Ab0 M.types.length cb0, .slice Ab1 M.imports.length cb1, .slice Ab2 fns.length cb2, .slice Ab3 M.tables.length cb3, .slice Ab4 M.mems.length cb4, .slice Ab5 M.globals.length cb5, .slice Ab6 M.exports.length cb6, .bool M.starts, .int .u32 M.start, .slice Ab9 M.elems.length cb9, .slice Ab10 M.datas.length cb10] 47)):=aY (aY (Below.refl _ _) _) _;have hA:=(Blk.new W #[.slice Aa0 M.types.length ca0, .slice Aa1 M.imports.length ca1, .slice Aa2 fns.length ca2, .slice Aa3 M.tables.length ca3, .slice Aa4 M.mems.length ca4, .slice Aa5 M.globals.length ca5, .slice Aa6 M.exports.length ca6, .bool M.starts, .int .u32 M.start, .slice Aa9 M.elems.length ca9, .slice Aa10 M.datas.length ca10] 47).alloc (.cells #[.slice Ab0 M.types.length cb0, .slice Ab1 M.imports.length cb1, .slice Ab2 fns.length cb2, .slice Ab3 M.tables.length cb3, .slice Ab4 M.mems.length cb4, .slice Ab5 M.globals.length cb5, .slice Ab6 M.exports.length cb6, .bool M.starts, .int .u32 M.start, .slice Ab9 M.elems.length cb9, .slice Ab10 M.datas.length cb10] 47);have hB:=Blk.new (W.alloc (.cells #[.slice Aa0 M.types.length ca0, .slice Aa1 M.imports.length ca1, .slice Aa2 fns.length ca2, .slice Aa3 M.tables.length ca3, .slice Aa4 M.mems.length ca4, .slice Aa5 M.globals.length ca5, .slice Aa6 M.exports.length ca6, .bool M.starts, .int .u32 M.start, .slice Aa9 M.elems.length ca9, .slice Aa10 M.datas.length ca10] 47)) #[.slice Ab0 M.types.length cb0, .slice Ab1 M.imports.length cb1, .slice Ab2 fns.length cb2, .slice Ab3 M.tables.length cb3, .slice Ab4 M.mems.length cb4, .slice Ab5 M.globals.length cb5, .slice Ab6 M.exports.length cb6, .bool M.starts, .int .u32 M.start, .slice Ab9 M.elems.length cb9, .slice Ab10 M.datas.length cb10] 47;rw [World.size_alloc]at hB;have HF0:=Lib.hid (Ft.below F0 hal);have HG0:=Lib.hid (Ft.below G0 hal);have HA0:=Lib.hid ga0;have HB0:=Lib.hid gb0;have HF1:=Lib.hid (Ft.below F1 hal);have HG1:=Lib.hid (Ft.below G1 hal);have HA1:=Lib.hid ga1;have HB1:=Lib.hid gb1;have HF2:=Lib.hid (Ft.below F2 hal);have HG2:=Lib.hid (Ft.below G2 hal);have HA2:=Lib.hid ga2;have HB2:=Lib.hid gb2;have HF3:=Lib.hid (Ft.below F3 hal);have HG3:=Lib.hid (Ft.below G3 hal);have HA3:=Lib.hid ga3;have HB3:=Lib.hid gb3;have HF4:=Lib.hid (Ft.below F4 hal);have HG4:=Lib.hid (Ft.below G4 hal);have HA4:=Lib.hid ga4;have HB4:=Lib.hid gb4;have HF5:=Lib.hid (Ft.below F5 hal);have HG5:=Lib.hid (Ft.below G5 hal);have HA5:=Lib.hid ga5;have HB5:=Lib.hid gb5;have HF6:=Lib.hid (Ft.below F6 hal);have HG6:=Lib.hid (Ft.below G6 hal);have HA6:=Lib.hid ga6;have HB6:=Lib.hid gb6;have HF9:=Lib.hid (Ft.below F9 hal);have HG9:=Lib.hid (Ft.below G9 hal);have HA9:=Lib.hid ga9;have HB9:=Lib.hid gb9;have HF10:=Lib.hid (Ft.below F10 hal);have HG10:=Lib.hid (Ft.below G10 hal);have HA10:=Lib.hid ga10;have HB10:=Lib.hid gb10;have HBL:=Lib.hid hal;have HSM:=Lib.hid hs;clear hal hs ha hb F0 G0 ga0 gb0 F1 G1 ga1 gb1 F2 G2 ga2 gb2 F3 G3 ga3 gb3 F4 G4 ga4 gb4 F5 G5 ga5 gb5 F6 G6 ga6 gb6 F9 G9 ga9 gb9 F10 G10 ga10 gb10
 go_enter Tryz.func10,Tryz.ntmps10;go_wp2_with fail;generalize (W.alloc (.cells #[.slice Aa0 M.types.length ca0, .slice Aa1 M.imports.length ca1, .slice Aa2 fns.length ca2, .slice Aa3 M.tables.length ca3, .slice Aa4 M.mems.length ca4, .slice Aa5 M.globals.length ca5, .slice Aa6 M.exports.length ca6, .bool M.starts, .int .u32 M.start, .slice Aa9 M.elems.length ca9, .slice Aa10 M.datas.length ca10] 47)).alloc (.cells #[.slice Ab0 M.types.length cb0, .slice Ab1 M.imports.length cb1, .slice Ab2 fns.length cb2, .slice Ab3 M.tables.length cb3, .slice Ab4 M.mems.length cb4, .slice Ab5 M.globals.length cb5, .slice Ab6 M.exports.length cb6, .bool M.starts, .int .u32 M.start, .slice Ab9 M.elems.length cb9, .slice Ab10 M.datas.length cb10] 47)=W1 at *;have HPA:=Lib.hid hA;have HPB:=Lib.hid hB;have pl:=hA.lt;have rl:=hB.lt;have HD:=Lib.hid (fun X (h:Below W1.heap.size W1 X)=>(⟨(hA.below h pl).cell 0,(hA.below h pl).cell 1,(hA.below h pl).cell 2,(hA.below h pl).cell 3,(hA.below h pl).cell 4,(hA.below h pl).cell 5,(hA.below h pl).cell 6,(hA.below h pl).cell 7,(hA.below h pl).cell 8,(hA.below h pl).cell 9,(hA.below h pl).cell 10,(hB.below h rl).cell 0,(hB.below h rl).cell 1,(hB.below h rl).cell 2,(hB.below h rl).cell 3,(hB.below h rl).cell 4,(hB.below h rl).cell 5,(hB.below h rl).cell 6,(hB.below h rl).cell 7,(hB.below h rl).cell 8,(hB.below h rl).cell 9,(hB.below h rl).cell 10,(hA.below h pl).lt,(hB.below h rl).lt⟩:X.cell? ⟨W.heap.size,0,none⟩=some (.slice Aa0 M.types.length ca0)∧X.cell? ⟨W.heap.size,1,none⟩=some (.slice Aa1 M.imports.length ca1)∧X.cell? ⟨W.heap.size,2,none⟩=some (.slice Aa2 fns.length ca2)∧X.cell? ⟨W.heap.size,3,none⟩=some (.slice Aa3 M.tables.length ca3)∧X.cell? ⟨W.heap.size,4,none⟩=some (.slice Aa4 M.mems.length ca4)∧X.cell? ⟨W.heap.size,5,none⟩=some (.slice Aa5 M.globals.length ca5)∧X.cell? ⟨W.heap.size,6,none⟩=some (.slice Aa6 M.exports.length ca6)∧X.cell? ⟨W.heap.size,7,none⟩=some (.bool M.starts)∧X.cell? ⟨W.heap.size,8,none⟩=some (.int .u32 M.start)∧X.cell? ⟨W.heap.size,9,none⟩=some (.slice Aa9 M.elems.length ca9)∧X.cell? ⟨W.heap.size,10,none⟩=some (.slice Aa10 M.datas.length ca10)∧X.cell? ⟨W.heap.size+1,0,none⟩=some (.slice Ab0 M.types.length cb0)∧X.cell? ⟨W.heap.size+1,1,none⟩=some (.slice Ab1 M.imports.length cb1)∧X.cell? ⟨W.heap.size+1,2,none⟩=some (.slice Ab2 fns.length cb2)∧X.cell? ⟨W.heap.size+1,3,none⟩=some (.slice Ab3 M.tables.length cb3)∧X.cell? ⟨W.heap.size+1,4,none⟩=some (.slice Ab4 M.mems.length cb4)∧X.cell? ⟨W.heap.size+1,5,none⟩=some (.slice Ab5 M.globals.length cb5)∧X.cell? ⟨W.heap.size+1,6,none⟩=some (.slice Ab6 M.exports.length cb6)∧X.cell? ⟨W.heap.size+1,7,none⟩=some (.bool M.starts)∧X.cell? ⟨W.heap.size+1,8,none⟩=some (.int .u32 M.start)∧X.cell? ⟨W.heap.size+1,9,none⟩=some (.slice Ab9 M.elems.length cb9)∧X.cell? ⟨W.heap.size+1,10,none⟩=some (.slice Ab10 M.datas.length cb10)∧W.heap.size< X.heap.size∧W.heap.size+1< X.heap.size));have HT:=Lib.hid (fun X (h:Below W1.heap.size W1 X)=>uS X Aa0 Ab0 ca0 cb0 M.types _ _ (Ft.below HF0.out h) (Ft.below HG0.out h) HSM.out.l0 HSM.out.t0);have HL3:=Lib.hid (fun X (h:Below W1.heap.size W1 X)=>mV X Aa3 Ab3 ca3 cb3 M.tables _ _ (Ft.below HF3.out h) (Ft.below HG3.out h) HSM.out.l3);have HL4:=Lib.hid (fun X (h:Below W1.heap.size W1 X)=>mV X Aa4 Ab4 ca4 cb4 M.mems _ _ (Ft.below HF4.out h) (Ft.below HG4.out h) HSM.out.l4);have HO:=Lib.hid (fun X (h:Below W1.heap.size W1 X)=>uO X M ok1 ok2 (.slice Aa0 M.types.length ca0) (.slice Aa1 M.imports.length ca1) (.slice Aa2 fns.length ca2) (.slice Aa3 M.tables.length ca3) (.slice Aa4 M.mems.length ca4) (.slice Aa5 M.globals.length ca5) (.slice Aa6 M.exports.length ca6) (.slice Aa9 M.elems.length ca9) (.slice Aa10 M.datas.length ca10) (.slice Ab0 M.types.length cb0) (.slice Ab1 M.imports.length cb1) (.slice Ab2 fns.length cb2) (.slice Ab3 M.tables.length cb3) (.slice Ab4 M.mems.length cb4) (.slice Ab5 M.globals.length cb5) (.slice Ab6 M.exports.length cb6) (.slice Ab9 M.elems.length cb9) (.slice Ab10 M.datas.length cb10) M.starts M.starts M.start M.start ⟨_,_,rfl,HA1.out,Ft.below HF1.out h⟩ ⟨_,_,rfl,HB1.out,Ft.below HG1.out h⟩ ⟨_,_,rfl,HA6.out,Ft.below HF6.out h⟩ ⟨_,_,rfl,HB6.out,Ft.below HG6.out h⟩ ⟨_,_,rfl,HA5.out,Ft.below HF5.out h⟩ ⟨_,_,rfl,HB5.out,Ft.below HG5.out h⟩ HSM.out.l1 HSM.out.l6 HSM.out.l5 HSM.out.b5)
 clear hA hB;refine (HT.out _ (Below.refl W1.heap.size W1)).mono ?_;rintro E X1 ⟨rfl,m1,hx1⟩;have hb1:Below W1.heap.size W1 X1:=by rw [hx1];exact iD m1
 obtain ⟨q0,q1,q2,q3,q4,q5,q6,q7,q8,q9,q10,q11,q12,q13,q14,q15,q16,q17,q18,q19,q20,q21,q22,q23⟩:=HD.out _ hb1;clear hx1;go_wp2_with fail;refine (HO.out _ hb1).mono ?_;rintro E X2 ⟨rfl,hx2⟩;have hb2:=dA hb1 hx2;clear q0 q1 q2 q3 q4 q5 q6 q7 q8 q9 q10 q11 q12 q13 q14 q15 q16 q17 q18 q19 q20 q21 q22 q23 hx2 hb1;obtain ⟨q0,q1,q2,q3,q4,q5,q6,q7,q8,q9,q10,q11,q12,q13,q14,q15,q16,q17,q18,q19,q20,q21,q22,q23⟩:=HD.out _ hb2;go_wp2_with fail;refine (HL3.out _ hb2).mono ?_;rintro E X3 ⟨rfl,m3,hx3⟩;have hb3:Below W1.heap.size W1 X3:=by rw [hx3];exact dA hb2 (iD m3)
 clear q0 q1 q2 q3 q4 q5 q6 q7 q8 q9 q10 q11 q12 q13 q14 q15 q16 q17 q18 q19 q20 q21 q22 q23 hx3 hb2;obtain ⟨q0,q1,q2,q3,q4,q5,q6,q7,q8,q9,q10,q11,q12,q13,q14,q15,q16,q17,q18,q19,q20,q21,q22,q23⟩:=HD.out _ hb3;go_wp2_with fail;refine (HL4.out _ hb3).mono ?_;rintro E X4 ⟨rfl,m4,hx4⟩;have hb4:Below W1.heap.size W1 X4:=by rw [hx4];exact dA hb3 (iD m4)
 clear q0 q1 q2 q3 q4 q5 q6 q7 q8 q9 q10 q11 q12 q13 q14 q15 q16 q17 q18 q19 q20 q21 q22 q23 hx4 hb3;obtain ⟨q0,q1,q2,q3,q4,q5,q6,q7,q8,q9,q10,q11,q12,q13,q14,q15,q16,q17,q18,q19,q20,q21,q22,q23⟩:=HD.out _ hb4;have HX:=Lib.hid hb4;clear hb4 pl rl;clear HT HL3 HL4 HO;go_wp2_with fail;clear q0 q1 q2 q3 q4 q5 q6 q7 q8 q9 q10 q11 q12 q13 q14 q15 q16 q17 q18 q19 q20 q21 q22 q23;go_loopw [5] (fun i wr=>∃(j:Nat),j≤fns.length∧i= .int .i64 j∧Hid (Below W1.heap.size W1 wr)) (fun i _=>fns.length - (intOf i).toNat)
 case atStart=>exact ⟨0,Nat.zero_le _,rfl,HX.out⟩
 case round=>
  obtain ⟨j,hj,rfl,HB⟩:=hrel;have hpa:=HPA.out.below HB.out HPA.out.lt;have hpb:=HPB.out.below HB.out HPB.out.lt;have p:=hpa.cell 2;have r:=hpb.cell 2;have pl' :=hpa.lt;have rl' :=hpb.lt;have hll:=HSM.out.l2;by_cases hlt:j< fns.length
  ·have hlt2:(j:Int)<(fns.length:Int):=by omega
   obtain ⟨x1,o1,x2,o2,x,cs1,cs2,hA1,hA2,hx,hk1,hk2,hc1,hc2⟩:=FC.two (Ft.below HF2.out HB.out) (Ft.below HG2.out HB.out) (show 0< 3 by decide) j hlt;obtain ⟨P1,u1,Q1,t1,rfl,g1,e1⟩:=oh hk1;obtain ⟨P2,u2,Q2,t2,rfl,g2,e2⟩:=oh hk2;have hq:=HSM.out.b2 x (List.mem_of_getElem? hx.out);have ho:=HSM.out.o2 x (List.mem_of_getElem? hx.out);have HS:=Lib.hid (fun X (h:Below wr.heap.size wr X)=>same_eq _ x.body (Nat.le_refl _) hq X Q1 Q2 t1 t2 (Ft.below e1 h).now (Ft.below e2 h).now);have HC1:=Lib.hid (fun X (h:Below wr.heap.size wr X)=>dR X P1 x.loc u1 (wX (Ft.below g1 h).now ho));have HC2:=Lib.hid (fun X (h:Below wr.heap.size wr X)=>dR X P2 x.loc u2 (wX (Ft.below g2 h).now ho));subst hA1 hA2;have hz:jo.sz=3:=rfl;have d0:=hc1 0 _ rfl;have d1:=hc1 1 _ rfl;have d2:=hc1 2 _ rfl;have f0:=hc2 0 _ rfl;have f1:=hc2 1 _ rfl;have f2:=hc2 2 _ rfl;simp only [hz,Nat.add_zero]at d0 d1 d2 f0 f1 f2;have hb1:=World.block_lt_of_cell? _ _ d0;have hb2:=World.block_lt_of_cell? _ _ f0;have HDD:=Lib.hid (show ∀X,Below wr.heap.size wr X→X.cell? ⟨W.heap.size,2,none⟩=some (.slice (some ⟨x1,o1,none⟩) fns.length ca2)∧X.cell? ⟨W.heap.size+1,2,none⟩=some (.slice (some ⟨x2,o2,none⟩) fns.length cb2)∧X.cell? ⟨x1,o1+j * 3,none⟩=some (.int .u32 x.ty)∧X.cell? ⟨x1,o1+j * 3+1,none⟩=some (.slice P1 x.loc.length u1)∧X.cell? ⟨x1,o1+j * 3+2,none⟩=some (.slice Q1 x.body.length t1)∧X.cell? ⟨x2,o2+j * 3,none⟩=some (.int .u32 x.ty)∧X.cell? ⟨x2,o2+j * 3+1,none⟩=some (.slice P2 x.loc.length u2)∧X.cell? ⟨x2,o2+j * 3+2,none⟩=some (.slice Q2 x.body.length t2)∧(convert 22 9 (.slice P1 x.loc.length u1)).run Tryz.prog X= .ok (.string (strOfNums x.loc)) X∧(convert 22 9 (.slice P2 x.loc.length u2)).run Tryz.prog X= .ok (.string (strOfNums x.loc)) X from fun X h=>⟨(h.cell (p:=⟨_,_,none⟩) pl').trans p,(h.cell (p:=⟨_,_,none⟩) rl').trans r,aB h d0,aB h d1,aB h d2,aB h f0,aB h f1,aB h f2,HC1.out X h,HC2.out X h⟩);clear hx hk1 hk2 hc1 hc2 g1 g2 e1 e2 hpa hpb hq ho;go_wp2_with fail
   go_region_held3 (fun X=>X.cell? ⟨W.heap.size,2,none⟩=some (.slice (some ⟨x1,o1,none⟩) fns.length ca2)∧X.cell? ⟨W.heap.size+1,2,none⟩=some (.slice (some ⟨x2,o2,none⟩) fns.length cb2)∧X.cell? ⟨x1,o1+j * 3,none⟩=some (.int .u32 x.ty)∧X.cell? ⟨x1,o1+j * 3+1,none⟩=some (.slice P1 x.loc.length u1)∧X.cell? ⟨x1,o1+j * 3+2,none⟩=some (.slice Q1 x.body.length t1)∧X.cell? ⟨x2,o2+j * 3,none⟩=some (.int .u32 x.ty)∧X.cell? ⟨x2,o2+j * 3+1,none⟩=some (.slice P2 x.loc.length u2)∧X.cell? ⟨x2,o2+j * 3+2,none⟩=some (.slice Q2 x.body.length t2)∧(convert 22 9 (.slice P1 x.loc.length u1)).run Tryz.prog X= .ok (.string (strOfNums x.loc)) X∧(convert 22 9 (.slice P2 x.loc.length u2)).run Tryz.prog X= .ok (.string (strOfNums x.loc)) X) (first|with_reducible exact HDD.out _ hB3|with_reducible exact HDD.out _ hB2|exact HDD.out _ (bH (Below.refl wr.heap.size wr)))
    (first|(go_at_call 28;refine (HS.out _ (bH (Below.refl wr.heap.size wr))).mono ?_;rintro E W2 ⟨rfl,hBx⟩;have hB2:=dA (bH (Below.refl wr.heap.size wr)) hBx))
   all_goals have HB9:=Lib.hid (HB.out.trans (hB2.mono HB.out.size))
   all_goals clear hBx hB2 
   all_goals go_wp2_with fail
   all_goals (refine ⟨?_, ?_⟩;rotate_left;(simp [intOf];omega))
   all_goals (first|exact ⟨j+1,by omega,by go_num,HB9⟩|((repeat apply Exists.intro);refine ⟨?_,rfl⟩;exact ⟨j+1,by omega,by go_num,HB9⟩))
  ·have hlt2:¬(j:Int)<(fns.length:Int):=by omega
   clear hlt;clear p r pl' rl';clear hpa hpb;obtain ⟨q0,q1,q2,q3,q4,q5,q6,q7,q8,q9,q10,q11,q12,q13,q14,q15,q16,q17,q18,q19,q20,q21,q22,q23⟩:=HD.out _ HB.out;go_wp2_with fail;clear q0 q1 q2 q3 q4 q5 q6 q7 q8 q9 q10 q11 q12 q13 q14 q15 q16 q17 q18 q19 q20 q21 q22 q23;go_loopw [6] (fun i wr=>∃(j:Nat),j≤M.elems.length∧i= .int .i64 j∧Hid (Below W1.heap.size W1 wr)) (fun i _=>M.elems.length - (intOf i).toNat)
   case atStart=>exact ⟨0,Nat.zero_le _,rfl,HB.out⟩
   case round=>
    obtain ⟨j,hj,rfl,HB⟩:=hrel;have hpa:=HPA.out.below HB.out HPA.out.lt;have hpb:=HPB.out.below HB.out HPB.out.lt;have p:=hpa.cell 9;have r:=hpb.cell 9;have pl' :=hpa.lt;have rl' :=hpb.lt;have hll:=HSM.out.l9;by_cases hlt:j< M.elems.length
    ·have hlt2:(j:Int)<(M.elems.length:Int):=by omega
     obtain ⟨x1,o1,x2,o2,x,cs1,cs2,hA1,hA2,hx,hk1,hk2,hc1,hc2⟩:=FC.two (Ft.below HF9.out HB.out) (Ft.below HG9.out HB.out) (show 0< 3 by decide) j hlt;obtain ⟨P1,u1,Q1,t1,rfl,g1,e1⟩:=qw hk1;obtain ⟨P2,u2,Q2,t2,rfl,g2,e2⟩:=qw hk2;have hq:=HSM.out.b9 x (List.mem_of_getElem? hx.out);have ho:=HSM.out.o9 x (List.mem_of_getElem? hx.out);have HS:=Lib.hid (fun X (h:Below wr.heap.size wr X)=>same_eq _ x.off (Nat.le_refl _) hq X P1 P2 u1 u2 (Ft.below g1 h).now (Ft.below g2 h).now);have HP:=Lib.hid (fun X (h:Below wr.heap.size wr X)=>rQ X Q1 Q2 t1 t2 x.fns (wX (Ft.below e1 h).now ho) (wX (Ft.below e2 h).now ho));subst hA1 hA2;have hz:iE.sz=3:=rfl;have d0:=hc1 0 _ rfl;have d1:=hc1 1 _ rfl;have d2:=hc1 2 _ rfl;have f0:=hc2 0 _ rfl;have f1:=hc2 1 _ rfl;have f2:=hc2 2 _ rfl;simp only [hz,Nat.add_zero]at d0 d1 d2 f0 f1 f2;have hb1:=World.block_lt_of_cell? _ _ d0;have hb2:=World.block_lt_of_cell? _ _ f0;have HDD:=Lib.hid (show ∀X,Below wr.heap.size wr X→X.cell? ⟨W.heap.size,9,none⟩=some (.slice (some ⟨x1,o1,none⟩) M.elems.length ca9)∧X.cell? ⟨W.heap.size+1,9,none⟩=some (.slice (some ⟨x2,o2,none⟩) M.elems.length cb9)∧X.cell? ⟨x1,o1+j * 3,none⟩=some (.int .u32 x.tab)∧X.cell? ⟨x1,o1+j * 3+1,none⟩=some (.slice P1 x.off.length u1)∧X.cell? ⟨x1,o1+j * 3+2,none⟩=some (.slice Q1 x.fns.length t1)∧X.cell? ⟨x2,o2+j * 3,none⟩=some (.int .u32 x.tab)∧X.cell? ⟨x2,o2+j * 3+1,none⟩=some (.slice P2 x.off.length u2)∧X.cell? ⟨x2,o2+j * 3+2,none⟩=some (.slice Q2 x.fns.length t2)from fun X h=>⟨(h.cell (p:=⟨_,_,none⟩) pl').trans p,(h.cell (p:=⟨_,_,none⟩) rl').trans r,aB h d0,aB h d1,aB h d2,aB h f0,aB h f1,aB h f2⟩);clear hx hk1 hk2 hc1 hc2 g1 g2 e1 e2 hpa hpb hq ho;go_wp2_with fail
     go_region_held3 (fun X=>X.cell? ⟨W.heap.size,9,none⟩=some (.slice (some ⟨x1,o1,none⟩) M.elems.length ca9)∧X.cell? ⟨W.heap.size+1,9,none⟩=some (.slice (some ⟨x2,o2,none⟩) M.elems.length cb9)∧X.cell? ⟨x1,o1+j * 3,none⟩=some (.int .u32 x.tab)∧X.cell? ⟨x1,o1+j * 3+1,none⟩=some (.slice P1 x.off.length u1)∧X.cell? ⟨x1,o1+j * 3+2,none⟩=some (.slice Q1 x.fns.length t1)∧X.cell? ⟨x2,o2+j * 3,none⟩=some (.int .u32 x.tab)∧X.cell? ⟨x2,o2+j * 3+1,none⟩=some (.slice P2 x.off.length u2)∧X.cell? ⟨x2,o2+j * 3+2,none⟩=some (.slice Q2 x.fns.length t2)) (first|with_reducible exact HDD.out _ hB3|with_reducible exact HDD.out _ hB2|exact HDD.out _ (bH (Below.refl wr.heap.size wr)))
      (first|(go_at_call 28;refine (HS.out _ (bH (Below.refl wr.heap.size wr))).mono ?_;rintro E W2 ⟨rfl,hBx⟩;have hB2:=dA (bH (Below.refl wr.heap.size wr)) hBx)|(go_at_call 29;refine (HP.out _ hB2).mono ?_;rintro E W3 ⟨rfl,m3,rfl⟩;have hB3:=dA hB2 (iD m3)))
     all_goals have HB9:=Lib.hid (HB.out.trans (hB3.mono HB.out.size))
     all_goals clear hBx hB2 hB3
     all_goals go_wp2_with fail
     all_goals (refine ⟨?_, ?_⟩;rotate_left;(simp [intOf];omega))
     all_goals (first|exact ⟨j+1,by omega,by go_num,HB9⟩|((repeat apply Exists.intro);refine ⟨?_,rfl⟩;exact ⟨j+1,by omega,by go_num,HB9⟩))
    ·have hlt2:¬(j:Int)<(M.elems.length:Int):=by omega
     clear hlt;clear p r pl' rl';clear hpa hpb;obtain ⟨q0,q1,q2,q3,q4,q5,q6,q7,q8,q9,q10,q11,q12,q13,q14,q15,q16,q17,q18,q19,q20,q21,q22,q23⟩:=HD.out _ HB.out;go_wp2_with fail;clear q0 q1 q2 q3 q4 q5 q6 q7 q8 q9 q10 q11 q12 q13 q14 q15 q16 q17 q18 q19 q20 q21 q22 q23;go_loopw [7] (fun i wr=>∃(j:Nat),j≤M.datas.length∧i= .int .i64 j∧Hid (Below W1.heap.size W1 wr)) (fun i _=>M.datas.length - (intOf i).toNat)
     case atStart=>exact ⟨0,Nat.zero_le _,rfl,HB.out⟩
     case round=>
      obtain ⟨j,hj,rfl,HB⟩:=hrel;have hpa:=HPA.out.below HB.out HPA.out.lt;have hpb:=HPB.out.below HB.out HPB.out.lt;have p:=hpa.cell 10;have r:=hpb.cell 10;have pl' :=hpa.lt;have rl' :=hpb.lt;have hll:=HSM.out.l10;by_cases hlt:j< M.datas.length
      ·have hlt2:(j:Int)<(M.datas.length:Int):=by omega
       obtain ⟨x1,o1,x2,o2,x,cs1,cs2,hA1,hA2,hx,hk1,hk2,hc1,hc2⟩:=FC.two (Ft.below HF10.out HB.out) (Ft.below HG10.out HB.out) (show 0< 3 by decide) j hlt;obtain ⟨P1,u1,Q1,t1,rfl,g1,e1⟩:=qP hk1;obtain ⟨P2,u2,Q2,t2,rfl,g2,e2⟩:=qP hk2;have hq:=HSM.out.b10 x (List.mem_of_getElem? hx.out);have ho:=HSM.out.o10 x (List.mem_of_getElem? hx.out);have HS:=Lib.hid (fun X (h:Below wr.heap.size wr X)=>same_eq _ x.off (Nat.le_refl _) hq X P1 P2 u1 u2 (Ft.below g1 h).now (Ft.below g2 h).now);have HC1:=Lib.hid (fun X (h:Below wr.heap.size wr X)=>dR X Q1 x.bts t1 (wX (Ft.below e1 h).now ho));have HC2:=Lib.hid (fun X (h:Below wr.heap.size wr X)=>dR X Q2 x.bts t2 (wX (Ft.below e2 h).now ho));subst hA1 hA2;have hz:iy.sz=3:=rfl;have d0:=hc1 0 _ rfl;have d1:=hc1 1 _ rfl;have d2:=hc1 2 _ rfl;have f0:=hc2 0 _ rfl;have f1:=hc2 1 _ rfl;have f2:=hc2 2 _ rfl;simp only [hz,Nat.add_zero]at d0 d1 d2 f0 f1 f2;have hb1:=World.block_lt_of_cell? _ _ d0;have hb2:=World.block_lt_of_cell? _ _ f0;have HDD:=Lib.hid (show ∀X,Below wr.heap.size wr X→X.cell? ⟨W.heap.size,10,none⟩=some (.slice (some ⟨x1,o1,none⟩) M.datas.length ca10)∧X.cell? ⟨W.heap.size+1,10,none⟩=some (.slice (some ⟨x2,o2,none⟩) M.datas.length cb10)∧X.cell? ⟨x1,o1+j * 3,none⟩=some (.int .u32 x.mem)∧X.cell? ⟨x1,o1+j * 3+1,none⟩=some (.slice P1 x.off.length u1)∧X.cell? ⟨x1,o1+j * 3+2,none⟩=some (.slice Q1 x.bts.length t1)∧X.cell? ⟨x2,o2+j * 3,none⟩=some (.int .u32 x.mem)∧X.cell? ⟨x2,o2+j * 3+1,none⟩=some (.slice P2 x.off.length u2)∧X.cell? ⟨x2,o2+j * 3+2,none⟩=some (.slice Q2 x.bts.length t2)∧(convert 22 9 (.slice Q1 x.bts.length t1)).run Tryz.prog X= .ok (.string (strOfNums x.bts)) X∧(convert 22 9 (.slice Q2 x.bts.length t2)).run Tryz.prog X= .ok (.string (strOfNums x.bts)) X from fun X h=>⟨(h.cell (p:=⟨_,_,none⟩) pl').trans p,(h.cell (p:=⟨_,_,none⟩) rl').trans r,aB h d0,aB h d1,aB h d2,aB h f0,aB h f1,aB h f2,HC1.out X h,HC2.out X h⟩);clear hx hk1 hk2 hc1 hc2 g1 g2 e1 e2 hpa hpb hq ho;go_wp2_with fail
       go_region_held3 (fun X=>X.cell? ⟨W.heap.size,10,none⟩=some (.slice (some ⟨x1,o1,none⟩) M.datas.length ca10)∧X.cell? ⟨W.heap.size+1,10,none⟩=some (.slice (some ⟨x2,o2,none⟩) M.datas.length cb10)∧X.cell? ⟨x1,o1+j * 3,none⟩=some (.int .u32 x.mem)∧X.cell? ⟨x1,o1+j * 3+1,none⟩=some (.slice P1 x.off.length u1)∧X.cell? ⟨x1,o1+j * 3+2,none⟩=some (.slice Q1 x.bts.length t1)∧X.cell? ⟨x2,o2+j * 3,none⟩=some (.int .u32 x.mem)∧X.cell? ⟨x2,o2+j * 3+1,none⟩=some (.slice P2 x.off.length u2)∧X.cell? ⟨x2,o2+j * 3+2,none⟩=some (.slice Q2 x.bts.length t2)∧(convert 22 9 (.slice Q1 x.bts.length t1)).run Tryz.prog X= .ok (.string (strOfNums x.bts)) X∧(convert 22 9 (.slice Q2 x.bts.length t2)).run Tryz.prog X= .ok (.string (strOfNums x.bts)) X) (first|with_reducible exact HDD.out _ hB3|with_reducible exact HDD.out _ hB2|exact HDD.out _ (bH (Below.refl wr.heap.size wr)))
        (first|(go_at_call 28;refine (HS.out _ (bH (Below.refl wr.heap.size wr))).mono ?_;rintro E W2 ⟨rfl,hBx⟩;have hB2:=dA (bH (Below.refl wr.heap.size wr)) hBx))
       all_goals have HB9:=Lib.hid (HB.out.trans (hB2.mono HB.out.size))
       all_goals clear hBx hB2 
       all_goals go_wp2_with fail
       all_goals (refine ⟨?_, ?_⟩;rotate_left;(simp [intOf];omega))
       all_goals (first|exact ⟨j+1,by omega,by go_num,HB9⟩|((repeat apply Exists.intro);refine ⟨?_,rfl⟩;exact ⟨j+1,by omega,by go_num,HB9⟩))
      ·have hlt2:¬(j:Int)<(M.datas.length:Int):=by omega
       clear hlt;clear hpa hpb;go_wp2_with fail;go_ret;exact ⟨rfl,HBL.out.trans (HB.out.mono HBL.out.size)⟩
theorem yj (B:List Int) (a:Nat) (e:Int):
  ik B a e=(let h:=az (aV B a [96] 107) a e
   let x:=gy B h.2.1 h.2.2
   let y:=gy B x.2.1 x.2.2
   if y.2.2=0 then ((x.1,y.1),y.2)else (([], []),a,y.2.2)):=by
 unfold ik lG;by_cases he:e=0
 ·subst he;dsimp only;rw [if_pos rfl];split
  next h=>exact Prod.ext rfl (Prod.ext rfl h.symm)
  next h=>rfl
 ·rw [if_neg he];have h1:az (aV B a [96] 107) a e=(0,a,e):=by rw [az,if_neg he]
  have h2:gy B a e=([],a,e):=by
   unfold gy;rw [show az (aG B a) a e=(0,a,e)by rw [az,if_neg he]];rfl
  simp [h1,h2,he]
def Bj (W:World) (p q:Nat) (B:List Int) (r:(List Int×List Int)×Nat×Int) (E:Ending) (W' :World):Prop:=
 (∃A1 c1 A2 c2,E= .returned (.tuple #[.slice A1 r.1.1.length c1, .slice A2 r.1.2.length c2])∧r.1.1.length≤c1∧r.1.2.length≤c2∧FC (rng .u8) W' (fun k=>W.heap.size≤k) A1 r.1.1∧FC (rng .u8) W' (fun k=>W.heap.size≤k) A2 r.1.2)∧aF W W' p q B r.2.1 r.2.2
theorem Cs {α:Type} {d:Kd α} {X Y:World} {n p q:Nat} {B:List Int} {a:Nat} {e:Int} {A:Option Addr} {xs:List α} (h:FC d X (fun k=>n≤k) A xs) (hG:aF X Y p q B a e) (hp:p< n):FC d Y (fun k=>n≤k) A xs:=
 Ft.step h (bS hG.2 (fun k hk e=>by injection e with e;have hk2:n≤k:=hk;omega))
theorem zS (W:World) (p q:Nat) (B:List Int) (a:Nat) (e:Int) (hC:Rdr W p q B a e) (hB:aK B):
  Calls Tryz.prog 48 #[.pointer (some ⟨p,0,none⟩)] W (Bj W p q B (ik B a e)):=by
 have hpl:=hC.lt;have hab:=hC.2.1;have HS:=Lib.hid ((StR.start hC).alloc (.cells #[.int .u8 96] 5));have H1:=Lib.hid (iI _ p q W.heap.size B a e 107 (some ⟨W.heap.size,0,none⟩) 1 [96] (hC.alloc (.cells #[.int .u8 96] 5)) hB rfl (by omega) (fM W [96] 5) (by decide));obtain ⟨R,hR⟩:∃R,R=ik B a e:=⟨_,rfl⟩;rw [←hR];rw [yj]at hR;dsimp only at hR;generalize az (aV B a [96] 107) a e=h at *;obtain ⟨hv,a1,e1⟩:=h;dsimp only at H1 hR;have hx:=fun X (hX:Rdr X p q B a1 e1)=>qH X p q B a1 e1 hX hB
 simp only [←vg]at hx;generalize gy B a1 e1=x at *;obtain ⟨xs,a2,e2⟩:=x;dsimp only at hR hx;have hy:=fun X (hX:Rdr X p q B a2 e2)=>qH X p q B a2 e2 hX hB
 simp only [←vg]at hy;generalize gy B a2 e2=y at *;obtain ⟨ys,a3,e3⟩:=y;dsimp only at hR hy;have HR:=Lib.hid hR;have HX:=Lib.hid hx;have HY:=Lib.hid hy;obtain ⟨A,c,c0,c1,c2,f0,f1,f2,hle,hq,hlt,ha⟩:=hC.cells;clear hR hx hy hC hB hle hq;go_enter Tryz.func48,Tryz.ntmps48;go_wp2_with fail;refine H1.out.mono ?_;rintro E W1 ⟨rfl,hG⟩;replace HS:=Lib.hid (HS.out.goes hG);have hs1:=HS.out.sz;clear hG H1 c0 c1 c2 f0 f1 f2 hlt;go_wp2_with fail;refine (HX.out _ HS.out.rd).mono ?_;rintro E W2 ⟨⟨v1,rfl,ho1⟩,hG⟩;replace HS:=Lib.hid (HS.out.goes hG);obtain ⟨A1,k1,rfl,hl1,hF1⟩:=ho1.reads;have hs2:=HS.out.sz;have HF1:=Lib.hid (Ft.mono hF1 (ok' :=fun k=>W.heap.size≤k) (fun k hk=>by rcases hk with hk|hk;exact hk.elim;omega));have HL1:=Lib.hid hl1;dsimp only at *;clear hG ho1 hF1 hl1;go_wp2_with fail;refine (HY.out _ HS.out.rd).mono ?_;rintro E W3 ⟨⟨v2,rfl,ho2⟩,hG⟩;replace HF1:=Lib.hid (Cs HF1.out hG hpl);replace HS:=Lib.hid (HS.out.goes hG);obtain ⟨A2,k2,rfl,hl2,hF2⟩:=ho2.reads;have hs3:=HS.out.sz;have HF2:=Lib.hid (Ft.mono hF2 (ok' :=fun k=>W.heap.size≤k) (fun k hk=>by rcases hk with hk|hk;exact hk.elim;omega));have HL2:=Lib.hid hl2;dsimp only at *;clear hG ho2 hF2 hl2;obtain ⟨A,c,c0,c1,c2,f0,f1,f2,hle,hq,hlt,ha⟩:=HS.out.rd.cells;clear hle hq;by_cases h0:e3=0
 ·subst h0;have hRR:R=((xs,ys),a3,0):=by rw [HR.out];simp
  go_wp2_with fail;go_ret2;try rw [hRR]
  exact ⟨⟨A1,k1,A2,k2,rfl,HL1.out,HL2.out,HF1.out,HF2.out⟩,StR.fin HS.out⟩
 ·have h0' :(e3 !=0)=true:=by simp;exact h0
  have hRR:R=(([], []),a,e3):=by rw [HR.out];simp [h0]
  go_wp2_with fail;refine (dV _ p q B a3 a e3 HS.out.rd hab).mono ?_;rintro E W4 ⟨rfl,hG⟩;rw [if_neg h0]at hG;replace HS:=Lib.hid (HS.out.goes hG);clear hG c0 c1 c2 f0 f1 f2 hlt;go_wp2_with fail;go_ret2;try rw [hRR]
  exact ⟨⟨none,0,none,0,rfl,Nat.le_refl _,Nat.le_refl _,FC.nil,FC.nil⟩,StR.fin HS.out⟩
def yD (W:World) (p q:Nat) (B:List Int) (r:List Int×Nat×Int) (E:Ending) (W' :World):Prop:=
 (∃p2,E= .returned (.pointer (some ⟨p2,0,none⟩))∧W.heap.size≤p2∧Rdr W' p2 q r.1 0 r.2.2)∧aF W W' p q B r.2.1 r.2.2
theorem qh (W:World) (p q:Nat) (B:List Int) (a:Nat) (e:Int) (hC:Rdr W p q B a e) (hB:aK B) (hq:q< W.heap.size):
  Calls Tryz.prog 21 #[.pointer (some ⟨p,0,none⟩)] W (yD W p q B (aT B a e)):=by
 have HS:=Lib.hid (StR.start hC);have hpl:=hC.lt;have H1:=fq W p q B a 32 e hC hB (by decide) (by decide);simp only [show ∀a,bQ B a 32=aI B a from fun _=>rfl]at H1;have hub:=bP (a:=a) (e:=e) hB;unfold aT;generalize az (aI B a) a e=u at *;obtain ⟨uv,a1,e1⟩:=u;dsimp only at H1 hub ⊢;obtain ⟨n,rfl⟩:=Int.eq_ofNat_of_zero_le hub.1;rw [Int.toNat_natCast];have HT:=Lib.hid (fun X (hX:Rdr X p q B a1 e1)=>mM X p q B a1 n e1 hX hB (by omega));generalize rdL (cO B a1 n) a1 e1=t at *;obtain ⟨l,a2,e2⟩:=t;try dsimp only at HT ⊢
 have HH1:=Lib.hid H1;clear H1 hub hC hB;go_enter Tryz.func21,Tryz.ntmps21;go_wp2_with fail;refine HH1.out.mono ?_;rintro E W1 ⟨rfl,hG⟩;replace HS:=Lib.hid (HS.out.goes hG);have hs1:=HS.out.sz;clear hG HH1;go_wp2_with fail;refine (HT.out _ HS.out.rd).mono ?_;rintro E W2 ⟨⟨A,c,rfl,hle,hby⟩,hG⟩;replace HS:=Lib.hid (HS.out.goes hG);have hs2:=HS.out.sz;have HBY:=Lib.hid hby;have HLE:=Lib.hid hle;obtain ⟨A9,c9,c0,c1,c2,f0,f1,f2,hle9,hq9,hlt,ha⟩:=HS.out.rd.cells;clear hG hle hby hle9 hq9;go_wp2_with fail;go_ret;have hal:Below W2.heap.size W2 (W2.alloc (.cells #[.slice A l.length c, .int .i64 0, .int .i64 e2] 57)):=aY (Below.refl _ _) _;refine ⟨⟨W2.heap.size,rfl,hs2,by omega,Nat.zero_le _,A,c,HLE.out,Blk.new W2 _ _, ?_⟩,StR.fin (HS.out.alloc _)⟩;exact HBY.out.grown (aL hal none) (by simp)
theorem mf (W:World) (p q p2:Nat) (B L:List Int) (a a2:Nat) (e e2:Int) (hC:Rdr W p q B a e) (hD:Rdr W p2 q L a2 e2) (hne:p≠p2) (hl:L.length≤1048576):
  Calls Tryz.prog 24 #[.pointer (some ⟨p,0,none⟩), .pointer (some ⟨p2,0,none⟩)] W fun E W' =>E= .returned (.tuple #[])∧aF W W' p q B a (if e=0 then eH (a2,e2) L.length else e):=by
 obtain ⟨R,hR⟩:∃R,R=(if e=0 then eH (a2,e2) L.length else e):=⟨_,rfl⟩;rw [←hR];have HR:=Lib.hid hR;have H1:=Lib.hid (dx W p q B a e e2 hC);have HD:=Lib.hid hD;obtain ⟨A,c,c0,c1,c2,f0,f1,f2,hle,hq,hlt,ha⟩:=hD.cells;clear hR hC hD hle hq;go_enter Tryz.func24,Tryz.ntmps24;go_wp2_with fail;refine H1.out.mono ?_;rintro E W1 ⟨rfl,hG⟩;have hD1:=HD.out.grown' hG.2 (fun e=>hne (by injection e with e;exact e.symm)) (fun _ e=>hG.1.1 (by injection e with e;exact e.symm));have HG:=Lib.hid hG;clear c0 c1 c2 f0 f1 f2 hlt hG H1;obtain ⟨A1,k1,c0,c1,c2,f0,f1,f2,hle,hq,hlt,_⟩:=hD1.cells;clear hD1 hle hq;by_cases h2:e2=0
 ·subst h2;by_cases h3:a2< L.length
  ·have h4:(a2:Int)<(L.length:Int):=by omega
   have hRR:R=cz (cz e 0) 105:=by
    rw [HR.out];unfold eH cz;by_cases he:e=0<;>simp [he,h3]
   go_wp2_with fail;go_quiet (fail);go_wp2_with fail;refine (dx _ p q B a (cz e 0) 105 (aF.drewN HG.out.1 _).1).mono ?_;rintro E W2 ⟨rfl,hG2⟩;have HG2:=Lib.hid hG2;clear hG2 c0 c1 c2 f0 f1 f2 hlt;go_wp2_with fail;go_end0;rw [hRR];exact ⟨rfl,(HG.out.trans (aF.drewN HG.out.1 _)).trans HG2.out⟩
  ·have h4:¬(a2:Int)<(L.length:Int):=by omega
   have hRR:R=cz e 0:=by
    rw [HR.out];unfold eH cz;by_cases he:e=0<;>simp [he,h3]
   go_wp2_with fail;go_quiet (fail);go_wp2_with fail;go_end0;rw [hRR];exact ⟨rfl,HG.out.trans (aF.drewN HG.out.1 _)⟩
 ·have h3:(e2==0)=false:=by simp;exact h2
  have hRR:R=cz e e2:=by
   rw [HR.out];unfold eH cz;by_cases he:e=0<;>simp [he,h2]
  go_wp2_with fail;go_quiet (fail);go_wp2_with fail;go_end0;rw [hRR];exact ⟨rfl,HG.out.trans (aF.drewN HG.out.1 _)⟩
end Go.Proofs.YtofaiocffifhfaaGreat
