/- Lemmas towards this claim's statement, each under the conditions that it states itself. -/
import Derived.Test.YtofaiocffifhfaaGreatMd6
import Derived.Deep.RegionHeld
import Derived.Defers
import Derived.Deep.CutRange
set_option maxRecDepth 100000
set_option maxHeartbeats 8000000
set_option linter.unusedVariables false
set_option linter.unusedSimpArgs false
namespace Go.Proofs.YtofaiocffifhfaaGreat
open Go.RowKit Go.Shelf YtofaiocffifhfaaGreatB Go.Proofs.YtofaiocffifhfaaGreatW.PrintWords
theorem qD:∀{a b:List Int},(∀x∈a,0≤x∧x≤255)→(∀x∈b,0≤x∧x≤255)→a.map (fun n=>UInt8.ofNat n.toNat)=b.map (fun n=>UInt8.ofNat n.toNat)→a=b
 | [], [],_,_,_=>rfl
 | [],_::_,_,_,h=>by simp at h
 |_::_, [],_,_,h=>by simp at h
 |x::a,y::b,ha,hb,h=>by
  simp only [List.map_cons,List.cons.injEq]at h;have hx:=ha x (by simp);have hy:=hb y (by simp);have h1:=congrArg UInt8.toNat h.1;simp at h1;have hxy:x=y:=by omega
  rw [hxy,qD (fun z hz=>ha z (by simp [hz])) (fun z hz=>hb z (by simp [hz])) h.2]
theorem tu {a b:List Int} (ha:∀x∈a,0≤x∧x≤255) (hb:∀x∈b,0≤x∧x≤255) (h:strOfNums a=strOfNums b):a=b:=
 qD ha hb (by have:=congrArg (fun s:ByteArray=>s.data.toList) h;simpa [strOfNums_data] using this)
theorem pF {a b:ByteArray} (h:a≠b):(a.toList==b.data.toList)=false:=by
 rw [ByteArray.toList_eq];exact beq_eq_false_iff_ne.2 (fun e=>h (ByteArray.ext (Array.toList_inj.1 e)))
def iR (M:df):List FnD:=List.zipWith (fun t b=>⟨t,b.loc,b.body⟩) M.tys M.bodies
def ig (sat:Bool) (B:List Int):(df×List FnD)×Int:=
 if 65536< B.length then (({}, []),3)
 else if B.length< 8∨¬B.take 8=bB then (({}, []),103)
 else (let r:=jm (dz sat (B.drop 8)) (B.drop 8) ((B.drop 8).length+1) {} 0 0 0
  if r.2.2=0 then (if r.1.tys.length=r.1.bodies.length then ((r.1,iR r.1),0)else (({}, []),109))else (({}, []),r.2.2))
def nN (W:World) (r:(df×List FnD)×Int) (E:Ending) (W' :World):Prop:=
 Below W.heap.size W W' ∧∃v0 v1 v2 v3 v4 v5 v6 v9 v10 v11 v12,E= .returned (.tuple #[.agg #[v0,v1,v2,v3,v4,v5,v6, .bool r.1.1.starts, .int .u32 r.1.1.start,v9,v10], .int .i64 r.2])∧
  kP (fun k=>W.heap.size≤k) W' r.1.1 v0 v1 v3 v4 v5 v6 v9 v10 v11 v12∧Row kFn (fun k=>W.heap.size≤k) W' v2 r.1.2
theorem qL {ok:Nat→Prop} {X:World}:kP ok X {} (.slice none 0 0) (.slice none 0 0) (.slice none 0 0) (.slice none 0 0) (.slice none 0 0) (.slice none 0 0) (.slice none 0 0) (.slice none 0 0) (.slice none 0 0) (.slice none 0 0):=
 ⟨Row.nil,Row.nil,Row.nil,Row.nil,Row.nil,Row.nil,Row.nil,Row.nil,Row.nil,Row.nil⟩
theorem iL {W W' :World} {e:Int} (hb:Below W.heap.size W W'):nN W (({}, []),e) (.returned (.tuple #[.agg (dU (.slice none 0 0)), .int .i64 e])) W' :=
 ⟨hb,_,_,_,_,_,_,_,_,_,_,_,rfl,qL,Row.nil⟩
theorem uy (W:World) (A:Option Addr) (c:Nat) (B:List Int) (sat:Bool) (hR:RdI W .u8 A B) (hB:aK B) (hle:B.length≤c) (h:65536< B.length∨B.length< 8∨¬B.take 8=bB):
  Calls Tryz.prog 8 #[.slice A B.length c, .bool sat] W (nN W (ig sat B)):=by
 have hz:=Blk.new W (dU (.slice none 0 0)) 34;have hB0:Below W.heap.size W (W.alloc (.cells (dU (.slice none 0 0)) 34)):=(Below.refl _ _).alloc (Nat.le_refl _) _;have z0:(W.alloc (.cells (dU (.slice none 0 0)) 34)).cell? ⟨W.heap.size,0,none⟩=some (.slice none 0 0):=hz.cell 0;have z1:(W.alloc (.cells (dU (.slice none 0 0)) 34)).cell? ⟨W.heap.size,1,none⟩=some (.slice none 0 0):=hz.cell 1;have z2:(W.alloc (.cells (dU (.slice none 0 0)) 34)).cell? ⟨W.heap.size,2,none⟩=some (.slice none 0 0):=hz.cell 2;have z3:(W.alloc (.cells (dU (.slice none 0 0)) 34)).cell? ⟨W.heap.size,3,none⟩=some (.slice none 0 0):=hz.cell 3;have z4:(W.alloc (.cells (dU (.slice none 0 0)) 34)).cell? ⟨W.heap.size,4,none⟩=some (.slice none 0 0):=hz.cell 4;have z5:(W.alloc (.cells (dU (.slice none 0 0)) 34)).cell? ⟨W.heap.size,5,none⟩=some (.slice none 0 0):=hz.cell 5;have z6:(W.alloc (.cells (dU (.slice none 0 0)) 34)).cell? ⟨W.heap.size,6,none⟩=some (.slice none 0 0):=hz.cell 6;have z7:(W.alloc (.cells (dU (.slice none 0 0)) 34)).cell? ⟨W.heap.size,7,none⟩=some (.bool false):=hz.cell 7;have z8:(W.alloc (.cells (dU (.slice none 0 0)) 34)).cell? ⟨W.heap.size,8,none⟩=some (.int .u32 0):=hz.cell 8;have z9:(W.alloc (.cells (dU (.slice none 0 0)) 34)).cell? ⟨W.heap.size,9,none⟩=some (.slice none 0 0):=hz.cell 9;have z10:(W.alloc (.cells (dU (.slice none 0 0)) 34)).cell? ⟨W.heap.size,10,none⟩=some (.slice none 0 0):=hz.cell 10;have zf0:=hz.frozen 0;have zf1:=hz.frozen 1;have zf2:=hz.frozen 2;have zf3:=hz.frozen 3;have zf4:=hz.frozen 4;have zf5:=hz.frozen 5;have zf6:=hz.frozen 6;have zf7:=hz.frozen 7;have zf8:=hz.frozen 8;have zf9:=hz.frozen 9;have zf10:=hz.frozen 10;have zl:=hz.lt;have HB0:=Lib.hid hB0;clear hz;by_cases h1:65536< B.length
 ·have hd:ig sat B=(({}, []),3):=if_pos h1;rw [hd];have h2:(65536:Int)< B.length:=by omega
  clear hR hB h h1 hd;go_enter Tryz.func8,Tryz.ntmps8;go_wp2_with fail;refine bodyPost_ret (v:= .tuple #[.agg (dU (.slice none 0 0)), .int .i64 3]) (by simp [results,Tryz.results8,go_sem,z0,z1,z2,z3,z4,z5,z6,z7,z8,z9,z10,zl]) rfl (iL ?_)
  (repeat (first|with_reducible exact HB0.out|(with_reducible refine d9 ?_ _ _ _ ?_;rotate_left;omega)|with_reducible refine aY ?_ _|with_reducible refine bH ?_))
 ·have h2:¬(65536:Int)< B.length:=by omega
  by_cases h3:B.length< 8
  ·have hd:ig sat B=(({}, []),103):=by rw [ig,if_neg h1,if_pos (.inl h3)]
   rw [hd];have h4:(B.length:Int)< 8:=by omega
   clear hR hB h h1 hd h3;go_enter Tryz.func8,Tryz.ntmps8;go_wp2_with fail;refine bodyPost_ret (v:= .tuple #[.agg (dU (.slice none 0 0)), .int .i64 103]) (by simp [results,Tryz.results8,go_sem,z0,z1,z2,z3,z4,z5,z6,z7,z8,z9,z10,zl]) rfl (iL ?_)
   (repeat (first|with_reducible exact HB0.out|(with_reducible refine d9 ?_ _ _ _ ?_;rotate_left;omega)|with_reducible refine aY ?_ _|with_reducible refine bH ?_))
  ·have h5:¬B.take 8=bB:=by rcases h with h|h|h;exact absurd h h1;exact absurd h h3;exact h
   have hd:ig sat B=(({}, []),103):=by rw [ig,if_neg h1,if_pos (.inr h5)]
   rw [hd];have h4:¬(B.length:Int)< 8:=by omega
   have h6:(8:Int)≤c:=by omega
   have hl8:(B.take 8).length=8:=by rw [List.length_take];omega
   have hR8:RdI W .u8 A (B.take 8):=⟨by omega,fun _=>by
    obtain ⟨b,o,e,hcc⟩:=hR.2 (by omega);refine ⟨b,o,e,fun j x hj=>hcc j x ?_⟩;have:=(List.getElem?_eq_some_iff.1 hj).1;rw [List.getElem?_take]at hj;split at hj
    ·exact hj
    ·cases hj⟩
   have hk1:=dR _ A (B.take 8) c (hR8.below hB0);rw [hl8]at hk1;have hs:strOfNums (B.take 8)≠strOfNums bB:=fun e=>h5 (tu (fun x hx=>hB.2 x (List.mem_of_mem_take hx)) (by decide) e)
   rw [sQ]at hs;have hsb:((strOfNums (B.take 8)).toList== [0,97,115,109,1,0,0,0])=false:=pF hs;generalize strOfNums (B.take 8)=s at *;clear hR hB h h1 hd h3 h5 hl8 hR8 hs hB0;go_enter Tryz.func8,Tryz.ntmps8;go_wp2_with fail;refine bodyPost_ret (v:= .tuple #[.agg (dU (.slice none 0 0)), .int .i64 103]) (by simp [results,Tryz.results8,go_sem,z0,z1,z2,z3,z4,z5,z6,z7,z8,z9,z10,zl]) rfl (iL ?_)
   (repeat (first|with_reducible exact HB0.out|(with_reducible refine d9 ?_ _ _ _ ?_;rotate_left;omega)|with_reducible refine aY ?_ _|with_reducible refine bH ?_))
theorem Gw {W X:World} {b:Nat} (h:W.grownBy X (some b)) (i:Nat) (v:Value):W.grownBy (X.setCell ⟨b,i,none⟩ v) (some b):=h.trans (bA X b i v)
theorem yE {W wr Y:World} {M:df} {F:List FnD} {v0 v1 vf v3 v4 v5 v6 v9 v10 v11 v12:Value} (hb:Below W.heap.size W wr) (hg:wr.grownBy Y (some W.heap.size)) (hR:kP (fun k=>W.heap.size+1≤k) wr M v0 v1 v3 v4 v5 v6 v9 v10 v11 v12) (hF:Row kFn (fun k=>W.heap.size+1≤k) wr vf F):
  nN W ((M,F),0) (.returned (.tuple #[.agg #[v0,v1,vf,v3,v4,v5,v6, .bool M.starts, .int .u32 M.start,v9,v10], .int .i64 0])) Y:=by
 have ha:Agr (fun k=>W.heap.size+1≤k) wr Y:=bS hg (fun k hk e=>by injection e with e;omega);exact ⟨hb.grown hg hb.size (fun k hk=>by injection hk with hk;omega),v0,v1,vf,v3,v4,v5,v6,v9,v10,v11,v12,rfl,(hR.step ha).mono (fun k hk=>by omega),(hF.step ha).mono (fun k hk=>by omega)⟩
theorem iK {α:Type} {d:Kd α} {X:World} {ok ok' :Nat→Prop} {A:Option Addr} {xs:List α} (h:FC d X ok A xs) (hk:∀k,ok k→k< X.heap.size→ok' k):FC d X ok' A xs:=Ft.bound h hk
theorem rq {α:Type} (P:α→Prop) (step:α→Int→Nat→α×Nat×Int) (B:List Int) (hs:∀M n a,P M→P (step M n a).1):∀(f:Nat) (M:α) (hi:Int) (a:Nat) (e:Int),P M→P (jm step B f M hi a e).1
 |0,M,hi,a,e,h=>h
 |f+1,M,hi,a,e,h=>by
  rw [jm];split
  ·split
   ·exact h
   ·split
    ·exact h
    ·exact rq P step B hs f _ _ _ _ (hs _ _ _ h)
  ·exact h
theorem yU {α:Type} (rd:Nat→Int→α×Nat×Int):∀(k a:Nat) (e:Int),(lsM rd k a e).1.length≤k
 |0,a,e=>by simp [lsM]
 |k+1,a,e=>by
  rw [lsM];split
  ·have:=yU rd k (rd a 0).2.1 (rd a 0).2.2;simp only [List.length_cons];omega
  ·simp
theorem fV {α:Type} (rd:Nat→Int→α×Nat×Int) {B:List Int} (hB:aK B) (a:Nat) (e:Int):(bq rd B a e).1.length≤4096:=by
 have h1:=yU rd (az (aG B a) a e).1.toNat (az (aG B a) a e).2.1 (az (aG B a) a e).2.2;have h2:=bK (a:=a) (e:=e) hB;unfold bq;omega
theorem qm {sat:Bool} {B:List Int} (hB:aK B) (M:df) (n:Int) (a:Nat) (h:M.bodies.length≤4096):(dz sat B M n a).1.bodies.length≤4096:=by
 unfold dz;dsimp only;split
 ·unfold je;split<;>first|exact h|exact fV _ (fw hB a 0) 0 0
 ·exact h
theorem wm (W:World) (A:Option Addr) (c:Nat) (T:List Int) (sat:Bool) (hR:RdI W .u8 A (bB++T)) (hB:aK (bB++T)) (hl:T.length≤65528) (hc:(bB++T).length≤c):
  Calls Tryz.prog 8 #[.slice A (bB++T).length c, .bool sat] W (nN W (ig sat (bB++T))):=by
 have hml:(bB++T).length=8+T.length:=by simp [bB];omega
 have hd:ig sat (bB++T)=(let r:=jm (dz sat T) T (T.length+1) {} 0 0 0;if r.2.2=0 then (if r.1.tys.length=r.1.bodies.length then ((r.1,iR r.1),0)else (({}, []),109))else (({}, []),r.2.2)):=by
  unfold ig;rw [if_neg (by omega),if_neg (fun h=>by rcases h with h|h;omega;exact h (by simp [bB]))];rfl
 obtain ⟨RR,hRR⟩:∃RR,RR=ig sat (bB++T):=⟨_,rfl⟩;rw [←hRR];rw [hd]at hRR;dsimp only at hRR;have HRR:=Lib.hid hRR;clear hd hRR;obtain ⟨A2,hr2,hA2⟩:=Cy (P:=Tryz.prog) 22 5 .i64 1 Tryz.underlying22 yJ A (bB++T).length c 8 (by omega)
 have hR8:RdI W .u8 A bB:=⟨by decide,fun _=>by
  obtain ⟨b,o,e,hcc⟩:=hR.2 (by omega);refine ⟨b,o,e,fun j x hj=>hcc j x ?_⟩;have:=(List.getElem?_eq_some_iff.1 hj).1
  rw [List.getElem?_append_left this];exact hj⟩
 have hRT:RdI W .u8 A2 T:=⟨by omega,fun hp=>by
  obtain ⟨b,o,e,hcc⟩:=hR.2 (by omega);refine ⟨b,o+8,by rw [hA2 (by omega),e];simp [Addr.add],fun j x hj=> ?_⟩;rw [Nat.add_assoc];refine hcc (8+j) x ?_;rw [List.getElem?_append_right (by simp [bB])]
  simpa [bB] using hj⟩
 have hk1:=fun X (h:Below W.heap.size W X)=>dR X A bB c (hR8.below h)
 rw [sQ]at hk1;have HK:=Lib.hid hk1;have HR:=Lib.hid hRT;have hBT:aK T:=⟨by have:=hB.1;omega,fun x hx=>hB.2 x (List.mem_append_right _ hx)⟩;have HB:=Lib.hid hBT;rw [hml]at hc ⊢
 have hr3:∀X:World,(Instr.slice 22 (.slice A (8+T.length) c) (some (.int .i64 8)) none none).run Tryz.prog X= .ok (.slice A2 T.length (c - 8)) X:=fun X=>by
  have h:=hr2 X;rw [hml,Nat.add_sub_cancel_left]at h;exact h
 clear hr2;have hk0:∀X:World,Below W.heap.size W X→(convert 22 9 (.slice A 8 c)).run Tryz.prog X= .ok (.string ⟨#[0,97,115,109,1,0,0,0]⟩) X:=HK.out;have hk2:=hk0 _ ((Below.refl _ _).alloc (Nat.le_refl _) (.cells (dU (.slice none 0 0)) 34));clear hR hB hA2 hR8 hRT hk1 hBT hml hk0;go_enter Tryz.func8,Tryz.ntmps8;go_wp2_with fail;have hW1:Below W.heap.size W (W.alloc (.cells (dU (.slice none 0 0)) 34)):=(Below.refl _ _).alloc (Nat.le_refl _) _;have hz1:(W.alloc (.cells (dU (.slice none 0 0)) 34)).heap.size=W.heap.size+1:=World.size_alloc _ _;have hx:=Blk.new W (dU (.slice none 0 0)) 34;have HN:=Lib.hid (nS _ A2 (c - 8) T (HR.out.below hW1) HB.out);have HW1:=Lib.hid hW1;have HX:=Lib.hid hx;clear hx hW1;refine HN.out.mono ?_;rintro E W2 ⟨p,q,hp,hq,rfl,hC2,hB2⟩;have HX2:=Lib.hid (HX.out.below hB2 (by omega));have hz2:=hB2.size;have HW2:=Lib.hid (HW1.out.trans (hB2.mono (by omega)));have HC2:=Lib.hid hC2;have hpl:=hC2.lt;have HQ:=Lib.hid (fun hl=>hC2.jN hl:0< T.length→q< W2.heap.size);clear hC2 hB2 hq HN HX HW1 hk2;have hb6:=(Blk.new W2 #[.pointer (some ⟨p,0,none⟩), .bool sat] 67).alloc (.cells (xU (.slice none 0 0)) 71);have hbm:=Blk.new (W2.alloc (.cells #[.pointer (some ⟨p,0,none⟩), .bool sat] 67)) (xU (.slice none 0 0)) 71;have hx3:=(HX2.out.alloc (.cells #[.pointer (some ⟨p,0,none⟩), .bool sat] 67)).alloc (.cells (xU (.slice none 0 0)) 71);have hC3:=(HC2.out.alloc (.cells #[.pointer (some ⟨p,0,none⟩), .bool sat] 67)).alloc (.cells (xU (.slice none 0 0)) 71);have hz3:((W2.alloc (.cells #[.pointer (some ⟨p,0,none⟩), .bool sat] 67)).alloc (.cells (xU (.slice none 0 0)) 71)).heap.size=W2.heap.size+2:=by rw [World.size_alloc,World.size_alloc]
 rw [World.size_alloc]at hbm;have hmp:W2.heap.size+1≠p:=by omega
 have hs3:=uU (FJ (W.heap.size+1) (W2.heap.size+1) p) (dz sat T) _ p q (W2.heap.size+1) T sat {} hC3 HB.out (by omega) hmp ⟨⟨_,_,_,_,_,_,_,_,_,_,hbm,qL⟩,by omega,by omega⟩ (sF hmp) (xm (W.heap.size+1) _ p q (W2.heap.size+1) T sat HB.out hmp (fun hl=>by have:=HQ.out hl;omega));have hbod:=rq (fun M:df=>M.bodies.length≤4096) (dz sat T) T (fun M n a h=>qm HB.out M n a h) (T.length+1) {} 0 0 0 (Nat.zero_le _);generalize jm (dz sat T) T (T.length+1) {} 0 0 0=r at *;have HB3:=Lib.hid ((HW2.out.alloc HW2.out.size (.cells #[.pointer (some ⟨p,0,none⟩), .bool sat] 67)).alloc (by rw [World.size_alloc];have:=HW2.out.size;omega) (.cells (xU (.slice none 0 0)) 71));have HX3:=Lib.hid hx3;have HX6:=Lib.hid hb6;have HS3:=Lib.hid hs3;have HXM:=Lib.hid (show W2.heap.size+1<((W2.alloc (.cells #[.pointer (some ⟨p,0,none⟩), .bool sat] 67)).alloc (.cells (xU (.slice none 0 0)) 71)).heap.size by omega);clear hb6 hbm hx3 hC3 hs3;go_wp2_with fail;refine HS3.out.mono ?_;rintro E W4 ⟨rfl,⟨a5,⟨v0,v1,v3,v4,v5,v6,v9,v10,v11,v12,hm4,hR4⟩,_,_⟩,hC4,hG4⟩;obtain ⟨M,a4,e1⟩:=r;dsimp only at hm4 hR4 hC4 hbod ⊢;have HR4:=Lib.hid hR4;have hz4:=hG4.size;rw [hz3]at hz4;have hpw:W.heap.size≠p:=by omega
 have hmw:W.heap.size≠W2.heap.size+1:=by omega
 have hx4:Blk W4 W.heap.size (dU (.slice none 0 0)) 34:=HX3.out.g2 hG4 hpw hmw;have hx6:Blk W4 W2.heap.size #[.pointer (some ⟨p,0,none⟩), .bool sat] 67:=HX6.out.g2 hG4 (by omega) (by omega);have HB4:=Lib.hid (lN W.heap.size HB3.out p (W2.heap.size+1) hG4 (by omega) (by omega) (by omega));have HC4:=Lib.hid hC4;have HX4:=Lib.hid hx4;have HX5:=Lib.hid hx6;have HM4:=Lib.hid hm4;have x0:W4.cell? ⟨W2.heap.size,0,none⟩=some (.pointer (some ⟨p,0,none⟩)):=hx6.cell 0;have x1:W4.cell? ⟨W2.heap.size,1,none⟩=some (.bool sat):=hx6.cell 1;have xl:=hx6.lt;clear hG4 hC4 hx4 hx6 hm4 hR4 HS3 HB3 HX3 HX6 HX2 HW2 HC2 HQ HXM hz3;by_cases he:e1=0
 ·subst he;have HPG:=Lib.hid (bz W4 p q T a4 0 sat true HC4.out rfl);obtain ⟨A11,c11,h11v,hc11,hF11⟩:=HR4.out.r11;obtain ⟨A12,c12,h12v,hc12,hF12⟩:=HR4.out.r12;subst h11v h12v;have HF11:=Lib.hid hF11;have HF12:=Lib.hid hF12;have HL11:=Lib.hid hc11;have HL12:=Lib.hid hc12;clear hc11 hF11 hc12 hF12;go_wp2_with fail;refine HPG.out.mono ?_;rintro E w' ⟨rfl,rfl⟩;have hal:Below W4.heap.size W4 (W4.alloc (.cells #[.pointer (some ⟨p,0,none⟩), .bool sat] 67)):=(Below.refl _ _).alloc (Nat.le_refl _) _;have hm5:=HM4.out.alloc (.cells #[.pointer (some ⟨p,0,none⟩), .bool sat] 67);have hx5:=HX4.out.alloc (.cells #[.pointer (some ⟨p,0,none⟩), .bool sat] 67);have hB5:=HB4.out.alloc HB4.out.size (.cells #[.pointer (some ⟨p,0,none⟩), .bool sat] 67);have HR5:=Lib.hid (HR4.out.step (Agr.of_below hal));have HG11:=Lib.hid (iK (Ft.step HF11.out (Agr.of_below hal)) (ok' :=fun k=>(W.heap.size+1≤k∧k≠W2.heap.size+1∧k≠p)∧k<(W4.alloc (.cells #[.pointer (some ⟨p,0,none⟩), .bool sat] 67)).heap.size) (fun k hk hl=>⟨hk,hl⟩));have HG12:=Lib.hid (iK (Ft.step HF12.out (Agr.of_below hal)) (ok' :=fun k=>(W.heap.size+1≤k∧k≠W2.heap.size+1∧k≠p)∧k<(W4.alloc (.cells #[.pointer (some ⟨p,0,none⟩), .bool sat] 67)).heap.size) (fun k hk hl=>⟨hk,hl⟩));clear HX5 HX4 HM4 HC4 HB4 x0 x1 HR4 HF11 HF12 hal;generalize W4.alloc (.cells #[.pointer (some ⟨p,0,none⟩), .bool sat] 67)=W5 at *;have m0:W5.cell? ⟨W2.heap.size+1,0,none⟩=some (v0):=hm5.cell 0;have m1:W5.cell? ⟨W2.heap.size+1,1,none⟩=some (v1):=hm5.cell 1;have m2:W5.cell? ⟨W2.heap.size+1,2,none⟩=some (.slice none 0 0):=hm5.cell 2;have m3:W5.cell? ⟨W2.heap.size+1,3,none⟩=some (v3):=hm5.cell 3;have m4:W5.cell? ⟨W2.heap.size+1,4,none⟩=some (v4):=hm5.cell 4;have m5:W5.cell? ⟨W2.heap.size+1,5,none⟩=some (v5):=hm5.cell 5;have m6:W5.cell? ⟨W2.heap.size+1,6,none⟩=some (v6):=hm5.cell 6;have m7:W5.cell? ⟨W2.heap.size+1,7,none⟩=some (.bool M.starts):=hm5.cell 7;have m8:W5.cell? ⟨W2.heap.size+1,8,none⟩=some (.int .u32 M.start):=hm5.cell 8;have m9:W5.cell? ⟨W2.heap.size+1,9,none⟩=some (v9):=hm5.cell 9;have m10:W5.cell? ⟨W2.heap.size+1,10,none⟩=some (v10):=hm5.cell 10;have m11:W5.cell? ⟨W2.heap.size+1,11,none⟩=some (.slice A11 M.tys.length c11):=hm5.cell 11;have m12:W5.cell? ⟨W2.heap.size+1,12,none⟩=some (.slice A12 M.bodies.length c12):=hm5.cell 12;have z0:W5.cell? ⟨W.heap.size,0,none⟩=some (.slice none 0 0):=hx5.cell 0;have z1:W5.cell? ⟨W.heap.size,1,none⟩=some (.slice none 0 0):=hx5.cell 1;have z2:W5.cell? ⟨W.heap.size,2,none⟩=some (.slice none 0 0):=hx5.cell 2;have z3:W5.cell? ⟨W.heap.size,3,none⟩=some (.slice none 0 0):=hx5.cell 3;have z4:W5.cell? ⟨W.heap.size,4,none⟩=some (.slice none 0 0):=hx5.cell 4;have z5:W5.cell? ⟨W.heap.size,5,none⟩=some (.slice none 0 0):=hx5.cell 5;have z6:W5.cell? ⟨W.heap.size,6,none⟩=some (.slice none 0 0):=hx5.cell 6;have z7:W5.cell? ⟨W.heap.size,7,none⟩=some (.bool false):=hx5.cell 7;have z8:W5.cell? ⟨W.heap.size,8,none⟩=some (.int .u32 0):=hx5.cell 8;have z9:W5.cell? ⟨W.heap.size,9,none⟩=some (.slice none 0 0):=hx5.cell 9;have z10:W5.cell? ⟨W.heap.size,10,none⟩=some (.slice none 0 0):=hx5.cell 10;have zf0:=hx5.frozen 0;have zf1:=hx5.frozen 1;have zf2:=hx5.frozen 2;have zf3:=hx5.frozen 3;have zf4:=hx5.frozen 4;have zf5:=hx5.frozen 5;have zf6:=hx5.frozen 6;have zf7:=hx5.frozen 7;have zf8:=hx5.frozen 8;have zf9:=hx5.frozen 9;have zf10:=hx5.frozen 10;have ml:=hm5.lt;have zl:=hx5.lt;have HM5:=Lib.hid hm5;have HX5:=Lib.hid hx5;have HB5:=Lib.hid hB5;clear hm5 hx5 hB5;by_cases hlen:M.tys.length=M.bodies.length
  ·have HRV:=Lib.hid (show RR=((M,iR M),0)from by have h:=HRR.out;simpa [hlen] using h);clear HRR;have hlen2:(M.tys.length:Int)=(M.bodies.length:Int):=by omega
   have HLE:=Lib.hid hlen;clear hlen;go_wp2_with fail;go_region;go_wp2_with fail;obtain ⟨m,hmm⟩:∃m,W2.heap.size+1=m:=⟨_,rfl⟩;obtain ⟨n5,hn5⟩:∃n5,W5.heap.size=n5:=⟨_,rfl⟩;have hfl:(iR M).length=M.bodies.length:=by simp [iR,HLE.out]
   rw [hmm]at HM5 hmp hmw ml;rw [hmm];have hmn:m< n5:=by omega
   have hnw:W.heap.size≤n5:=by have:=HB5.out.size;omega
   have HMW:=Lib.hid (show W.heap.size< m from by omega);clear m0 m1 m2 m3 m4 m5 m6 m7 m8 m9 m10 m11 m12 z0 z1 z2 z3 z4 z5 z6 z7 z8 z9 z10 zf0 zf1 zf2 zf3 zf4 zf5 zf6 zf7 zf8 zf9 zf10;go_loopw [62] (fun i wr=>∃(j:Nat) (vf:Value),j≤M.bodies.length∧i= .int .i64 j∧Hid (Own kFn 75 wr n5 (fun k=>W.heap.size+1≤k∧k< n5∧k≠m) vf ((iR M).take j))∧Hid (Blk wr m #[v0,v1,vf,v3,v4,v5,v6, .bool M.starts, .int .u32 M.start,v9,v10, .slice A11 M.tys.length c11, .slice A12 M.bodies.length c12] 71)∧Hid (W5.grownBy wr (some m))) (fun i _=>M.bodies.length - (intOf i).toNat)
   case atStart=>exact ⟨0, .slice none 0 0,Nat.zero_le _,rfl,Own.nil,HM5.out,(by first|exact World.grownBy.refl _ _|exact aL (bH (Below.refl _ W5)) _)⟩
   case round=>
    obtain ⟨j,vf,hj,rfl,HO,HMb,HG⟩:=hrel;have hzr:=HG.out.size;rw [hn5]at hzr;have hbm:W.heap.size< W5.heap.size:=zl;have HX6:=Lib.hid (HX5.out.grown HG.out (fun e=>by injection e with e;have:=HMW.out;omega));have H11:=Lib.hid (Ft.step HG11.out (bS HG.out (fun k hk e=>by injection e with e;exact hk.1.2.1 (by rw [hmm];exact e))));have H12:=Lib.hid (Ft.step HG12.out (bS HG.out (fun k hk e=>by injection e with e;exact hk.1.2.1 (by rw [hmm];exact e))));by_cases hlt:j< M.bodies.length
    ·have hlt2:(j:Int)<(M.bodies.length:Int):=by omega
     have hjt:j< M.tys.length:=by have:=HLE.out;omega
     have hlt3:(j:Int)<(M.tys.length:Int):=by omega
     obtain ⟨b,o,x,cs,hA12,hx,hk,hc⟩:=FC.at_ H12.out (show 0< 3 by decide) j hlt;obtain ⟨b',o',x',cs',hA11,hx',hk',hc'⟩:=FC.at_ H11.out (show 0< 1 by decide) j hjt;obtain ⟨rfl,hw'⟩:=(hk'.now:cs' = [.int .u32 x']∧(Lit.int .u32 x').wf=true);obtain ⟨AL,cL,AB,cB,rfl,hlL,hFL,hlB,hFB⟩:=uj hk;have hsz3:kFn.sz=3:=rfl;have hsz1:(rng .u32).sz=1:=rfl;have d0:=hc 0 _ rfl;have d1:=hc 1 _ rfl;have d2:=hc 2 _ rfl;have d3:=hc' 0 _ rfl;simp only [hsz3,hsz1,Nat.add_zero,Nat.mul_one]at d0 d1 d2 d3;have hbl:=World.block_lt_of_cell? _ _ d0;have hbl' :=World.block_lt_of_cell? _ _ d3;have hmb:=HMb.out;have k2:=hmb.cell 2;have k11:=hmb.cell 11;have k12:=hmb.cell 12;have HX:=Lib.hid hx.out;have HX' :=Lib.hid hx'.out;have HFL:=Lib.hid hFL;have HFB:=Lib.hid hFB;have HLL:=Lib.hid hlL;have HLB:=Lib.hid hlB;have HW' :=Lib.hid hw';have kl:=hmb.lt;clear hx hx' hk hk' hc hc' hFL hFB hlL hlB hw' hmb;simp only at hbl hbl';go_wp2_with fail;have hzw:(wr.alloc (.cells #[.int .u32 x', .slice AL x.loc.length cL, .slice AB x.body.length cB] 75)).heap.size=wr.heap.size+1:=World.size_alloc _ _;have hal:Below wr.heap.size wr (wr.alloc (.cells #[.int .u32 x', .slice AL x.loc.length cL, .slice AB x.body.length cB] 75)):=(Below.refl _ _).alloc (Nat.le_refl _) _;have HF9:=Lib.hid (Blk.new wr #[.int .u32 x', .slice AL x.loc.length cL, .slice AB x.body.length cB] 75);have HM9:=Lib.hid (HMb.out.alloc (.cells #[.int .u32 x', .slice AL x.loc.length cL, .slice AB x.body.length cB] 75));have HO9:=Lib.hid (HO.out.below hal);have HG9:=Lib.hid (gK HG.out (.cells #[.int .u32 x', .slice AL x.loc.length cL, .slice AB x.body.length cB] 75));have HFL9:=Lib.hid (ed HFL.out (.cells #[.int .u32 x', .slice AL x.loc.length cL, .slice AB x.body.length cB] 75));have HFB9:=Lib.hid (ed HFB.out (.cells #[.int .u32 x', .slice AL x.loc.length cL, .slice AB x.body.length cB] 75));clear hal d0 d1 d2 d3 k2 k11 k12 hbl hbl' kl HFL HFB H11 H12 HX6;generalize wr.alloc (.cells #[.int .u32 x', .slice AL x.loc.length cL, .slice AB x.body.length cB] 75)=X at *;have hne:∀k,vf.ownBlock=some k→n5≤k:=fun k hk=>(Own.block HO9.out hk).1
     have hwx:=HW'.out;have hx0:0≤x' ∧x' ≤4294967295:=by have:=sI hwx;simp [IntKind.min,IntKind.max,IntKind.signed,IntKind.bits]at this;omega
     have HFK:=Lib.hid (show FK kFn X.drew (fun k=>(W.heap.size+1≤k∧k< n5∧k≠m)∧some k≠vf.ownBlock) ⟨x',x.loc,x.body⟩ [.int .u32 x', .slice AL x.loc.length cL, .slice AB x.body.length cB]from
      De (x:=⟨x',x.loc,x.body⟩) hx0
       (dJ (eu HFL9.out) (fun k hk=>⟨⟨hk.1.1,by rw [←hn5];exact hk.2,by rw [←hmm];exact hk.1.2.1⟩,fun e=>by have h1:=hne k e.symm;have h2:=hk.2;omega⟩)) HLL.out
       (dJ (eu HFB9.out) (fun k hk=>⟨⟨hk.1.1,by rw [←hn5];exact hk.2,by rw [←hmm];exact hk.1.2.1⟩,fun e=>by have h1:=hne k e.symm;have h2:=hk.2;omega⟩)) HLB.out)
     have HOD:=Lib.hid (HO9.out.below (bH (Below.refl X.heap.size X)));have hmx:=HM9.out;have k2:=hmx.cell 2;have kl:=hmx.lt;have hfx:=HF9.out;have g0:=hfx.cell 0;have g1:=hfx.cell 1;have g2:=hfx.cell 2;have gl:=hfx.lt;have HNE:=Lib.hid (fun e=>by have:=hne m e.symm;omega:some m≠vf.ownBlock)
     have HMD:=Lib.hid (fun Y (h:X.drew.grownBy Y vf.ownBlock)=>(by
      have hb:Blk Y m #[v0,v1,vf,v3,v4,v5,v6, .bool M.starts, .int .u32 M.start,v9,v10, .slice A11 M.tys.length c11, .slice A12 M.bodies.length c12] 71:=Blk.grown (show Blk X.drew m _ _ from HM9.out) h HNE.out
      exact ⟨hb.cell 2,hb.frozen 2,hb.lt⟩:Y.cell? ⟨m,2,none⟩=some vf∧Y.frozen? ⟨m,2,none⟩=false∧m< Y.heap.size))
     have hb9:=hbod;have HL9:=Lib.hid (show (((iR M).take j).length+1) * 56≤140737488355328 from by rw [List.length_take];omega);have hbs:n5≤X.drew.heap.size:=by show n5≤X.heap.size;omega
     have HZW:=Lib.hid hzw;clear hmx hfx hwx hzw
     go_region_law (first
      |(refine Own.bY (d:=kFn) n5 rfl (.tmp 80) (.tmp 82) 26 75 _ 56 rfl Tryz.underlying26 zh rfl (by decide) (by decide) vf ((iR M).take j) ⟨x',x.loc,x.body⟩ _ (fun k=>W.heap.size+1≤k∧k< n5∧k≠m) rfl rfl HFK.out HOD.out hbs HL9.out ?_;intro v1 w1 hown1 hg1 hat1;obtain ⟨A9,c9,rfl,hl9,hF9⟩:=Own.reads hown1;obtain ⟨q2,qf,ql⟩:=HMD.out _ hg1))
     all_goals
      have hfj:(iR M)[j]? =some ⟨x',x.loc,x.body⟩:=by
       unfold iR;rw [List.getElem?_zipWith,HX'.out,HX.out]
      have htk:(iR M).take (j+1)=(iR M).take j++ [(⟨x',x.loc,x.body⟩:FnD)]:=by rw [List.take_add_one,hfj];rfl
      have hlen9:((iR M).take j++ [(⟨x',x.loc,x.body⟩:FnD)]).length=j+1:=by
       rw [List.length_append,List.length_take,hfl];simp only [List.length_cons,List.length_nil];omega
      rw [hlen9]at hown1;have hbk:∀k,(Value.slice A9 (j+1) c9).ownBlock=some k→n5≤k:=fun k hk=>(Own.block hown1 hk).1
      have hoz:=hown1.grown (bA w1 m 2 (.slice A9 (j+1) c9)) (.inr (fun e=>by have:=hbk m e;omega)) (fun k hk e=>by injection e with e;exact hk.2.2 e);have HOZ:=Lib.hid (show Own kFn 75 (w1.setCell ⟨m,2,none⟩ (.slice A9 (j+1) c9)) n5 (fun k=>W.heap.size+1≤k∧k< n5∧k≠m) (.slice A9 (j+1) c9) ((iR M).take (j+1))from by rw [htk];exact hoz);have HMZ:=Lib.hid ((Blk.grown (show Blk X.drew m _ _ from HM9.out) hg1 HNE.out).set 2 (.slice A9 (j+1) c9));have HGZ:=Lib.hid ((bC (lu HG9.out) hg1 (fun k hk=> .inr (by rw [hn5];exact hne k hk))).trans (bA w1 m 2 (.slice A9 (j+1) c9)));clear hown1 hg1 hat1 hl9 hF9 q2 qf ql hfj htk hbk hoz hlen9;go_wp2_with fail;subst hA11 hA12;refine ⟨?_, ?_⟩
      ·(repeat apply Exists.intro)
       refine ⟨?_,rfl⟩;exact ⟨j+1,_,by omega,by go_num,HOZ,HMZ,HGZ⟩
      ·simp [intOf];omega
    ·obtain rfl:j=M.bodies.length:=by omega
     have hmx:=HMb.out;have hzx:=HX6.out;have m0:wr.cell? ⟨m,0,none⟩=some (v0):=hmx.cell 0;have m1:wr.cell? ⟨m,1,none⟩=some (v1):=hmx.cell 1;have m2:wr.cell? ⟨m,2,none⟩=some (vf):=hmx.cell 2;have m3:wr.cell? ⟨m,3,none⟩=some (v3):=hmx.cell 3;have m4:wr.cell? ⟨m,4,none⟩=some (v4):=hmx.cell 4;have m5:wr.cell? ⟨m,5,none⟩=some (v5):=hmx.cell 5;have m6:wr.cell? ⟨m,6,none⟩=some (v6):=hmx.cell 6;have m7:wr.cell? ⟨m,7,none⟩=some (.bool M.starts):=hmx.cell 7;have m8:wr.cell? ⟨m,8,none⟩=some (.int .u32 M.start):=hmx.cell 8;have m9:wr.cell? ⟨m,9,none⟩=some (v9):=hmx.cell 9;have m10:wr.cell? ⟨m,10,none⟩=some (v10):=hmx.cell 10;have z0:wr.cell? ⟨W.heap.size,0,none⟩=some (.slice none 0 0):=hzx.cell 0;have z1:wr.cell? ⟨W.heap.size,1,none⟩=some (.slice none 0 0):=hzx.cell 1;have z2:wr.cell? ⟨W.heap.size,2,none⟩=some (.slice none 0 0):=hzx.cell 2;have z3:wr.cell? ⟨W.heap.size,3,none⟩=some (.slice none 0 0):=hzx.cell 3;have z4:wr.cell? ⟨W.heap.size,4,none⟩=some (.slice none 0 0):=hzx.cell 4;have z5:wr.cell? ⟨W.heap.size,5,none⟩=some (.slice none 0 0):=hzx.cell 5;have z6:wr.cell? ⟨W.heap.size,6,none⟩=some (.slice none 0 0):=hzx.cell 6;have z7:wr.cell? ⟨W.heap.size,7,none⟩=some (.bool false):=hzx.cell 7;have z8:wr.cell? ⟨W.heap.size,8,none⟩=some (.int .u32 0):=hzx.cell 8;have z9:wr.cell? ⟨W.heap.size,9,none⟩=some (.slice none 0 0):=hzx.cell 9;have z10:wr.cell? ⟨W.heap.size,10,none⟩=some (.slice none 0 0):=hzx.cell 10;have zf0:=hzx.frozen 0;have zf1:=hzx.frozen 1;have zf2:=hzx.frozen 2;have zf3:=hzx.frozen 3;have zf4:=hzx.frozen 4;have zf5:=hzx.frozen 5;have zf6:=hzx.frozen 6;have zf7:=hzx.frozen 7;have zf8:=hzx.frozen 8;have zf9:=hzx.frozen 9;have zf10:=hzx.frozen 10;have ml6:=hmx.lt;have zl6:=hzx.lt;rw [←hfl,List.take_length]at HO;have HRW:=Lib.hid (HR5.out.step (bS HG.out (fun k hk e=>by injection e with e;exact hk.2.1 (by rw [hmm];exact e))));have HBW:=Lib.hid (HB5.out.grown HG.out HB5.out.size (fun k hk=>by injection hk with hk;have:=HMW.out;omega));clear hmx hzx H11 H12;obtain ⟨B0,b0,e0,_,_⟩:=HRW.out.r0;subst e0;obtain ⟨B1,b1,e1,_,_⟩:=HRW.out.r1;subst e1;obtain ⟨B3,b3,e3,_,_⟩:=HRW.out.r3;subst e3;obtain ⟨B4,b4,e4,_,_⟩:=HRW.out.r4;subst e4;obtain ⟨B5,b5,e5,_,_⟩:=HRW.out.r5;subst e5;obtain ⟨B6,b6,e6,_,_⟩:=HRW.out.r6;subst e6;obtain ⟨B9,b9,e9,_,_⟩:=HRW.out.r9;subst e9;obtain ⟨B10,b10,e10,_,_⟩:=HRW.out.r10;subst e10;obtain ⟨Bf,bf,ef,_,_⟩:=HO.out.reads;subst ef;go_wp2_with fail;rw [HRV.out];refine bodyPost_ret (v:= .tuple #[.agg #[.slice B0 M.types.length b0, .slice B1 M.imports.length b1, .slice Bf M.bodies.length bf, .slice B3 M.tables.length b3, .slice B4 M.mems.length b4, .slice B5 M.globals.length b5, .slice B6 M.exports.length b6, .bool M.starts, .int .u32 M.start, .slice B9 M.elems.length b9, .slice B10 M.datas.length b10], .int .i64 0]) (by simp [results,Tryz.results8,go_sem,z0,z1,z2,z3,z4,z5,z6,z7,z8,z9,z10,zl6]) rfl ?_
     refine yE HBW.out ?_ (HRW.out.mono (fun k hk=>hk.1)) (by
      obtain ⟨A9,c9,h1,h2,h3⟩:=HO.out.reads;rw [hfl]at h1
      exact ⟨A9,c9,h1.trans (by rw [hfl]),h2,dJ h3 (fun k hk=>by rcases hk with h|h;exact h.1;have:=HMW.out;omega)⟩)
     (repeat (first|with_reducible exact World.grownBy.refl _ _|with_reducible refine Gw ?_ _ _))
  ·have HRV:=Lib.hid (show RR=(({}, []),109)from by have h:=HRR.out;simpa [hlen] using h);have hlen2:¬(M.tys.length:Int)=(M.bodies.length:Int):=by omega
   clear hlen;go_wp2_with fail;go_region;go_wp2_with fail;rw [HRV.out];refine bodyPost_ret (v:= .tuple #[.agg (dU (.slice none 0 0)), .int .i64 109]) (by simp [results,Tryz.results8,go_sem,z0,z1,z2,z3,z4,z5,z6,z7,z8,z9,z10,zl]) rfl (iL ?_)
   (repeat (first|with_reducible exact HB5.out|(with_reducible refine d9 ?_ _ _ _ ?_;rotate_left;omega)|with_reducible refine aY ?_ _|with_reducible refine bH ?_))
 ·have HPG:=Lib.hid (bz W4 p q T a4 e1 sat false HC4.out (by simp [he]));have hx5:=HX4.out.alloc (.cells #[.pointer (some ⟨p,0,none⟩), .bool sat] 67);have hx6:=HX5.out.alloc (.cells #[.pointer (some ⟨p,0,none⟩), .bool sat] 67);have HE:=Lib.hid (lh _ p q T a4 e1 (HC4.out.alloc (.cells #[.pointer (some ⟨p,0,none⟩), .bool sat] 67)));have y0:(W4.alloc (.cells #[.pointer (some ⟨p,0,none⟩), .bool sat] 67)).cell? ⟨W2.heap.size,0,none⟩=some (.pointer (some ⟨p,0,none⟩)):=hx6.cell 0;have HX6:=Lib.hid hx5;have HB5:=Lib.hid (HB4.out.alloc HB4.out.size (.cells #[.pointer (some ⟨p,0,none⟩), .bool sat] 67));have HE1:=Lib.hid he;clear he hx6;have z0:(W4.alloc (.cells #[.pointer (some ⟨p,0,none⟩), .bool sat] 67)).cell? ⟨W.heap.size,0,none⟩=some (.slice none 0 0):=hx5.cell 0;have z1:(W4.alloc (.cells #[.pointer (some ⟨p,0,none⟩), .bool sat] 67)).cell? ⟨W.heap.size,1,none⟩=some (.slice none 0 0):=hx5.cell 1;have z2:(W4.alloc (.cells #[.pointer (some ⟨p,0,none⟩), .bool sat] 67)).cell? ⟨W.heap.size,2,none⟩=some (.slice none 0 0):=hx5.cell 2;have z3:(W4.alloc (.cells #[.pointer (some ⟨p,0,none⟩), .bool sat] 67)).cell? ⟨W.heap.size,3,none⟩=some (.slice none 0 0):=hx5.cell 3;have z4:(W4.alloc (.cells #[.pointer (some ⟨p,0,none⟩), .bool sat] 67)).cell? ⟨W.heap.size,4,none⟩=some (.slice none 0 0):=hx5.cell 4;have z5:(W4.alloc (.cells #[.pointer (some ⟨p,0,none⟩), .bool sat] 67)).cell? ⟨W.heap.size,5,none⟩=some (.slice none 0 0):=hx5.cell 5;have z6:(W4.alloc (.cells #[.pointer (some ⟨p,0,none⟩), .bool sat] 67)).cell? ⟨W.heap.size,6,none⟩=some (.slice none 0 0):=hx5.cell 6;have z7:(W4.alloc (.cells #[.pointer (some ⟨p,0,none⟩), .bool sat] 67)).cell? ⟨W.heap.size,7,none⟩=some (.bool false):=hx5.cell 7;have z8:(W4.alloc (.cells #[.pointer (some ⟨p,0,none⟩), .bool sat] 67)).cell? ⟨W.heap.size,8,none⟩=some (.int .u32 0):=hx5.cell 8;have z9:(W4.alloc (.cells #[.pointer (some ⟨p,0,none⟩), .bool sat] 67)).cell? ⟨W.heap.size,9,none⟩=some (.slice none 0 0):=hx5.cell 9;have z10:(W4.alloc (.cells #[.pointer (some ⟨p,0,none⟩), .bool sat] 67)).cell? ⟨W.heap.size,10,none⟩=some (.slice none 0 0):=hx5.cell 10;have zf0:=hx5.frozen 0;have zf1:=hx5.frozen 1;have zf2:=hx5.frozen 2;have zf3:=hx5.frozen 3;have zf4:=hx5.frozen 4;have zf5:=hx5.frozen 5;have zf6:=hx5.frozen 6;have zf7:=hx5.frozen 7;have zf8:=hx5.frozen 8;have zf9:=hx5.frozen 9;have zf10:=hx5.frozen 10;have zl:=hx5.lt;clear hx5;go_wp2_with fail;refine HPG.out.mono ?_;rintro E w' ⟨rfl,rfl⟩;go_wp2_with fail;refine HE.out.mono ?_;rintro E w' ⟨rfl,rfl⟩;go_wp2_with fail;have hrv:RR=(({}, []),e1):=(by have h:=HRR.out;rw [if_neg HE1.out]at h;exact h);rw [hrv];refine bodyPost_ret (v:= .tuple #[.agg (dU (.slice none 0 0)), .int .i64 e1]) (by simp [results,Tryz.results8,go_sem,z0,z1,z2,z3,z4,z5,z6,z7,z8,z9,z10,zl]) rfl (iL ?_)
  (repeat (first|with_reducible exact HB5.out|(with_reducible refine d9 ?_ _ _ _ ?_;rotate_left;omega)|with_reducible refine aY ?_ _|with_reducible refine bH ?_))
theorem qB (W:World) (A:Option Addr) (c:Nat) (B:List Int) (sat:Bool) (hR:RdI W .u8 A B) (hB:aK B) (hle:B.length≤c):
  Calls Tryz.prog 8 #[.slice A B.length c, .bool sat] W (nN W (ig sat B)):=by
 by_cases h:65536< B.length∨B.length< 8∨¬B.take 8=bB
 ·exact uy W A c B sat hR hB hle h
 ·have h1:B.length≤65536:=Nat.le_of_not_lt (fun g=>h (.inl g));have h2:8≤B.length:=Nat.le_of_not_lt (fun g=>h (.inr (.inl g)));have h3:B.take 8=bB:=Classical.byContradiction (fun g=>h (.inr (.inr g)));obtain ⟨T,rfl⟩:∃T,B=bB++T:=⟨B.drop 8,by rw [←h3,List.take_append_drop]⟩;have hml:(bB++T).length=8+T.length:=by simp [bB];omega
  exact wm W A c T sat hR hB (by omega) hle
def gH:Kd ky:=Kd.iso (Kd.pair (rng .u8) (Kd.pair Kd.bool (Kd.pair (Kd.slice 151 kR) mZ))) (fun x=>(x.ty.1,x.ty.2,x.init,()))
def iE:Kd kN:=Kd.iso (Kd.pair (rng .u32) (Kd.pair (Kd.slice 151 kR) (Kd.pair (Kd.slice 30 (rng .u32)) mZ))) (fun x=>(x.tab,x.off,x.fns,()))
def iy:Kd j5:=Kd.iso (Kd.pair (rng .u32) (Kd.pair (Kd.slice 151 kR) (Kd.pair (Kd.slice 5 (rng .u8)) mZ))) (fun x=>(x.mem,x.off,x.bts,()))
def jo:Kd FnD:=Kd.iso (Kd.pair (rng .u32) (Kd.pair (Kd.slice 5 (rng .u8)) (Kd.pair (Kd.slice 151 kR) mZ))) (fun x=>(x.ty,x.loc,x.body,()))
theorem oD:(Tryz.prog.info? 106).map (fun i=>(i.zero,i.size,i.bytes))=some (some (.agg #[.int .u32 0, .int .u32 0, .bool false]),3,12):=by kernel_rfl
def FX (W:World) (xs:List (Int×Int×Bool)) (E:Ending) (W' :World):Prop:=
 (∃v,E= .returned v∧Own dK 106 W' W.heap.size (fun _=>False) v xs)∧Below W.heap.size W W'
theorem uR (W:World) (A:Option Addr) (c:Nat) (xs:List (Int×Int×Bool)) (ok:Nat→Prop) (hF:FC dK W ok A xs) (hl:xs.length≤1048576):
  Calls Tryz.prog 30 #[.slice A xs.length c] W (FX W xs):=by
 have HF:=Lib.hid (show FC dK W (fun k=>k< W.heap.size) A xs from FC.jM hF.now);clear hF;go_enter Tryz.func30,Tryz.ntmps30;go_wp2_with fail;go_loopw [3,8] (fun v i wr=>∃(j:Nat),j≤xs.length∧i= .int .i64 j∧Hid (Own dK 106 wr W.heap.size (fun _=>False) v (xs.take j))∧Hid (Below W.heap.size W wr)) (fun _ i _=>xs.length - (intOf i).toNat)
 case atStart=>exact ⟨0,Nat.zero_le _,rfl,Own.nil,Below.refl _ _⟩
 case round=>
  obtain ⟨j,hj,rfl,HO,HBw⟩:=hrel;by_cases hlt:j< xs.length
  ·have hlt2:(j:Int)<(xs.length:Int):=by omega
   obtain ⟨b,o,x,cs,rfl,hx,hk,hc⟩:=FC.at_ (Ft.below HF.out HBw.out) (show 0< 3 by decide) j hlt;obtain rfl:=nT hk;have hz:dK.sz=3:=rfl;have d0:=hc 0 _ rfl;have d1:=hc 1 _ rfl;have d2:=hc 2 _ rfl;simp only [hz,Nat.add_zero]at d0 d1 d2;have hbl:=World.block_lt_of_cell? _ _ d0;simp only at hbl;have HX:=Lib.hid hx.out;have HKK:=Lib.hid hk;have hwz:=HBw.out.size;have HO1:=Lib.hid (HO.out.below ((Below.refl _ _).alloc (Nat.le_refl _) (.cells #[.int .u32 x.1, .int .u32 x.2.1, .bool x.2.2] 101)));have HB1:=Lib.hid (HBw.out.alloc hwz (.cells #[.int .u32 x.1, .int .u32 x.2.1, .bool x.2.2] 101));have hk2:∀(X:World),FK dK X (fun q=>False∧some q≠u3.ownBlock) x [.int .u32 x.1, .int .u32 x.2.1, .bool x.2.2]:=fun X _ _=>HKK.out.now
   have HK2:=Lib.hid hk2;have hn:W.heap.size≤(wr.alloc (.cells #[.int .u32 x.1, .int .u32 x.2.1, .bool x.2.2] 101)).heap.size:=by rw [World.size_alloc];omega
   have hL9:((xs.take j).length+1) * 12≤140737488355328:=by rw [List.length_take];omega
   have HN:=Lib.hid hn;have HL9:=Lib.hid hL9;clear hx hk hc hk2 hn hL9;go_wp2_with (at_builtin;refine Own.append (d:=dK) W.heap.size rfl (.tmp 12) (.tmp 14) 41 106 _ 12 rfl Tryz.underlying41 oD rfl (by decide) (by decide) u3 (xs.take j) x _ (fun _=>False) rfl (by rw [World.size_alloc];rfl) (HK2.out _) HO1.out HN.out HL9.out ?_;intro v1 w1 hown1 hg1 hat1);have hown:∀q,u3.ownBlock=some q→W.heap.size≤q:=fun q hq=>(Own.block HO1.out hq).1
   have HO3:=Lib.hid hown1;have HB3:=Lib.hid (HB1.out.grown hg1 HN.out hown);clear hown1 hg1 hat1;go_wp2_with fail;go_roundw
   case rel=>
    refine ⟨j+1,by omega,by go_num, ?_,HB3⟩;rw [List.take_add_one,HX.out];exact HO3.out
   case measure=>simp [intOf];omega
  ·obtain rfl:j=xs.length:=by omega
   go_wp2_with fail;go_ret;rw [List.take_length]at HO;exact ⟨⟨_,rfl,HO.out⟩,HBw.out⟩
end Go.Proofs.YtofaiocffifhfaaGreat
section
namespace Go.Proofs.YtofaiocffifhfaaGreat
open Go.RowKit Go.Shelf YtofaiocffifhfaaGreatB Go.Proofs.YtofaiocffifhfaaGreatW.PrintWords
structure jB (ok:Nat→Prop) (X:World) (M:df) (fns:List FnD) (v0 v1 v2 v3 v4 v5 v6 v9 v10:Value):Prop where
 r0:Row kFt ok X v0 M.types
 r1:Row iF ok X v1 M.imports
 r2:Row jo ok X v2 fns
 r3:Row dK ok X v3 M.tables
 r4:Row dK ok X v4 M.mems
 r5:Row gH ok X v5 M.globals
 r6:Row iB ok X v6 M.exports
 r9:Row iE ok X v9 M.elems
 r10:Row iy ok X v10 M.datas
def wV (W:World) (ok:Nat→Prop) (M:df) (fns:List FnD) (E:Ending) (W' :World):Prop:=
 Below W.heap.size W W' ∧∃v0 v1 v2 v3 v4 v5 v6 v9 v10,E= .returned (.agg #[v0,v1,v2,v3,v4,v5,v6, .bool M.starts, .int .u32 M.start,v9,v10])∧
  jB (fun k=>ok k∨W.heap.size≤k) W' M fns v0 v1 v2 v3 v4 v5 v6 v9 v10
section
variable {ok ok' :Nat→Prop} {X Y:World} {M:df} {fns:List FnD} {v0 v1 v2 v3 v4 v5 v6 v9 v10:Value}
theorem jB.step (h:jB ok X M fns v0 v1 v2 v3 v4 v5 v6 v9 v10) (ha:Agr ok X Y):jB ok Y M fns v0 v1 v2 v3 v4 v5 v6 v9 v10:=
 ⟨h.r0.step ha,h.r1.step ha,h.r2.step ha,h.r3.step ha,h.r4.step ha,h.r5.step ha,h.r6.step ha,h.r9.step ha,h.r10.step ha⟩
theorem jB.mono (h:jB ok X M fns v0 v1 v2 v3 v4 v5 v6 v9 v10) (hk:∀k,ok k→ok' k):jB ok' X M fns v0 v1 v2 v3 v4 v5 v6 v9 v10:=
 ⟨h.r0.mono hk,h.r1.mono hk,h.r2.mono hk,h.r3.mono hk,h.r4.mono hk,h.r5.mono hk,h.r6.mono hk,h.r9.mono hk,h.r10.mono hk⟩
theorem jB.full (h:jB ok X (⟨M.types,M.imports,M.tables,M.mems,M.globals,M.exports,M.starts,M.start,M.elems,M.datas, [], []⟩:df) fns v0 v1 v2 v3 v4 v5 v6 v9 v10):jB ok X M fns v0 v1 v2 v3 v4 v5 v6 v9 v10:=
 ⟨h.r0,h.r1,h.r2,h.r3,h.r4,h.r5,h.r6,h.r9,h.r10⟩
end
def okA (okS:Nat→Prop) (n1 g:Nat) (k:Nat):Prop:=okS k∨(n1≤k∧k≠g)
structure F8 (i:Nat) (v0 v1 v2 v5 v6 v9 v10:Value):Prop where
 n0:i< 1→v0= .slice none 0 0
 n1:i< 2→v1= .slice none 0 0
 n6:i< 3→v6= .slice none 0 0
 n2:i< 4→v2= .slice none 0 0
 n5:i< 5→v5= .slice none 0 0
 n9:i< 6→v9= .slice none 0 0
 n10:i< 7→v10= .slice none 0 0
theorem F8.up {i:Nat} {v0 v1 v2 v5 v6 v9 v10:Value} (h:F8 i v0 v1 v2 v5 v6 v9 v10):F8 (i+1) v0 v1 v2 v5 v6 v9 v10:=
 ⟨fun k=>h.n0 (by omega),fun k=>h.n1 (by omega),fun k=>h.n6 (by omega),fun k=>h.n2 (by omega),fun k=>h.n5 (by omega),fun k=>h.n9 (by omega),fun k=>h.n10 (by omega)⟩
def PSt (i:Nat) (okS:Nat→Prop) (W1:World) (g:Nat) (X:World) (M:df) (fns:List FnD):Prop:=
 Below W1.heap.size W1 X∧∃v0 v1 v2 v3 v4 v5 v6 v9 v10,F8 i v0 v1 v2 v5 v6 v9 v10∧Blk X g #[v0,v1,v2,v3,v4,v5,v6, .bool M.starts, .int .u32 M.start,v9,v10] 47∧jB (okA okS W1.heap.size g) X M fns v0 v1 v2 v3 v4 v5 v6 v9 v10
theorem kS {α:Type} {d:Kd α} {t:Nat} {Y:World} {okS:Nat→Prop} {n n1 g:Nat} {v:Value} {xs:List α} (h:Own d t Y n (fun k=>okS k∨n≤k) v xs) (h1:n1≤n) (hg:g< n):Row d (okA okS n1 g) Y v xs:=by
 obtain ⟨A,c,e,hl,hF⟩:=h.reads
 exact ⟨A,c,e,hl,Ft.mono hF (fun k hk=>by
  rcases hk with (hk|hk)|hk
  ·exact .inl hk
  ·exact .inr ⟨by omega,by omega⟩
  ·exact .inr ⟨by omega,by omega⟩)⟩
theorem kU {okS:Nat→Prop} {n1 g:Nat} {X Y:World} (h:X.grownBy Y (some g)) (hs:∀k,okS k→k≠g):Agr (okA okS n1 g) X Y:=
 bS h (fun k hk e=>by
  injection e with e;rcases hk with hk|hk
  ·exact hs k hk e
  ·exact hk.2 e)
theorem DL {W:World} {ok:Nat→Prop} {x:List Int×List Int} {cs:List Value} (h:FK kFt W ok x cs):∃A c A' c',cs= [.slice A x.1.length c, .slice A' x.2.length c']:=by
 obtain ⟨A,c,A',c',e,_⟩:=yS h;exact ⟨A,c,A',c',e⟩
theorem sP:(Tryz.prog.info? 108).map (fun i=>(i.zero,i.size,i.bytes))=some (some (.agg #[.string ⟨#[]⟩, .string ⟨#[]⟩, .int .i64 0, .int .u32 0, .int .u32 0, .int .u32 0, .bool false, .int .u8 0, .bool false]),9,64):=by kernel_rfl
theorem sN:(Tryz.prog.info? 111).map (fun i=>(i.zero,i.size,i.bytes))=some (some (.agg #[.string ⟨#[]⟩, .int .i64 0, .int .u32 0]),3,32):=by kernel_rfl
theorem wP:(Tryz.prog.info? 87).map (fun i=>(i.zero,i.size,i.bytes))=some (some (.agg #[.int .u32 0, .slice none 0 0, .slice none 0 0]),3,56):=by kernel_rfl
theorem rz:(Tryz.prog.info? 116).map (fun i=>(i.zero,i.size,i.bytes))=some (some (.agg #[.int .u8 0, .bool false, .slice none 0 0]),3,32):=by kernel_rfl
theorem qI:(Tryz.prog.info? 92).map (fun i=>(i.zero,i.size,i.bytes))=some (some (.agg #[.int .u32 0, .slice none 0 0, .slice none 0 0]),3,56):=by kernel_rfl
theorem qA:(Tryz.prog.info? 95).map (fun i=>(i.zero,i.size,i.bytes))=some (some (.agg #[.int .u32 0, .slice none 0 0, .slice none 0 0]),3,56):=by kernel_rfl
theorem tY:(Tryz.prog.info? 99).map (fun i=>(i.zero,i.size,i.bytes))=some (some (.agg #[.slice none 0 0, .slice none 0 0]),2,48):=by kernel_rfl
section
variable {W:World} {ok:Nat→Prop} {cs:List Value}
theorem GI {x:kN} (h:FK jc W ok x cs):(Lit.int .u32 x.tab).wf=true:=by
 obtain ⟨_,_,_,h1,_⟩:=aN (dn h);exact (bI h1).2
theorem GY {x:j5} (h:FK iZ W ok x cs):(Lit.int .u32 x.mem).wf=true:=by
 obtain ⟨_,_,_,h1,_⟩:=aN (dn h);exact (bI h1).2
theorem Jm {x:FnD} (h:FK kFn W ok x cs):(Lit.int .u32 x.ty).wf=true:=by
 obtain ⟨_,_,_,h1,_⟩:=aN (dn h);exact (bI h1).2
theorem Gs {x:ky} (h:FK ja W ok x cs):(Lit.int .u8 x.ty.1).wf=true:=by
 obtain ⟨_,_,_,h1,_⟩:=aN (dn h);exact (bI h1).2
theorem vS {x:ky} {A:Option Addr} {c:Nat} (h0:(Lit.int .u8 x.ty.1).wf=true) (h:FC kR W ok A x.init) (hl:x.init.length≤c):FK gH W ok x [.int .u8 x.ty.1, .bool x.ty.2, .slice A x.init.length c]:=
 iV (bD (fo h0) (bD (nK _) (bD (jT h hl) jE)))
theorem vN {x:kN} {A A' :Option Addr} {c c' :Nat} (h0:(Lit.int .u32 x.tab).wf=true) (h:FC kR W ok A x.off) (hl:x.off.length≤c) (h' :FC (rng .u32) W ok A' x.fns) (hl' :x.fns.length≤c'):
  FK iE W ok x [.int .u32 x.tab, .slice A x.off.length c, .slice A' x.fns.length c']:=
 iV (bD (fo h0) (bD (jT h hl) (bD (jT h' hl') jE)))
theorem wh {x:j5} {A A' :Option Addr} {c c' :Nat} (h0:(Lit.int .u32 x.mem).wf=true) (h:FC kR W ok A x.off) (hl:x.off.length≤c) (h' :FC (rng .u8) W ok A' x.bts) (hl' :x.bts.length≤c'):
  FK iy W ok x [.int .u32 x.mem, .slice A x.off.length c, .slice A' x.bts.length c']:=
 iV (bD (fo h0) (bD (jT h hl) (bD (jT h' hl') jE)))
theorem CJ {x:FnD} {A A' :Option Addr} {c c' :Nat} (h0:(Lit.int .u32 x.ty).wf=true) (h' :FC (rng .u8) W ok A' x.loc) (hl' :x.loc.length≤c') (h:FC kR W ok A x.body) (hl:x.body.length≤c):
  FK jo W ok x [.int .u32 x.ty, .slice A' x.loc.length c', .slice A x.body.length c]:=
 iV (bD (fo h0) (bD (jT h' hl') (bD (jT h hl) jE)))
end
end Go.Proofs.YtofaiocffifhfaaGreat
end
namespace Go.Proofs.YtofaiocffifhfaaGreat
open Go.RowKit Go.Shelf YtofaiocffifhfaaGreatB Go.Proofs.YtofaiocffifhfaaGreatW.PrintWords
def T1:List Int:= [7]
def T2:List Int:= [1,4,1,96,0,0]
def I8 (W:World) (n:Nat) (e:Int) (E:Ending) (W' :World):Prop:=
 Below W.heap.size W W' ∧∃A0 c0 A1 n1 c1 A2 n2 c2 A3 n3 c3 A4 n4 c4 A5 n5 c5 A6 n6 c6 A9 n9 c9 A10 n10 c10 st stt,
  E= .returned (.tuple #[.agg #[.slice A0 n c0, .slice A1 n1 c1, .slice A2 n2 c2, .slice A3 n3 c3, .slice A4 n4 c4, .slice A5 n5 c5, .slice A6 n6 c6, .bool st, .int .u32 stt, .slice A9 n9 c9, .slice A10 n10 c10], .int .i64 e])
theorem Hl (W:World) (A:Option Addr) (c n:Nat) (e:Int) (B:List Int) (hR:RdI W .u8 A B) (hB:aK B) (hle:B.length≤c) (he:(ig false B).2=e) (hn:(ig false B).1.1.types.length=n):
  Calls Tryz.prog 8 #[.slice A B.length c, .bool false] W (I8 W n e):=by
 refine (qB W A c B false hR hB hle).mono ?_;rintro E W' ⟨hb,v0,v1,v2,v3,v4,v5,v6,v9,v10,v11,v12,rfl,hR,h2⟩;obtain ⟨_,_,rfl,_,_⟩:=hR.r0;obtain ⟨_,_,rfl,_,_⟩:=hR.r1;obtain ⟨_,_,rfl,_,_⟩:=hR.r3;obtain ⟨_,_,rfl,_,_⟩:=hR.r4;obtain ⟨_,_,rfl,_,_⟩:=hR.r5;obtain ⟨_,_,rfl,_,_⟩:=hR.r6;obtain ⟨_,_,rfl,_,_⟩:=hR.r9;obtain ⟨_,_,rfl,_,_⟩:=hR.r10;obtain ⟨_,_,rfl,_,_⟩:=h2;subst he hn;exact ⟨hb,_,_,_,_,_,_,_,_,_,_,_,_,_,_,_,_,_,_,_,_,_,_,_,_,_,_,_,_,rfl⟩
theorem Hg:(ig false (bB++T1)).2=100∧(ig false (bB++T1)).1.1.types.length=0:=by constructor<;>kernel_rfl
theorem Ha:(ig false (bB++T2)).2=0∧(ig false (bB++T2)).1.1.types.length=1:=by constructor<;>kernel_rfl
theorem JG (W:World) (A:Option Addr) (c:Nat) (hR:RdI W .u8 A (bB++T1)) (hc:(bB++T1).length≤c):Calls Tryz.prog 8 #[.slice A 9 c, .bool false] W (I8 W 0 100):=Hl W A c 0 100 (bB++T1) hR ⟨by decide,by decide⟩ hc Hg.1 Hg.2
theorem JJ (W:World) (A:Option Addr) (c:Nat) (hR:RdI W .u8 A (bB++T2)) (hc:(bB++T2).length≤c):Calls Tryz.prog 8 #[.slice A 14 c, .bool false] W (I8 W 1 0):=Hl W A c 1 0 (bB++T2) hR ⟨by decide,by decide⟩ hc Ha.1 Ha.2
theorem zi (W:World) (L:List Int) (e base:Nat) (ok:Nat→Prop) (hb:base≤W.heap.size) (hl:L.length≤1048576) (hL:∀x∈L,0≤x∧x≤255):
  Own (rng .u8) e (W.alloc (.cells (L.map (Value.int .u8)).toArray e)) base ok (.slice (some ⟨W.heap.size,0,none⟩) L.length L.length) L:=by
 refine ⟨L.map (Value.int .u8),⟨by simp [rng], .inr ⟨W.heap.size,L.length,(L.map (Value.int .u8)).toArray,rfl,hb,Blk.new W _ e,Nat.le_refl _,by simp only [maxLen];omega,by simp [rng], ?_⟩⟩,by simp [rng],fun j x hj=> ?_⟩
 ·show ((L.map (Value.int .u8)).toArray.toList.take (L.length * 1))=_
  rw [Nat.mul_one];exact List.take_of_length_le (by simp)
 ·have hx:=hL x (List.mem_of_getElem? hj)
  have h2:((L.map (Value.int .u8)).drop (j * 1)).take 1= [.int .u8 x]:=by
   have hj2:j< L.length:=(List.getElem?_eq_some_iff.1 hj).1;have hjx:=(List.getElem?_eq_some_iff.1 hj).2;rw [Nat.mul_one,List.drop_eq_getElem_cons (by simpa using hj2)];simp [hjx]
  show FK (rng .u8) _ _ x (((L.map (Value.int .u8)).drop (j * 1)).take 1)
  rw [h2];exact fun _ _=>⟨rfl,by simp [Lit.wf,IntKind.min,IntKind.max,IntKind.signed,IntKind.bits];omega⟩
def jG (w:World) (e:Ending) (W' :World):Prop:=e= .returned (.bool true)∧Below w.heap.size w W'
theorem Dw {W:World} {base:Nat} {ok:Nat→Prop} {v:Value} {L:List Int} (h:Own (rng .u8) 5 W base ok v L) (hl:L.length≤1048576):∃A c,v= .slice A L.length c∧L.length≤c∧RdI W .u8 A L:=by
 obtain ⟨A,c,h1,h2,h3⟩:=h.reads;exact ⟨A,c,h1,h2,kM h3.now (by omega)⟩
theorem vZ (w:World):Calls Tryz.prog 7 #[] w (jG w):=by
 have h8:∀x∈bB,0≤x∧x≤255:=by decide
 have HM:=Lib.hid (show Own (rng .u8) 5 (w.alloc (.cells #[.int .u8 0, .int .u8 97, .int .u8 115, .int .u8 109, .int .u8 1, .int .u8 0, .int .u8 0, .int .u8 0] 5)) w.heap.size (fun _=>False) (.slice (some ⟨w.heap.size,0,none⟩) 8 8) bB from zi w bB 5 w.heap.size (fun _=>False) (Nat.le_refl _) (by decide) h8);have HF:=Lib.hid (uH (fM w bB 5) h8 (by decide):FC (rng .u8) (w.alloc (.cells #[.int .u8 0, .int .u8 97, .int .u8 115, .int .u8 109, .int .u8 1, .int .u8 0, .int .u8 0, .int .u8 0] 5)) (fun k=>k=w.heap.size) (some ⟨w.heap.size,0,none⟩) bB);have hz:(w.alloc (.cells #[.int .u8 0, .int .u8 97, .int .u8 115, .int .u8 109, .int .u8 1, .int .u8 0, .int .u8 0, .int .u8 0] 5)).heap.size=w.heap.size+1:=World.size_alloc _ _;have HB:=Lib.hid ((Below.refl w.heap.size w).alloc (Nat.le_refl _) (.cells #[.int .u8 0, .int .u8 97, .int .u8 115, .int .u8 109, .int .u8 1, .int .u8 0, .int .u8 0, .int .u8 0] 5));go_enter Tryz.func7,Tryz.ntmps7;go_upto_region 2 with (fail);generalize w.alloc (.cells #[.int .u8 0, .int .u8 97, .int .u8 115, .int .u8 109, .int .u8 1, .int .u8 0, .int .u8 0, .int .u8 0] 5)=w1 at *;have hy:Own (rng .u8) 5 (w1.alloc (.cells #[] 5)) w1.heap.size (fun _=>False) (.slice (some ⟨w1.heap.size,0,none⟩) 0 0) []:=Own.made rfl (by decide) (Nat.le_refl _);rw [hz]at hy;have HY:=Lib.hid hy;have hz2:(w1.alloc (.cells #[] 5)).heap.size=w.heap.size+2:=by rw [World.size_alloc,hz]
 have HFF:=Lib.hid (Ft.mono (Ft.below HF.out ((Below.refl _ w1).alloc (Nat.le_refl _) (.cells #[] 5))) (fun k hk=>⟨trivial,fun e=>by subst hk;simp [Value.ownBlock]at e⟩):FC (rng .u8) (w1.alloc (.cells #[] 5)) (fun k=>True∧some k≠(Value.slice (some ⟨w.heap.size+1,0,none⟩) 0 0).ownBlock) (some ⟨w.heap.size,0,none⟩) bB);clear hy
 go_wp2_with (first
  |(at_builtin;refine Own.mX (d:=rng .u8) w.heap.size rfl (.tmp 8) (.tmp 9) 22 5 (.int .u8 0) 1 rfl Tryz.underlying22 jW rfl (by decide) (by decide) (.slice (some ⟨w.heap.size+1,0,none⟩) 0 0) [] bB (some ⟨w.heap.size,0,none⟩) 8 (fun _=>True) rfl rfl HFF.out (bX (uG HY.out) (by omega)) (by omega) (by decide) ?_;intro v1 w3 hown1 hg1 hat1)
  |(at_builtin;refine Own.append (d:=rng .u8) w.heap.size rfl (.tmp 10) (.tmp 11) 22 5 _ 1 rfl Tryz.underlying22 jW rfl (by decide) (by decide) v1 ([]++bB) 7 _ (fun _=>True) rfl rfl (show FK (rng .u8) w3 (fun k=>True∧some k≠v1.ownBlock) 7 [.int .u8 7]from fun _ _=>⟨rfl,by decide⟩) hown1 (by have:=hg1.size;omega) (by decide) ?_;intro v2 w4 hown2 hg2 hat2))
 have hg1' :(w1.alloc (.cells #[] 5)).grownBy w3 (some (w.heap.size+1)):=hg1;have hs1:=hg1'.size;have hs2:=hg2.size
 have hv1:∀k,v1.ownBlock=some k→w.heap.size+1≤k:=fun k hk=>by
  rcases hat1 with h|h
  ·have h:v1.ownBlock=some (w.heap.size+1):=h;rw [hk]at h;injection h with h;omega
  ·rw [hk,hz2]at h;injection h with h;omega
 have hB4:Below w.heap.size w w4:=((HB.out.alloc (by omega) (.cells #[] 5)).grown hg1' (by omega) (fun k hk=>by injection hk with hk;omega)).grown hg2 (by omega) (fun k hk=>by have:=hv1 k hk;omega)
 have hM4:Own (rng .u8) 5 w4 w.heap.size (fun _=>False) (.slice (some ⟨w.heap.size,0,none⟩) 8 8) bB:=
  (((HM.out.below ((Below.refl _ _).alloc (Nat.le_refl _) (.cells #[] 5))).grown hg1' (.inr (fun e=>by have e:some w.heap.size=some (w.heap.size+1):=e;injection e with e;omega)) (fun k hk=>hk.elim)).grown hg2 (.inr (fun e=>by have e:some w.heap.size=v1.ownBlock:=e;have:=hv1 _ e.symm;omega)) (fun k hk=>hk.elim))
 obtain ⟨A2,c2,rfl,hc2,hR2⟩:=Dw hown2 (by decide);have HD1:=Lib.hid (JG w4 A2 c2 hR2 hc2);have HB4:=Lib.hid hB4;have HM4:=Lib.hid hM4;clear hM4 hB4 hg1' hg2 hs1 hat1 hat2 hg1 hown1 hown2 hR2 hc2 HFF HY HF HM HB;refine HD1.out.mono ?_;rintro E w5 ⟨hB5,A0,c0,A1,n1,c1,A2,n2,c2,A3,n3,c3,A4,n4,c4,A5,n5,c5,A6,n6,c6,A9,n9,c9,A10,n10,c10,st,stt,rfl⟩;have HB5:=Lib.hid (HB4.out.trans (hB5.mono HB4.out.size));have HM5:=Lib.hid (HM4.out.below hB5);clear hB5 HD1 HB4 HM4;go_upto_region 3 with (fail);have HB6:=Lib.hid (HB5.out.alloc HB5.out.size (.cells #[.slice A0 0 c0, .slice A1 n1 c1, .slice A2 n2 c2, .slice A3 n3 c3, .slice A4 n4 c4, .slice A5 n5 c5, .slice A6 n6 c6, .bool st, .int .u32 stt, .slice A9 n9 c9, .slice A10 n10 c10] 34));have HM6:=Lib.hid (HM5.out.below ((Below.refl _ _).alloc (Nat.le_refl _) (.cells #[.slice A0 0 c0, .slice A1 n1 c1, .slice A2 n2 c2, .slice A3 n3 c3, .slice A4 n4 c4, .slice A5 n5 c5, .slice A6 n6 c6, .bool st, .int .u32 stt, .slice A9 n9 c9, .slice A10 n10 c10] 34)));generalize w5.alloc (.cells #[.slice A0 0 c0, .slice A1 n1 c1, .slice A2 n2 c2, .slice A3 n3 c3, .slice A4 n4 c4, .slice A5 n5 c5, .slice A6 n6 c6, .bool st, .int .u32 stt, .slice A9 n9 c9, .slice A10 n10 c10] 34)=w6 at *;have h2:∀x∈T2,0≤x∧x≤255:=by decide
 have hL:FC (rng .u8) (w6.alloc (.cells #[.int .u8 1, .int .u8 4, .int .u8 1, .int .u8 96, .int .u8 0, .int .u8 0] 5)) (fun k=>k=w6.heap.size) (some ⟨w6.heap.size,0,none⟩) T2:=uH (fM w6 T2 5) h2 (by decide);have hs6:=HB6.out.size;have hwl:w.heap.size< w6.heap.size:=(Own.block HM6.out rfl).2;have HL:=Lib.hid (Ft.mono hL (fun k hk=>⟨trivial,fun e=>by have e:some k=some w.heap.size:=e;injection e with e;omega⟩):FC (rng .u8) (w6.alloc (.cells #[.int .u8 1, .int .u8 4, .int .u8 1, .int .u8 96, .int .u8 0, .int .u8 0] 5)) (fun k=>True∧some k≠(Value.slice (some ⟨w.heap.size,0,none⟩) 8 8).ownBlock) (some ⟨w6.heap.size,0,none⟩) T2);have hz7:(w6.alloc (.cells #[.int .u8 1, .int .u8 4, .int .u8 1, .int .u8 96, .int .u8 0, .int .u8 0] 5)).heap.size=w6.heap.size+1:=World.size_alloc _ _;clear hL;go_wp2_with (at_builtin;refine Own.mX (d:=rng .u8) w.heap.size rfl (.tmp 17) (.tmp 18) 22 5 (.int .u8 0) 1 rfl Tryz.underlying22 jW rfl (by decide) (by decide) (.slice (some ⟨w.heap.size,0,none⟩) 8 8) bB T2 (some ⟨w6.heap.size,0,none⟩) 6 (fun _=>True) rfl rfl HL.out (uG (HM6.out.below ((Below.refl _ _).alloc (Nat.le_refl _) _))) (by omega) (by decide) ?_;intro v3 w7 hown3 hg3 hat3);have hg3' :(w6.alloc (.cells #[.int .u8 1, .int .u8 4, .int .u8 1, .int .u8 96, .int .u8 0, .int .u8 0] 5)).grownBy w7 (some w.heap.size):=hg3;have HB7:=Lib.hid ((HB6.out.alloc hs6 (.cells #[.int .u8 1, .int .u8 4, .int .u8 1, .int .u8 96, .int .u8 0, .int .u8 0] 5)).grown hg3' (by omega) (fun k hk=>by injection hk with hk;omega));obtain ⟨A3,c3,rfl,hc3,hR3⟩:=Dw hown3 (by decide);have HD2:=Lib.hid (JJ w7 A3 c3 hR3 hc3);clear hg3 hg3' hown3 hat3 hR3 hc3 HL HM6 HM5;refine HD2.out.mono ?_;rintro E w8 ⟨hB8,A0,c0,A1,n1,c1,A2,n2,c2,A3,n3,c3,A4,n4,c4,A5,n5,c5,A6,n6,c6,A9,n9,c9,A10,n10,c10,st,stt,rfl⟩;have HB8:=Lib.hid (HB7.out.trans (hB8.mono HB7.out.size));have hb9:=Blk.new w8 #[.slice A0 1 c0, .slice A1 n1 c1, .slice A2 n2 c2, .slice A3 n3 c3, .slice A4 n4 c4, .slice A5 n5 c5, .slice A6 n6 c6, .bool st, .int .u32 stt, .slice A9 n9 c9, .slice A10 n10 c10] 34;have g0:(w8.alloc (.cells #[.slice A0 1 c0, .slice A1 n1 c1, .slice A2 n2 c2, .slice A3 n3 c3, .slice A4 n4 c4, .slice A5 n5 c5, .slice A6 n6 c6, .bool st, .int .u32 stt, .slice A9 n9 c9, .slice A10 n10 c10] 34)).cell? ⟨w8.heap.size,0,none⟩=some (.slice A0 1 c0):=hb9.cell 0;clear hB8 HD2 HB7 hb9;go_wp2_with fail;go_ret;exact ⟨rfl,HB8.out.alloc HB8.out.size _⟩
theorem iD {w:World} (m:Nat):Below w.heap.size w (w.drewN m):=⟨rfl,rfl,rfl,Nat.le_refl _,fun _ _=>rfl⟩
theorem yx {W:World} {a0:List Int} {A:Option Addr} {n c:Nat} (h0:(Kd.slice 5 (rng .u8)).K W a0 (Value.slice A n c).cells.toList) (hb:a0.length≤1048576):n=a0.length∧RdI W .u8 A a0∧aK a0∧a0.length≤c:=by
 obtain ⟨A',c',e,hle,hC⟩:=h0;simp [Value.cells]at e;obtain ⟨rfl,rfl,rfl⟩:=e;exact ⟨rfl,kM hC (by omega),⟨hb,fun x hx=>by have:=sI (Jk hC x hx);simp [IntKind.min,IntKind.max,IntKind.signed,IntKind.bits]at this;omega⟩,hle⟩
theorem zV (n:Nat):jR Tryz.prog 22 (Kd.slice 5 (rng .u8)) (fun xs=>xs.length) (n+1):=
 Cn (wE Tryz.underlying22 (by kernel_rfl) (zG .u8 Tryz.underlying5 (by kernel_rfl) n)) (fun a=>by rw [Eo];omega)
theorem mO {w:World} {k:IntKind} {A:Option Addr} {xs:List Int} (h:RdI w k A xs) (m:Nat):RdI (w.drewN m) k A xs:=h
theorem vH (W:World) (A1 A2:Option Addr) (c1 c2:Nat) (xs:List Int) (h1:RdI W .u32 A1 xs) (h2:RdI W .u32 A2 xs):
  Calls Tryz.prog 57 #[.slice A1 xs.length c1, .slice A2 xs.length c2] W fun E w' =>E= .returned (.bool true)∧∃m,w' =W.drewN m:=by
 have H1:=Lib.hid h1;have H2:=Lib.hid h2;have hl:=h1.1;clear h1 h2;go_enter Tryz.func57,Tryz.ntmps57;go_wp2_with fail;go_loopw [5] (fun i wr=>∃(j m:Nat),j≤xs.length∧i= .int .i64 j∧wr=W.drewN m) (fun i _=>xs.length - (intOf i).toNat)
 case atStart=>exact ⟨0,0,Nat.zero_le _,rfl,rfl⟩
 case round=>
  obtain ⟨j,m,hj,rfl,rfl⟩:=hrel;by_cases hlt:j< xs.length
  ·have hlt2:(j:Int)<(xs.length:Int):=by omega
   obtain ⟨b1,o1,x,rfl,hc1,hx1⟩:=H1.out.get j hlt;obtain ⟨b2,o2,y,rfl,hc2,hx2⟩:=H2.out.get j hlt;obtain rfl:x=y:=by have:=hx1.out.symm.trans hx2.out;injection this
   have hb1:=World.block_lt_of_cell? _ _ hc1;have hb2:=World.block_lt_of_cell? _ _ hc2;clear hx1 hx2;go_wp2_with fail;go_quiet (fail);go_wp2_with fail;go_roundw
   case rel=>exact ⟨j+1,_,by omega,by go_num,rfl⟩
   case measure=>simp [intOf];omega
  ·have hlt2:¬(j:Int)<(xs.length:Int):=by omega
   clear hlt;go_wp2_with fail;go_ret;exact ⟨rfl,m,rfl⟩
theorem dA {W0 W W' :World} (h:Below W0.heap.size W0 W) (h' :Below W.heap.size W W'):Below W0.heap.size W0 W' :=h.trans (h'.mono h.size)
theorem wX {W:World} {k:IntKind} {A:Option Addr} {xs:List Int} (h:(rng k).C W A xs.length xs) (hl:xs.length≤1048576):RdI W k A xs:=kM h (by omega)
theorem JA {tU tE:Nat} {W:World} {A1 A2:Option Addr} {l:List Ins} (h1:(lJ tU tE).C W A1 l.length l) (h2:(lJ tU tE).C W A2 l.length l) (j:Nat) (hj:j< l.length):
  ∃(x:Ins) (b1 o1 b2 o2:Nat) (AL AT AE BL BT BE:Option Addr) (cL cT cE dL dT dE:Nat),A1=some ⟨b1,o1,none⟩∧A2=some ⟨b2,o2,none⟩∧Hid (l[j]? =some x)∧
   (∀i u,(dB x AL AT AE cL cT cE).toList[i]? =some u→W.cell? ⟨b1,o1+j * 9+i,none⟩=some u)∧(∀i u,(dB x BL BT BE dL dT dE).toList[i]? =some u→W.cell? ⟨b2,o2+j * 9+i,none⟩=some u)∧
   (rng .u32).C W AL x.list.length x.list∧(rng .u32).C W BL x.list.length x.list∧(lJ tU tE).C W AT x.th.length x.th∧(lJ tU tE).C W BT x.th.length x.th∧(lJ tU tE).C W AE x.el.length x.el∧(lJ tU tE).C W BE x.el.length x.el:=by
 obtain ⟨b1,o1,x,cs,rfl,hx,hk,hc⟩:=wB h1 (Nat.succ_pos 8) j hj;obtain ⟨b2,o2,y,ds,rfl,hy,hk2,hc2⟩:=wB h2 (Nat.succ_pos 8) j hj;obtain rfl:x=y:=by have:=hx.out.symm.trans hy.out;injection this
 obtain ⟨AL,cL,AT,cT,AE,cE,rfl,_,_,_,_,_,hL,hT,hE,_⟩:=mK hk;obtain ⟨BL,dL,BT,dT,BE,dE,rfl,_,_,_,_,_,kL,kT,kE,_⟩:=mK hk2;exact ⟨x,b1,o1,b2,o2,AL,AT,AE,BL,BT,BE,cL,cT,cE,dL,dT,dE,rfl,rfl,hx,hc,hc2,hL,kL,hT,kT,hE,kE⟩
theorem same_eq:∀(n:Nat) (l:List Ins),bkL l≤n→n≤1048576→∀(w:World) (A1 A2:Option Addr) (c1 c2:Nat),kR.C w A1 l.length l→kR.C w A2 l.length l→
  Calls Tryz.prog 28 #[.slice A1 l.length c1, .slice A2 l.length c2] w (jG w):=by
 intro n
 induction n using Nat.strongRecOn with
 |ind n ih=>
 intro l hbk hn w A1 A2 c1 c2 h1 h2;have hlen:=zb l;have IH:=Lib.hid ih;have H1:=Lib.hid (show ∀X,Below w.heap.size w X→kR.C X A1 l.length l from fun X h=>(Ft.below (FC.jM h1) h).now);have H2:=Lib.hid (show ∀X,Below w.heap.size w X→kR.C X A2 l.length l from fun X h=>(Ft.below (FC.jM h2) h).now);clear ih h1 h2;go_enter Tryz.func28,Tryz.ntmps28;go_wp2_with fail;go_loopw [5] (fun k wr=>∃j:Nat,j≤l.length∧k= .int .i64 j∧Below w.heap.size w wr) (fun k _=>l.length - (intOf k).toNat)
 case atStart=>exact ⟨0,Nat.zero_le _,rfl,Below.refl _ _⟩
 case round=>
  obtain ⟨j,hj,rfl,hB⟩:=hrel;by_cases hlt:j< l.length
  ·have hlt2:(j:Int)<(l.length:Int):=by omega
   obtain ⟨x,b1,o1,b2,o2,AL,AT,AE,BL,BT,BE,cL,cT,cE,dL,dT,dE,rfl,rfl,hx,hc,hd,hL,kL,hT,kT,hE,kE⟩:=JA (H1.out wr hB) (H2.out wr hB) j hlt;have p0:=hc 0 _ rfl;have p1:=hc 1 _ rfl;have p2:=hc 2 _ rfl;have p3:=hc 3 _ rfl;have p4:=hc 4 _ rfl;have p5:=hc 5 _ rfl;have p6:=hc 6 _ rfl;have p7:=hc 7 _ rfl;have p8:=hc 8 _ rfl;have q0:=hd 0 _ rfl;have q1:=hd 1 _ rfl;have q2:=hd 2 _ rfl;have q3:=hd 3 _ rfl;have q4:=hd 4 _ rfl;have q5:=hd 5 _ rfl;have q6:=hd 6 _ rfl;have q7:=hd 7 _ rfl;have q8:=hd 8 _ rfl;simp only [Nat.add_zero]at p0 p1 p2 p3 p4 p5 p6 p7 p8 q0 q1 q2 q3 q4 q5 q6 q7 q8;have hb1:b1< wr.heap.size:=World.block_lt_of_cell? _ _ p0;have hb2:b2< wr.heap.size:=World.block_lt_of_cell? _ _ q0;have hbx:=zf hx.out;have hbt:=Ce x;have hbe:=Ea x;have hbl:=DV x
   have HSL:=Lib.hid (show ∀X,Below wr.heap.size wr X→Calls Tryz.prog 57 #[.slice AL x.list.length cL, .slice BL x.list.length dL] X fun E w' =>E= .returned (.bool true)∧∃m,w' =X.drewN m from
    fun X h=>vH X AL BL cL dL x.list (wX (Ft.below (FC.jM hL) h).now (by omega)) (wX (Ft.below (FC.jM kL) h).now (by omega)))
   have HST:=Lib.hid (show ∀X,Below wr.heap.size wr X→Calls Tryz.prog 28 #[.slice AT x.th.length cT, .slice BT x.th.length dT] X (jG X)from
    fun X h=>IH.out (bkL x.th) (by omega) x.th (Nat.le_refl _) (by omega) X AT BT cT dT (Ft.below (FC.jM hT) h).now (Ft.below (FC.jM kT) h).now)
   have HSE:=Lib.hid (show ∀X,Below wr.heap.size wr X→Calls Tryz.prog 28 #[.slice AE x.el.length cE, .slice BE x.el.length dE] X (jG X)from
    fun X h=>IH.out (bkL x.el) (by omega) x.el (Nat.le_refl _) (by omega) X AE BE cE dE (Ft.below (FC.jM hE) h).now (Ft.below (FC.jM kE) h).now)
   have hX:=Blk.alloc (Blk.new wr (dB x AL AT AE cL cT cE) 151) (.cells (dB x BL BT BE dL dT dE) 151);have hY:=Blk.new (wr.alloc (.cells (dB x AL AT AE cL cT cE) 151)) (dB x BL BT BE dL dT dE) 151;have hBW:Below wr.heap.size wr ((wr.alloc (.cells (dB x AL AT AE cL cT cE) 151)).alloc (.cells (dB x BL BT BE dL dT dE) 151)):=((Below.refl _ wr).alloc (Nat.le_refl _) _).alloc (by simp) _;have hsW:((wr.alloc (.cells (dB x AL AT AE cL cT cE) 151)).alloc (.cells (dB x BL BT BE dL dT dE) 151)).heap.size=wr.heap.size+2:=by simp
   rw [World.size_alloc]at hY;clear hc hd hL kL hT kT hE kE;simp only [dB]at hX hY hBW hsW;go_wp2_with fail;generalize hWe:(wr.alloc (.cells #[.int .i64 x.op, .int .u8 x.ty, .int .u32 x.a, .int .u32 x.b, .int .u64 x.bits, .slice AL x.list.length cL, .slice AT x.th.length cT, .slice AE x.el.length cE, .bool x.has] 151)).alloc (.cells #[.int .i64 x.op, .int .u8 x.ty, .int .u32 x.a, .int .u32 x.b, .int .u64 x.bits, .slice BL x.list.length dL, .slice BT x.th.length dT, .slice BE x.el.length dE, .bool x.has] 151)=W at *;have hBl:=Lib.hid (hB.trans (hBW.mono hB.size));clear hWe p0 p1 p2 p3 p4 p5 p6 p7 p8 q0 q1 q2 q3 q4 q5 q6 q7 q8 H1 H2 hB;have e00:∀Z,Below W.heap.size W Z→Z.cell? ⟨wr.heap.size,0,none⟩=some (.int .i64 x.op):=fun Z h=>by rw [(hX.below h (by rw [hsW];omega)).cell];rfl
   have e01:∀Z,Below W.heap.size W Z→Z.cell? ⟨wr.heap.size,1,none⟩=some (.int .u8 x.ty):=fun Z h=>by rw [(hX.below h (by rw [hsW];omega)).cell];rfl
   have e02:∀Z,Below W.heap.size W Z→Z.cell? ⟨wr.heap.size,2,none⟩=some (.int .u32 x.a):=fun Z h=>by rw [(hX.below h (by rw [hsW];omega)).cell];rfl
   have e03:∀Z,Below W.heap.size W Z→Z.cell? ⟨wr.heap.size,3,none⟩=some (.int .u32 x.b):=fun Z h=>by rw [(hX.below h (by rw [hsW];omega)).cell];rfl
   have e04:∀Z,Below W.heap.size W Z→Z.cell? ⟨wr.heap.size,4,none⟩=some (.int .u64 x.bits):=fun Z h=>by rw [(hX.below h (by rw [hsW];omega)).cell];rfl
   have e05:∀Z,Below W.heap.size W Z→Z.cell? ⟨wr.heap.size,5,none⟩=some (.slice AL x.list.length cL):=fun Z h=>by rw [(hX.below h (by rw [hsW];omega)).cell];rfl
   have e06:∀Z,Below W.heap.size W Z→Z.cell? ⟨wr.heap.size,6,none⟩=some (.slice AT x.th.length cT):=fun Z h=>by rw [(hX.below h (by rw [hsW];omega)).cell];rfl
   have e07:∀Z,Below W.heap.size W Z→Z.cell? ⟨wr.heap.size,7,none⟩=some (.slice AE x.el.length cE):=fun Z h=>by rw [(hX.below h (by rw [hsW];omega)).cell];rfl
   have e08:∀Z,Below W.heap.size W Z→Z.cell? ⟨wr.heap.size,8,none⟩=some (.bool x.has):=fun Z h=>by rw [(hX.below h (by rw [hsW];omega)).cell];rfl
   have e10:∀Z,Below W.heap.size W Z→Z.cell? ⟨wr.heap.size+1,0,none⟩=some (.int .i64 x.op):=fun Z h=>by rw [(hY.below h (by rw [hsW];omega)).cell];rfl
   have e11:∀Z,Below W.heap.size W Z→Z.cell? ⟨wr.heap.size+1,1,none⟩=some (.int .u8 x.ty):=fun Z h=>by rw [(hY.below h (by rw [hsW];omega)).cell];rfl
   have e12:∀Z,Below W.heap.size W Z→Z.cell? ⟨wr.heap.size+1,2,none⟩=some (.int .u32 x.a):=fun Z h=>by rw [(hY.below h (by rw [hsW];omega)).cell];rfl
   have e13:∀Z,Below W.heap.size W Z→Z.cell? ⟨wr.heap.size+1,3,none⟩=some (.int .u32 x.b):=fun Z h=>by rw [(hY.below h (by rw [hsW];omega)).cell];rfl
   have e14:∀Z,Below W.heap.size W Z→Z.cell? ⟨wr.heap.size+1,4,none⟩=some (.int .u64 x.bits):=fun Z h=>by rw [(hY.below h (by rw [hsW];omega)).cell];rfl
   have e15:∀Z,Below W.heap.size W Z→Z.cell? ⟨wr.heap.size+1,5,none⟩=some (.slice BL x.list.length dL):=fun Z h=>by rw [(hY.below h (by rw [hsW];omega)).cell];rfl
   have e16:∀Z,Below W.heap.size W Z→Z.cell? ⟨wr.heap.size+1,6,none⟩=some (.slice BT x.th.length dT):=fun Z h=>by rw [(hY.below h (by rw [hsW];omega)).cell];rfl
   have e17:∀Z,Below W.heap.size W Z→Z.cell? ⟨wr.heap.size+1,7,none⟩=some (.slice BE x.el.length dE):=fun Z h=>by rw [(hY.below h (by rw [hsW];omega)).cell];rfl
   have e18:∀Z,Below W.heap.size W Z→Z.cell? ⟨wr.heap.size+1,8,none⟩=some (.bool x.has):=fun Z h=>by rw [(hY.below h (by rw [hsW];omega)).cell];rfl
   refine (HSL.out _ hBW).mono ?_;rintro E1 W1 ⟨rfl,m,rfl⟩;have c6:=e06 _ (iD m);have d6:=e16 _ (iD m);clear e00 e01 e02 e03 e04 e05 e06 e08 e10 e11 e12 e13 e14 e15 e16 e18;go_wp2_with fail;refine (HST.out _ (by exact dA hBW (iD m))).mono ?_;rintro E2 W2 ⟨rfl,hB2⟩;have hB2' :=dA (iD (w:=W) m) hB2;have c7:=e07 _ hB2';have d7:=e17 _ hB2';clear e07 e17;go_wp2_with fail;refine (HSE.out _ (by exact dA hBW hB2')).mono ?_;rintro E3 W3 ⟨rfl,hB3⟩;have hB3' :=Lib.hid (dA hBl.out (dA hB2' hB3));clear c7 d7 hB2' hB2 hB3;go_wp2_with fail;go_roundw
   case rel=>exact ⟨j+1,by omega,by go_num,hB3'.out⟩
   case measure=>simp [intOf];omega
  ·have hlt2:¬(j:Int)<(l.length:Int):=by omega
   clear hlt;go_wp2_with fail;go_ret;exact ⟨rfl,hB⟩
def xH (W:World) (E:Ending) (w' :World):Prop:=E= .returned (.bool true)∧∃m,w' =W.drewN m
theorem FC.two {α:Type} {d:Kd α} {W:World} {ok1 ok2:Nat→Prop} {A1 A2:Option Addr} {xs:List α} (h1:FC d W ok1 A1 xs) (h2:FC d W ok2 A2 xs) (hs:0< d.sz) (i:Nat) (hi:i< xs.length):
  ∃b1 o1 b2 o2 x cs1 cs2,A1=some ⟨b1,o1,none⟩∧A2=some ⟨b2,o2,none⟩∧Hid (xs[i]? =some x)∧FK d W ok1 x cs1∧FK d W ok2 x cs2∧
   (∀j u,cs1[j]? =some u→W.cell? ⟨b1,o1+i * d.sz+j,none⟩=some u)∧(∀j u,cs2[j]? =some u→W.cell? ⟨b2,o2+i * d.sz+j,none⟩=some u):=by
 obtain ⟨b1,o1,x,cs1,rfl,hx,hk1,hc1⟩:=FC.at_ h1 hs i hi;obtain ⟨b2,o2,y,cs2,rfl,hy,hk2,hc2⟩:=FC.at_ h2 hs i hi;obtain rfl:x=y:=by have:=hx.out.symm.trans hy.out;injection this
 exact ⟨b1,o1,b2,o2,x,cs1,cs2,rfl,rfl,hx,hk1,hk2,hc1,hc2⟩
theorem vJ {W:World} {ok:Nat→Prop} {x:List Int×List Int} {cs:List Value} (h:FK kFt W ok x cs):∃A c A' c',cs= [.slice A x.1.length c, .slice A' x.2.length c']∧(rng .u8).C W A x.1.length x.1∧(rng .u8).C W A' x.2.length x.2:=by
 obtain ⟨_,_,rfl,⟨A,c,rfl,_,h1⟩,_,_,rfl,⟨A',c',rfl,_,h2⟩,rfl⟩:=h.now;exact ⟨A,c,A',c',rfl,h1,h2⟩
theorem rQ (W:World) (A1 A2:Option Addr) (c1 c2:Nat) (xs:List Int) (h1:RdI W .u32 A1 xs) (h2:RdI W .u32 A2 xs):
  Calls Tryz.prog 29 #[.slice A1 xs.length c1, .slice A2 xs.length c2] W (xH W):=by
 have H1:=Lib.hid h1;have H2:=Lib.hid h2;have hl:=h1.1;clear h1 h2;go_enter Tryz.func29,Tryz.ntmps29;go_wp2_with fail;go_loopw [5] (fun i wr=>∃(j m:Nat),j≤xs.length∧i= .int .i64 j∧wr=W.drewN m) (fun i _=>xs.length - (intOf i).toNat)
 case atStart=>exact ⟨0,0,Nat.zero_le _,rfl,rfl⟩
 case round=>
  obtain ⟨j,m,hj,rfl,rfl⟩:=hrel;by_cases hlt:j< xs.length
  ·have hlt2:(j:Int)<(xs.length:Int):=by omega
   obtain ⟨b1,o1,x,rfl,hc1,hx1⟩:=H1.out.get j hlt;obtain ⟨b2,o2,y,rfl,hc2,hx2⟩:=H2.out.get j hlt;obtain rfl:x=y:=by have:=hx1.out.symm.trans hx2.out;injection this
   have hb1:=World.block_lt_of_cell? _ _ hc1;have hb2:=World.block_lt_of_cell? _ _ hc2;clear hx1 hx2;go_wp2_with fail;go_quiet (fail);go_wp2_with fail;go_roundw
   case rel=>exact ⟨j+1,_,by omega,by go_num,rfl⟩
   case measure=>simp [intOf];omega
  ·have hlt2:¬(j:Int)<(xs.length:Int):=by omega
   clear hlt;go_wp2_with fail;go_ret;exact ⟨rfl,m,rfl⟩
theorem mV (W:World) (A1 A2:Option Addr) (c1 c2:Nat) (xs:List (Int×Int×Bool)) (ok1 ok2:Nat→Prop) (h1:FC dK W ok1 A1 xs) (h2:FC dK W ok2 A2 xs) (hl:xs.length≤1048576):
  Calls Tryz.prog 27 #[.slice A1 xs.length c1, .slice A2 xs.length c2] W (xH W):=by
 have H1:=Lib.hid h1;have H2:=Lib.hid h2;clear h1 h2;go_enter Tryz.func27,Tryz.ntmps27;go_wp2_with fail;go_loopw [5] (fun i wr=>∃(j m:Nat),j≤xs.length∧i= .int .i64 j∧wr=W.drewN m) (fun i _=>xs.length - (intOf i).toNat)
 case atStart=>exact ⟨0,0,Nat.zero_le _,rfl,rfl⟩
 case round=>
  obtain ⟨j,m,hj,rfl,rfl⟩:=hrel;by_cases hlt:j< xs.length
  ·have hlt2:(j:Int)<(xs.length:Int):=by omega
   obtain ⟨b1,o1,b2,o2,x,cs1,cs2,rfl,rfl,hx,hk1,hk2,hc1,hc2⟩:=FC.two H1.out H2.out (show 0< 3 by decide) j hlt;obtain rfl:=nT hk1;obtain rfl:=nT hk2;have hz:dK.sz=3:=rfl;have d0:=hc1 0 _ rfl;have d1:=hc1 1 _ rfl;have d2:=hc1 2 _ rfl;have e0:=hc2 0 _ rfl;have e1:=hc2 1 _ rfl;have e2:=hc2 2 _ rfl;simp only [hz,Nat.add_zero]at d0 d1 d2 e0 e1 e2;have hb1:=World.block_lt_of_cell? _ _ d0;have hb2:=World.block_lt_of_cell? _ _ e0;clear hx hk1 hk2 hc1 hc2;go_wp2_with fail;go_quiet (fail);go_wp2_with fail;go_roundw
   case rel=>exact ⟨j+1,_,by omega,by go_num,rfl⟩
   case measure=>simp [intOf];omega
  ·have hlt2:¬(j:Int)<(xs.length:Int):=by omega
   clear hlt;go_wp2_with fail;go_ret;exact ⟨rfl,m,rfl⟩
theorem uS (W:World) (A1 A2:Option Addr) (c1 c2:Nat) (xs:List (List Int×List Int)) (ok1 ok2:Nat→Prop) (h1:FC kFt W ok1 A1 xs) (h2:FC kFt W ok2 A2 xs) (hl:xs.length≤1048576) (hb:∀x∈xs,x.1.length≤1048576∧x.2.length≤1048576):
  Calls Tryz.prog 25 #[.slice A1 xs.length c1, .slice A2 xs.length c2] W (xH W):=by
 have H1:=Lib.hid h1;have H2:=Lib.hid h2;have HB:=Lib.hid hb;clear h1 h2 hb;go_enter Tryz.func25,Tryz.ntmps25;go_wp2_with fail;go_loopw [5] (fun i wr=>∃(j m:Nat),j≤xs.length∧i= .int .i64 j∧wr=W.drewN m) (fun i _=>xs.length - (intOf i).toNat)
 case atStart=>exact ⟨0,0,Nat.zero_le _,rfl,rfl⟩
 case round=>
  obtain ⟨j,m,hj,rfl,rfl⟩:=hrel;by_cases hlt:j< xs.length
  ·have hlt2:(j:Int)<(xs.length:Int):=by omega
   obtain ⟨b1,o1,b2,o2,x,cs1,cs2,rfl,rfl,hx,hk1,hk2,hc1,hc2⟩:=FC.two H1.out H2.out (show 0< 2 by decide) j hlt;obtain ⟨P1,p1,Q1,q1,rfl,g1,g2⟩:=vJ hk1;obtain ⟨P2,p2,Q2,q2,rfl,g3,g4⟩:=vJ hk2;obtain ⟨l1,l2⟩:=HB.out x (List.mem_of_getElem? hx.out);have k1:∀m,(convert 22 9 (.slice P1 x.1.length p1)).run Tryz.prog (W.drewN m)= .ok (.string (strOfNums x.1)) (W.drewN m):=fun m=>dR _ P1 x.1 p1 (mO (kM g1 (by omega)) m)
   have k2:∀m,(convert 22 9 (.slice Q1 x.2.length q1)).run Tryz.prog (W.drewN m)= .ok (.string (strOfNums x.2)) (W.drewN m):=fun m=>dR _ Q1 x.2 q1 (mO (kM g2 (by omega)) m)
   have k3:∀m,(convert 22 9 (.slice P2 x.1.length p2)).run Tryz.prog (W.drewN m)= .ok (.string (strOfNums x.1)) (W.drewN m):=fun m=>dR _ P2 x.1 p2 (mO (kM g3 (by omega)) m)
   have k4:∀m,(convert 22 9 (.slice Q2 x.2.length q2)).run Tryz.prog (W.drewN m)= .ok (.string (strOfNums x.2)) (W.drewN m):=fun m=>dR _ Q2 x.2 q2 (mO (kM g4 (by omega)) m)
   have hz:kFt.sz=2:=rfl;have d0:=hc1 0 _ rfl;have d1:=hc1 1 _ rfl;have e0:=hc2 0 _ rfl;have e1:=hc2 1 _ rfl;simp only [hz,Nat.add_zero]at d0 d1 e0 e1;have hb1:=World.block_lt_of_cell? _ _ d0;have hb2:=World.block_lt_of_cell? _ _ e0;clear hx hk1 hk2 hc1 hc2 g1 g2 g3 g4 l1 l2;go_wp2_with fail;go_quiet (fail);go_wp2_with fail;go_roundw
   case rel=>exact ⟨j+1,_,by omega,by go_num,rfl⟩
   case measure=>simp [intOf];omega
  ·have hlt2:¬(j:Int)<(xs.length:Int):=by omega
   clear hlt;go_wp2_with fail;go_ret;exact ⟨rfl,m,rfl⟩
end Go.Proofs.YtofaiocffifhfaaGreat
section
namespace Go.Proofs.YtofaiocffifhfaaGreatB
open Go
section
variable {P:Program} {ops:Array Oper} {Q:Exit→Act→World→Prop} {md:Region.Mode} {S:World→Prop} {fin:Nat→Bool}
def AnyE (P:Program) (md:Region.Mode) (ops:Array Oper) (Q:Exit→Act→World→Prop) (S:World→Prop) (fin:Nat→Bool):Nat→Array Bool→Act→World→Prop
 |0,listed,a,w=>Region.ready md ops listed= []∧Q .normal a w
 |n+1,listed,a,w=>(Region.ready md ops listed= []→Q .normal a w)∧
  ∀i∈Region.ready md ops listed,wpOp P ops Q i (fun a' w' =>(fin i=false→S w')∧AnyE P md ops Q S fin n (listed.setIfInBounds i true) a' w') a w
theorem vY:∀(n:Nat) (listed:Array Bool) (a:Act) (w:World),AnyE P md ops Q S fin n listed a w→wpAny P md ops Q n listed a w
 |0,_,_,_,h=>h
 |n+1,_,_,_,h=>⟨h.1,fun i hi=>wpOp_mono (fun a' w' h' =>vY n _ a' w' h'.2) (h.2 i hi)⟩
def waits (md:Region.Mode) (ops:Array Oper) (fin:Nat→Bool) (i:Nat):Bool:=
 (List.range ops.size).all fun j=> !fin j ||(match ops[j]? with|some o=>o.after.any (fun e=>Region.binds md e && e.on==i)|none=>true)
theorem xK {i j:Nat} {oj:Oper} (h:waits md ops fin i=true) (hj:ops[j]? =some oj) (hf:fin j=true):∃e∈oj.after,Region.binds md e=true∧e.on=i:=by
 have hlt:j< ops.size:=(Array.getElem?_eq_some_iff.1 hj).1;have h1:=List.all_eq_true.1 h j (by simpa using hlt);rw [hj,hf]at h1;simp only [Bool.not_true,Bool.false_or,Array.any_eq_true']at h1;obtain ⟨e,he,hb⟩:=h1;simp only [Bool.and_eq_true,beq_iff_eq]at hb;exact ⟨e,he,hb⟩
theorem yz {i:Nat} {oi:Oper} {v:Value} (hi:ops[i]? =some oi) (hsel:∀(j:Nat) (o:Oper) cs b,ops[j]? =some o→o.op≠ .select cs b)
  (hQ:∀c a w,Q (.panic c) (a.put oi.dst v) w→Q (.panic c) a w) (hwt:waits md ops fin i=true):
  ∀(n:Nat) (listed:Array Bool) (a:Act) (w:World),
   (∀j oj,ops[j]? =some oj→j≠i→listed.getD j true=false→(∀e∈oj.after,Region.binds md e=true→e.on≠i)→oi.apart ops oj=true)→
   i∈Region.ready md ops listed→YieldsIf P ops S oi v a→S w→
   AnyE P md ops Q S fin n (listed.setIfInBounds i true) (a.put oi.dst v) w→AnyE P md ops Q S fin (n+1) listed a w:=by
 intro n
 induction n with
 |zero=>
  intro listed a w _ hr hy hS H;refine ⟨fun h=>(by rw [h]at hr;cases hr),fun j hj=> ?_⟩;by_cases e:j=i
  ·subst e;exact hy.wpOp hi hS ⟨fun _=>hS,H⟩
  ·have h1:=ready_mono hj e;rw [H.1]at h1;cases h1
 |succ n ih=>
  intro listed a w hfree hr hy hS H;refine ⟨fun h=>(by rw [h]at hr;cases hr),fun j hj=> ?_⟩;by_cases e:j=i
  ·subst e;exact hy.wpOp hi hS ⟨fun _=>hS,H⟩
  ·have h1:=H.2 j (ready_mono hj e);obtain ⟨hun,oj,hoj,hall⟩:=mem_ready.1 hj
   have hnot:∀d∈oj.after,Region.binds md d=true→d.on≠i:=fun d hd hb heq=>by
    have g1:=hall d hd hb;have g0:=(mem_ready.1 hr).1;rw [heq]at g1;rcases Nat.lt_or_ge i listed.size with h' |h'
    ·simp [h']at g0 g1;rw [g0]at g1;cases g1
    ·simp [Array.getElem?_eq_none h']at g1
   have hfj:fin j=false:=by
    cases hf:fin j with
    |false=>rfl
    |true=>
     obtain ⟨d,hd,hb,ho⟩:=xK hwt hoj hf;exact absurd ho (hnot d hd hb)
   have h2:=wpOp_putIf hoj (hfree j oj hoj e hun hnot) (fun cs b=>hsel i oi cs b hi) (fun cs b=>hsel j oj cs b hoj) hQ hy h1
   have hfree' :∀k ok,ops[k]? =some ok→k≠i→(listed.setIfInBounds j true).getD k true=false→
     (∀d∈ok.after,Region.binds md d=true→d.on≠i)→oi.apart ops ok=true:=fun k ok hk hki hn hno=>by
    refine hfree k ok hk hki ?_ hno;by_cases hjk:j=k
    ·subst hjk;exact hun
    ·rw [getD_set_ne true hjk]at hn;exact hn
   refine wpOp_mono (fun a' w' h3=>⟨fun _=>h3.2.1 hfj,ih (listed.setIfInBounds j true) a' w' hfree' (ready_mono hr (Ne.symm e)) h3.1 (h3.2.1 hfj) ?_⟩) h2;rw [Array.setIfInBounds_comm _ _ e];exact h3.2.2
theorem aC {i:Nat} {oi:Oper} {v:Value} {n:Nat} {listed:Array Bool} {a:Act} {w:World} (hi:ops[i]? =some oi)
  (hs:Region.noSelect ops=true) (hf:Region.free md ops listed i=true) (hr:(Region.ready md ops listed).contains i=true) (hwt:waits md ops fin i=true)
  (hQ:∀c a w,Q (.panic c) (a.put oi.dst v) w→Q (.panic c) a w) (hy:YieldsIf P ops S oi v a) (hS:S w)
  (h:AnyE P md ops Q S fin n (listed.setIfInBounds i true) (a.put oi.dst v) w):AnyE P md ops Q S fin (n+1) listed a w:=
 yz hi (Region.noSelect_spec hs) hQ hwt n listed a w (Region.free_spec hi hf) (by simpa using hr) hy hS h
theorem aP {i:Nat} {o:Oper} {n:Nat} {listed:Array Bool} {a:Act} {w:World} (hr:Region.ready md ops listed= [i]) (hi:ops[i]? =some o) (hn:fin i=false)
  (h:∀K' :Act→World→Prop,Shut (∀a w,S w→(S w→AnyE P md ops Q S fin n (listed.setIfInBounds i true) a w)→K' a w)→if Region.wanted o (yielded ops a.tmps)=true then Oper.wp P o a w K' Q else K' (a.put o.dst undef) w):
  AnyE P md ops Q S fin (n+1) listed a w:=
 ⟨fun h=>(by rw [hr]at h;cases h),fun j hj=>by
  rw [hr]at hj;obtain rfl:=List.mem_singleton.1 hj
  exact wpOp_step hi (fun K' hK=>h K' (fun a w hS hW=>hK a w ⟨fun _=>hS,hW hS⟩))⟩
theorem fG {i:Nat} {o:Oper} {n:Nat} {listed:Array Bool} {a:Act} {w:World} (hr:Region.ready md ops listed= [i]) (hi:ops[i]? =some o) (hn:fin i=true)
  (h:∀K' :Act→World→Prop,Shut (∀a w,AnyE P md ops Q S fin n (listed.setIfInBounds i true) a w→K' a w)→if Region.wanted o (yielded ops a.tmps)=true then Oper.wp P o a w K' Q else K' (a.put o.dst undef) w):
  AnyE P md ops Q S fin (n+1) listed a w:=
 ⟨fun h=>(by rw [hr]at h;cases h),fun j hj=>by
  rw [hr]at hj;obtain rfl:=List.mem_singleton.1 hj
  exact wpOp_step hi (fun K' hK=>h K' (fun a w hW=>hK a w ⟨fun e=>(by rw [hn]at e;cases e),hW⟩))⟩
theorem eQ {listed:Array Bool} {a:Act} {w:World} (hr:Region.ready md ops listed= []) (h:Q .normal a w):∀n,AnyE P md ops Q S fin n listed a w
 |0=>⟨hr,h⟩
 |_+1=>⟨fun _=>h,fun i hi=>(by rw [hr]at hi;cases hi)⟩
theorem dI {id:Nat} {a:Act} {w:World} (S:World→Prop) (fin:Nat→Bool) (hm:P.follows .mixedOrders=true) (hS:S w.drew)
  (h:S w.drew→AnyE P .any ops Q S fin ops.size (Array.replicate ops.size false) a w.drew):(Code.region id ops true).wp P Q a w:=
 wp_region_any hm (vY _ _ _ _ (h hS))
end
end Go.Proofs.YtofaiocffifhfaaGreatB
end
namespace Go.Proofs.YtofaiocffifhfaaGreat
open Go.RowKit Go.Shelf YtofaiocffifhfaaGreatB Go.Proofs.YtofaiocffifhfaaGreatW.PrintWords
theorem AZ (W:World) (g:Nat) (hg:g≤8):Calls Tryz.prog 143 #[.int .i64 g] W (fI W (Gi g)):=by
 have:g=0∨g=1∨g=2∨g=3∨g=4∨g=5∨g=6∨g=7∨g=8:=by omega
 rcases this with rfl|rfl|rfl|rfl|rfl|rfl|rfl|rfl|rfl
 ·exact Fj W
 ·exact FE W
 ·exact GN W
 ·exact EU W
 ·exact Fq W
 ·exact GJ W
 ·exact Ff W
 ·exact GH W
 ·exact FT W
theorem Im (f s:ByteArray) (h:s.toList.isEmpty=false):(f++s).toList.isEmpty= !true:=by
 rw [ByteArray.toList_eq]at h ⊢;rw [ByteArray.data_append,Array.toList_append]
 cases hs:s.data.toList with
 |nil=>rw [hs]at h;cases h
 |cons a r=>simp
def mE (W:World) (b:Bool) (E:Ending) (w' :World):Prop:=(∃s,E= .returned (.string s)∧s.toList.isEmpty= !b)∧Below W.heap.size W w'
theorem zt (W:World) (op:Int) (h0:64512≤op) (h1:op≤64519):Calls Tryz.prog 137 #[.int .i64 op] W (mE W true):=by
 have hw0:0≤op - 64512:=by omega
 have hw1:op - 64512< 8:=by omega
 go_enter Tryz.func137,Tryz.ntmps137;go_wp2_with fail;refine (Ej _).mono ?_;rintro E W1 ⟨⟨A,rfl,hS⟩,hB⟩;obtain ⟨g,s,rfl,hc,hs,hss⟩:=hS.at_ (op - 64512).toNat (by omega);have HB:=Lib.hid hB;have HS:=Lib.hid hs;clear hS hB hs;go_wp2_with fail;go_ret;exact ⟨⟨s,rfl,HS.out⟩,HB.out⟩
theorem yo (W:World) (op:Int) (h0:0≤op) (h1:op≤5000000000) (h2:op< 69∨191< op) (h3:op< 64512∨64519< op):Calls Tryz.prog 137 #[.int .i64 op] W (mE W false):=by
 rcases h2 with h2|h2
 all_goals
  rcases h3 with h3|h3
  all_goals
   first
    |(exfalso;omega)
    |(go_enter Tryz.func137,Tryz.ntmps137
      go_wp2_with fail;go_ret
      exact ⟨⟨_,rfl,by rw [ByteArray.toList_eq];rfl⟩,Below.refl _ _⟩)
theorem Bi (W:World) (op:Int) (h0:69≤op) (h1:op≤191):Calls Tryz.prog 137 #[.int .i64 op] W (mE W true):=by
 go_enter Tryz.func137,Tryz.ntmps137;go_wp2_with fail;go_loopw [3,4] (fun i g wr=>∃j:Nat,j≤9∧g= .int .i64 j∧i= .int .i64 (op - 69 - rV j)∧Hid ((rV j:Int)≤op - 69)∧Below W.heap.size W wr) (fun _ g _=>9 - (intOf g).toNat)
 case atStart=>exact ⟨0,by omega,rfl,by simp [rV],by show _≤_;simp [rV];omega,Below.refl _ _⟩
 case round=>
  obtain ⟨j,hj,rfl,rfl,hcu,hB⟩:=hrel;by_cases hlt:j< 9
  ·have HG:=Lib.hid (AZ wr j (by omega));have HS:=Lib.hid (zz j (by omega));have hle:=Gp j (by omega);obtain ⟨k,hk⟩:∃k:Nat,op - 69 - rV j=(k:Int):=⟨(op - 69 - rV j).toNat,by have:=hcu.out;omega⟩;have HK:=Lib.hid hk;rw [hk];have hk2:(k:Int)≤122:=by omega
   generalize Gi j=n at *;generalize rV j=cu at *;clear hk hcu;have HB:=Lib.hid hB;clear hB;by_cases hkn:k< n
   ·have hkn2:(k:Int)<(n:Int):=by omega
    go_wp2_with fail;refine HG.out.mono ?_;rintro E W1 ⟨⟨f,A,rfl,hfs,hS⟩,hB1⟩;obtain ⟨gg,s,rfl,hc,hs,hss⟩:=hS.at_ k hkn;have HB2:=Lib.hid (HB.out.trans (hB1.mono HB.out.size));have HS2:=Lib.hid hs;clear hS hB1 hs HG;go_wp2_with fail;go_ret;exact ⟨⟨f++s,rfl,Im f s HS2.out⟩,HB2.out⟩
   ·have hkn2:(n:Int)≤(k:Int):=by omega
    go_wp2_with fail;refine HG.out.mono ?_;rintro E W1 ⟨⟨f,A,rfl,hfs,hS⟩,hB1⟩;have HB2:=Lib.hid (HB.out.trans (hB1.mono HB.out.size));clear hS hB1 HG;go_wp2_with fail;go_roundw
    case rel=>exact ⟨j+1,by omega,by go_num,by rw [HS.out];congr 1;have:=HK.out;omega,by show _≤_;rw [HS.out];have:=HK.out;omega,HB2.out⟩
    case measure=>simp [intOf];omega
  ·exfalso;obtain rfl:j=9:=by omega
   have h9:(rV 9:Int)=123:=rfl;have:=hcu.out;omega
theorem zK (W:World) (op:Int) (h0:0≤op) (h1:op≤5000000000):Calls Tryz.prog 137 #[.int .i64 op] W (mE W (qF op)):=by
 by_cases c1:69≤op∧op≤191
 ·rw [show qF op=true from decide_eq_true (.inl c1)];exact Bi W op c1.1 c1.2
 by_cases c2:64512≤op∧op≤64519
 ·rw [show qF op=true from decide_eq_true (.inr c2)];exact zt W op c2.1 c2.2
 rw [show qF op=false from decide_eq_false (by omega)];exact yo W op h0 h1 (by omega) (by omega)
theorem lS (W:World) (op:Int) (h0:0≤op) (h1:op≤5000000000):Calls Tryz.prog 126 #[.int .i64 op] W fun E w' =>E= .returned (.int .i64 (iO op))∧Below W.heap.size W w' :=by
 go_enter Tryz.func126,Tryz.ntmps126;go_wp2_with fail;refine (zL _).mono ?_;rintro E W1 ⟨⟨A,rfl,hL⟩,hB1⟩;have HL:=Lib.hid hL;have HB1:=Lib.hid hB1;clear hL hB1;go_wp2_with fail;go_loop [4] (fun k=>∃j:Nat,j≤26∧k= .int .i64 j∧Hid (∀y∈iA.take j,¬y=op)) (fun k=>26 - (intOf k).toNat)
 case atStart=>exact ⟨0,by omega,rfl,by intro y hy;simp at hy⟩
 case round=>
  obtain ⟨j,hj,rfl,hno⟩:=hrel;by_cases hlt:j< 26
  ·have hlt2:(j:Int)< 26:=by omega
   have hx:iA[j]? =some (iA.getD j 0):=by rw [List.getD_eq_getElem?_getD,List.getElem?_eq_getElem (show j< iA.length from hlt)];rfl
   have HI:=Lib.hid (Bn j hlt);obtain ⟨g,rfl,hc⟩:=HL.out;have c0:=hc j _ hx;have HX:=Lib.hid hx;generalize iA.getD j 0=x at *;clear hc hx;by_cases hxo:x=op
   ·have hxb:(x==op)=true:=by simpa using hxo
    rw [hxo]at HI;clear hxo;go_wp2_with fail;refine (BK _).mono ?_;rintro E W2 ⟨⟨A2,rfl,hL2⟩,hB2⟩;obtain ⟨g2,rfl,hc2⟩:=hL2;have hy:qX[j]? =some (qX.getD j 0):=by rw [List.getD_eq_getElem?_getD,List.getElem?_eq_getElem (show j< qX.length from hlt)];rfl
    have c2:=hc2 j _ hy;have HB2:=Lib.hid (HB1.out.trans (hB2.mono HB1.out.size));generalize qX.getD j 0=y at *;clear hc2 hy hB2;go_wp2_with fail;go_ret;rw [HI.out];exact ⟨rfl,HB2.out⟩
   ·have hxb:(x==op)=false:=by simpa using hxo
    have HN:=Lib.hid (jU hno.out HX.out hxo);clear hxo;go_wp2_with fail;go_round
    case rel=>exact ⟨j+1,by omega,by go_num,HN⟩
    case measure=>simp [intOf];omega
  ·obtain rfl:j=26:=by omega
   have hall:∀y∈iA,¬y=op:=hno.out;by_cases hm:40≤op∧op≤62
   ·obtain ⟨hm0,hm1⟩:=hm
    have HV:=Lib.hid (show iO op=6 from by
     have h' :∀x∈iA,¬op=x:=fun x hx e=>hall x hx e.symm
     simp only [iA,List.mem_cons,List.mem_nil_iff,or_false,forall_eq_or_imp,forall_eq]at h';unfold iO bN
     simp [h',hm0,hm1])
    clear hall;go_wp2_with fail;go_ret;rw [HV.out];exact ⟨rfl,HB1.out⟩
   ·have HV:=Lib.hid (FH op hall hm);have HN:=Lib.hid (zK W1 op h0 h1);clear hall;generalize qF op=b at *;by_cases hm0:40≤op
    all_goals
     have hm1:62< op∨op< 40:=by omega
     cases b
     all_goals
      go_wp2_with fail;refine HN.out.mono ?_;rintro E W2 ⟨⟨s,rfl,hs⟩,hB2⟩;have HB2:=Lib.hid (HB1.out.trans (hB2.mono HB1.out.size));simp only [Bool.not_true,Bool.not_false]at hs;clear hB2;go_wp2_with fail;go_ret;rw [HV.out];exact ⟨rfl,HB2.out⟩
def Rq (W:World) (R p:Nat) (sat:Bool):Prop:=Blk W R #[.pointer (some ⟨p,0,none⟩), .bool sat] 186
theorem Rq.cells {W:World} {R p:Nat} {sat:Bool} (h:Rq W R p sat):W.cell? ⟨R,0,none⟩=some (.pointer (some ⟨p,0,none⟩))∧W.cell? ⟨R,1,none⟩=some (.bool sat)∧R< W.heap.size:=
 ⟨by rw [Blk.cell h];rfl,by rw [Blk.cell h];rfl,Blk.lt h⟩
theorem Rq.goes {W W' :World} {R p q:Nat} {sat:Bool} {B:List Int} {a:Nat} {e:Int} (h:Rq W R p sat) (hR:R≠p) (hG:aF W W' p q B a e):Rq W' R p sat:=Blk.grown h hG.2 (by simpa using hR)
def eU (B:List Int) (a:Nat) (e:Int):Int:=if (aO B a e).2=0 then (aO B a e).1 else -1
theorem fJ (W:World) (R p q:Nat) (sat:Bool) (B:List Int) (a:Nat) (e:Int) (hR:Rq W R p sat) (hC:Rdr W p q B a e) (hB:aK B):
  Calls Tryz.prog 117 #[.pointer (some ⟨R,0,none⟩)] W fun E w' =>E= .returned (.int .i64 (eU B a e))∧aF W w' p q B a (aO B a e).2:=by
 have hl:=hB.1;have HC:=Lib.hid hC;obtain ⟨A,c,c0,c1,c2,f0,f1,f2,hle,hq,hlt,ha⟩:=hC.cells;obtain ⟨s0,s1,slt⟩:=hR.cells;by_cases he:e=0
 ·subst he;rcases Nat.lt_or_ge a B.length with hlt2|hge
  ·obtain ⟨o,x,rfl,hx,hc⟩:=hq.at_ a hlt2;have hxb:=hB.get hx.out;have HV:=Lib.hid (show eU B a 0=x∧(aO B a 0).2=0 from by simp [eU,aO,hx.out]);have hlt3:decide ((B.length:Int)≤(a:Int))=false:=decide_eq_false (by omega);obtain ⟨hx0,hx1⟩:=hxb;clear hC hB hq hx hR;go_enter Tryz.func117,Tryz.ntmps117;go_wp2_with fail;go_quiet (fail);go_wp2_with fail;go_quiet (fail);go_wp2_with fail;go_ret;rw [HV.out.1,HV.out.2];exact ⟨rfl,aF.trans (aF.drewN HC.out _) (aF.drewN (aF.drewN HC.out _).1 _)⟩
  ·obtain rfl:a=B.length:=by omega
   have HV:=Lib.hid (show eU B B.length 0= -1∧(aO B B.length 0).2=100 from by simp [eU,aO]);have HF:=Lib.hid (fun X h=>dx X p q B B.length 0 100 h);rw [show cz 0 100=100 from rfl]at HF;have hlt3:decide ((B.length:Int)≤(B.length:Int))=true:=decide_eq_true (Int.le_refl _);clear hC hB hq hR;go_enter Tryz.func117,Tryz.ntmps117;go_wp2_with fail;go_quiet (fail);go_wp2_with fail;refine (HF.out _ (aF.drewN HC.out _).1).mono ?_;rintro E W2 ⟨rfl,hG⟩;have HG:=Lib.hid (aF.trans (aF.drewN HC.out _) hG);clear hG;go_wp2_with fail;go_ret;rw [HV.out.1,HV.out.2];exact ⟨rfl,HG.out⟩
 ·have he2:(e !=0)=true:=by simp;exact he
  have HV:=Lib.hid (show eU B a e= -1∧(aO B a e).2=e from by simp [eU,aO,he]);clear hC hB hq he hR;go_enter Tryz.func117,Tryz.ntmps117;go_wp2_with fail;go_ret;rw [HV.out.1,HV.out.2];exact ⟨rfl,aF.same HC.out⟩
theorem su (W:World) (R p q:Nat) (sat:Bool) (B:List Int) (a:Nat) (e:Int) (hR:Rq W R p sat) (hRp:R≠p) (hC:Rdr W p q B a e) (hB:aK B):
  Calls Tryz.prog 128 #[.pointer (some ⟨R,0,none⟩)] W fun E w' =>E= .returned (.tuple #[])∧aF W w' p q B (dO B a e).1 (dO B a e).2:=by
 have HC:=Lib.hid hC;obtain ⟨A,c,c0,c1,c2,f0,f1,f2,hle,hq,hlt,ha⟩:=hC.cells;obtain ⟨s0,s1,slt⟩:=hR.cells;have H:=Lib.hid (fK W p q B a e hC hB);have HR:=Lib.hid hR;by_cases he:e=0
 ·subst he;by_cases hx:∃x,B[a]? =some x∧¬x=0
  ·obtain ⟨x,hx,hx0⟩:=hx;have HV:=Lib.hid (show dO B a 0=(a+1,107)from by simp [dO,hx,hx0]);rw [show aQ B a 0=(x,a+1,0)from by simp [aQ,hx]]at H;have hxb:(x !=0)=true:=by simp;exact hx0
   clear hC hB hR hx hx0 hq;go_enter Tryz.func128,Tryz.ntmps128;go_wp2_with fail;refine H.out.mono ?_;rintro E W1 ⟨rfl,hG⟩;have HG:=Lib.hid (show aF W W1 p q B (a+1) 0 from hG);have HR1:=Lib.hid (HR.out.goes hRp HG.out);clear hG s0 s1 slt;obtain ⟨s0,s1,slt⟩:=HR1.out.cells;go_wp2_with fail;refine (dx W1 p q B (a+1) 0 107 HG.out.1).mono ?_;rintro E W2 ⟨rfl,hG⟩;have HG2:=Lib.hid (HG.out.trans hG);clear hG;go_wp2_with fail;go_end0;rw [HV.out];exact ⟨rfl,HG2.out⟩
  ·have HV:=Lib.hid (show (aQ B a 0).1=0∧dO B a 0=(aQ B a 0).2 from by
    unfold aQ dO;simp only [if_true]
    cases hb:B[a]? with
    |none=>exact ⟨rfl,rfl⟩
    |some x=>
     have h0:x=0:=Classical.byContradiction fun h=>hx ⟨x,hb,h⟩
     subst h0
     exact ⟨rfl,rfl⟩)
   generalize aQ B a 0=t at *;obtain ⟨v,a',e'⟩:=t;obtain ⟨h1,h2⟩:=HV.out;simp only at h1;subst h1;have H2:=Lib.hid h2;clear hC hB hR hx h2 HV hq;go_enter Tryz.func128,Tryz.ntmps128;go_wp2_with fail;refine H.out.mono ?_;rintro E W1 ⟨rfl,hG⟩;have HG:=Lib.hid (show aF W W1 p q B a' e' from hG);clear hG;go_wp2_with fail;go_end0;rw [H2.out];exact ⟨rfl,HG.out⟩
 ·have he2:(e==0)=false:=by simpa using he
  have HV:=Lib.hid (show dO B a e=(a,e)from by simp [dO,he]);clear hC hB hR he hq H;go_enter Tryz.func128,Tryz.ntmps128;go_wp2_with fail;go_end0;rw [HV.out];exact ⟨rfl,aF.same HC.out⟩
def pM (o:Int×Nat×Int):Int:=if o.2.2=0 then o.1 else -1
def mH (W:World) (p q:Nat) (B:List Int) (o:Int×Nat×Int) (E:Ending) (w' :World):Prop:=E= .returned (.int .i64 (pM o))∧aF W w' p q B o.2.1 o.2.2
theorem yc (W:World) (R p q:Nat) (B:List Int) (a:Nat) (hR:Rq W R p true) (hRp:R≠p) (hC:Rdr W p q B a 0) (hB:aK B) (hx:B[a]? =some 252):
  Calls Tryz.prog 125 #[.pointer (some ⟨R,0,none⟩)] W (mH W p q B (fD B (a+1) 0)):=by
 have HN:=Lib.hid (fJ W R p q true B a 0 hR hC hB);rw [show eU B a 0=252 from by simp [eU,aO,hx],show (aO B a 0).2=0 from by simp [aO,hx]]at HN;have HBy:=Lib.hid (fun X h=>fK X p q B a 0 h hB);rw [show aQ B a 0=(252,a+1,0)from by simp [aQ,hx]]at HBy;have HU:=Lib.hid (fun X h=>fq X p q B (a+1) 32 0 h hB (by omega) (by omega));have hb:=dD B (a+1) 0 hB;have HV:=Lib.hid (show fD B (a+1) 0=(64512+(az (bQ B (a+1) 32) (a+1) 0).1,(az (bQ B (a+1) 32) (a+1) 0).2.1,if (az (bQ B (a+1) 32) (a+1) 0).1 >7 then cz (az (bQ B (a+1) 32) (a+1) 0).2.2 108 else (az (bQ B (a+1) 32) (a+1) 0).2.2)from rfl);have hb:0≤(az (bQ B (a+1) 32) (a+1) 0).1∧(az (bQ B (a+1) 32) (a+1) 0).1≤4294967295:=hb;generalize az (bQ B (a+1) 32) (a+1) 0=t at *;obtain ⟨n,a1,e1⟩:=t;obtain ⟨hb0,hb1⟩:=hb;simp only at hb0 hb1 HV;have HR:=Lib.hid hR;clear hR hC hB hx;have HF:=Lib.hid (fun X h=>dx X p q B a1 e1 108 h);by_cases h7:n >7
 ·have h7d:decide ((7:Int)< n)=true:=decide_eq_true h7;rw [if_pos h7]at HV
  have hfe:¬cz e1 108=0:=by
   unfold cz;by_cases h:e1=0
   ·rw [if_pos h];decide
   ·rw [if_neg h];exact h
  generalize cz e1 108=e2 at *;have he2:(e2 !=0)=true:=by simpa using hfe
  have HP:=Lib.hid (show pM (64512+n,a1,e2)= -1 from if_neg hfe);clear hfe h7;go_enter Tryz.func125,Tryz.ntmps125;go_wp2_with fail;refine HN.out.mono ?_;rintro E W1 ⟨rfl,hG⟩;have HG1:=Lib.hid hG;have HR1:=Lib.hid (HR.out.goes hRp hG);clear hG HR;obtain ⟨s0,s1,slt⟩:=HR1.out.cells;go_wp2_with fail;refine (HBy.out _ HG1.out.1).mono ?_;rintro E W2 ⟨rfl,hG⟩;have hG:aF W1 W2 p q B (a+1) 0:=hG;have HG2:=Lib.hid (HG1.out.trans hG);have HR2:=Lib.hid (HR1.out.goes hRp hG);clear hG HR1 HG1 s0 s1 slt;obtain ⟨s0,s1,slt⟩:=HR2.out.cells;go_wp2_with fail;refine (HU.out _ HG2.out.1).mono ?_;rintro E W3 ⟨rfl,hG⟩;have hG:aF W2 W3 p q B a1 e1:=hG;have HG3:=Lib.hid (HG2.out.trans hG);have HR3:=Lib.hid (HR2.out.goes hRp hG);clear hG HR2 HG2 s0 s1 slt;obtain ⟨s0,s1,slt⟩:=HR3.out.cells;go_wp2_with fail;refine (HF.out _ HG3.out.1).mono ?_;rintro E W4 ⟨rfl,hG⟩;have hG:aF W3 W4 p q B a1 e2:=hG;have HG4:=Lib.hid (HG3.out.trans hG);have HR4:=Lib.hid (HR3.out.goes hRp hG);clear hG HR3 HG3 s0 s1 slt;obtain ⟨s0,s1,slt⟩:=HR4.out.cells;obtain ⟨A,c,c0,c1,c2,f0,f1,f2,hle,hq,hlt,ha⟩:=HG4.out.1.cells;clear hq;go_wp2_with fail;go_ret;rw [HV.out];exact ⟨by rw [HP.out];rfl,HG4.out⟩
 ·have h7d:decide ((7:Int)< n)=false:=decide_eq_false h7;rw [if_neg h7]at HV;have hn7:n≤7:=by omega
  clear h7 HF;by_cases hfe:e1=0
  ·subst hfe;have HP:=Lib.hid (show pM (64512+n,a1,0)=64512+n from if_pos rfl);go_enter Tryz.func125,Tryz.ntmps125;go_wp2_with fail;refine HN.out.mono ?_;rintro E W1 ⟨rfl,hG⟩;have HG1:=Lib.hid hG;have HR1:=Lib.hid (HR.out.goes hRp hG);clear hG HR;obtain ⟨s0,s1,slt⟩:=HR1.out.cells;go_wp2_with fail;refine (HBy.out _ HG1.out.1).mono ?_;rintro E W2 ⟨rfl,hG⟩;have hG:aF W1 W2 p q B (a+1) 0:=hG;have HG2:=Lib.hid (HG1.out.trans hG);have HR2:=Lib.hid (HR1.out.goes hRp hG);clear hG HR1 HG1 s0 s1 slt;obtain ⟨s0,s1,slt⟩:=HR2.out.cells;go_wp2_with fail;refine (HU.out _ HG2.out.1).mono ?_;rintro E W3 ⟨rfl,hG⟩;have hG:aF W2 W3 p q B a1 0:=hG;have HG3:=Lib.hid (HG2.out.trans hG);have HR3:=Lib.hid (HR2.out.goes hRp hG);clear hG HR2 HG2 s0 s1 slt;obtain ⟨s0,s1,slt⟩:=HR3.out.cells;obtain ⟨A,c,c0,c1,c2,f0,f1,f2,hle,hq,hlt,ha⟩:=HG3.out.1.cells;clear hq;go_wp2_with fail;go_ret;rw [HV.out];refine ⟨?_,HG3.out⟩;rw [HP.out];simp [IntKind.wrap_i64]
  ·have he2:(e1 !=0)=true:=by simpa using hfe
   have HP:=Lib.hid (show pM (64512+n,a1,e1)= -1 from if_neg hfe);clear hfe;go_enter Tryz.func125,Tryz.ntmps125;go_wp2_with fail;refine HN.out.mono ?_;rintro E W1 ⟨rfl,hG⟩;have HG1:=Lib.hid hG;have HR1:=Lib.hid (HR.out.goes hRp hG);clear hG HR;obtain ⟨s0,s1,slt⟩:=HR1.out.cells;go_wp2_with fail;refine (HBy.out _ HG1.out.1).mono ?_;rintro E W2 ⟨rfl,hG⟩;have hG:aF W1 W2 p q B (a+1) 0:=hG;have HG2:=Lib.hid (HG1.out.trans hG);have HR2:=Lib.hid (HR1.out.goes hRp hG);clear hG HR1 HG1 s0 s1 slt;obtain ⟨s0,s1,slt⟩:=HR2.out.cells;go_wp2_with fail;refine (HU.out _ HG2.out.1).mono ?_;rintro E W3 ⟨rfl,hG⟩;have hG:aF W2 W3 p q B a1 e1:=hG;have HG3:=Lib.hid (HG2.out.trans hG);have HR3:=Lib.hid (HR2.out.goes hRp hG);clear hG HR2 HG2 s0 s1 slt;obtain ⟨s0,s1,slt⟩:=HR3.out.cells;obtain ⟨A,c,c0,c1,c2,f0,f1,f2,hle,hq,hlt,ha⟩:=HG3.out.1.cells;clear hq;go_wp2_with fail;go_ret;rw [HV.out];exact ⟨by rw [HP.out];rfl,HG3.out⟩
theorem qa (W:World) (R p q:Nat) (sat:Bool) (B:List Int) (a:Nat) (e:Int) (hR:Rq W R p sat) (hC:Rdr W p q B a e) (hB:aK B) (hx:¬(aO B a e).2=0):
  Calls Tryz.prog 125 #[.pointer (some ⟨R,0,none⟩)] W (mH W p q B (0,a,(aO B a e).2)):=by
 have HN:=Lib.hid (fJ W R p q sat B a e hR hC hB);rw [show eU B a e= -1 from if_neg hx]at HN;have HP:=Lib.hid (show pM (0,a,(aO B a e).2)= -1 from if_neg hx);generalize (aO B a e).2=pe at *;clear hR hC hB hx;go_enter Tryz.func125,Tryz.ntmps125;go_wp2_with fail;refine HN.out.mono ?_;rintro E W1 ⟨rfl,hG⟩;have HG1:=Lib.hid hG;clear hG;go_wp2_with fail;go_ret;exact ⟨by rw [HP.out];rfl,HG1.out⟩
theorem xk (b:Int):0≤(bN b).1∧(bN b).1≤12:=by
 unfold bN;by_cases c0:b=0∨b=1∨b=15∨b=26∨b=27
 ·rw [if_pos c0];decide
 rw [if_neg c0];by_cases c1:b=2∨b=3∨b=4
 ·rw [if_pos c1];decide
 rw [if_neg c1];by_cases c2:b=5∨b=11
 ·rw [if_pos c2];decide
 rw [if_neg c2];by_cases c3:b=12∨b=13
 ·rw [if_pos c3];decide
 rw [if_neg c3];by_cases c4:b=14
 ·rw [if_pos c4];decide
 rw [if_neg c4];by_cases c5:b=16∨b=32∨b=33∨b=34∨b=35∨b=36
 ·rw [if_pos c5];decide
 rw [if_neg c5];by_cases c6:b=17
 ·rw [if_pos c6];decide
 rw [if_neg c6];by_cases c7:b=63∨b=64
 ·rw [if_pos c7];decide
 rw [if_neg c7];by_cases c8:b=65
 ·rw [if_pos c8];decide
 rw [if_neg c8];by_cases c9:b=66
 ·rw [if_pos c9];decide
 rw [if_neg c9];by_cases c10:b=67
 ·rw [if_pos c10];decide
 rw [if_neg c10];by_cases c11:b=68
 ·rw [if_pos c11];decide
 rw [if_neg c11];by_cases c12:40≤b∧b≤62
 ·rw [if_pos c12];decide
 rw [if_neg c12];exact ⟨Int.le_refl _,by simp⟩
theorem sV (b:Int):(iO b< 0)↔(bN b).2=false:=by
 have h0:=xk b;unfold iO
 cases h:(bN b).2 with
 |true=>simp;omega
 |false=>simp
theorem yO (W:World) (R p q:Nat) (sat:Bool) (B:List Int) (a:Nat) (b:Int) (hR:Rq W R p sat) (hRp:R≠p) (hC:Rdr W p q B a 0) (hB:aK B) (hx:B[a]? =some b) (hs:¬(b=252∧sat=true)) (v:Int) (hv:iO b=v) (hv0:¬v< 0) (h5:¬b=5) (h11:¬b=11):
  Calls Tryz.prog 125 #[.pointer (some ⟨R,0,none⟩)] W (mH W p q B (b,a+1,0)):=by
 have hbb:=hB.get hx;have HN:=Lib.hid (fJ W R p q sat B a 0 hR hC hB);rw [show eU B a 0=b from by simp [eU,aO,hx],show (aO B a 0).2=0 from by simp [aO,hx]]at HN;have HBy:=Lib.hid (fun X h=>fK X p q B a 0 h hB);rw [show aQ B a 0=(b,a+1,0)from by simp [aQ,hx]]at HBy;have HI:=Lib.hid (fun X=>lS X b hbb.1 (by omega));rw [hv]at HI;have HR:=Lib.hid hR;have HP:=Lib.hid (show pM (b,a+1,0)=b from if_pos rfl);have b5:(b==5)=false:=beq_eq_false_iff_ne.2 h5;have b11:(b==11)=false:=beq_eq_false_iff_ne.2 h11;have bv:decide (v< 0)=false:=decide_eq_false hv0;have bb:decide (b< 0)=false:=decide_eq_false (by omega)
 have hm:((b==252)=false)∨((b==252)=true∧sat=false):=by
  by_cases h:b=252
  ·right;refine ⟨beq_iff_eq.2 h, ?_⟩
   cases sat with
   |true=>exact absurd ⟨h,rfl⟩ hs
   |false=>rfl
  ·exact .inl (beq_eq_false_iff_ne.2 h)
 obtain ⟨hb0,hb1⟩:=hbb;clear hR hC hB hx hs hv hv0 h5 h11;go_enter Tryz.func125,Tryz.ntmps125;go_wp2_with fail;refine HN.out.mono ?_;rintro E W1 ⟨rfl,hG⟩;have HG1:=Lib.hid hG;have HR1:=Lib.hid (HR.out.goes hRp hG);clear hG HR HN;obtain ⟨s0,s1,slt⟩:=HR1.out.cells;rcases hm with hm|⟨hm,rfl⟩
 all_goals
  go_wp2_with fail;refine (HI.out _).mono ?_;rintro E W2 ⟨rfl,hB2⟩;have hg2:aF W1 W2 p q B a 0:=⟨HG1.out.1.below hB2,aL hB2 _⟩;have HG2:=Lib.hid (HG1.out.trans hg2);have HR2:=Lib.hid (HR1.out.goes hRp hg2);clear hg2 hB2 HR1 HG1 s0 s1 slt;obtain ⟨s0,s1,slt⟩:=HR2.out.cells;go_wp2_with fail;refine (HBy.out _ HG2.out.1).mono ?_;rintro E W3 ⟨rfl,hG⟩;have hG:aF W2 W3 p q B (a+1) 0:=hG;have HG3:=Lib.hid (HG2.out.trans hG);clear hG HG2 s0 s1 slt;go_wp2_with fail;go_ret;exact ⟨by rw [HP.out];rfl,HG3.out⟩
theorem yZ (W:World) (R p q:Nat) (sat:Bool) (B:List Int) (a:Nat) (b:Int) (hR:Rq W R p sat) (hRp:R≠p) (hC:Rdr W p q B a 0) (hB:aK B) (hx:B[a]? =some b) (hs:¬(b=252∧sat=true)) (v:Int) (hv:iO b=v) (hv0:v< 0∨b=5):
  Calls Tryz.prog 125 #[.pointer (some ⟨R,0,none⟩)] W (mH W p q B (0,a,108)):=by
 have hbb:=hB.get hx;have HN:=Lib.hid (fJ W R p q sat B a 0 hR hC hB);rw [show eU B a 0=b from by simp [eU,aO,hx],show (aO B a 0).2=0 from by simp [aO,hx]]at HN;have HI:=Lib.hid (fun X=>lS X b hbb.1 (by omega));rw [hv]at HI;have HR:=Lib.hid hR;have HF:=Lib.hid (fun X h=>dx X p q B a 0 108 h);rw [show cz 0 108=108 from rfl]at HF;have HP:=Lib.hid (show pM (0,a,108)= -1 from rfl);have bb:decide (b< 0)=false:=decide_eq_false (by omega)
 have hm:((b==252)=false)∨((b==252)=true∧sat=false):=by
  by_cases h:b=252
  ·right;refine ⟨beq_iff_eq.2 h, ?_⟩
   cases sat with
   |true=>exact absurd ⟨h,rfl⟩ hs
   |false=>rfl
  ·exact .inl (beq_eq_false_iff_ne.2 h)
 have hw:decide (v< 0)=true∨(decide (v< 0)=false∧(b==5)=true):=by
  by_cases h:v< 0
  ·exact .inl (decide_eq_true h)
  ·exact .inr ⟨decide_eq_false h,beq_iff_eq.2 (hv0.resolve_left h)⟩
 obtain ⟨hb0,hb1⟩:=hbb;clear hR hC hB hx hs hv hv0;go_enter Tryz.func125,Tryz.ntmps125;go_wp2_with fail;refine HN.out.mono ?_;rintro E W1 ⟨rfl,hG⟩;have HG1:=Lib.hid hG;have HR1:=Lib.hid (HR.out.goes hRp hG);clear hG HR HN;obtain ⟨s0,s1,slt⟩:=HR1.out.cells;rcases hm with hm|⟨hm,rfl⟩
 all_goals
  go_wp2_with fail;refine (HI.out _).mono ?_;rintro E W2 ⟨rfl,hB2⟩;have hg2:aF W1 W2 p q B a 0:=⟨HG1.out.1.below hB2,aL hB2 _⟩;have HG2:=Lib.hid (HG1.out.trans hg2);have HR2:=Lib.hid (HR1.out.goes hRp hg2);clear hg2 hB2 HR1 HG1 s0 s1 slt;obtain ⟨s0,s1,slt⟩:=HR2.out.cells;rcases hw with hw|⟨hw,hw5⟩
  all_goals
   go_wp2_with fail;refine (HF.out _ HG2.out.1).mono ?_;rintro E W3 ⟨rfl,hG⟩;have HG3:=Lib.hid (HG2.out.trans hG);clear hG HG2 s0 s1 slt;go_wp2_with fail;go_ret;exact ⟨by rw [HP.out];rfl,HG3.out⟩
theorem uu (W:World) (R p q:Nat) (sat:Bool) (B:List Int) (a:Nat) (e:Int) (hR:Rq W R p sat) (hRp:R≠p) (hC:Rdr W p q B a e) (hB:aK B) (h5:∀b,aO B a e=(b,0)→¬b=5∧¬b=11):
  Calls Tryz.prog 125 #[.pointer (some ⟨R,0,none⟩)] W (mH W p q B (opM sat B a e)):=by
 by_cases hp:(aO B a e).2=0
 ·obtain ⟨b,hx⟩:∃b,aO B a e=(b,0):=⟨(aO B a e).1,by rw [←hp]⟩;obtain ⟨rfl,hxx⟩:=gG hx;have hn:=h5 b hx;by_cases hs:b=252∧sat=true
  ·obtain ⟨rfl,rfl⟩:=hs;rw [show opM true B a 0=fD B (a+1) 0 from by unfold opM;rw [hx];rfl];exact yc W R p q B a hR hRp hC hB hxx
  ·by_cases hi:(bN b).2=true
   ·rw [show opM sat B a 0=(b,a+1,0)from by unfold opM;rw [hx];simp only [if_neg hs,if_pos hi,if_true]];exact yO W R p q sat B a b hR hRp hC hB hxx hs _ rfl (fun h=>by have:=(sV b).1 h;rw [this]at hi;cases hi) hn.1 hn.2
   ·rw [show opM sat B a 0=(0,a,108)from by unfold opM;rw [hx];simp only [if_neg hs,if_neg hi,if_true]];exact yZ W R p q sat B a b hR hRp hC hB hxx hs _ rfl (.inl ((sV b).2 (by simpa using hi)))
 ·rw [show opM sat B a e=(0,a,(aO B a e).2)from by unfold opM;rw [if_neg hp]];exact qa W R p q sat B a e hR hC hB hp
def jA (W:World) (p q:Nat) (B:List Int) (r:Ins×Nat×Int) (E:Ending) (w' :World):Prop:=
 ∃x' :Ins,∃AL AT AE cL cT cE,E= .returned (.agg (aX x'.op x'.ty x'.a x'.b x'.bits (.slice AL x'.list.length cL) (.slice AT x'.th.length cT) (.slice AE x'.el.length cE) x'.has))∧
  FK kR w' (fun k=>W.heap.size≤k) x' (aX x'.op x'.ty x'.a x'.b x'.bits (.slice AL x'.list.length cL) (.slice AT x'.th.length cT) (.slice AE x'.el.length cE) x'.has).toList∧(r.2.2=0→x' =r.1)∧aF W w' p q B r.2.1 r.2.2
theorem jJ (W:World) (p q:Nat) (B:List Int) (a:Nat) (e:Int) (hC:Rdr W p q B a e) (hB:aK B):
  Calls Tryz.prog 38 #[.pointer (some ⟨p,0,none⟩), .int .i64 32] W fun E w' =>E= .returned (.int .u64 (az (aI B a) a e).1)∧aF W w' p q B (az (aI B a) a e).2.1 (az (aI B a) a e).2.2:=
 fq W p q B a 32 e hC hB (by omega) (by omega)
theorem jv {W W2 w1:World} {p q:Nat} {B:List Int} {a a0:Nat} {e e0:Int} {row:Option Nat} (hC:Rdr W p q B a0 e0) (h:aF W W2 p q B a e) (hg:W2.grownBy w1 row) (hr:∀k,row=some k→W.heap.size≤k):aF W w1 p q B a e:=by
 have hplt:=hC.lt;refine ⟨?_,h.2.os ▸ hg.os,h.2.tape ▸ hg.tape,h.2.output ▸ hg.output,Nat.le_trans h.2.size hg.size,fun k hk hp=> ?_⟩
 ·rcases Nat.eq_zero_or_pos B.length with hz|hz
  ·obtain ⟨g0,g1,A,c,g2,g3,g4⟩:=h.1;exact ⟨g0,g1,A,c,g2,g3.grown hg (fun e=>by have:=hr p e.symm;omega),fun hh=>absurd hh (by omega)⟩
  ·obtain ⟨_,_,A,c,_,_,h4⟩:=hC;obtain ⟨o,_,hcell⟩:=h4 hz;have hq:=World.block_lt_of_cell? _ _ (hcell 0 _ (List.getElem?_eq_getElem hz));exact h.1.grown hg (fun e=>by have:=hr p e.symm;omega) (fun e=>by have:=hr q e.symm;simp only at hq;omega)
 ·have hk2:k< W2.heap.size:=Nat.lt_of_lt_of_le hk h.2.size;exact (hg.block k hk2 (fun e=>by have:=hr k e.symm;omega)).trans (h.2.block k hk hp)
theorem aF.bG {W V:World} {p q:Nat} {B:List Int} {a a0:Nat} {e e0:Int} (hC:Rdr W p q B a0 e0) (h:aF W V p q B a e) (X:Nat) (hX:W.heap.size≤X) (j:Nat) (v:Value):aF W (V.setCell ⟨X,j,none⟩ v) p q B a e:=
 jv hC h (bA V X j v) (fun k e=>by cases e;exact hX)
theorem dw {W V:World} {p q:Nat} {B:List Int} {a a0:Nat} {e e0:Int} (hC:Rdr W p q B a0 e0) (h:aF W V p q B a e) (Z:Nat) (hZ:W.heap.size≤Z) (n0 n1 n2 n3 n4 n5 n6 n7 n8:Value):aF W (bJ V Z n0 n1 n2 n3 n4 n5 n6 n7 n8) p q B a e:=
 ((((((((h.bG hC Z hZ 0 n0).bG hC Z hZ 1 n1).bG hC Z hZ 2 n2).bG hC Z hZ 3 n3).bG hC Z hZ 4 n4).bG hC Z hZ 5 n5).bG hC Z hZ 6 n6).bG hC Z hZ 7 n7).bG hC Z hZ 8 n8
theorem fF {W:World} {ok:Nat→Prop} {op ty a b bits:Int} (h1:0≤op∧op≤5000000000) (h2:0≤ty∧ty≤255) (h3:0≤a∧a≤4294967295) (h4:0≤b∧b≤4294967295) (h5:0≤bits∧bits< 18446744073709551616):
  FK kR W ok (.mk op ty a b bits [] [] [] false) (aX op ty a b bits (.slice none 0 0) (.slice none 0 0) (.slice none 0 0) false).toList:=
 il (x:= .mk op ty a b bits [] [] [] false) (jq h1.1 h1.2) (show (Lit.int .u8 ty).wf=true from by simp [Lit.wf,IntKind.min,IntKind.max,IntKind.signed,IntKind.bits];omega) (show (Lit.int .u32 a).wf=true from by simp [Lit.wf,IntKind.min,IntKind.max,IntKind.signed,IntKind.bits];omega) (show (Lit.int .u32 b).wf=true from by simp [Lit.wf,IntKind.min,IntKind.max,IntKind.signed,IntKind.bits];omega) (show (Lit.int .u64 bits).wf=true from by simp [Lit.wf,IntKind.min,IntKind.max,IntKind.signed,IntKind.bits];omega) FC.nil FC.nil FC.nil (Nat.le_refl _) (Nat.le_refl _) (Nat.le_refl _)
theorem aD {t:TypeId} {W:World} {X:Nat} {op ty a b bits:Int} {vL vT vE:Value} {has:Bool} (h:Blk W X (aX op ty a b bits vL vT vE has) t):
  W.cell? ⟨X,0,none⟩=some (.int .i64 op)∧W.cell? ⟨X,1,none⟩=some (.int .u8 ty)∧W.cell? ⟨X,2,none⟩=some (.int .u32 a)∧W.cell? ⟨X,3,none⟩=some (.int .u32 b)∧W.cell? ⟨X,4,none⟩=some (.int .u64 bits)∧W.cell? ⟨X,5,none⟩=some vL∧W.cell? ⟨X,6,none⟩=some vT∧W.cell? ⟨X,7,none⟩=some vE∧W.cell? ⟨X,8,none⟩=some (.bool has):=
 ⟨by rw [h.cell];rfl,by rw [h.cell];rfl,by rw [h.cell];rfl,by rw [h.cell];rfl,by rw [h.cell];rfl,by rw [h.cell];rfl,by rw [h.cell];rfl,by rw [h.cell];rfl,by rw [h.cell];rfl⟩
def Ar (W:World) (p q:Nat) (B:List Int) (r:List Int×Nat×Int) (E:Ending) (W' :World):Prop:=
 (∃A c,E= .returned (.slice A r.1.length c)∧r.1.length≤c∧ByQ W' q A r.1)∧aF W W' p q B r.2.1 r.2.2
theorem EK {W:World} {q:Nat} {A A2:Option Addr} {B:List Int} {a n c:Nat} (h:ByQ W q A B) (hfit:a+n≤B.length) (hle:B.length≤c) (hA:a≠c→A2=A.map (·.add (a * 1))):ByQ W q A2 ((B.drop a).take n):=fun hp=>by
 have h1:0< n:=by rw [List.length_take]at hp;omega
 obtain ⟨o,rfl,hc⟩:=h (by omega);refine ⟨o+a,by rw [hA (by omega)];simp [Addr.add],fun j x hj=> ?_⟩
 have hjn:j< n:=by
  have:=(List.getElem?_eq_some_iff.1 hj).1;rw [List.length_take]at this;omega
 rw [List.getElem?_take,if_pos hjn,List.getElem?_drop]at hj;rw [Nat.add_assoc];exact hc _ _ hj
theorem mM (W:World) (p q:Nat) (B:List Int) (a n:Nat) (e:Int) (hC:Rdr W p q B a e) (hB:aK B) (hn:n≤4294967295):
  Calls Tryz.prog 45 #[.pointer (some ⟨p,0,none⟩), .int .u64 n] W (Ar W p q B (rdL (cO B a n) a e)):=by
 have hl:=hB.1;have HC:=Lib.hid hC;obtain ⟨A,c,c0,c1,c2,f0,f1,f2,hle,hq,hlt,ha⟩:=hC.cells;by_cases he:e=0
 ·subst he;have hla:(a:Int)≤(B.length:Int):=by omega
  by_cases hfit:a+n≤B.length
  ·have HV:=Lib.hid (show rdL (cO B a n) a 0=((B.drop a).take n,a+n,0)from by simp [rdL,cO,hfit]);have h1:¬((B.length:Int) - (a:Int)<(n:Int)):=by omega
   have hw0:IntKind.i64.wrap ((B.length:Int) - (a:Int))=(B.length:Int) - (a:Int):=by rw [IntKind.wrap_i64];omega
   have hw1:IntKind.u64.wrap ((B.length:Int) - (a:Int))=(B.length:Int) - (a:Int):=by rw [IntKind.wrap_u64];omega
   have hw2:IntKind.i64.wrap (n:Int)=(n:Int):=by rw [IntKind.wrap_i64];omega
   have hw3:IntKind.i64.wrap ((a:Int)+(n:Int))=(a:Int)+(n:Int):=by rw [IntKind.wrap_i64];omega
   have hw4:IntKind.i64.wrap ((a:Int)+(n:Int) - (n:Int))=(a:Int):=by rw [IntKind.wrap_i64];omega
   obtain ⟨A2,hr2,hA2⟩:=BR (P:=Tryz.prog) 22 5 .i64 .i64 1 Tryz.underlying22 yJ A B.length c a (a+n) (by omega) (by omega);have hr3:∀X:World,(Instr.slice 22 (.slice A B.length c) (some (.int .i64 (a:Int))) (some (.int .i64 ((a:Int)+(n:Int)))) none).run Tryz.prog X= .ok (.slice A2 (a+n - a) (c - a)) X:=fun X=>hr2 X
   clear hr2;go_enter Tryz.func45,Tryz.ntmps45;go_wp2_with fail;go_quiet (fail);go_wp2_with fail;go_quiet (fail);go_wp2_with fail;go_ret;rw [HV.out];have hG:∀(m k:Nat),aF W (((W.drewN m).setCell ⟨p,1,none⟩ (.int .i64 ((a:Int)+(n:Int)))).drewN k) p q B (a+n) 0:=fun m k=>aF.trans (aF.trans (aF.drewN HC.out m) ⟨by rw [show (a:Int)+(n:Int)=((a+n:Nat):Int)from rfl];exact (aF.drewN HC.out m).1.setAt (a+n) hfit,bA _ _ _ _⟩) (aF.drewN (by rw [show (a:Int)+(n:Int)=((a+n:Nat):Int)from rfl];exact (aF.drewN HC.out m).1.setAt (a+n) hfit) k)
   have hlen:((B.drop a).take n).length=n:=by rw [List.length_take,List.length_drop];omega
   refine ⟨⟨A2,c - a,by rw [hlen];rfl,by rw [hlen];omega, ?_⟩,hG _ _⟩;exact EK (ByQ.grown hq (hG _ _).2 (fun e=>hC.1 (by injection e with e;exact e.symm))) hfit hle hA2
  ·have HV:=Lib.hid (show rdL (cO B a n) a 0=([],a,100)from by simp [rdL,cO,hfit]);have h1:(B.length:Int) - (a:Int)<(n:Int):=by omega
   have hw0:IntKind.i64.wrap ((B.length:Int) - (a:Int))=(B.length:Int) - (a:Int):=by rw [IntKind.wrap_i64];omega
   have hw1:IntKind.u64.wrap ((B.length:Int) - (a:Int))=(B.length:Int) - (a:Int):=by rw [IntKind.wrap_u64];omega
   go_enter Tryz.func45,Tryz.ntmps45;go_wp2_with fail;go_quiet (fail);go_wp2_with fail;go_ret;rw [HV.out];have hG:∀(m:Nat),aF W ((W.drewN m).setCell ⟨p,2,none⟩ (.int .i64 100)) p q B a 100:=fun m=>aF.trans (aF.drewN HC.out m) ⟨(aF.drewN HC.out m).1.AA 100,bA _ _ _ _⟩
   exact ⟨⟨none,0,rfl,Nat.le_refl _,fun h=>absurd h (by simp)⟩,hG _⟩
 ·have he2:(e !=0)=true:=by simp;exact he
  have HV:=Lib.hid (show rdL (cO B a n) a e=([],a,e)from by simp [rdL,he]);clear he;go_enter Tryz.func45,Tryz.ntmps45;go_wp2_with fail;go_ret;rw [HV.out];exact ⟨⟨none,0,rfl,Nat.le_refl _,fun h=>absurd h (by simp)⟩,aF.same HC.out⟩
end Go.Proofs.YtofaiocffifhfaaGreat
section
namespace Go.Proofs.YtofaiocffifhfaaGreatB
open Go.RowKit Go.Proofs.YtofaiocffifhfaaGreatW.PrintWords
end Go.Proofs.YtofaiocffifhfaaGreatB
namespace Go.Proofs.YtofaiocffifhfaaGreat
open Go.RowKit Go.Shelf YtofaiocffifhfaaGreatB Go.Proofs.YtofaiocffifhfaaGreatW.PrintWords
section
variable {W X Y:World} {p q a a' b:Nat} {B:List Int} {e e' :Int} {cs:Array Value} {t:TypeId}
theorem qx (h:Rdr X p q B a e):Rdr X.drew p q B a e:=h.below ((Below.refl _ X).drew)
theorem Rdr.other (h:Rdr X p q B a e) (b i:Nat) (v:Value) (hp:p≠b) (hq:0< B.length→q≠b):Rdr (X.setCell ⟨b,i,none⟩ v) p q B a e:=
 h.grown' (bA X b i v) (fun e=>hp (by injection e)) (fun hl e=>hq hl (by injection e))
structure StR (W X:World) (p q:Nat) (B:List Int) (a:Nat) (e:Int):Prop where
 rd:Rdr X p q B a e
 g:W.grownBy X (some p)
 hp:p< W.heap.size
 hq:0< B.length→q< W.heap.size
theorem StR.start (h:Rdr W p q B a e):StR W W p q B a e:=⟨h,World.grownBy.refl _ _,h.lt,fun hl=>h.jN hl⟩
theorem StR.sz (h:StR W X p q B a e):W.heap.size≤X.heap.size:=h.g.size
theorem StR.goes (h:StR W X p q B a e) (hG:aF X Y p q B a' e'):StR W Y p q B a' e' :=⟨hG.1,h.g.trans hG.2,h.hp,h.hq⟩
theorem StR.alloc (h:StR W X p q B a e) (o:Obj):StR W (X.alloc o) p q B a e:=⟨h.rd.alloc o,gK h.g o,h.hp,h.hq⟩
theorem StR.drew (h:StR W X p q B a e):StR W X.drew p q B a e:=⟨qx h.rd,lu h.g,h.hp,h.hq⟩
theorem StR.set (h:StR W X p q B a e) (b i:Nat) (v:Value) (hb:W.heap.size≤b):StR W (X.setCell ⟨b,i,none⟩ v) p q B a e:=
 ⟨h.rd.other b i v (by have:=h.hp;omega) (fun hl=>by have:=h.hq hl;omega),EF h.g b i v hb,h.hp,h.hq⟩
theorem StR.fin (h:StR W X p q B a e):aF W X p q B a e:=⟨h.rd,h.g⟩
theorem StR.below (h:StR W X p q B a e) (hb:Below X.heap.size X Y):StR W Y p q B a e:=⟨h.rd.below hb,h.g.trans (aL hb (some p)),h.hp,h.hq⟩
theorem StR.grown (h:StR W X p q B a e) {row:Option Nat} (hg:X.grownBy Y row) (hr:∀k,row=some k→W.heap.size≤k):StR W Y p q B a e:=
 ⟨h.rd.grown' hg (fun e=>by have:=hr p e.symm;have:=h.hp;omega) (fun hl e=>by have:=hr q e.symm;have:=h.hq hl;omega),bC h.g hg (fun k hk=> .inr (hr k hk)),h.hp,h.hq⟩
theorem StR.le (h:StR W X p q B a e):a≤B.length:=h.rd.2.1
theorem Lc.dF {p:Nat} (h:Lc p X b cs t) (hG:aF X Y p q B a e):Lc p Y b cs t:=⟨h.blk.grown hG.2 (fun e=>h.ne (by injection e)),h.ne⟩
end
def jw (W:World) (p q:Nat) (B:List Int) (v:Value) (a:Nat) (e:Int) (E:Ending) (w' :World):Prop:=E= .returned v∧aF W w' p q B a e
theorem oP (W:World) (p q:Nat) (B:List Int) (a:Nat) (e:Int) (hC:Rdr W p q B a e) (hB:aK B):
  Calls Tryz.prog 52 #[.pointer (some ⟨p,0,none⟩)] W (jw W p q B (.int .u32 (az (aI B a) a e).1) (az (aI B a) a e).2.1 (az (aI B a) a e).2.2):=by
 have H:=Lib.hid (fq W p q B a 32 e hC hB (by decide) (by decide));have hb:=bP (a:=a) (e:=e) hB;have hw:IntKind.u32.wrap (az (aI B a) a e).1=(az (aI B a) a e).1:=by rw [IntKind.wrap_u32];omega
 rw [show bQ B a 32=aI B a from rfl]at H;generalize az (aI B a) a e=r at *;obtain ⟨v,a',e'⟩:=r;clear hC hB hb;go_enter Tryz.func52,Tryz.ntmps52;go_wp2_with fail;refine H.out.mono ?_;rintro E W1 ⟨rfl,hG⟩;have HG:=Lib.hid hG;clear hG H;go_wp2_with fail;go_ret;exact ⟨rfl,HG.out⟩
theorem zg (W:World) (p q:Nat) (B:List Int) (a:Nat) (e:Int) (hC:Rdr W p q B a e) (hB:aK B):
  Calls Tryz.prog 55 #[.pointer (some ⟨p,0,none⟩)] W (jw W p q B (.int .i64 (knM B a e).1) (knM B a e).2.1 (knM B a e).2.2):=by
 have H:=Lib.hid (fK W p q B a e hC hB);have hb:=rF (a:=a) (e:=e) hB;obtain ⟨r,hr⟩:∃r,r=knM B a e:=⟨_,rfl⟩;rw [←hr];unfold knM at hr;dsimp only at hr;generalize aQ B a e=x at *;obtain ⟨v,a',e'⟩:=x;dsimp only at hb hr H;have HR:=Lib.hid hr;have hw:IntKind.i64.wrap v=v:=by rw [IntKind.wrap_i64];omega
 clear hC hB hr;by_cases h3:3< v
 ·go_enter Tryz.func55,Tryz.ntmps55;go_wp2_with fail;refine H.out.mono ?_;rintro E W1 ⟨rfl,hG⟩;have HG:=Lib.hid hG;have HF:=Lib.hid (dx W1 p q B a' e' 107 hG.1);clear hG H;go_wp2_with fail;refine HF.out.mono ?_;rintro E W2 ⟨rfl,hG2⟩;have HG2:=Lib.hid (HG.out.trans hG2);clear hG2;go_wp2_with fail;go_ret;rw [HR.out,if_pos h3];exact ⟨rfl,HG2.out⟩
 ·go_enter Tryz.func55,Tryz.ntmps55;go_wp2_with fail;refine H.out.mono ?_;rintro E W1 ⟨rfl,hG⟩;have HG:=Lib.hid hG;clear hG H;go_wp2_with fail;go_ret;rw [HR.out,if_neg (by omega)];exact ⟨rfl,HG.out⟩
theorem yA (B:List Int) (a:Nat) (e:Int):
  fB B a e=(let h:=az (aV B a [0,1] 107) a e
   let m:=az (aI B h.2.1) h.2.1 h.2.2
   let x:=if h.1=1 then az (aI B m.2.1) m.2.1 m.2.2 else (0,m.2)
   if x.2.2=0 then ((m.1,x.1,decide (h.1=1)),x.2)else ((0,0,false),a,x.2.2)):=by
 unfold fB fZ kC;by_cases he:e=0
 ·subst he;dsimp only;rw [if_pos rfl];split
  next h1=>simp [h1]
  next h1=>simp [h1]
 ·rw [if_neg he];have h1:az (aV B a [0,1] 107) a e=(0,a,e):=by rw [az,if_neg he]
  have h2:az (aI B a) a e=(0,a,e):=by rw [az,if_neg he]
  simp [h1,h2,he]
theorem lT (W:World) (p q:Nat) (B:List Int) (a:Nat) (e:Int) (hC:Rdr W p q B a e) (hB:aK B):
  Calls Tryz.prog 51 #[.pointer (some ⟨p,0,none⟩)] W (jw W p q B (gI (fB B a e).1) (fB B a e).2.1 (fB B a e).2.2):=by
 have hS:=StR.start hC;have hpl:=hC.lt;have hab:=hC.2.1;have hal:Below W.heap.size W ((W.alloc (.cells #[.int .u32 0, .int .u32 0, .bool false] 106)).alloc (.cells #[.int .u8 0, .int .u8 1] 5)):=aY (aY (Below.refl _ _) _) _
 have H1:=Lib.hid (iI _ p q (W.heap.size+1) B a e 107 (some ⟨W.heap.size+1,0,none⟩) 2 [0,1] ((hC.alloc (.cells #[.int .u32 0, .int .u32 0, .bool false] 106)).alloc (.cells #[.int .u8 0, .int .u8 1] 5)) hB rfl (by omega)
  (by have h:=fM (W.alloc (.cells #[.int .u32 0, .int .u32 0, .bool false] 106)) [0,1] 5;rw [World.size_alloc]at h;exact h) (by decide))
 have HO:=Lib.hid ((Lc.new (p:=p) W #[.int .u32 0, .int .u32 0, .bool false] 106 hpl).alloc (.cells #[.int .u8 0, .int .u8 1] 5));have HS:=Lib.hid (hS.below hal);obtain ⟨R,hR⟩:∃R,R=fB B a e:=⟨_,rfl⟩;rw [←hR];rw [yA]at hR;dsimp only at hR;generalize az (aV B a [0,1] 107) a e=h at *;obtain ⟨hv,a1,e1⟩:=h;dsimp only at hR H1;have hmb:=bP (a:=a1) (e:=e1) hB;have hm:=fun X (hX:Rdr X p q B a1 e1)=>fq X p q B a1 32 e1 hX hB (by decide) (by decide)
 simp only [show ∀a,bQ B a 32=aI B a from fun _=>rfl]at hm;generalize az (aI B a1) a1 e1=m at *;obtain ⟨mv,a2,e2⟩:=m;dsimp only at hR hmb hm;have HM:=Lib.hid hm;have hxb:=bP (a:=a2) (e:=e2) hB;have hx:=fun X (hX:Rdr X p q B a2 e2)=>fq X p q B a2 32 e2 hX hB (by decide) (by decide)
 simp only [show ∀a,bQ B a 32=aI B a from fun _=>rfl]at hx;generalize az (aI B a2) a2 e2=x at *;obtain ⟨xv,a3,e3⟩:=x;dsimp only at hR hxb hx;have HX:=Lib.hid hx;have HR:=Lib.hid hR;have hwm:IntKind.u32.wrap mv=mv:=by rw [IntKind.wrap_u32];omega
 have hwx:IntKind.u32.wrap xv=xv:=by rw [IntKind.wrap_u32];omega
 obtain ⟨A,c,c0,c1,c2,f0,f1,f2,hle,hq,hlt,ha⟩:=hC.cells;clear hS hal hm hx hR hC hB hq hle;go_enter Tryz.func51,Tryz.ntmps51;go_wp2_with fail;refine H1.out.mono ?_;rintro E W1 ⟨rfl,hG⟩;replace HS:=Lib.hid (HS.out.goes hG);replace HO:=Lib.hid (HO.out.dF hG);have hs1:=HS.out.sz;clear hG H1 c0 c1 c2 f0 f1 f2 hlt;go_wp2_with fail;refine (HM.out _ HS.out.rd).mono ?_;rintro E W2 ⟨rfl,hG⟩;replace HS:=Lib.hid (HS.out.goes hG);replace HO:=Lib.hid (HO.out.dF hG);have hs2:=HS.out.sz;clear hG;have HOL2:=Lib.hid HO.out.lt;by_cases h1:hv=1
 ·subst h1;go_wp2_with fail;replace HO:=Lib.hid (HO.out.alloc (.cells #[.int .u32 mv, .int .u32 0, .bool true] 106));have HL:=Lib.hid (Lc.new (p:=p) W2 #[.int .u32 mv, .int .u32 0, .bool true] 106 (by omega));replace HS:=Lib.hid (HS.out.alloc (.cells #[.int .u32 mv, .int .u32 0, .bool true] 106));refine (HX.out _ HS.out.rd).mono ?_;rintro E W3 ⟨rfl,hG⟩;replace HS:=Lib.hid (HS.out.goes hG);replace HO:=Lib.hid (HO.out.dF hG);replace HL:=Lib.hid (HL.out.dF hG);have hs3:=HS.out.sz;clear hG;obtain ⟨A,c,c0,c1,c2,f0,f1,f2,hle,hq,hlt,ha⟩:=HS.out.rd.cells;have l0:=HL.out.c0;have l1:=HL.out.c1;have l2:=HL.out.c2;have lf1:=HL.out.fz 1;have ll:=HL.out.lt;clear hq hle;have hpl2:p≠W2.heap.size:=by omega
  have hol:W.heap.size< W2.heap.size:=HOL2.out;have hol1:W.heap.size≠W2.heap.size:=by omega
  have hol2:W2.heap.size≠W.heap.size:=by omega
  by_cases h0:e3=0
  ·subst h0;have o0:=HO.out.c0;have o1:=HO.out.c1;have o2:=HO.out.c2;have of0:=HO.out.fz 0;have of1:=HO.out.fz 1;have of2:=HO.out.fz 2;have lo:=HO.out.lt;go_wp2_with fail;refine bodyPost_ret (v:= .agg #[.int .u32 mv, .int .u32 xv, .bool true]) (by simp [results,Tryz.results51,go_sem,o0,o1,o2,lo]) rfl ?_;rw [HR.out];refine ⟨by simp [gI], ?_⟩;simp only [if_true];exact StR.fin (W:=W) ((((HS.out.set _ 1 _ (by omega)).set _ 0 _ (Nat.le_refl _)).set _ 1 _ (Nat.le_refl _)).set _ 2 _ (Nat.le_refl _))
  ·have h0' :(e3 !=0)=true:=by simp;exact h0
   go_wp2_with fail;refine (dV _ p q B a3 a e3 (HS.out.set _ 1 _ (by omega)).rd hab).mono ?_;rintro E W4 ⟨rfl,hG⟩;rw [if_neg h0]at hG;replace HS:=Lib.hid ((HS.out.set _ 1 _ (by omega)).goes hG);replace HO:=Lib.hid ((HO.out.other _ 1 _ (by omega)).dF hG);have o0:=HO.out.c0;have o1:=HO.out.c1;have o2:=HO.out.c2;have of0:=HO.out.fz 0;have of1:=HO.out.fz 1;have of2:=HO.out.fz 2;have lo:=HO.out.lt;clear hG;go_wp2_with fail;refine bodyPost_ret (v:= .agg #[.int .u32 0, .int .u32 0, .bool false]) (by simp [results,Tryz.results51,go_sem,o0,o1,o2,lo]) rfl ?_;have hRR:R=((0,0,false),a,e3):=by rw [HR.out];simp [h0]
   rw [hRR];refine ⟨by simp [gI], ?_⟩;exact StR.fin (W:=W) (((HS.out.set _ 0 _ (Nat.le_refl _)).set _ 1 _ (Nat.le_refl _)).set _ 2 _ (Nat.le_refl _))
 ·have h1' :(hv==1)=false:=by simp;exact h1
  have o0:=HO.out.c0;have o1:=HO.out.c1;have o2:=HO.out.c2;have of0:=HO.out.fz 0;have of1:=HO.out.fz 1;have of2:=HO.out.fz 2;have lo:=HO.out.lt;have HSB:=Lib.hid HS.out;replace HO:=Lib.hid (HO.out.alloc (.cells #[.int .u32 mv, .int .u32 0, .bool false] 106));have HL:=Lib.hid (Lc.new (p:=p) W2 #[.int .u32 mv, .int .u32 0, .bool false] 106 (by omega));replace HS:=Lib.hid (HS.out.alloc (.cells #[.int .u32 mv, .int .u32 0, .bool false] 106));obtain ⟨A,c,c0,c1,c2,f0,f1,f2,hle,hq,hlt,ha⟩:=HS.out.rd.cells;have l0:=HL.out.c0;have l1:=HL.out.c1;have l2:=HL.out.c2;have ll:=HL.out.lt;clear hq hle;have hpl2:p≠W2.heap.size:=by omega
  have hol:W.heap.size< W2.heap.size:=HOL2.out;have hol1:W.heap.size≠W2.heap.size:=by omega
  have hol2:W2.heap.size≠W.heap.size:=by omega
  by_cases h0:e2=0
  ·subst h0;go_wp2_with fail;refine bodyPost_ret (v:= .agg #[.int .u32 mv, .int .u32 0, .bool false]) (by simp [results,Tryz.results51,go_sem,o0,o1,o2,lo]) rfl ?_;have hRR:R=((mv,0,false),a2,0):=by rw [HR.out];simp [h1]
   rw [hRR];refine ⟨by simp [gI], ?_⟩
   first|exact StR.fin (W:=W) (((HS.out.set _ 0 _ (Nat.le_refl _)).set _ 1 _ (Nat.le_refl _)).set _ 2 _ (Nat.le_refl _))|exact StR.fin (W:=W) ((((HSB.out.set _ 0 _ (Nat.le_refl _)).set _ 1 _ (Nat.le_refl _)).set _ 2 _ (Nat.le_refl _)).alloc _)
  ·have h0' :(e2 !=0)=true:=by simp;exact h0
   clear o0 o1 o2 of0 of1 of2 lo;go_wp2_with fail;refine (dV _ p q B a2 a e2 (HS.out).rd hab).mono ?_;rintro E W4 ⟨rfl,hG⟩;rw [if_neg h0]at hG;replace HS:=Lib.hid ((HS.out).goes hG);replace HO:=Lib.hid ((HO.out).dF hG);have o0:=HO.out.c0;have o1:=HO.out.c1;have o2:=HO.out.c2;have of0:=HO.out.fz 0;have of1:=HO.out.fz 1;have of2:=HO.out.fz 2;have lo:=HO.out.lt;clear hG;go_wp2_with fail;refine bodyPost_ret (v:= .agg #[.int .u32 0, .int .u32 0, .bool false]) (by simp [results,Tryz.results51,go_sem,o0,o1,o2,lo]) rfl ?_;have hRR:R=((0,0,false),a,e2):=by rw [HR.out];simp [h0,h1]
   rw [hRR];refine ⟨by simp [gI], ?_⟩;exact StR.fin (W:=W) (((HS.out.set _ 0 _ (Nat.le_refl _)).set _ 1 _ (Nat.le_refl _)).set _ 2 _ (Nat.le_refl _))
end Go.Proofs.YtofaiocffifhfaaGreat
end
namespace Go.Proofs.YtofaiocffifhfaaGreat
open Go.RowKit Go.Shelf YtofaiocffifhfaaGreatB Go.Proofs.YtofaiocffifhfaaGreatW.PrintWords
theorem BG {B:List Int} {a:Nat} {e:Int} (h:¬(fB B a e).2.2=0):(fB B a e).1=(0,0,false):=by
 unfold fB fZ at h ⊢;split
 next he=>
  rw [if_pos he]at h;split
  next h2=>rw [if_pos h2]at h;exact absurd h2 h
  next h2=>rfl
 next he=>rfl
theorem xO (B:List Int) (a:Nat) (e:Int):
  gJ B a e=(let h:=az (aV B a [112] 106) a e
   let l:=fB B h.2.1 h.2.2
   (l.1,if l.2.2=0 then l.2.1 else a,l.2.2)):=by
 unfold gJ fZ nV;by_cases he:e=0
 ·subst he;dsimp only;rw [if_pos rfl];split
  next h1=>rfl
  next h1=>rw [BG h1]
 ·rw [if_neg he];have h1:az (aV B a [112] 106) a e=(0,a,e):=by rw [az,if_neg he]
  have h2:fB B a e=((0,0,false),a,e):=by unfold fB fZ;rw [if_neg he]
  simp [h1,h2,he]
theorem qM (W:World) (p q:Nat) (B:List Int) (a:Nat) (e:Int) (hC:Rdr W p q B a e) (hB:aK B):
  Calls Tryz.prog 50 #[.pointer (some ⟨p,0,none⟩)] W (jw W p q B (gI (gJ B a e).1) (gJ B a e).2.1 (gJ B a e).2.2):=by
 have hS:=StR.start hC;have hpl:=hC.lt;have hab:=hC.2.1;have hal:Below W.heap.size W ((W.alloc (.cells #[.int .u32 0, .int .u32 0, .bool false] 106)).alloc (.cells #[.int .u8 112] 5)):=aY (aY (Below.refl _ _) _) _
 have H1:=Lib.hid (iI _ p q (W.heap.size+1) B a e 106 (some ⟨W.heap.size+1,0,none⟩) 1 [112] ((hC.alloc (.cells #[.int .u32 0, .int .u32 0, .bool false] 106)).alloc (.cells #[.int .u8 112] 5)) hB rfl (by omega)
  (by have h:=fM (W.alloc (.cells #[.int .u32 0, .int .u32 0, .bool false] 106)) [112] 5;rw [World.size_alloc]at h;exact h) (by decide))
 have HO:=Lib.hid ((Lc.new (p:=p) W #[.int .u32 0, .int .u32 0, .bool false] 106 hpl).alloc (.cells #[.int .u8 112] 5));have HS:=Lib.hid (hS.below hal);rw [xO];dsimp only;generalize az (aV B a [112] 106) a e=h at *;obtain ⟨hv,a1,e1⟩:=h;dsimp only at H1 ⊢;have HL:=Lib.hid (fun X (hX:Rdr X p q B a1 e1)=>lT X p q B a1 e1 hX hB);generalize fB B a1 e1=l at *;obtain ⟨⟨m,x,z⟩,a2,e2⟩:=l;dsimp only [gI]at HL ⊢;obtain ⟨ap,hap⟩:∃ap,ap=(if e2=0 then a2 else a):=⟨_,rfl⟩;rw [←hap];have HAP:=Lib.hid hap;clear hap;obtain ⟨A,c,c0,c1,c2,f0,f1,f2,hle,hq,hlt,ha⟩:=hC.cells;clear hS hal hC hB hq hle;go_enter Tryz.func50,Tryz.ntmps50;go_wp2_with fail;refine H1.out.mono ?_;rintro E W1 ⟨rfl,hG⟩;replace HS:=Lib.hid (HS.out.goes hG);replace HO:=Lib.hid (HO.out.dF hG);have hs1:=HS.out.sz;clear hG H1 c0 c1 c2 f0 f1 f2 hlt;go_wp2_with fail;refine (HL.out _ HS.out.rd).mono ?_;rintro E W2 ⟨rfl,hG⟩;replace HS:=Lib.hid (HS.out.goes hG);replace HO:=Lib.hid (HO.out.dF hG);have hs2:=HS.out.sz;have HOL:=Lib.hid HO.out.lt;clear hG;go_wp2_with fail;have HT:=Lib.hid (Lc.new (p:=p) W2 #[.int .u32 m, .int .u32 x, .bool z] 106 (by omega));replace HS:=Lib.hid (HS.out.alloc (.cells #[.int .u32 m, .int .u32 x, .bool z] 106));replace HO:=Lib.hid (HO.out.alloc (.cells #[.int .u32 m, .int .u32 x, .bool z] 106));refine (dV _ p q B a2 a e2 HS.out.rd hab).mono ?_;rintro E W3 ⟨rfl,hG⟩;rw [←HAP.out]at hG;replace HS:=Lib.hid (HS.out.goes hG);replace HO:=Lib.hid (HO.out.dF hG);replace HT:=Lib.hid (HT.out.dF hG);have hol:W.heap.size< W2.heap.size:=HOL.out;have hol1:W.heap.size≠W2.heap.size:=by omega
 have hol2:W2.heap.size≠W.heap.size:=by omega
 have l0:=HT.out.c0;have l1:=HT.out.c1;have l2:=HT.out.c2;have ll:=HT.out.lt;have o0:=HO.out.c0;have o1:=HO.out.c1;have o2:=HO.out.c2;have of0:=HO.out.fz 0;have of1:=HO.out.fz 1;have of2:=HO.out.fz 2;have lo:=HO.out.lt;clear hG;go_wp2_with fail;refine bodyPost_ret (v:= .agg #[.int .u32 m, .int .u32 x, .bool z]) (by simp [results,Tryz.results50,go_sem,o0,o1,o2,lo]) rfl ⟨rfl, ?_⟩;exact StR.fin (W:=W) (((HS.out.set _ 0 _ (Nat.le_refl _)).set _ 1 _ (Nat.le_refl _)).set _ 2 _ (Nat.le_refl _))
theorem yf (B:List Int) (a:Nat) (e:Int):
  jl B a e=(let t:=az (eB B a) a e
   let m:=az (aV B t.2.1 [0,1] 107) t.2.1 t.2.2
   if m.2.2=0 then ((t.1,decide (m.1=1)),m.2)else ((0,false),a,m.2.2)):=by
 unfold jl fZ oU;by_cases he:e=0
 ·subst he;dsimp only;rw [if_pos rfl]
 ·rw [if_neg he];have h1:az (eB B a) a e=(0,a,e):=by rw [az,if_neg he]
  have h2:az (aV B a [0,1] 107) a e=(0,a,e):=by rw [az,if_neg he]
  simp [h1,h2,he]
theorem oW (W:World) (p q:Nat) (B:List Int) (a:Nat) (e:Int) (hC:Rdr W p q B a e) (hB:aK B):
  Calls Tryz.prog 53 #[.pointer (some ⟨p,0,none⟩)] W (jw W p q B (.tuple #[.int .u8 (jl B a e).1.1, .bool (jl B a e).1.2]) (jl B a e).2.1 (jl B a e).2.2):=by
 have hS:=StR.start hC;have hpl:=hC.lt;have hab:=hC.2.1;have H1:=Lib.hid (nD W p q B a e hC hB);have HS:=Lib.hid hS;obtain ⟨R,hR⟩:∃R,R=jl B a e:=⟨_,rfl⟩;rw [←hR];rw [yf]at hR;dsimp only at hR;generalize az (eB B a) a e=t at *;obtain ⟨tv,a1,e1⟩:=t;dsimp only at hR H1;have HB:=Lib.hid hB;have HM:=Lib.hid (fun X (hX:Rdr X p q B a1 e1) (hp:p< X.heap.size)=>iI _ p q X.heap.size B a1 e1 107 (some ⟨X.heap.size,0,none⟩) 2 [0,1] (hX.alloc (.cells #[.int .u8 0, .int .u8 1] 5)) hB rfl (by omega) (fM X [0,1] 5) (by decide));generalize az (aV B a1 [0,1] 107) a1 e1=m at *;obtain ⟨mv,a2,e2⟩:=m;dsimp only at hR HM;have HR:=Lib.hid hR;obtain ⟨A,c,c0,c1,c2,f0,f1,f2,hle,hq,hlt,ha⟩:=hC.cells;clear hS hR hC hB hq hle;go_enter Tryz.func53,Tryz.ntmps53;go_wp2_with fail;refine H1.out.mono ?_;rintro E W1 ⟨rfl,hG⟩;replace HS:=Lib.hid (HS.out.goes hG);have hs1:=HS.out.sz;clear hG H1 c0 c1 c2 f0 f1 f2 hlt;go_wp2_with fail;refine (HM.out _ HS.out.rd (by omega)).mono ?_;rintro E W2 ⟨rfl,hG⟩;replace HS:=Lib.hid ((HS.out.alloc _).goes hG);have hs2:=HS.out.sz;obtain ⟨A,c,c0,c1,c2,f0,f1,f2,hle,hq,hlt,ha⟩:=HS.out.rd.cells;clear hG hle hq;by_cases h0:e2=0
 ·subst h0;go_wp2_with fail;go_ret2;have hRR:R=((tv,decide (mv=1)),a2,0):=by rw [HR.out];simp
  rw [hRR];refine ⟨?_,StR.fin HS.out⟩;by_cases h1:mv=1<;>simp [h1]
 ·have h0' :(e2 !=0)=true:=by simp;exact h0
  go_wp2_with fail;refine (dV _ p q B a2 a e2 HS.out.rd hab).mono ?_;rintro E W3 ⟨rfl,hG⟩;rw [if_neg h0]at hG;replace HS:=Lib.hid (HS.out.goes hG);clear hG c0 c1 c2 f0 f1 f2 hlt;go_wp2_with fail;go_ret2;have hRR:R=((0,false),a,e2):=by rw [HR.out];simp [h0]
  rw [hRR];exact ⟨rfl,StR.fin HS.out⟩
theorem yM (B:List Int):∀(k a:Nat) (e:Int),mP B k a e=lsM (fun a e=>az (eB B a) a e) k a e
 |0,a,e=>rfl
 |k+1,a,e=>by
  rw [mP,lsM];split
  ·rw [yM B k]
  ·rfl
theorem vg (B:List Int) (a:Nat) (e:Int):gy B a e=bq (fun a e=>az (eB B a) a e) B a e:=by
 unfold gy bq;exact yM B _ _ _
structure zN {α:Type} (d:Kd α) (t:TypeId) (rd:Nat→Int→α×Nat×Int) (W:World) (p q:Nat) (B:List Int) (target:List α×Nat×Int) (c j:Nat) (v:Value) (done:List α) (a:Nat) (e:Int) (X:World):Prop where
 own:Own d t X W.heap.size (fun _=>False) v done
 st:StR W X p q B a e
 t:(done++(lsM rd (c - j) a e).1,(lsM rd (c - j) a e).2)=target
 len:done.length≤j
def oq {α:Type} (d:Kd α) (t:TypeId) (W:World) (p q:Nat) (B:List Int) (r:List α×Nat×Int) (E:Ending) (w' :World):Prop:=
 (∃v,E= .returned v∧Own d t w' W.heap.size (fun _=>False) v r.1)∧aF W w' p q B r.2.1 r.2.2
theorem oL {α:Type} {d:Kd α} {t:TypeId} {W X:World} {p q:Nat} {B:List Int} {R:List α×Nat×Int} {v:Value} {done:List α} {a:Nat} {e:Int} (ho:Own d t X W.heap.size (fun _=>False) v done) (hs:StR W X p q B a e) (h1:done=R.1) (h2:(a,e)=R.2):oq d t W p q B R (.returned v) X:=by
 obtain ⟨r1,r2⟩:=R;dsimp only at h1 h2;subst h1 h2;exact ⟨⟨_,rfl,ho⟩,hs.fin⟩
theorem EJ:(Tryz.prog.info? 30).map (fun i=>(i.zero,i.size,i.bytes))=some (some (.int .u32 0),1,4):=by kernel_rfl
theorem qH (W:World) (p q:Nat) (B:List Int) (a:Nat) (e:Int) (hC:Rdr W p q B a e) (hB:aK B):
  Calls Tryz.prog 92 #[.pointer (some ⟨p,0,none⟩)] W (oq (rng .u8) 5 W p q B (bq (fun a e=>az (eB B a) a e) B a e)):=by
 have HS:=Lib.hid (StR.start hC);have H1:=Lib.hid (dM W p q B a e hC hB);have hcb:=bK (a:=a) (e:=e) hB;have HBB:=Lib.hid hB;obtain ⟨R,hR⟩:∃R,R=bq (fun a e=>az (eB B a) a e) B a e:=⟨_,rfl⟩;rw [←hR];unfold bq at hR;generalize az (aG B a) a e=n at *;obtain ⟨nv,a1,e1⟩:=n;dsimp only at hR H1 hcb;obtain ⟨c,rfl⟩:=Int.eq_ofNat_of_zero_le hcb.1;rw [Int.toNat_natCast]at hR;have HR:=Lib.hid hR;have hc:=hcb.2;obtain ⟨A,cc,c0,c1,c2,f0,f1,f2,hle,hq,hlt,ha⟩:=hC.cells;clear hC hB hR hcb hle hq;go_enter Tryz.func92,Tryz.ntmps92;go_wp2_with fail;refine H1.out.mono ?_;rintro E W1 ⟨rfl,hG⟩;replace HS:=Lib.hid (HS.out.goes hG);have hs1:=HS.out.sz;clear hG H1 c0 c1 c2 f0 f1 f2 hlt;have HL0:=Lib.hid (⟨Own.nil,HS.out,by rw [List.nil_append,Nat.sub_zero];exact HR.out.symm,Nat.zero_le _⟩:zN (rng .u8) 5 (fun a e=>az (eB B a) a e) W p q B R c 0 (.slice none 0 0) [] a1 e1 W1);clear HS;go_wp2_with fail;go_loopw [3,5] (fun v i wr=>∃(j:Nat) (done:List Int) (a' :Nat) (e' :Int),j≤c∧i= .int .i64 j∧Hid (zN (rng .u8) 5 (fun a e=>az (eB B a) a e) W p q B R c j v done a' e' wr)) (fun _ i _=>c - (intOf i).toNat)
 case atStart=>exact ⟨0, [],a1,e1,Nat.zero_le _,rfl,HL0.out⟩
 case round=>
  obtain ⟨j,done,a',e',hj,rfl,HL⟩:=hrel;obtain ⟨A,cc,c0,c1,c2,f0,f1,f2,hle,hq,hlt,ha⟩:=HL.out.st.rd.cells;clear hle hq
  have hfin:∀(h:j=c∨¬e' =0),done=R.1∧(a',e')=R.2:=fun h=>by
   have ht:=HL.out.t
   have hz:lsM (fun a e=>az (eB B a) a e) (c - j) a' e' =([],a',e'):=by
    rcases h with h|h
    ·rw [h,Nat.sub_self];rfl
    ·exact gV _ _ _ _ (by simpa using h)
   rw [hz,List.append_nil]at ht;rw [←ht];exact ⟨rfl,rfl⟩
  have HFIN:=Lib.hid hfin;clear hfin;by_cases h0:e' =0
  ·subst h0;by_cases hjc:j< c
   ·have hjc2:(j:Int)<(c:Int):=by omega
    have HC:=Lib.hid (nD wr p q B a' 0 HL.out.st.rd HBB.out);have hbd:=lY (a:=a') (e:=0) HBB.out
    have hstep:lsM (fun a e=>az (eB B a) a e) (c - j) a' 0=((az (eB B a') a' 0).1::(lsM (fun a e=>az (eB B a) a e) (c - (j+1)) (az (eB B a') a' 0).2.1 (az (eB B a') a' 0).2.2).1,(lsM (fun a e=>az (eB B a) a e) (c - (j+1)) (az (eB B a') a' 0).2.1 (az (eB B a') a' 0).2.2).2):=by
     rw [show c - j=(c - (j+1))+1 by omega,lsM,if_pos rfl];try rfl
    have HST:=Lib.hid hstep;clear hstep;generalize az (eB B a') a' 0=x at *;obtain ⟨xv,a2,e2⟩:=x;dsimp only at HC hbd HST;go_wp2_with fail;refine HC.out.mono ?_;rintro E W2 ⟨rfl,hG⟩;have HS2:=Lib.hid (HL.out.st.goes hG);have hs2:=HS2.out.sz;have hown2:=HL.out.own.grown hG.2 (.inr (fun e=>by have h1:=(Own.block HL.out.own e).1;have h2:=HL.out.st.hp;omega)) (fun _ h=>h.elim);have HO2:=Lib.hid hown2;have HK:=Lib.hid (show FK (rng .u8) W2 (fun k=>False∧some k≠u3.ownBlock) xv [.int .u8 xv]from fo (wf_u8 hbd));have hlen:=HL.out.len;have HL9:=Lib.hid (show (done.length+1) * 1≤140737488355328 by omega);have HN:=Lib.hid (show W.heap.size≤W2.heap.size from hs2);clear hown2 hG c0 c1 c2 f0 f1 f2 hlt ha;go_wp2_with (at_builtin;refine Own.append (d:=rng .u8) W.heap.size rfl (.tmp 20) (.tmp 23) 22 5 _ 1 rfl Tryz.underlying22 jW rfl (by decide) (by decide) u3 done xv [.int .u8 xv] (fun _=>False) rfl rfl HK.out HO2.out HN.out HL9.out ?_;intro v1 w1 hown1 hg1 hat1);have HS3:=Lib.hid (HS2.out.grown hg1 (fun k hk=>(Own.block HO2.out hk).1));have HZ:=Lib.hid (⟨hown1,HS3.out,by have ht:=HL.out.t;rw [HST.out]at ht;rw [←ht];simp,by rw [List.length_append];simp only [List.length_cons,List.length_nil];omega⟩:zN (rng .u8) 5 (fun a e=>az (eB B a) a e) W p q B R c (j+1) v1 (done++ [xv]) a2 e2 w1);clear hown1 hg1 hat1 HS3;go_wp2_with fail;go_roundw
    case rel=>exact ⟨j+1,done++ [xv],a2,e2,by omega,by go_num,HZ⟩
    case measure=>simp [intOf];omega
   ·have hjc2:¬(j:Int)<(c:Int):=by omega
    go_wp2_with fail;go_ret;obtain ⟨h1,h2⟩:=HFIN.out (.inl (by omega));exact oL HL.out.own HL.out.st h1 h2
  ·have h0' :(e' ==0)=false:=by simp;exact h0
   obtain ⟨h1,h2⟩:=HFIN.out (.inr h0);have HH1:=Lib.hid h1;have HH2:=Lib.hid h2;clear h1 h2;by_cases hjc:j< c
   ·have hjc2:(j:Int)<(c:Int):=by omega
    go_wp2_with fail;go_ret;exact oL HL.out.own HL.out.st HH1.out HH2.out
   ·have hjc2:¬(j:Int)<(c:Int):=by omega
    go_wp2_with fail;go_ret;exact oL HL.out.own HL.out.st HH1.out HH2.out
theorem pg (W:World) (p q:Nat) (B:List Int) (a:Nat) (e:Int) (hC:Rdr W p q B a e) (hB:aK B):
  Calls Tryz.prog 47 #[.pointer (some ⟨p,0,none⟩)] W (oq (rng .u32) 30 W p q B (bq (dP B) B a e)):=by
 have HS:=Lib.hid (StR.start hC);have H1:=Lib.hid (dM W p q B a e hC hB);have hcb:=bK (a:=a) (e:=e) hB;have HBB:=Lib.hid hB;obtain ⟨R,hR⟩:∃R,R=bq (dP B) B a e:=⟨_,rfl⟩;rw [←hR];unfold bq at hR;generalize az (aG B a) a e=n at *;obtain ⟨nv,a1,e1⟩:=n;dsimp only at hR H1 hcb;obtain ⟨c,rfl⟩:=Int.eq_ofNat_of_zero_le hcb.1;rw [Int.toNat_natCast]at hR;have HR:=Lib.hid hR;have hc:=hcb.2;obtain ⟨A,cc,c0,c1,c2,f0,f1,f2,hle,hq,hlt,ha⟩:=hC.cells;clear hC hB hR hcb hle hq;go_enter Tryz.func47,Tryz.ntmps47;go_wp2_with fail;refine H1.out.mono ?_;rintro E W1 ⟨rfl,hG⟩;replace HS:=Lib.hid (HS.out.goes hG);have hs1:=HS.out.sz;clear hG H1 c0 c1 c2 f0 f1 f2 hlt;have HL0:=Lib.hid (⟨Own.nil,HS.out,by rw [List.nil_append,Nat.sub_zero];exact HR.out.symm,Nat.zero_le _⟩:zN (rng .u32) 30 (dP B) W p q B R c 0 (.slice none 0 0) [] a1 e1 W1);clear HS;go_wp2_with fail;go_loopw [3,5] (fun v i wr=>∃(j:Nat) (done:List Int) (a' :Nat) (e' :Int),j≤c∧i= .int .i64 j∧Hid (zN (rng .u32) 30 (dP B) W p q B R c j v done a' e' wr)) (fun _ i _=>c - (intOf i).toNat)
 case atStart=>exact ⟨0, [],a1,e1,Nat.zero_le _,rfl,HL0.out⟩
 case round=>
  obtain ⟨j,done,a',e',hj,rfl,HL⟩:=hrel;obtain ⟨A,cc,c0,c1,c2,f0,f1,f2,hle,hq,hlt,ha⟩:=HL.out.st.rd.cells;clear hle hq
  have hfin:∀(h:j=c∨¬e' =0),done=R.1∧(a',e')=R.2:=fun h=>by
   have ht:=HL.out.t
   have hz:lsM (dP B) (c - j) a' e' =([],a',e'):=by
    rcases h with h|h
    ·rw [h,Nat.sub_self];rfl
    ·exact gV _ _ _ _ (by simpa using h)
   rw [hz,List.append_nil]at ht;rw [←ht];exact ⟨rfl,rfl⟩
  have HFIN:=Lib.hid hfin;clear hfin;by_cases h0:e' =0
  ·subst h0;by_cases hjc:j< c
   ·have hjc2:(j:Int)<(c:Int):=by omega
    have HC:=Lib.hid (oP wr p q B a' 0 HL.out.st.rd HBB.out);have hbd:=bP (a:=a') (e:=0) HBB.out
    have hstep:lsM (dP B) (c - j) a' 0=((az (aI B a') a' 0).1::(lsM (dP B) (c - (j+1)) (az (aI B a') a' 0).2.1 (az (aI B a') a' 0).2.2).1,(lsM (dP B) (c - (j+1)) (az (aI B a') a' 0).2.1 (az (aI B a') a' 0).2.2).2):=by
     rw [show c - j=(c - (j+1))+1 by omega,lsM,if_pos rfl];try rfl
    have HST:=Lib.hid hstep;clear hstep;generalize az (aI B a') a' 0=x at *;obtain ⟨xv,a2,e2⟩:=x;dsimp only at HC hbd HST;go_wp2_with fail;refine HC.out.mono ?_;rintro E W2 ⟨rfl,hG⟩;have HS2:=Lib.hid (HL.out.st.goes hG);have hs2:=HS2.out.sz;have hown2:=HL.out.own.grown hG.2 (.inr (fun e=>by have h1:=(Own.block HL.out.own e).1;have h2:=HL.out.st.hp;omega)) (fun _ h=>h.elim);have HO2:=Lib.hid hown2;have HK:=Lib.hid (show FK (rng .u32) W2 (fun k=>False∧some k≠u3.ownBlock) xv [.int .u32 xv]from fo (wf_u32 hbd));have hlen:=HL.out.len;have HL9:=Lib.hid (show (done.length+1) * 4≤140737488355328 by omega);have HN:=Lib.hid (show W.heap.size≤W2.heap.size from hs2);clear hown2 hG c0 c1 c2 f0 f1 f2 hlt ha;go_wp2_with (at_builtin;refine Own.append (d:=rng .u32) W.heap.size rfl (.tmp 20) (.tmp 23) 69 30 _ 4 rfl Tryz.underlying69 EJ rfl (by decide) (by decide) u3 done xv [.int .u32 xv] (fun _=>False) rfl rfl HK.out HO2.out HN.out HL9.out ?_;intro v1 w1 hown1 hg1 hat1);have HS3:=Lib.hid (HS2.out.grown hg1 (fun k hk=>(Own.block HO2.out hk).1));have HZ:=Lib.hid (⟨hown1,HS3.out,by have ht:=HL.out.t;rw [HST.out]at ht;rw [←ht];simp,by rw [List.length_append];simp only [List.length_cons,List.length_nil];omega⟩:zN (rng .u32) 30 (dP B) W p q B R c (j+1) v1 (done++ [xv]) a2 e2 w1);clear hown1 hg1 hat1 HS3;go_wp2_with fail;go_roundw
    case rel=>exact ⟨j+1,done++ [xv],a2,e2,by omega,by go_num,HZ⟩
    case measure=>simp [intOf];omega
   ·have hjc2:¬(j:Int)<(c:Int):=by omega
    go_wp2_with fail;go_ret;obtain ⟨h1,h2⟩:=HFIN.out (.inl (by omega));exact oL HL.out.own HL.out.st h1 h2
  ·have h0' :(e' ==0)=false:=by simp;exact h0
   obtain ⟨h1,h2⟩:=HFIN.out (.inr h0);have HH1:=Lib.hid h1;have HH2:=Lib.hid h2;clear h1 h2;by_cases hjc:j< c
   ·have hjc2:(j:Int)<(c:Int):=by omega
    go_wp2_with fail;go_ret;exact oL HL.out.own HL.out.st HH1.out HH2.out
   ·have hjc2:¬(j:Int)<(c:Int):=by omega
    go_wp2_with fail;go_ret;exact oL HL.out.own HL.out.st HH1.out HH2.out
end Go.Proofs.YtofaiocffifhfaaGreat
