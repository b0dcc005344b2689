/- Lemmas towards this claim's statement, each under the conditions that it states itself. -/
import Derived.Test.YtofaiocffifhfaaGreatMd9
set_option maxRecDepth 100000
set_option maxHeartbeats 8000000
set_option linter.unusedVariables false
set_option linter.unusedSimpArgs false
namespace Go.Proofs.YtofaiocffifhfaaGreat
open Go.RowKit Go.Shelf YtofaiocffifhfaaGreatB Go.Proofs.YtofaiocffifhfaaGreatW.PrintWords
def Ec (W:World) (p q:Nat) (B:List Int) (r:List Int×Nat×Int) (E:Ending) (W' :World):Prop:=
 (∃v,E= .returned v∧Own (rng .u8) 5 W' W.heap.size (fun _=>False) v r.1)∧aF W W' p q B r.2.1 r.2.2
theorem vV (W:World) (p q:Nat) (B:List Int) (a:Nat) (e:Int) (hC:Rdr W p q B a e) (hB:aK B):
  Calls Tryz.prog 14 #[.pointer (some ⟨p,0,none⟩)] W (Ec W p q B (l8 B a e)):=by
 have hc:=bK (a:=a) (e:=e) hB;have HQ:=Lib.hid (fun hl=>hC.jN hl:0< B.length→q< W.heap.size);have hpl:p< W.heap.size:=by obtain ⟨A,c,c0,_⟩:=hC.cells;exact World.block_lt_of_cell? _ _ c0
 have H0:=Lib.hid (dM _ p q B a e hC hB);have hall:=mi hB (az (aG B a) a e).1.toNat (az (aG B a) a e).2.1 (az (aG B a) a e).2.2;have hgl:=oQ B (az (aG B a) a e).1.toNat (az (aG B a) a e).2.1 (az (aG B a) a e).2.2;have hlm:l8 B a e=(let g:=fH B (az (aG B a) a e).1.toNat (az (aG B a) a e).2.1 (az (aG B a) a e).2.2;if g.2.2=0 then (if 4294967295< gz g.1 then ([],g.2.1,110)else if 1024< gz g.1 then ([],g.2.1,3)else (expand g.1,g.2.1,0))else ([],g.2.1,g.2.2)):=rfl;obtain ⟨R,hR⟩:∃R,R=l8 B a e:=⟨_,rfl⟩;rw [←hR];rw [hlm]at hR;clear hlm;generalize az (aG B a) a e=r at *;obtain ⟨n,a0,e0⟩:=r;dsimp only at hc;obtain ⟨c,rfl⟩:=Int.eq_ofNat_of_zero_le hc.1;simp only [Int.toNat_natCast]at hall hgl hR;obtain ⟨tg,htg⟩:∃tg,fH B c a0 e0=tg:=⟨_,rfl⟩;rw [htg]at hall hgl hR;have hc2:(c:Int)≤4096:=hc.2;have HB:=Lib.hid hB;have HR:=Lib.hid hR;have HALL:=Lib.hid hall;have HGL:=Lib.hid hgl;have HTG:=Lib.hid htg;clear hB hR hall hgl hc hC htg;go_enter Tryz.func14,Tryz.ntmps14;go_wp2_with fail;refine H0.out.mono ?_;rintro E W1 ⟨rfl,hG1⟩;have HL:=Lib.hid (⟨Own.nil,Own.nil,hG1.1,hG1.2,by rw [Nat.sub_zero,HTG.out];rfl,Nat.le_refl _,by simp [gz]⟩:LR W p q B tg c 0 (.slice none 0 0) (.slice none 0 0) [] a0 e0 W1);clear hG1 H0;go_wp2_with fail;go_loopw [3,4,5,7] (fun v3 v4 s i wr=>∃(j:Nat) (done:List (Int×Int)) (a:Nat) (e:Int),j≤c∧i= .int .i64 j∧s= .int .u64 (gz done)∧Hid (LR W p q B tg c j v3 v4 done a e wr)) (fun _ _ _ i _=>c - (intOf i).toNat)
 case atStart=>exact ⟨0, [],a0,e0,Nat.zero_le _,rfl,rfl,HL⟩
 case round=>
  obtain ⟨j,done,a',e',hj,rfl,rfl,HLj⟩:=hrel;clear HL;obtain ⟨_,_,x0,x1,x2,_⟩:=HLj.out.cur.cells;by_cases hcon:j< c∧e' =0
  ·obtain ⟨hlt,he⟩:=hcon;have hlt2:(j:Int)<(c:Int):=by omega
   ·subst he;have HU:=Lib.hid (fq wr p q B a' 32 0 HLj.out.cur HB.out (by decide) (by decide));have hu:=lU (a:=a') HB.out;have HV:=Lib.hid (fun X a1 e1 (h:Rdr X p q B a1 e1)=>nD X p q B a1 e1 h HB.out);have HGM:=Lib.hid (show lv B a' =((((az (aI B a') a' 0).1,(az (eB B (az (aI B a') a' 0).2.1) (az (aI B a') a' 0).2.1 (az (aI B a') a' 0).2.2).1),(az (eB B (az (aI B a') a' 0).2.1) (az (aI B a') a' 0).2.1 (az (aI B a') a' 0).2.2).2):(Int×Int)×Nat×Int)from rfl);have hv:=lY (a:=(az (aI B a') a' 0).2.1) (e:=(az (aI B a') a' 0).2.2) HB.out;rw [show bQ B a' 32=aI B a' from rfl]at HU;generalize az (aI B a') a' 0=r at *;obtain ⟨n1,a1,e1⟩:=r;have HV1:=Lib.hid (fun X (h:Rdr X p q B a1 e1)=>HV.out X a1 e1 h);dsimp only at hv hu HGM;generalize az (eB B a1) a1 e1=t at *;obtain ⟨ty,a2,e2⟩:=t;dsimp only at hv;have hs1:=HLj.out.sum;have hl1:=HLj.out.len;have hu0:=hu.1;have hu1:=hu.2;clear HV;have hsw:IntKind.u64.wrap (gz done+n1)=gz done+n1:=IntWalk.u64_in _ (by omega);go_wp2_with fail;refine HU.out.mono ?_;rintro E W2 ⟨rfl,hG2⟩;have hz2:=hG2.2.size;have HX:=Lib.hid HLj.out.g.size;have hne3:∀k,u3.ownBlock=some k→W.heap.size≤k:=fun k hk=>(Own.block HLj.out.o3 hk).1
    have hne4:∀k,u4.ownBlock=some k→W.heap.size≤k:=fun k hk=>(Own.block HLj.out.o4 hk).1
    have np3:u3.ownBlock≠some p:=fun e=>by have:=hne3 _ e;omega
    have np4:u4.ownBlock≠some p:=fun e=>by have:=hne4 _ e;omega
    have HO3:=Lib.hid (HLj.out.o3.grown hG2.2 (.inr np3) (fun k hk=>hk.elim));have HO4:=Lib.hid (HLj.out.o4.grown hG2.2 (.inr np4) (fun k hk=>hk.elim));have HG2:=Lib.hid (HLj.out.g.trans hG2.2);have HC2:=Lib.hid hG2.1;have hgs:W.heap.size≤W2.heap.size:=by have:=HX.out;omega
    have HF3:FK (rng .u64) W2 (fun k=>False∧some k≠u3.ownBlock) n1 [.int .u64 n1]:=fun _ _=>⟨rfl,by simp [Lit.wf,IntKind.min,IntKind.max,IntKind.signed,IntKind.bits];omega⟩
    have hlm:(done.map (·.1)).length≤4096:=by rw [List.length_map];omega
    have hlm4:(done.map (·.2)).length≤4096:=by rw [List.length_map];omega
    have HN34:=Lib.hid (own_ne HO4.out HO3.out (by decide));clear hG2 x0 x1 x2 HU;go_wp2_with (at_builtin;refine Own.append (d:=rng .u64) W.heap.size rfl (.tmp 28) (.tmp 30) 133 125 _ 8 rfl Tryz.underlying133 Fs rfl (by decide) (by decide) u3 _ n1 _ (fun _=>False) rfl rfl HF3 HO3.out hgs (by omega) ?_;intro v1 w1 hown1 hg1 hat1);have hz3:=hg1.size;have HO3' :=Lib.hid hown1;have HO4' :=Lib.hid (HO4.out.grown hg1 HN34.out (fun k hk=>hk.elim));have HG3:=Lib.hid (yL HG2.out hg1 (fun k hk=> .inr (hne3 k hk)));have HC3:=Lib.hid (HC2.out.grown' hg1 (fun e=>np3 e.symm) (fun hl e=>by have:=hne3 _ e.symm;have:=HQ.out hl;omega));clear hown1 hg1 hat1 HF3 HO3 HO4 HG2 HC2 HN34;refine (HV1.out _ HC3.out).mono ?_;rintro E W4 ⟨rfl,hG4⟩;have hz4:=hG4.2.size;have hn5:∀k,v1.ownBlock=some k→W.heap.size≤k:=fun k hk=>(Own.block HO3'.out hk).1
    have np5:v1.ownBlock≠some p:=fun e=>by have:=hn5 _ e;omega
    have HO3:=Lib.hid (HO3'.out.grown hG4.2 (.inr np5) (fun k hk=>hk.elim));have HO4:=Lib.hid (HO4'.out.grown hG4.2 (.inr np4) (fun k hk=>hk.elim));have HG4:=Lib.hid (HG3.out.trans hG4.2);have HC4:=Lib.hid hG4.1;have hgs4:W.heap.size≤W4.heap.size:=by omega
    have HF4:FK (rng .u8) W4 (fun k=>False∧some k≠u4.ownBlock) ty [.int .u8 ty]:=fun _ _=>⟨rfl,by simp [Lit.wf,IntKind.min,IntKind.max,IntKind.signed,IntKind.bits];omega⟩
    have HN34:=Lib.hid (own_ne HO3.out HO4.out (by decide));clear hG4 HO3' HO4' HG3 HC3;go_wp2_with (at_builtin;refine Own.append (d:=rng .u8) W.heap.size rfl (.tmp 32) (.tmp 35) 22 5 _ 1 rfl Tryz.underlying22 jW rfl (by decide) (by decide) u4 _ ty _ (fun _=>False) rfl rfl HF4 HO4.out hgs4 (by omega) ?_;intro v2 w2 hown2 hg2 hat2);have HO4' :=Lib.hid hown2;have HO3' :=Lib.hid (HO3.out.grown hg2 HN34.out (fun k hk=>hk.elim));have HG5:=Lib.hid (yL HG4.out hg2 (fun k hk=> .inr (hne4 k hk)));have HC5:=Lib.hid (HC4.out.grown' hg2 (fun e=>np4 e.symm) (fun hl e=>by have:=hne4 _ e.symm;have:=HQ.out hl;omega));clear hown2 hg2 hat2 HF4 HO3 HO4 HG4 HC4 HN34;go_wp2_with fail;go_roundw
    case rel=>
     refine ⟨j+1,done++ [(n1,ty)],a2,e2,by omega,by go_num, ?_, ?_⟩
     ·rw [mr]
     ·refine ⟨by rw [List.map_append];exact HO3'.out,by rw [List.map_append];exact HO4'.out,HC5.out,HG5.out, ?_,by simp;omega, ?_⟩
      ·have ht:=HLj.out.t;rw [show c - j=(c - (j+1))+1 from by omega,fH,if_pos rfl,HGM.out]at ht;rw [←ht,List.append_assoc];rfl
      ·rw [mr];omega
    case measure=>simp [intOf];omega
  ·have ht:(done,a',e')=tg:=by
    have h:=HLj.out.t;by_cases hlt:j< c
    ·rw [si _ _ _ _ (beq_eq_false_iff_ne.2 (fun he=>hcon ⟨hlt,he⟩)),List.append_nil]at h;exact h
    ·rw [show c - j=0 from by omega,fH,List.append_nil]at h;exact h
   have HT:=Lib.hid ht;have HR1:=Lib.hid (show R=if e' =0 then (if 4294967295< gz done then ([],a',110)else if 1024< gz done then ([],a',3)else (expand done,a',0))else ([],a',e')from by have:=HR.out;rw [←ht]at this;exact this);have hs0:=HLj.out.sum;have hz0:=HLj.out.g.size;clear ht;by_cases he:e' =0
   ·have hjc:¬j< c:=fun h=>hcon ⟨h,he⟩
    subst he;have hjc2:¬(j:Int)<(c:Int):=by omega
    clear hcon hjc;by_cases hs1:4294967295< gz done
    ·have HV:=Lib.hid (show R=([],a',110)from by have:=HR1.out;simpa [hs1] using this);have hs2:1024< gz done:=by omega
     go_wp2_with fail;refine (dx _ p q B a' 0 110 HLj.out.cur).mono ?_;rintro E W5 ⟨rfl,hGW5⟩;rw [show cz 0 110=110 from rfl]at hGW5;have HW5:=Lib.hid hGW5;obtain ⟨_,_,yW50,yW51,yW52,_⟩:=hGW5.1.cells;clear hGW5;go_wp2_with fail;refine (dx _ p q B a' 110 3 HW5.out.1).mono ?_;rintro E W6 ⟨rfl,hGW6⟩;rw [show cz 110 3=110 from rfl]at hGW6;have HW6:=Lib.hid hGW6;obtain ⟨_,_,yW60,yW61,yW62,_⟩:=hGW6.1.cells;clear hGW6;go_wp2_with fail;go_ret;rw [HV.out];exact ⟨⟨_,rfl,Own.nil⟩,HW6.out.1,(HLj.out.g.trans HW5.out.2).trans HW6.out.2⟩
    ·by_cases hs2:1024< gz done
     ·have HV:=Lib.hid (show R=([],a',3)from by have:=HR1.out;simpa [hs1,hs2] using this);go_wp2_with fail;refine (dx _ p q B a' 0 3 HLj.out.cur).mono ?_;rintro E W5 ⟨rfl,hGW5⟩;rw [show cz 0 3=3 from rfl]at hGW5;have HW5:=Lib.hid hGW5;obtain ⟨_,_,yW50,yW51,yW52,_⟩:=hGW5.1.cells;clear hGW5;go_wp2_with fail;go_ret;rw [HV.out];exact ⟨⟨_,rfl,Own.nil⟩,HW5.out.1,HLj.out.g.trans HW5.out.2⟩
     ·have HV:=Lib.hid (show R=(expand done,a',0)from by have:=HR1.out;simpa [hs1,hs2] using this);go_wp2_with fail;obtain ⟨wo,rfl⟩:∃wo:World,wo=wr:=⟨_,rfl⟩;obtain ⟨A3,c3,rfl,hle3,hF3⟩:=HLj.out.o3.reads;obtain ⟨A4,c4,rfl,hle4,hF4⟩:=HLj.out.o4.reads;have hdl:=HLj.out.len;have HR3:=Lib.hid (kM hF3.now (by rw [List.length_map];omega));have HR4:=Lib.hid (kM hF4.now (by rw [List.length_map];omega));clear hF3 hF4
      have hall2:∀x∈done,(0≤x.1∧x.1≤4294967295)∧0≤x.2∧x.2≤255:=by
       have:=HALL.out;rw [←HT.out]at this;exact this
      have HALL2:=Lib.hid hall2;clear hall2;have hl3:(done.map (·.1)).length=done.length:=List.length_map _;have hl4:(done.map (·.2)).length=done.length:=List.length_map _;rw [hl3]at hle3;rw [hl4]at hle4;have HL3:=Lib.hid hl3;have HL4:=Lib.hid hl4;rw [hl3,hl4];clear hl3 hl4;go_loopw [9,10] (fun v9 i wx=>∃l:Nat,l≤done.length∧i= .int .i64 l∧Hid (Own (rng .u8) 5 wx wo.heap.size (fun _=>False) v9 (expand (done.take l)))∧Hid (Below wo.heap.size wo wx)) (fun _ i _=>done.length - (intOf i).toNat)
      case atStart=>exact ⟨0,Nat.zero_le _,rfl,by show Own _ _ _ _ _ _ (expand []);exact Own.nil,Below.refl _ _⟩
      case round=>
       obtain ⟨wx,rfl⟩:∃wx:World,wx=wr:=⟨_,rfl⟩;obtain ⟨l,hl,rfl,HO9,HBx⟩:=hrel;by_cases hll:l< done.length
       ·have hll2:(l:Int)<(done.length:Int):=by omega
        obtain ⟨b3,o3,n3,rfl,hc3,hx3⟩:=HR3.out.get l (by rw [HL3.out];exact hll);obtain ⟨b4,o4,n4,rfl,hc4,hx4⟩:=HR4.out.get l (by rw [HL4.out];exact hll);have hx3' :=hx3.out;have hx4' :=hx4.out;rw [List.getElem?_map,List.getElem?_eq_getElem hll]at hx3' hx4';have HE:=Lib.hid (show done[l]? =some (n3,n4)from by rw [List.getElem?_eq_getElem hll];simp only [Option.map_some,Option.some.injEq]at hx3' hx4';rw [←hx3',←hx4']);have hxa:=HALL2.out _ (List.mem_of_getElem? HE.out);clear hx3 hx4 hx3' hx4';obtain ⟨m,rfl⟩:=Int.eq_ofNat_of_zero_le hxa.1.1;have hm1:(m:Int)≤4294967295:=hxa.1.2;have HTY:=Lib.hid hxa.2;have hb3:=World.block_lt_of_cell? _ _ hc3;have hb4:=World.block_lt_of_cell? _ _ hc4;have H3:=Lib.hid hc3;have H4:=Lib.hid hc4;clear hxa hc3 hc4;go_wp2_with fail;go_loopw [9,11] (fun v9 i wy=>∃k:Nat,k≤m∧i= .int .u64 k∧Hid (Own (rng .u8) 5 wy wo.heap.size (fun _=>False) v9 (expand (done.take l)++List.replicate k n4))∧Hid (Below wo.heap.size wo wy)) (fun _ i _=>m - (intOf i).toNat)
        case atStart=>exact ⟨0,Nat.zero_le _,rfl,by rw [List.replicate_zero,List.append_nil];exact HO9,HBx⟩
        case round=>
         obtain ⟨k,hk,rfl,HOk,HBk⟩:=hrel;have x3:=aB HBk.out H3.out;have x4:=aB HBk.out H4.out;by_cases hlk:k< m
         ·have hlk2:(k:Int)<(m:Int):=by omega
          have HFk:FK (rng .u8) wr (fun q=>False∧some q≠u9.ownBlock) n4 [.int .u8 n4]:=fun _ _=>⟨rfl,by have:=HTY.out;simp [Lit.wf,IntKind.min,IntKind.max,IntKind.signed,IntKind.bits];omega⟩
          have hgs:wo.heap.size≤wr.heap.size:=HBk.out.size;have hbd:=oG (done.take l) (fun y hy=>(HALL2.out y (List.mem_of_mem_take hy)).1.2);rw [List.length_take]at hbd;have hown:∀q,u9.ownBlock=some q→wo.heap.size≤q:=fun q hq=>(Own.block HOk.out hq).1
          have hbd2:(expand (done.take l)++List.replicate k n4).length+1≤140737488355328:=by
           rw [List.length_append,List.length_replicate];have:min l done.length≤4096:=by omega
           have:4294967295 * min l done.length≤4294967295 * 4096:=Nat.mul_le_mul_left _ this;omega
          clear hbd;go_wp2_with (at_builtin;refine Own.append (d:=rng .u8) wo.heap.size rfl (.tmp 67) (.tmp 72) 22 5 _ 1 rfl Tryz.underlying22 jW rfl (by decide) (by decide) u9 _ n4 _ (fun _=>False) rfl rfl HFk HOk.out hgs (by omega) ?_;intro v1 w1 hown1 hg1 hat1);have HO5:=Lib.hid hown1;have HG5:=Lib.hid hg1;clear hown1 hg1 hat1 HFk;go_wp2_with fail;go_roundw
          case rel=>
           refine ⟨k+1,by omega,by go_num, ?_,HBk.out.grown HG5.out hgs hown⟩;rw [List.replicate_succ',←List.append_assoc];exact HO5.out
          case measure=>simp [intOf];omega
         ·obtain rfl:k=m:=by omega
          go_wp2_with fail;go_roundw
          case rel=>
           refine ⟨l+1,by omega,by go_num, ?_,HBk⟩;rw [List.take_add_one,HE.out];show Own _ _ _ _ _ _ (expand (done.take l++ [((k:Int),n4)]))
           rw [oZ];exact HOk.out
          case measure=>simp [intOf];omega
       ·obtain rfl:l=done.length:=by omega
        rw [List.take_length]at HO9;go_wp2_with fail;go_ret;rw [HV.out];exact ⟨⟨_,rfl,bX HO9.out (by omega)⟩,HLj.out.cur.grown' (aL HBx.out none) (by simp) (by simp),HLj.out.g.trans (aL HBx.out (some p))⟩
   ·have he2:(e' ==0)=false:=beq_eq_false_iff_ne.2 he;have HV:=Lib.hid (show R=([],a',e')from HR1.out.trans (if_neg he));have hf:∀k,cz e' k=e' :=fun k=>if_neg he
    have HFL:=Lib.hid (fun X k (h:Rdr X p q B a' e')=>by have:=dx X p q B a' e' k h;rw [hf]at this;exact this:∀X k,Rdr X p q B a' e' →Calls Tryz.prog 20 #[.pointer (some ⟨p,0,none⟩), .int .i64 k] X fun E w' =>E= .returned (.tuple #[])∧aF X w' p q B a' e');clear hf he hcon;by_cases hlt:j< c
    all_goals
     first
      |have hlt2:(j:Int)<(c:Int):=by omega
      |have hlt2:¬(j:Int)<(c:Int):=by omega
     by_cases hs1:4294967295< gz done
     ·have hs2:1024< gz done:=by omega
      go_wp2_with fail;refine (HFL.out _ _ HLj.out.cur).mono ?_;rintro E W5 ⟨rfl,hG5⟩;have HW5:=Lib.hid hG5;clear hG5;go_wp2_with fail;refine (HFL.out _ _ HW5.out.1).mono ?_;rintro E W6 ⟨rfl,hG6⟩;have HW6:=Lib.hid hG6;obtain ⟨_,_,y0,y1,y2,_⟩:=hG6.1.cells;clear hG6;go_wp2_with fail;go_ret;rw [HV.out];exact ⟨⟨_,rfl,Own.nil⟩,HW6.out.1,(HLj.out.g.trans HW5.out.2).trans HW6.out.2⟩
     ·by_cases hs2:1024< gz done
      ·go_wp2_with fail;refine (HFL.out _ _ HLj.out.cur).mono ?_;rintro E W5 ⟨rfl,hG5⟩;have HW5:=Lib.hid hG5;obtain ⟨_,_,y0,y1,y2,_⟩:=hG5.1.cells;clear hG5;go_wp2_with fail;go_ret;rw [HV.out];exact ⟨⟨_,rfl,Own.nil⟩,HW5.out.1,HLj.out.g.trans HW5.out.2⟩
      ·go_wp2_with fail;go_ret;rw [HV.out];exact ⟨⟨_,rfl,Own.nil⟩,HLj.out.cur,HLj.out.g⟩
theorem GX {B:List Int} (hB:aK B):jd (strOfNums B)=nJ B (B.length+1) 0:=by
 unfold jd;rw [strOfNums_size,yT hB.2]
theorem wO (W:World) (A:Option Addr) (c:Nat) (B:List Int) (hR:RdI W .u8 A B) (hB:aK B):
  Calls Tryz.prog 91 #[.slice A B.length c] W fun E w' =>(∃v:Int,E= .returned (.int .i64 v)∧(v< 0↔jd (strOfNums B)=false))∧Below W.heap.size W w' :=by
 obtain ⟨R,hRR⟩:∃R,R=jd (strOfNums B):=⟨_,rfl⟩;rw [←hRR];rw [GX hB]at hRR;have HRR:=Lib.hid hRR;have HR:=Lib.hid hR;have HB:=Lib.hid hB;have hl:=hB.1;clear hR hB hRR;go_enter Tryz.func91,Tryz.ntmps91;go_wp2_with fail;go_loopw [3,4] (fun n a wr=>∃(j pos f:Nat),n= .int .i64 j∧a= .int .i64 pos∧j≤pos∧pos≤B.length∧Hid (B.length< pos+f)∧Hid (R=nJ B f pos)∧Hid (Below W.heap.size W wr)) (fun _ a _=>B.length - (intOf a).toNat)
 case atStart=>exact ⟨0,0,B.length+1,rfl,rfl,Nat.le_refl _,Nat.zero_le _,Lib.hid (by omega),HRR,Below.refl _ _⟩
 case round=>
  obtain ⟨j,pos,f,rfl,rfl,hjp,hpl,HF,HE,HBw⟩:=hrel;by_cases hp:pos< B.length
  ·have hp' :(pos:Int)<(B.length:Int):=by omega
   have HN:=Lib.hid (CP wr A c B pos (HR.out.below HBw.out) HB.out hp);obtain ⟨f,rfl⟩:∃g,f=g+1:=⟨f - 1,by have:=HF.out;omega⟩;have HW:=Lib.hid (fun h=>Ak (a:=pos) HB.out.2 h);have HE2:=Lib.hid (show R=if 0≤(iQ B pos).1 then nJ B f (iQ B pos).2.toNat else false by rw [HE.out,nJ,if_pos hp]);generalize iQ B pos=r at *;obtain ⟨ch,nx⟩:=r;unfold vP at HN;dsimp only at HN HW HE2;by_cases h0:0≤ch
   ·have h0' :¬ch< 0:=by omega
    obtain ⟨n,rfl,h1,h2⟩:=HW.out h0;have HE3:=Lib.hid (show R=nJ B f (pos+n)by rw [HE2.out,if_pos h0,Int.toNat_natCast]);go_wp2_with fail;refine HN.out.mono ?_;rintro E w' ⟨rfl,hb⟩;have HB2:=Lib.hid (HBw.out.trans (hb.mono HBw.out.size));go_wp2_with fail;go_roundw
    case rel=>exact ⟨j+1,pos+n,f,by go_num,rfl,by omega,h2,Lib.hid (by have:=HF.out;omega),HE3,HB2⟩
    case measure=>simp [intOf];omega
   ·have h0' :ch< 0:=by omega
    have HE3:=Lib.hid (show R=false by rw [HE2.out,if_neg h0]);go_wp2_with fail;refine HN.out.mono ?_;rintro E w' ⟨rfl,hb⟩;have HB2:=Lib.hid (HBw.out.trans (hb.mono HBw.out.size));go_wp2_with fail;go_ret;exact ⟨⟨_,rfl,by rw [HE3.out];simp⟩,HB2.out⟩
  ·have hp' :¬(pos:Int)<(B.length:Int):=by omega
   have HE3:=Lib.hid (show R=true by rw [HE.out];cases f<;>simp [nJ,hp]);go_wp2_with fail;go_ret;exact ⟨⟨_,rfl,by rw [HE3.out];simp⟩,HBw.out⟩
theorem ym (B:List Int) (a:Nat) (e:Int):
  jI B a e=(let t:=aT B a e
   let e3:=if jd (strOfNums t.1)=true then t.2.2 else cz t.2.2 102
   if e3=0 then (strOfNums t.1,t.2.1,0)else (⟨#[]⟩,a,e3)):=by
 unfold jI fZ pK;by_cases he:e=0
 ·subst he;rw [if_pos rfl];dsimp only;generalize aT B a 0=t;obtain ⟨l,a2,e2⟩:=t;dsimp only;unfold cz;by_cases h1:jd (strOfNums l)=true<;>by_cases h2:e2=0<;>simp [h1,h2]
 ·have hp:aT B a e=([],a,e):=by
   unfold aT;rw [show az (aI B a) a e=(0,a,e)by rw [az,if_neg he]];unfold rdL;rw [if_neg he]
  rw [if_neg he,hp];unfold cz;simp [he]
theorem kQ (W:World) (p q:Nat) (B:List Int) (a:Nat) (e:Int) (hC:Rdr W p q B a e) (hB:aK B):
  Calls Tryz.prog 46 #[.pointer (some ⟨p,0,none⟩)] W (jw W p q B (.string (jI B a e).1) (jI B a e).2.1 (jI B a e).2.2):=by
 have HS:=Lib.hid (StR.start hC);have hab:=hC.2.1;have H1:=fq W p q B a 32 e hC hB (by decide) (by decide);simp only [show ∀a,bQ B a 32=aI B a from fun _=>rfl]at H1;have hub:=bP (a:=a) (e:=e) hB;have hpb:=fw hB a e;obtain ⟨R,hR⟩:∃R,R=jI B a e:=⟨_,rfl⟩;rw [←hR];rw [ym]at hR;unfold aT at hR hpb;generalize az (aI B a) a e=u at *;obtain ⟨uv,a1,e1⟩:=u;dsimp only at H1 hub hR hpb;obtain ⟨n,rfl⟩:=Int.eq_ofNat_of_zero_le hub.1;rw [Int.toNat_natCast]at hR hpb;have HT:=Lib.hid (fun X (hX:Rdr X p q B a1 e1)=>mM X p q B a1 n e1 hX hB (by omega));generalize rdL (cO B a1 n) a1 e1=t at *;obtain ⟨l,a2,e2⟩:=t;try dsimp only at HT hR hpb
 have HH1:=Lib.hid H1;have HPB:=Lib.hid hpb;obtain ⟨ok,hok⟩:∃ok,ok=jd (strOfNums l):=⟨_,rfl⟩;have HK:=Lib.hid (fun X A c (hX:ByQ X q A l)=>(hok ▸ wO X A c l ⟨by have:=hpb.1;omega,fun h=>by obtain ⟨o,h1,h2⟩:=hX h;exact ⟨q,o,h1,h2⟩⟩ hpb:Calls Tryz.prog 91 #[.slice A l.length c] X fun E w' =>(∃v:Int,E= .returned (.int .i64 v)∧(v< 0↔ok=false))∧Below X.heap.size X w'));rw [←hok]at hR;have HCV:=Lib.hid (fun X A c (hX:ByQ X q A l)=>dR X A l c ⟨by have:=hpb.1;omega,fun h=>by obtain ⟨o,h1,h2⟩:=hX h;exact ⟨q,o,h1,h2⟩⟩);have HR:=Lib.hid hR;obtain ⟨A9,c9,c0,c1,c2,f0,f1,f2,hle9,hq9,hlt,ha⟩:=hC.cells;clear H1 hub hC hB hR hpb hok hle9 hq9;go_enter Tryz.func46,Tryz.ntmps46;go_wp2_with fail;refine HH1.out.mono ?_;rintro E W1 ⟨rfl,hG⟩;replace HS:=Lib.hid (HS.out.goes hG);clear hG HH1 c0 c1 c2 f0 f1 f2 hlt;go_wp2_with fail;refine (HT.out _ HS.out.rd).mono ?_;rintro E W2 ⟨⟨A,c,rfl,hle,hby⟩,hG⟩;replace HS:=Lib.hid (HS.out.goes hG);have HBY:=Lib.hid hby;have HLE:=Lib.hid hle;clear hG hle hby;go_wp2_with fail;refine (HK.out W2 A c HBY.out).mono ?_;rintro E W3 ⟨⟨v,rfl,hv⟩,hb⟩;replace HS:=Lib.hid (HS.out.below hb);have hbs:=hb.size;replace HBY:=Lib.hid (ByQ.grown HBY.out (aL hb none) (by simp));clear hb
 cases ok with
 |true=>
  have hv' :¬v< 0:=by simpa using hv
  obtain ⟨A9,c9,c0,c1,c2,f0,f1,f2,hle9,hq9,hlt,ha⟩:=HS.out.rd.cells;clear hle9 hq9;by_cases h0:e2=0
  ·subst h0;have hRR:R=(strOfNums l,a2,0):=by rw [HR.out];simp
   have hcv:=HCV.out W3 A c HBY.out;go_wp2_with fail;go_ret;rw [hRR];exact ⟨rfl,HS.out.fin⟩
  ·have h0' :(e2 !=0)=true:=by simp;exact h0
   have hRR:R=(⟨#[]⟩,a,e2):=by rw [HR.out];simp [h0]
   go_wp2_with fail;refine (dV _ p q B a2 a e2 HS.out.rd hab).mono ?_;rintro E W4 ⟨rfl,hG⟩;rw [if_neg h0]at hG;replace HS:=Lib.hid (HS.out.goes hG);clear hG c0 c1 c2 f0 f1 f2 hlt;go_wp2_with fail;go_ret;rw [hRR];exact ⟨rfl,HS.out.fin⟩
 |false=>
  have hv' :v< 0:=by simpa using hv
  have h0:¬cz e2 102=0:=by unfold cz;split<;>simp [*]
  have hRR:R=(⟨#[]⟩,a,cz e2 102):=by rw [HR.out];simp [h0]
  go_wp2_with fail;refine (dx _ p q B a2 e2 102 HS.out.rd).mono ?_;rintro E W4 ⟨rfl,hG⟩;replace HS:=Lib.hid (HS.out.goes hG);generalize cz e2 102=e3 at *;have h0' :(e3 !=0)=true:=by simp;exact h0
  clear hG;obtain ⟨A9,c9,c0,c1,c2,f0,f1,f2,hle9,hq9,hlt,ha⟩:=HS.out.rd.cells;clear hle9 hq9;go_wp2_with fail;refine (dV _ p q B a2 a e3 HS.out.rd hab).mono ?_;rintro E W5 ⟨rfl,hG⟩;rw [if_neg h0]at hG;replace HS:=Lib.hid (HS.out.goes hG);clear hG c0 c1 c2 f0 f1 f2 hlt;go_wp2_with fail;go_ret;rw [hRR];exact ⟨rfl,HS.out.fin⟩
def zm {α:Type} (d:Kd α) (W:World) (p q:Nat) (B:List Int) (r:α×Nat×Int) (E:Ending) (w' :World):Prop:=
 (∃cs,E= .returned (.agg cs.toArray)∧FK d w' (fun k=>k=q∨W.heap.size≤k) r.1 cs)∧aF W w' p q B r.2.1 r.2.2
theorem Lc.nine {p b:Nat} {X:World} {t:TypeId} {v0 v1 v2 v3 v4 v5 v6 v7 v8:Value} (h:Lc p X b #[v0,v1,v2,v3,v4,v5,v6,v7,v8] t):
  (X.cell? ⟨b,0,none⟩=some v0∧X.cell? ⟨b,1,none⟩=some v1∧X.cell? ⟨b,2,none⟩=some v2∧X.cell? ⟨b,3,none⟩=some v3∧X.cell? ⟨b,4,none⟩=some v4∧X.cell? ⟨b,5,none⟩=some v5∧X.cell? ⟨b,6,none⟩=some v6∧X.cell? ⟨b,7,none⟩=some v7∧X.cell? ⟨b,8,none⟩=some v8)∧
  (X.frozen? ⟨b,0,none⟩=false∧X.frozen? ⟨b,1,none⟩=false∧X.frozen? ⟨b,2,none⟩=false∧X.frozen? ⟨b,3,none⟩=false∧X.frozen? ⟨b,4,none⟩=false∧X.frozen? ⟨b,5,none⟩=false∧X.frozen? ⟨b,6,none⟩=false∧X.frozen? ⟨b,7,none⟩=false∧X.frozen? ⟨b,8,none⟩=false)∧b< X.heap.size:=
 ⟨⟨h.c0,h.c1,h.c2,h.c3,h.c4,h.c5,h.c6,h.c7,h.c8⟩,⟨h.fz 0,h.fz 1,h.fz 2,h.fz 3,h.fz 4,h.fz 5,h.fz 6,h.fz 7,h.fz 8⟩,h.lt⟩
theorem rY (W:World) (p q:Nat) (B:List Int) (a:Nat) (e:Int) (hC:Rdr W p q B a e) (hB:aK B):
  Calls Tryz.prog 49 #[.pointer (some ⟨p,0,none⟩)] W (zm iF W p q B (kv B a e)):=by
 have hpl:=hC.lt;have HS:=Lib.hid (((StR.start hC).alloc (.cells #[.string ⟨#[]⟩, .string ⟨#[]⟩, .int .i64 0, .int .u32 0, .int .u32 0, .int .u32 0, .bool false, .int .u8 0, .bool false] 108)).alloc (.cells #[.string ⟨#[]⟩, .string ⟨#[]⟩, .int .i64 0, .int .u32 0, .int .u32 0, .int .u32 0, .bool false, .int .u8 0, .bool false] 108));have HO:=Lib.hid ((Lc.new (p:=p) W #[.string ⟨#[]⟩, .string ⟨#[]⟩, .int .i64 0, .int .u32 0, .int .u32 0, .int .u32 0, .bool false, .int .u8 0, .bool false] 108 hpl).alloc (.cells #[.string ⟨#[]⟩, .string ⟨#[]⟩, .int .i64 0, .int .u32 0, .int .u32 0, .int .u32 0, .bool false, .int .u8 0, .bool false] 108));have HX:=Lib.hid (Lc.newAt (p:=p) (W.alloc (.cells #[.string ⟨#[]⟩, .string ⟨#[]⟩, .int .i64 0, .int .u32 0, .int .u32 0, .int .u32 0, .bool false, .int .u8 0, .bool false] 108)) #[.string ⟨#[]⟩, .string ⟨#[]⟩, .int .i64 0, .int .u32 0, .int .u32 0, .int .u32 0, .bool false, .int .u8 0, .bool false] 108 (by rw [World.size_alloc];omega) (World.size_alloc _ _));obtain ⟨R,hR⟩:∃R,R=kv B a e:=⟨_,rfl⟩;rw [←hR];unfold kv dP at hR;have H1:=Lib.hid (fun X (h:Rdr X p q B a e)=>kQ X p q B a e h hB);generalize jI B a e=r0 at *;obtain ⟨nm,a1,e1⟩:=r0;dsimp only at hR;have H2:=Lib.hid (fun X (h:Rdr X p q B a1 e1)=>kQ X p q B a1 e1 h hB);generalize jI B a1 e1=r1 at *;obtain ⟨nn,a2,e2⟩:=r1;dsimp only at hR;have H3:=Lib.hid (fun X (h:Rdr X p q B a2 e2)=>zg X p q B a2 e2 h hB);have hkb:=yK (a:=a2) (e:=e2) hB;generalize knM B a2 e2=r2 at *;obtain ⟨kd,a3,e3⟩:=r2;dsimp only at hR hkb;have H4:=Lib.hid (fun X (h:Rdr X p q B a3 e3)=>oP X p q B a3 e3 h hB);have H5:=Lib.hid (fun X (h:Rdr X p q B a3 e3)=>qM X p q B a3 e3 h hB);have H6:=Lib.hid (fun X (h:Rdr X p q B a3 e3)=>lT X p q B a3 e3 h hB);have H7:=Lib.hid (fun X (h:Rdr X p q B a3 e3)=>oW X p q B a3 e3 h hB);have HRR:=Lib.hid hR;have HB:=Lib.hid hB;have HKB:=Lib.hid hkb;have hsz1:W.heap.size+1<((W.alloc (.cells #[.string ⟨#[]⟩, .string ⟨#[]⟩, .int .i64 0, .int .u32 0, .int .u32 0, .int .u32 0, .bool false, .int .u8 0, .bool false] 108)).alloc (.cells #[.string ⟨#[]⟩, .string ⟨#[]⟩, .int .i64 0, .int .u32 0, .int .u32 0, .int .u32 0, .bool false, .int .u8 0, .bool false] 108)).heap.size:=HX.out.lt;have z32:(0:Int)≤0∧(0:Int)≤4294967295:=by omega
 have z8:(0:Int)≤0∧(0:Int)≤255:=by omega
 clear hC hB hkb hR;go_enter Tryz.func49,Tryz.ntmps49;go_wp2_with fail;generalize (W.alloc (.cells #[.string ⟨#[]⟩, .string ⟨#[]⟩, .int .i64 0, .int .u32 0, .int .u32 0, .int .u32 0, .bool false, .int .u8 0, .bool false] 108)).alloc (.cells #[.string ⟨#[]⟩, .string ⟨#[]⟩, .int .i64 0, .int .u32 0, .int .u32 0, .int .u32 0, .bool false, .int .u8 0, .bool false] 108)=W0 at *;refine (H1.out _ HS.out.rd).mono ?_;rintro E W1 ⟨rfl,hG⟩;replace HO:=Lib.hid (HO.out.dF hG);replace HX:=Lib.hid (HX.out.dF hG);replace HS:=Lib.hid (HS.out.goes hG);clear hG H1;have x0:=HX.out.c0;have f0:=HX.out.fz 0;have lx:=HX.out.lt;go_wp2_with fail;clear x0 f0 lx;replace HO:=Lib.hid (HO.out.other (W.heap.size+1) 0 (.string nm) (by omega));replace HX:=Lib.hid (HX.out.s0 (.string nm));replace HS:=Lib.hid (HS.out.set (W.heap.size+1) 0 (.string nm) (by omega));generalize W1.setCell ⟨W.heap.size+1,0,none⟩ (.string nm)=W1b at *;refine (H2.out _ HS.out.rd).mono ?_;rintro E W2 ⟨rfl,hG⟩;replace HO:=Lib.hid (HO.out.dF hG);replace HX:=Lib.hid (HX.out.dF hG);replace HS:=Lib.hid (HS.out.goes hG);clear hG H2;have x0:=HX.out.c1;have f0:=HX.out.fz 1;have lx:=HX.out.lt;go_wp2_with fail;clear x0 f0 lx;replace HO:=Lib.hid (HO.out.other (W.heap.size+1) 1 (.string nn) (by omega));replace HX:=Lib.hid (HX.out.s1 (.string nn));replace HS:=Lib.hid (HS.out.set (W.heap.size+1) 1 (.string nn) (by omega));generalize W2.setCell ⟨W.heap.size+1,1,none⟩ (.string nn)=W2b at *;refine (H3.out _ HS.out.rd).mono ?_;rintro E W3 ⟨rfl,hG⟩;replace HO:=Lib.hid (HO.out.dF hG);replace HX:=Lib.hid (HX.out.dF hG);replace HS:=Lib.hid (HS.out.goes hG);clear hG H3;have HO3:=Lib.hid (HO.out.other (W.heap.size+1) 2 (.int .i64 kd) (by omega));have HX3:=Lib.hid (HX.out.s2 (.int .i64 kd));have HS3:=Lib.hid (HS.out.set (W.heap.size+1) 2 (.int .i64 kd) (by omega));have x0:=HX.out.c2;have f0:=HX.out.fz 2;have lx:=HX.out.lt;have hs3:=HS.out.sz;obtain ⟨A,c,c0,c1,c2,g0,g1,g2,hle,hq,hlt,ha⟩:=HS.out.rd.cells;clear hle hq HO HX HS;have hpn:p≠W.heap.size+1:=by omega
 by_cases he:e3=0
 ·subst he;have hR:=HRR.out;rw [if_pos rfl]at hR;by_cases k0:kd=0
  ·subst k0;rw [if_pos rfl]at hR;have hub:=bP (a:=a3) (e:=0) HB.out;generalize az (aI B a3) a3 0=r4 at *;obtain ⟨ty,a4,e4⟩:=r4;dsimp only at hR hub;have HUB:=Lib.hid hub;subst hR;clear hub;go_wp2_with fail;clear x0 f0 lx c0 c1 c2 g0 g1 g2 hlt;generalize W3.setCell ⟨W.heap.size+1,2,none⟩ (.int .i64 0)=W3b at *;refine (H4.out _ HS3.out.rd).mono ?_;rintro E W4 ⟨rfl,hG⟩;replace HO3:=Lib.hid (HO3.out.dF hG);replace HX3:=Lib.hid (HX3.out.dF hG);replace HS3:=Lib.hid (HS3.out.goes hG);clear hG;have hs4:=HS3.out.sz;obtain ⟨⟨x0,x1,x2,x3,x4,x5,x6,x7,x8⟩,⟨f0,f1,f2,f3,f4,f5,f6,f7,f8⟩,lx⟩:=HX3.out.nine;obtain ⟨⟨o0,o1,o2,o3,o4,o5,o6,o7,o8⟩,⟨i0,i1,i2,i3,i4,i5,i6,i7,i8⟩,lo⟩:=HO3.out.nine;go_wp2_with fail;refine bodyPost_ret (v:= .agg #[.string nm, .string nn, .int .i64 0, .int .u32 ty, .int .u32 0, .int .u32 0, .bool false, .int .u8 0, .bool false]) (by simp [results,Tryz.results49,go_sem,o0,o1,o2,o3,o4,o5,o6,o7,o8,lo]) rfl ⟨⟨[.string nm, .string nn, .int .i64 0, .int .u32 ty, .int .u32 0, .int .u32 0, .bool false, .int .u8 0, .bool false],rfl, ?_⟩,StR.fin (W:=W) ?_⟩
   ·exact iX (x:=⟨nm,nn,0,ty,(0,0,false),(0,false)⟩) HKB.out HUB.out z32 z32 z8
   ·(repeat (first|with_reducible exact HS3.out|(with_reducible refine StR.set ?_ _ _ _ ?_;rotate_left;omega)|with_reducible refine StR.alloc ?_ _|with_reducible refine StR.drew ?_))
  ·have k0' :(kd==0)=false:=by simp;exact k0
   rw [if_neg k0]at hR;by_cases k1:kd=1
   ·subst k1;rw [if_pos rfl]at hR;have hub:=ry HB.out a3 0;generalize gJ B a3 0=r4 at *;obtain ⟨⟨x,y,z⟩,a4,e4⟩:=r4;dsimp only at hR hub;dsimp only [gI]at H5;have HUB:=Lib.hid hub;subst hR;clear hub;go_wp2_with fail;clear x0 f0 lx c0 c1 c2 g0 g1 g2 hlt;generalize W3.setCell ⟨W.heap.size+1,2,none⟩ (.int .i64 1)=W3b at *;refine (H5.out _ HS3.out.rd).mono ?_;rintro E W4 ⟨rfl,hG⟩;replace HO3:=Lib.hid (HO3.out.dF hG);replace HX3:=Lib.hid (HX3.out.dF hG);replace HS3:=Lib.hid (HS3.out.goes hG);clear hG;have hs4:=HS3.out.sz;obtain ⟨⟨x0,x1,x2,x3,x4,x5,x6,x7,x8⟩,⟨f0,f1,f2,f3,f4,f5,f6,f7,f8⟩,lx⟩:=HX3.out.nine;obtain ⟨⟨o0,o1,o2,o3,o4,o5,o6,o7,o8⟩,⟨i0,i1,i2,i3,i4,i5,i6,i7,i8⟩,lo⟩:=HO3.out.nine;go_wp2_with fail;refine bodyPost_ret (v:= .agg #[.string nm, .string nn, .int .i64 1, .int .u32 0, .int .u32 x, .int .u32 y, .bool z, .int .u8 0, .bool false]) (by simp [results,Tryz.results49,go_sem,o0,o1,o2,o3,o4,o5,o6,o7,o8,lo]) rfl ⟨⟨[.string nm, .string nn, .int .i64 1, .int .u32 0, .int .u32 x, .int .u32 y, .bool z, .int .u8 0, .bool false],rfl, ?_⟩,StR.fin (W:=W) ?_⟩
    ·exact iX (x:=⟨nm,nn,1,0,(x,y,z),(0,false)⟩) HKB.out z32 HUB.out.1 HUB.out.2 z8
    ·(repeat (first|with_reducible exact HS3.out|(with_reducible refine StR.set ?_ _ _ _ ?_;rotate_left;omega)|with_reducible refine StR.alloc ?_ _|with_reducible refine StR.drew ?_))
   ·have k1' :(kd==1)=false:=by simp;exact k1
    rw [if_neg k1]at hR;by_cases k2:kd=2
    ·subst k2;rw [if_pos rfl]at hR;have hub:=oM HB.out a3 0;generalize fB B a3 0=r4 at *;obtain ⟨⟨x,y,z⟩,a4,e4⟩:=r4;dsimp only at hR hub;dsimp only [gI]at H6;have HUB:=Lib.hid hub;subst hR;clear hub;go_wp2_with fail;clear x0 f0 lx c0 c1 c2 g0 g1 g2 hlt;generalize W3.setCell ⟨W.heap.size+1,2,none⟩ (.int .i64 2)=W3b at *;refine (H6.out _ HS3.out.rd).mono ?_;rintro E W4 ⟨rfl,hG⟩;replace HO3:=Lib.hid (HO3.out.dF hG);replace HX3:=Lib.hid (HX3.out.dF hG);replace HS3:=Lib.hid (HS3.out.goes hG);clear hG;have hs4:=HS3.out.sz;obtain ⟨⟨x0,x1,x2,x3,x4,x5,x6,x7,x8⟩,⟨f0,f1,f2,f3,f4,f5,f6,f7,f8⟩,lx⟩:=HX3.out.nine;obtain ⟨⟨o0,o1,o2,o3,o4,o5,o6,o7,o8⟩,⟨i0,i1,i2,i3,i4,i5,i6,i7,i8⟩,lo⟩:=HO3.out.nine;go_wp2_with fail;refine bodyPost_ret (v:= .agg #[.string nm, .string nn, .int .i64 2, .int .u32 0, .int .u32 x, .int .u32 y, .bool z, .int .u8 0, .bool false]) (by simp [results,Tryz.results49,go_sem,o0,o1,o2,o3,o4,o5,o6,o7,o8,lo]) rfl ⟨⟨[.string nm, .string nn, .int .i64 2, .int .u32 0, .int .u32 x, .int .u32 y, .bool z, .int .u8 0, .bool false],rfl, ?_⟩,StR.fin (W:=W) ?_⟩
     ·exact iX (x:=⟨nm,nn,2,0,(x,y,z),(0,false)⟩) HKB.out z32 HUB.out.1 HUB.out.2 z8
     ·(repeat (first|with_reducible exact HS3.out|(with_reducible refine StR.set ?_ _ _ _ ?_;rotate_left;omega)|with_reducible refine StR.alloc ?_ _|with_reducible refine StR.drew ?_))
    ·have k2' :(kd==2)=false:=by simp;exact k2
     rw [if_neg k2]at hR;by_cases k3:kd=3
     ·subst k3;rw [if_pos rfl]at hR;have hub:=uV HB.out a3 0;generalize jl B a3 0=r4 at *;obtain ⟨⟨x,z⟩,a4,e4⟩:=r4;dsimp only at hR hub H7;have HUB:=Lib.hid hub;subst hR;clear hub;go_wp2_with fail;clear x0 f0 lx c0 c1 c2 g0 g1 g2 hlt;generalize W3.setCell ⟨W.heap.size+1,2,none⟩ (.int .i64 3)=W3b at *;refine (H7.out _ HS3.out.rd).mono ?_;rintro E W4 ⟨rfl,hG⟩;replace HO3:=Lib.hid (HO3.out.dF hG);replace HX3:=Lib.hid (HX3.out.dF hG);replace HS3:=Lib.hid (HS3.out.goes hG);clear hG;have hs4:=HS3.out.sz;obtain ⟨⟨x0,x1,x2,x3,x4,x5,x6,x7,x8⟩,⟨f0,f1,f2,f3,f4,f5,f6,f7,f8⟩,lx⟩:=HX3.out.nine;obtain ⟨⟨o0,o1,o2,o3,o4,o5,o6,o7,o8⟩,⟨i0,i1,i2,i3,i4,i5,i6,i7,i8⟩,lo⟩:=HO3.out.nine;go_wp2_with fail;refine bodyPost_ret (v:= .agg #[.string nm, .string nn, .int .i64 3, .int .u32 0, .int .u32 0, .int .u32 0, .bool false, .int .u8 x, .bool z]) (by simp [results,Tryz.results49,go_sem,o0,o1,o2,o3,o4,o5,o6,o7,o8,lo]) rfl ⟨⟨[.string nm, .string nn, .int .i64 3, .int .u32 0, .int .u32 0, .int .u32 0, .bool false, .int .u8 x, .bool z],rfl, ?_⟩,StR.fin (W:=W) ?_⟩
      ·exact iX (x:=⟨nm,nn,3,0,(0,0,false),(x,z)⟩) HKB.out z32 z32 z32 HUB.out
      ·(repeat (first|with_reducible exact HS3.out|(with_reducible refine StR.set ?_ _ _ _ ?_;rotate_left;omega)|with_reducible refine StR.alloc ?_ _|with_reducible refine StR.drew ?_))
     ·have k3' :(kd==3)=false:=by simp;exact k3
      rw [if_neg k3]at hR;subst hR;go_upto_region 5 with fail;clear x0 f0 lx c0 c1 c2 g0 g1 g2 hlt;generalize W3.setCell ⟨W.heap.size+1,2,none⟩ (.int .i64 kd)=W3b at *;obtain ⟨⟨x0,x1,x2,x3,x4,x5,x6,x7,x8⟩,⟨f0,f1,f2,f3,f4,f5,f6,f7,f8⟩,lx⟩:=HX3.out.nine;obtain ⟨⟨o0,o1,o2,o3,o4,o5,o6,o7,o8⟩,⟨i0,i1,i2,i3,i4,i5,i6,i7,i8⟩,lo⟩:=HO3.out.nine;obtain ⟨A,c,c0,c1,c2,g0,g1,g2,hle,hq,hlt,ha⟩:=HS3.out.rd.cells;clear hle hq;have hs4:=HS3.out.sz;go_wp2_with fail;refine bodyPost_ret (v:= .agg #[.string nm, .string nn, .int .i64 kd, .int .u32 0, .int .u32 0, .int .u32 0, .bool false, .int .u8 0, .bool false]) (by simp [results,Tryz.results49,go_sem,o0,o1,o2,o3,o4,o5,o6,o7,o8,lo]) rfl ⟨⟨[.string nm, .string nn, .int .i64 kd, .int .u32 0, .int .u32 0, .int .u32 0, .bool false, .int .u8 0, .bool false],rfl, ?_⟩,StR.fin (W:=W) ?_⟩
      ·exact iX (x:=⟨nm,nn,kd,0,(0,0,false),(0,false)⟩) HKB.out z32 z32 z32 z8
      ·(repeat (first|with_reducible exact HS3.out|(with_reducible refine StR.set ?_ _ _ _ ?_;rotate_left;omega)|with_reducible refine StR.alloc ?_ _|with_reducible refine StR.drew ?_))
 ·have he' :(e3 !=0)=true:=by simp;exact he
  have hR:=HRR.out;rw [if_neg he]at hR;subst hR;go_upto_region 5 with fail;clear x0 f0 lx c0 c1 c2 g0 g1 g2 hlt;generalize W3.setCell ⟨W.heap.size+1,2,none⟩ (.int .i64 kd)=W3b at *;obtain ⟨⟨x0,x1,x2,x3,x4,x5,x6,x7,x8⟩,⟨f0,f1,f2,f3,f4,f5,f6,f7,f8⟩,lx⟩:=HX3.out.nine;obtain ⟨⟨o0,o1,o2,o3,o4,o5,o6,o7,o8⟩,⟨i0,i1,i2,i3,i4,i5,i6,i7,i8⟩,lo⟩:=HO3.out.nine;obtain ⟨A,c,c0,c1,c2,g0,g1,g2,hle,hq,hlt,ha⟩:=HS3.out.rd.cells;clear hle hq;have hs4:=HS3.out.sz;go_wp2_with fail;refine bodyPost_ret (v:= .agg #[.string nm, .string nn, .int .i64 kd, .int .u32 0, .int .u32 0, .int .u32 0, .bool false, .int .u8 0, .bool false]) (by simp [results,Tryz.results49,go_sem,o0,o1,o2,o3,o4,o5,o6,o7,o8,lo]) rfl ⟨⟨[.string nm, .string nn, .int .i64 kd, .int .u32 0, .int .u32 0, .int .u32 0, .bool false, .int .u8 0, .bool false],rfl, ?_⟩,StR.fin (W:=W) ?_⟩
  ·exact iX (x:=⟨nm,nn,kd,0,(0,0,false),(0,false)⟩) HKB.out z32 z32 z32 z8
  ·(repeat (first|with_reducible exact HS3.out|(with_reducible refine StR.set ?_ _ _ _ ?_;rotate_left;omega)|with_reducible refine StR.alloc ?_ _|with_reducible refine StR.drew ?_))
theorem Dh {B:List Int} {a:Nat} {e:Int} (he:¬e=0):l8 B a e=([],a,e):=by
 unfold l8;rw [show az (aG B a) a e=(0,a,e)by rw [az,if_neg he]];simp [fH,he]
theorem Bd {sat:Bool} {B:List Int} {a:Nat} {e:Int} (he:¬e=0):eX sat B a e=([],a,e):=by
 unfold eX;rw [gN _ _ _ _ _ _ he];simp [he]
theorem xV (sat:Bool) (B:List Int) (a:Nat) (e:Int):
  jg sat B a e=(let t:=aT B a e
   let l:=l8 t.1 0 t.2.2
   let x:=eX sat t.1 l.2.1 l.2.2
   (⟨0,l.1,x.1⟩,t.2.1,if t.2.2=0 then eH x.2 t.1.length else t.2.2)):=by
 unfold jg lW;dsimp only;split
 next h=>rw [h]
 next h=>rw [Dh h];dsimp only;rw [Bd h]
theorem StR.Hq {W X Y:World} {p q p2:Nat} {B L:List Int} {a a2:Nat} {e e2:Int} (h:StR W X p q B a e) (hG:aF X Y p2 q L a2 e2) (hp:W.heap.size≤p2):StR W Y p q B a e:=h.grown hG.2 (fun k hk=>by injection hk with hk;omega)
theorem jy {α:Type} {d:Kd α} {X Y:World} {ok:Nat→Prop} {p q:Nat} {B:List Int} {a:Nat} {e:Int} {A:Option Addr} {xs:List α} (h:FC d X ok A xs) (hG:aF X Y p q B a e) (hp:∀k,ok k→k≠p):FC d Y ok A xs:=
 Ft.step h (bS hG.2 (fun k hk e=>by injection e with e;exact hp k hk e))
theorem Ac (W:World) (p q:Nat) (sat:Bool) (B:List Int) (a:Nat) (e:Int) (hC:Rdr W p q B a e) (hB:aK B) (hq:q< W.heap.size):
  Calls Tryz.prog 56 #[.pointer (some ⟨p,0,none⟩), .bool sat] W (zm jo W p q B (jg sat B a e)):=by
 have hpl:=hC.lt;have HS:=Lib.hid ((StR.start hC).alloc (.cells #[.int .u32 0, .slice none 0 0, .slice none 0 0] 87));have HO:=Lib.hid (Lc.new (p:=p) W #[.int .u32 0, .slice none 0 0, .slice none 0 0] 87 hpl);obtain ⟨R,hR⟩:∃R,R=jg sat B a e:=⟨_,rfl⟩;rw [←hR];rw [xV]at hR;have hLB:=fw hB a e;have HP:=Lib.hid (fun X (h:Rdr X p q B a e) (hx:q< X.heap.size)=>qh X p q B a e h hB hx);generalize aT B a e=t at *;obtain ⟨L,a2,e2⟩:=t;dsimp only at hR hLB HP;have HL:=Lib.hid (fun X p2 (h:Rdr X p2 q L 0 e2)=>vV X p2 q L 0 e2 h hLB);generalize l8 L 0 e2=l at *;obtain ⟨ls,b1,f1⟩:=l;dsimp only at hR HL;have HX:=Lib.hid (fun X p2 (h:Rdr X p2 q L b1 f1)=>mI X p2 q sat L b1 f1 h hLB);generalize eX sat L b1 f1=x at *;obtain ⟨bd,b2,f2⟩:=x;dsimp only at hR HX;have HR:=Lib.hid hR;have hl:=hLB.1;have hq2:q<(W.alloc (.cells #[.int .u32 0, .slice none 0 0, .slice none 0 0] 87)).heap.size:=by rw [World.size_alloc];omega
 have hz2:W.heap.size<(W.alloc (.cells #[.int .u32 0, .slice none 0 0, .slice none 0 0] 87)).heap.size:=by rw [World.size_alloc];omega
 have hpq:=hC.1;clear hC hB hR hLB;go_enter Tryz.func56,Tryz.ntmps56;go_wp2_with fail;generalize W.alloc (.cells #[.int .u32 0, .slice none 0 0, .slice none 0 0] 87)=W0 at *;refine (HP.out _ HS.out.rd hq2).mono ?_;rintro E W1 ⟨⟨p2,rfl,hp2,hQ⟩,hG⟩;replace HO:=Lib.hid (HO.out.dF hG);replace HS:=Lib.hid ((HS.out.goes hG).alloc (.cells #[.int .u32 0, .slice none 0 0, .slice none 0 0] 87));replace HO:=Lib.hid (HO.out.alloc (.cells #[.int .u32 0, .slice none 0 0, .slice none 0 0] 87));have hs1:W0.heap.size≤W1.heap.size:=hG.2.size;have hp2l:=hQ.lt;have HF:=Lib.hid (Lc.new (p:=p) W1 #[.int .u32 0, .slice none 0 0, .slice none 0 0] 87 (by omega));have HQ:=Lib.hid (hQ.alloc (.cells #[.int .u32 0, .slice none 0 0, .slice none 0 0] 87));have hz1:W1.heap.size<(W1.alloc (.cells #[.int .u32 0, .slice none 0 0, .slice none 0 0] 87)).heap.size:=by rw [World.size_alloc];omega
 clear hG hQ HP;go_wp2_with fail;generalize hY:W1.alloc (.cells #[.int .u32 0, .slice none 0 0, .slice none 0 0] 87)=Y1 at *;clear hY;refine (HL.out _ _ HQ.out).mono ?_;rintro E W2 ⟨⟨v1,rfl,ho1⟩,hG⟩;obtain ⟨A1,k1,rfl,hl1,hF1⟩:=ho1.reads;have HF1:=Lib.hid (Ft.mono hF1 (ok' :=fun k=>Y1.heap.size≤k) (fun k hk=>by rcases hk with hk|hk;exact hk.elim;omega));have HL1:=Lib.hid hl1;have hs2:Y1.heap.size≤W2.heap.size:=hG.2.size;have HQ2:=Lib.hid ((show Rdr W2 p2 q L b1 f1 from hG.1).other W1.heap.size 1 (.slice A1 ls.length k1) (by omega) (fun _=>by omega));have HS2:=Lib.hid ((HS.out.Hq hG (by omega)).set W1.heap.size 1 (.slice A1 ls.length k1) (by omega));have HO2:=Lib.hid ((HO.out.grown hG.2 (by simp;omega)).other W1.heap.size 1 (.slice A1 ls.length k1) (by omega));have HF2:=Lib.hid (HF.out.grown hG.2 (by simp;omega));have x0:=HF2.out.c1;have f0:=HF2.out.fz 1;have lx:=HF2.out.lt;dsimp only at *;clear hG ho1 hF1 hl1 HS HO HF HQ HL;go_wp2_with fail;clear x0 f0 lx;replace HF2:=Lib.hid (HF2.out.s1 (.slice A1 ls.length k1));replace HF1:=Lib.hid (fe HF1.out W1.heap.size 1 (.slice A1 ls.length k1) (fun k hk=>by have hk2:Y1.heap.size≤k:=hk;omega));have hs2b:(W2.setCell ⟨W1.heap.size,1,none⟩ (.slice A1 ls.length k1)).heap.size=W2.heap.size:=by simp [World.setCell]
 generalize W2.setCell ⟨W1.heap.size,1,none⟩ (.slice A1 ls.length k1)=Y2 at *;refine (HX.out _ _ HQ2.out).mono ?_;rintro E W3 ⟨⟨A2,k2,rfl,hl2,hF2⟩,hG⟩;have HB2:=Lib.hid (Ft.mono hF2 (ok' :=fun k=>Y1.heap.size≤k) (fun k (hk:Y2.heap.size≤k)=>by omega));have HL2:=Lib.hid hl2;have hs3:Y2.heap.size≤W3.heap.size:=hG.2.size;replace HF1:=Lib.hid (jy HF1.out hG (fun k (hk:Y1.heap.size≤k)=>by omega));have HQ3:=Lib.hid ((show Rdr W3 p2 q L b2 f2 from hG.1).other W1.heap.size 2 (.slice A2 bd.length k2) (by omega) (fun _=>by omega));have HS3:=Lib.hid ((HS2.out.Hq hG (by omega)).set W1.heap.size 2 (.slice A2 bd.length k2) (by omega));have HO3:=Lib.hid ((HO2.out.grown hG.2 (by simp;omega)).other W1.heap.size 2 (.slice A2 bd.length k2) (by omega));have HF3:=Lib.hid (HF2.out.grown hG.2 (by simp;omega));have x0:=HF3.out.c2;have f0:=HF3.out.fz 2;have lx:=HF3.out.lt;dsimp only at *;clear hG hF2 hl2 HS2 HO2 HF2 HQ2 HX;go_wp2_with fail;clear x0 f0 lx;replace HF3:=Lib.hid (HF3.out.s2 (.slice A2 bd.length k2));replace HF1:=Lib.hid (fe HF1.out W1.heap.size 2 (.slice A2 bd.length k2) (fun k hk=>by have hk2:Y1.heap.size≤k:=hk;omega));replace HB2:=Lib.hid (fe HB2.out W1.heap.size 2 (.slice A2 bd.length k2) (fun k hk=>by have hk2:Y1.heap.size≤k:=hk;omega));have hs3b:(W3.setCell ⟨W1.heap.size,2,none⟩ (.slice A2 bd.length k2)).heap.size=W3.heap.size:=by simp [World.setCell]
 generalize W3.setCell ⟨W1.heap.size,2,none⟩ (.slice A2 bd.length k2)=Y3 at *;refine (mf Y3 p q p2 B L a2 b2 e2 f2 HS3.out.rd HQ3.out (by omega) hl).mono ?_;rintro E W4 ⟨rfl,hG⟩;replace HF1:=Lib.hid (jy HF1.out hG (fun k (hk:Y1.heap.size≤k)=>by omega));replace HB2:=Lib.hid (jy HB2.out hG (fun k (hk:Y1.heap.size≤k)=>by omega));replace HS3:=Lib.hid (HS3.out.goes hG);replace HF3:=Lib.hid (HF3.out.dF hG);replace HO3:=Lib.hid (HO3.out.dF hG);clear hG HQ3;have x0:=HF3.out.c0;have x1:=HF3.out.c1;have x2:=HF3.out.c2;have lx:=HF3.out.lt;have o0:=HO3.out.c0;have o1:=HO3.out.c1;have o2:=HO3.out.c2;have i0:=HO3.out.fz 0;have i1:=HO3.out.fz 1;have i2:=HO3.out.fz 2;have lo:=HO3.out.lt;go_wp2_with fail;refine bodyPost_ret (v:= .agg #[.int .u32 0, .slice A1 ls.length k1, .slice A2 bd.length k2]) (by simp [results,Tryz.results56,go_sem,o0,o1,o2,lo]) rfl ?_;rw [HR.out];refine ⟨⟨[.int .u32 0, .slice A1 ls.length k1, .slice A2 bd.length k2],rfl, ?_⟩,StR.fin (W:=W) ?_⟩
 ·have hke:∀k,Y1.heap.size≤k→k≠W.heap.size:=fun k hk=>by omega
  refine CJ (x:=⟨0,ls,bd⟩) (show (Lit.int .u32 0).wf=true by decide) (Ft.mono (ok:=fun k=>Y1.heap.size≤k) ?_ ?_) HL1.out (Ft.mono (ok:=fun k=>Y1.heap.size≤k) ?_ ?_) HL2.out
  ·exact fe (fe (fe HF1.out _ _ _ hke) _ _ _ hke) _ _ _ hke
  ·exact fun k (hk:Y1.heap.size≤k)=> .inr (by omega)
  ·exact fe (fe (fe HB2.out _ _ _ hke) _ _ _ hke) _ _ _ hke
  ·exact fun k (hk:Y1.heap.size≤k)=> .inr (by omega)
 ·(repeat (first|with_reducible exact HS3.out|(with_reducible refine StR.set ?_ _ _ _ ?_;rotate_left;omega)|with_reducible refine StR.alloc ?_ _|with_reducible refine StR.drew ?_))
end Go.Proofs.YtofaiocffifhfaaGreat
section
namespace Go.Proofs.YtofaiocffifhfaaGreat
open Go.RowKit Go.Shelf YtofaiocffifhfaaGreatB Go.Proofs.YtofaiocffifhfaaGreatW.PrintWords
structure LSC (W:World) (p q m i:Nat) (mc:Array Value):Prop where
 hp:p< W.heap.size
 hq:q< W.heap.size
 hm:m< W.heap.size
 mp:m≠p
 mq:m≠q
 pq:p≠q
 hi:i< mc.size
structure LM {α:Type} (d:Kd α) (t:TypeId) (W:World) (p q m i:Nat) (B:List Int) (mc:Array Value) (v:Value) (done:List α) (a:Nat) (e:Int) (X:World):Prop where
 own:Own d t X W.heap.size (fun k=>k=q∨W.heap.size≤k) v done
 rd:Rdr X p q B a e
 g:G2 W X p m
 blk:Blk X m (mc.setIfInBounds i v) 78
structure LS {α:Type} (d:Kd α) (t:TypeId) (rd:Nat→Int→α×Nat×Int) (W:World) (p q m i:Nat) (B:List Int) (mc:Array Value) (tg:List α×Nat×Int) (c j:Nat) (v:Value) (done:List α) (a:Nat) (e:Int) (X:World):Prop where
 lm:LM d t W p q m i B mc v done a e X
 t:(done++(lsM rd (c - j) a e).1,(lsM rd (c - j) a e).2)=tg
 len:done.length≤j
def lQ {α:Type} (d:Kd α) (t:TypeId) (W:World) (p q m:Nat) (mc:Array Value) (i:Nat) (B:List Int) (r:List α×Nat×Int) (E:Ending) (w' :World):Prop:=
 E= .returned (.tuple #[])∧(∃v,Own d t w' W.heap.size (fun k=>k=q∨W.heap.size≤k) v r.1∧Blk w' m (mc.setIfInBounds i v) 78)∧Rdr w' p q B r.2.1 r.2.2∧G2 W w' p m
section
variable {α:Type} {d:Kd α} {t:TypeId} {rd:Nat→Int→α×Nat×Int} {W X Y w1:World} {p q m i:Nat} {B:List Int} {mc:Array Value} {tg:List α×Nat×Int} {c j:Nat} {v v1:Value} {done done1:List α} {a a2:Nat} {e e2:Int}
theorem LM.start (hC:Rdr W p q B a e) (hm:Blk W m mc 78) (hi:mc[i]? =some (.slice none 0 0)):LM d t W p q m i B mc (.slice none 0 0) [] a e W:=
 ⟨Own.nil,hC,G2.refl _ _ _,by
  have:mc.setIfInBounds i (.slice none 0 0)=mc:=by
   obtain ⟨hlt,he⟩:=Array.getElem?_eq_some_iff.1 hi;apply Array.ext_getElem?;intro k;rw [Array.getElem?_setIfInBounds];split
   next h=>subst h;rw [hi]
   next=>rfl
  rw [this]
  exact hm⟩
theorem LM.vb (h:LM d t W p q m i B mc v done a e X):∀k,v.ownBlock=some k→W.heap.size≤k∧k< X.heap.size:=fun _ hk=>Own.block h.own hk
theorem LM.drew (h:LM d t W p q m i B mc v done a e X):LM d t W p q m i B mc v done a e X.drew:=
 ⟨h.own.below ((Below.refl _ _).drew),qx h.rd,h.g.grown (show X.grownBy X.drew none from ⟨rfl,rfl,rfl,Nat.le_refl _,fun _ _ _=>rfl⟩) (fun r e=>by cases e),h.blk.drew⟩
theorem LM.goes (h:LM d t W p q m i B mc v done a e X) (k:LSC W p q m i mc) (hG:aF X Y p q B a2 e2):LM d t W p q m i B mc v done a2 e2 Y:=
 ⟨h.own.grown hG.2 (.inr (fun e=>by have h1:=(h.vb _ e).1;have h2:=k.hp;omega)) (fun x hx e=>by injection e with e;have h2:=k.hp;have h3:=k.pq;omega),hG.1,h.g.grown hG.2 (fun r e=> .inl (by injection e with e;exact e.symm)),h.blk.grown hG.2 (fun e=>k.mp (by injection e))⟩
theorem LM.look (h:LM d t W p q m i B mc v done a e X) (k:LSC W p q m i mc) (hg:X.grownBy Y v.ownBlock):Blk Y m (mc.setIfInBounds i v) 78:=
 h.blk.grown hg (fun e=>by have h1:=(h.vb _ e.symm).1;have h2:=k.hm;omega)
theorem LM.store (h:LM d t W p q m i B mc v done a e X) (k:LSC W p q m i mc) (hO:Own d t w1 W.heap.size (fun k=>k=q∨W.heap.size≤k) v1 done1) (hg:X.grownBy w1 v.ownBlock):LM d t W p q m i B mc v1 done1 a e (w1.setCell ⟨m,i,none⟩ v1):=by
 have hv:=h.vb;have h1:=k.hp;have h2:=k.hq;have h3:=k.hm;have h4:=k.mp;have h5:=k.mq;refine ⟨hO.grown (bA w1 m i v1) (.inr (fun e=>by have:=(Own.block hO e).1;omega)) (fun x hx e=>by injection e with e;omega), ?_, ?_, ?_⟩
 ·exact (h.rd.grown' hg (fun e=>by have:=(hv _ e.symm).1;omega) (fun _ e=>by have:=(hv _ e.symm).1;omega)).other m i v1 (fun e=>h4 e.symm) (fun _ e=>h5 e.symm)
 ·exact (h.g.grown hg (fun r e=> .inr (.inr (hv r e).1))).grown (bA w1 m i v1) (fun r e=>by injection e with e;exact .inr (.inl e.symm))
 ·have:=(h.look k hg).set i v1;rw [Array.setIfInBounds_setIfInBounds]at this;exact this
theorem LM.at_ (h:Blk X m (mc.setIfInBounds i v) 78) (k:LSC W p q m i mc):X.cell? ⟨m,i,none⟩=some v:=(Blk.cell h i).trans (by have:=k.hi;simp [this])
theorem LM.fk {x:α} {cs:List Value} (h:LM d t W p q m i B mc v done a e X) (k:LSC W p q m i mc) (hv:FK d Y (fun k=>k=q∨X.heap.size≤k) x cs):FK d Y (fun k=>(k=q∨W.heap.size≤k)∧some k≠v.ownBlock) x cs:=
 Ft.mono hv (fun y hy=>⟨by have:=h.g.size;rcases hy with hy|hy;exact .inl hy;exact .inr (by omega),fun e=>by have h1:=h.vb _ e.symm;have h2:=k.hq;omega⟩)
theorem LS.step {x:α} (h:LS d t rd W p q m i B mc tg c j v done a 0 X) (hL:LM d t W p q m i B mc v1 (done++ [x]) a2 e2 Y) (hst:rd a 0=(x,a2,e2)) (hjc:j< c):LS d t rd W p q m i B mc tg c (j+1) v1 (done++ [x]) a2 e2 Y:=
 ⟨hL,by
  have ht:=h.t;rw [show c - j=(c - (j+1))+1 by omega,lsM,if_pos rfl,hst]at ht;rw [←ht]
  simp,by have:=h.len;rw [List.length_append];simp only [List.length_cons,List.length_nil];omega⟩
theorem LS.fin {R:List α×Nat×Int} (h:LS d t rd W p q m i B mc R c j v done a e X) (hz:j=c∨¬e=0):lQ d t W p q m mc i B R (.returned (.tuple #[])) X:=by
 have ht:=h.t
 have hz:lsM rd (c - j) a e=([],a,e):=by
  rcases hz with hz|hz
  ·rw [hz,Nat.sub_self];rfl
  ·exact gV _ _ _ _ (by simpa using hz)
 rw [hz,List.append_nil]at ht;subst ht;exact ⟨rfl,⟨v,h.lm.own,h.lm.blk⟩,h.lm.rd,h.lm.g⟩
end
end Go.Proofs.YtofaiocffifhfaaGreat
end
namespace Go.Proofs.YtofaiocffifhfaaGreat
open Go.RowKit Go.Shelf YtofaiocffifhfaaGreatB Go.Proofs.YtofaiocffifhfaaGreatW.PrintWords
theorem IJ (W:World) (p q m:Nat) (sat:Bool) (B:List Int) (a:Nat) (e:Int) (mc:Array Value) (hC:Rdr W p q B a e) (hB:aK B) (hm:Blk W m mc 78) (hi:mc[5]? =some (.slice none 0 0)) (hmp:m≠p) (hmq:m≠q) (hq:q< W.heap.size):
  Calls Tryz.prog 23 #[.pointer (some ⟨m,0,none⟩), .int .i64 6, .pointer (some ⟨p,0,none⟩), .bool sat] W (lQ gH 116 W p q m mc 5 B (bq (gZ sat B) B a e)):=by
 have HK0:=Lib.hid (⟨hC.lt,hq,hm.lt,hmp,hmq,hC.1,(Array.getElem?_eq_some_iff.1 hi).1⟩:LSC W p q m 5 mc);have HM0:=Lib.hid (LM.start (d:=gH) (t:=116) hC hm hi);have H1:=Lib.hid (dM W p q B a e hC hB);have hcb:=bK (a:=a) (e:=e) hB;have HBB:=Lib.hid hB;obtain ⟨rd,hrd⟩:∃rd,rd=(gZ sat B):=⟨_,rfl⟩;have HRD0:=Lib.hid (fun a e=>(by rw [hrd]:rd a e=gZ sat B a e));rw [←hrd];obtain ⟨R,hR⟩:∃R,R=bq rd B a e:=⟨_,rfl⟩;rw [←hR];clear hrd;unfold bq at hR;generalize az (aG B a) a e=n at *;obtain ⟨nv,a1,e1⟩:=n;dsimp only at hR H1 hcb;obtain ⟨c,rfl⟩:=Int.eq_ofNat_of_zero_le hcb.1;rw [Int.toNat_natCast]at hR;have HR:=Lib.hid hR;have hc:=hcb.2;clear hC hB hm hi hmp hmq hq hR hcb;go_enter Tryz.func23,Tryz.ntmps23;go_wp2_with fail;refine H1.out.mono ?_;rintro E W1 ⟨rfl,hG⟩;have HL0:=Lib.hid (⟨HM0.out.goes HK0.out hG,by rw [List.nil_append,Nat.sub_zero];exact HR.out.symm,Nat.zero_le _⟩:LS gH 116 rd W p q m 5 B mc R c 0 (.slice none 0 0) [] a1 e1 W1);clear hG H1 HM0;go_wp2_with fail;go_loopw [9] (fun i wr=>∃(j:Nat) (v:Value) (done:List ky) (a' :Nat) (e' :Int),j≤c∧i= .int .i64 j∧Hid (LS gH 116 rd W p q m 5 B mc R c j v done a' e' wr)) (fun i _=>c - (intOf i).toNat)
 case atStart=>exact ⟨0, .slice none 0 0, [],a1,e1,Nat.zero_le _,rfl,HL0.out⟩
 case round=>
  obtain ⟨j,v,done,a',e',hj,rfl,HL⟩:=hrel;obtain ⟨A,cc,c0,c1,c2,f0,f1,f2,hle,hq,hlt,ha⟩:=HL.out.lm.rd.cells;clear hle hq HL0;by_cases h0:e' =0
  ·subst h0;by_cases hjc:j< c
   ·have hjc2:(j:Int)<(c:Int):=by omega
    have HM:=Lib.hid HL.out.lm;obtain ⟨R9,hR9⟩:∃r,r=gZ sat B a' 0:=⟨_,rfl⟩;have HRD:=Lib.hid ((HRD0.out a' 0).trans hR9.symm);unfold gZ at hR9;have HC:=Lib.hid (fun X (h:Rdr X p q B a' 0)=>oW X p q B a' 0 h HBB.out);have hbd:=uV HBB.out a' 0;generalize jl B a' 0=r at *;obtain ⟨⟨ty,mu⟩,a2,e2⟩:=r;try dsimp only at HC hbd hR9
    have HC2:=Lib.hid (fun X (h:Rdr X p q B a2 e2)=>mI X p q sat B a2 e2 h HBB.out);generalize eX sat B a2 e2=r at *;obtain ⟨bd,a3,e3⟩:=r;try dsimp only at HC2 hR9
    have HR9:=Lib.hid hR9;obtain ⟨X9,hX9⟩:∃x:ky,x=⟨(ty,mu),bd⟩:=⟨_,rfl⟩;rw [←hX9]at HR9;have HX9:=Lib.hid hX9;have HL9:=Lib.hid (show (done.length+1) * 32≤140737488355328 from by have h:=HL.out.len;omega);have HBD:=Lib.hid hbd;clear hR9 hbd hX9;go_wp2_with fail;refine (HC.out _ HM.out.rd).mono ?_;rintro E W2 ⟨rfl,hG⟩;have HZ:=Lib.hid (show wr.heap.size≤W2.heap.size from hG.2.size);replace HM:=Lib.hid (HM.out.goes HK0.out hG);clear hG HC c0 c1 c2 f0 f1 f2 hlt;go_wp2_with fail;have HM9:=Lib.hid HM.out.drew;refine wp_region_noPanic ?_;refine dI (fun w' =>Blk w' m (mc.setIfInBounds 5 v) 78) (fun i=>i==17) (by kernel_rfl) HM9.out.blk (fun hHeld=> ?_);refine aC (i:=0) (oi:= ?_) (v:= ?_) ?_ (by kernel_rfl) (by kernel_rfl) (by kernel_rfl) (by kernel_rfl) (fun _ _ _ h=>h) (Or.inl ⟨?_, ?_⟩) hHeld ?_;rotate_left 2
    ·simp only [List.getElem?_toArray,List.getElem?_cons_succ,List.getElem?_cons_zero];exact rfl
    ·rfl
    ·(intro w hSw;go_simp;try with_reducible rfl)
    refine aC (i:=1) (oi:= ?_) (v:= ?_) ?_ (by kernel_rfl) (by kernel_rfl) (by kernel_rfl) (by kernel_rfl) (fun _ _ _ h=>h) (Or.inl ⟨?_, ?_⟩) hHeld ?_;rotate_left 2
    ·simp only [List.getElem?_toArray,List.getElem?_cons_succ,List.getElem?_cons_zero];exact rfl
    ·rfl
    ·(intro w hSw;go_simp;try with_reducible rfl)
    refine aC (i:=2) (oi:= ?_) (v:= ?_) ?_ (by kernel_rfl) (by kernel_rfl) (by kernel_rfl) (by kernel_rfl) (fun _ _ _ h=>h) (Or.inl ⟨?_, ?_⟩) hHeld ?_;rotate_left 2
    ·simp only [List.getElem?_toArray,List.getElem?_cons_succ,List.getElem?_cons_zero];exact rfl
    ·rfl
    ·(intro w hSw;go_simp;try with_reducible rfl)
    refine aC (i:=3) (oi:= ?_) (v:= ?_) ?_ (by kernel_rfl) (by kernel_rfl) (by kernel_rfl) (by kernel_rfl) (fun _ _ _ h=>h) (Or.inl ⟨?_, ?_⟩) hHeld ?_;rotate_left 2
    ·simp only [List.getElem?_toArray,List.getElem?_cons_succ,List.getElem?_cons_zero];exact rfl
    ·rfl
    ·(intro w hSw;go_simp;try with_reducible rfl)
    refine aC (i:=4) (oi:= ?_) (v:= ?_) ?_ (by kernel_rfl) (by kernel_rfl) (by kernel_rfl) (by kernel_rfl) (fun _ _ _ h=>h) (Or.inl ⟨?_, ?_⟩) hHeld ?_;rotate_left 2
    ·simp only [List.getElem?_toArray,List.getElem?_cons_succ,List.getElem?_cons_zero];exact rfl
    ·rfl
    ·(intro w hSw;go_simp;try with_reducible rfl)
    refine aC (i:=5) (oi:= ?_) (v:= ?_) ?_ (by kernel_rfl) (by kernel_rfl) (by kernel_rfl) (by kernel_rfl) (fun _ _ _ h=>h) (Or.inl ⟨?_, ?_⟩) hHeld ?_;rotate_left 2
    ·simp only [List.getElem?_toArray,List.getElem?_cons_succ,List.getElem?_cons_zero];exact rfl
    ·rfl
    ·(intro w hSw;have e:=LM.at_ hSw HK0.out;go_simp;try with_reducible rfl)
    refine aC (i:=6) (oi:= ?_) (v:= ?_) ?_ (by kernel_rfl) (by kernel_rfl) (by kernel_rfl) (by kernel_rfl) (fun _ _ _ h=>h) (Or.inl ⟨?_, ?_⟩) hHeld ?_;rotate_left 2
    ·simp only [List.getElem?_toArray,List.getElem?_cons_succ,List.getElem?_cons_zero];exact rfl
    ·rfl
    ·(intro w hSw;go_simp;try with_reducible rfl)
    refine aC (i:=7) (oi:= ?_) (v:= ?_) ?_ (by kernel_rfl) (by kernel_rfl) (by kernel_rfl) (by kernel_rfl) (fun _ _ _ h=>h) (Or.inl ⟨?_, ?_⟩) hHeld ?_;rotate_left 2
    ·simp only [List.getElem?_toArray,List.getElem?_cons_succ,List.getElem?_cons_zero];exact rfl
    ·rfl
    ·(intro w hSw;go_simp;try with_reducible rfl)
    refine aC (i:=8) (oi:= ?_) (v:= ?_) ?_ (by kernel_rfl) (by kernel_rfl) (by kernel_rfl) (by kernel_rfl) (fun _ _ _ h=>h) (Or.inl ⟨?_, ?_⟩) hHeld ?_;rotate_left 2
    ·simp only [List.getElem?_toArray,List.getElem?_cons_succ,List.getElem?_cons_zero];exact rfl
    ·rfl
    ·(intro w hSw;go_simp;try with_reducible rfl)
    refine aC (i:=9) (oi:= ?_) (v:= ?_) ?_ (by kernel_rfl) (by kernel_rfl) (by kernel_rfl) (by kernel_rfl) (fun _ _ _ h=>h) (Or.inl ⟨?_, ?_⟩) hHeld ?_;rotate_left 2
    ·simp only [List.getElem?_toArray,List.getElem?_cons_succ,List.getElem?_cons_zero];exact rfl
    ·rfl
    ·(intro w hSw;go_simp;try with_reducible rfl)
    refine aP (i:=10) (o:= ?_) (by kernel_rfl) ?_ rfl (fun K hK=> ?_);rotate_left
    ·simp only [List.getElem?_toArray,List.getElem?_cons_succ,List.getElem?_cons_zero];exact rfl
    go_simp;refine (HC2.out _ HM9.out.rd).mono ?_;rintro E W3 ⟨⟨A1,k1,rfl,hl1,hF1⟩,hG⟩;have HM2:=Lib.hid (HM9.out.goes HK0.out hG);have hFK:FK gH W3 (fun k=>k=q∨W2.drew.heap.size≤k) X9 [.int .u8 ty, .bool mu, .slice A1 bd.length k1]:=by rw [HX9.out];exact vS (x:=⟨(ty,mu),bd⟩) (wf_u8 HBD.out) (Ft.mono hF1 (fun k hk=> .inr hk)) hl1
    have HFK:=Lib.hid hFK;clear hG hF1 hl1 hFK;go_wp2_with fail;refine hK.out _ _ HM2.out.blk (fun hHeld=> ?_);clear hK K;try simp only [Act.put,List.setIfInBounds_toArray,List.set_cons_zero,List.set_cons_succ]
    refine aC (i:=11) (oi:= ?_) (v:= ?_) ?_ (by kernel_rfl) (by kernel_rfl) (by kernel_rfl) (by kernel_rfl) (fun _ _ _ h=>h) (Or.inl ⟨?_, ?_⟩) hHeld ?_;rotate_left 2
    ·simp only [List.getElem?_toArray,List.getElem?_cons_succ,List.getElem?_cons_zero];exact rfl
    ·rfl
    ·(intro w hSw;go_simp;try with_reducible rfl)
    refine aP (i:=12) (o:= ?_) (by kernel_rfl) ?_ rfl (fun K hK=> ?_);rotate_left
    ·simp only [List.getElem?_toArray,List.getElem?_cons_succ,List.getElem?_cons_zero];exact rfl
    go_simp;refine hK.out _ _ (hHeld.alloc _) (fun hHeld=> ?_);clear hK K;try simp only [Act.put,List.setIfInBounds_toArray,List.set_cons_zero,List.set_cons_succ]
    refine aP (i:=13) (o:= ?_) (by kernel_rfl) ?_ rfl (fun K hK=> ?_);rotate_left
    ·simp only [List.getElem?_toArray,List.getElem?_cons_succ,List.getElem?_cons_zero];exact rfl
    refine Own.bY (d:=gH) W.heap.size rfl (.tmp 57) (.tmp 64) 42 116 _ 32 rfl Tryz.underlying42 rz rfl (by decide) (by decide) v done X9 [.int .u8 ty, .bool mu, .slice A1 bd.length k1] (fun k=>k=q∨W.heap.size≤k) rfl rfl (HM9.out.fk HK0.out HFK.out) HM2.out.own HM2.out.g.size HL9.out ?_;intro v1 w1 hown1 hg1 hat1;obtain ⟨A9,c9,rfl,hl9,hF9⟩:=Own.reads hown1;rw [show (done++ [X9]).length=done.length+1 by simp]at hown1;have HST:=Lib.hid (HM2.out.store HK0.out hown1 hg1);have hbk:=HM2.out.look HK0.out hg1;have q2:=LM.at_ hbk HK0.out;have qf:=hbk.frozen 5;have ql:=hbk.lt;refine hK.out _ _ hbk (fun hHeld=> ?_);clear hK K;try simp only [Act.put,List.setIfInBounds_toArray,List.set_cons_zero,List.set_cons_succ]
    refine aP (i:=14) (o:= ?_) (by kernel_rfl) ?_ rfl (fun K hK=> ?_);rotate_left
    ·simp only [List.getElem?_toArray,List.getElem?_cons_succ,List.getElem?_cons_zero];exact rfl
    go_simp;refine hK.out _ _ hHeld (fun hHeld=> ?_);clear hK K;try simp only [Act.put,List.setIfInBounds_toArray,List.set_cons_zero,List.set_cons_succ]
    refine aP (i:=15) (o:= ?_) (by kernel_rfl) ?_ rfl (fun K hK=> ?_);rotate_left
    ·simp only [List.getElem?_toArray,List.getElem?_cons_succ,List.getElem?_cons_zero];exact rfl
    go_simp;refine hK.out _ _ hHeld (fun hHeld=> ?_);clear hK K;try simp only [Act.put,List.setIfInBounds_toArray,List.set_cons_zero,List.set_cons_succ]
    refine aP (i:=16) (o:= ?_) (by kernel_rfl) ?_ rfl (fun K hK=> ?_);rotate_left
    ·simp only [List.getElem?_toArray,List.getElem?_cons_succ,List.getElem?_cons_zero];exact rfl
    go_simp;refine hK.out _ _ hHeld (fun hHeld=> ?_);clear hK K;try simp only [Act.put,List.setIfInBounds_toArray,List.set_cons_zero,List.set_cons_succ]
    refine fG (i:=17) (o:= ?_) (by kernel_rfl) ?_ rfl (fun K hK=> ?_);rotate_left
    ·simp only [List.getElem?_toArray,List.getElem?_cons_succ,List.getElem?_cons_zero];exact rfl
    go_simp;refine hK.out _ _ ?_;clear hK K;try simp only [Act.put,List.setIfInBounds_toArray,List.set_cons_zero,List.set_cons_succ]
    refine eQ (by kernel_rfl) ?_ _;refine NoPanic.normal ?_;clear hown1 hg1 hat1 hl9 hF9 hbk q2 qf ql hHeld;go_wp2_with fail;go_roundw
    case rel=>
     exact ⟨j+1,_,done++ [X9],_,_,by omega,by go_num,HL.out.step HST.out (HRD.out.trans HR9.out) hjc⟩
    case measure=>simp [intOf];omega
   ·have hjc2:¬(j:Int)<(c:Int):=by omega
    go_wp2_with fail;go_end0;exact HL.out.fin (.inl (by omega))
  ·have h0' :(e' ==0)=false:=by simp;exact h0
   by_cases hjc:j< c
   ·have hjc2:(j:Int)<(c:Int):=by omega
    go_wp2_with fail;go_end0;exact HL.out.fin (.inr h0)
   ·have hjc2:¬(j:Int)<(c:Int):=by omega
    go_wp2_with fail;go_end0;exact HL.out.fin (.inr h0)
theorem Iw (W:World) (p q m:Nat) (sat:Bool) (B:List Int) (a:Nat) (e:Int) (mc:Array Value) (hC:Rdr W p q B a e) (hB:aK B) (hm:Blk W m mc 78) (hi:mc[6]? =some (.slice none 0 0)) (hmp:m≠p) (hmq:m≠q) (hq:q< W.heap.size):
  Calls Tryz.prog 23 #[.pointer (some ⟨m,0,none⟩), .int .i64 7, .pointer (some ⟨p,0,none⟩), .bool sat] W (lQ iB 111 W p q m mc 6 B (bq (l7 B) B a e)):=by
 have HK0:=Lib.hid (⟨hC.lt,hq,hm.lt,hmp,hmq,hC.1,(Array.getElem?_eq_some_iff.1 hi).1⟩:LSC W p q m 6 mc);have HM0:=Lib.hid (LM.start (d:=iB) (t:=111) hC hm hi);have H1:=Lib.hid (dM W p q B a e hC hB);have hcb:=bK (a:=a) (e:=e) hB;have HBB:=Lib.hid hB;obtain ⟨rd,hrd⟩:∃rd,rd=(l7 B):=⟨_,rfl⟩;have HRD0:=Lib.hid (fun a e=>(by rw [hrd]:rd a e=l7 B a e));rw [←hrd];obtain ⟨R,hR⟩:∃R,R=bq rd B a e:=⟨_,rfl⟩;rw [←hR];clear hrd;unfold bq at hR;generalize az (aG B a) a e=n at *;obtain ⟨nv,a1,e1⟩:=n;dsimp only at hR H1 hcb;obtain ⟨c,rfl⟩:=Int.eq_ofNat_of_zero_le hcb.1;rw [Int.toNat_natCast]at hR;have HR:=Lib.hid hR;have hc:=hcb.2;clear hC hB hm hi hmp hmq hq hR hcb;go_enter Tryz.func23,Tryz.ntmps23;go_wp2_with fail;refine H1.out.mono ?_;rintro E W1 ⟨rfl,hG⟩;have HL0:=Lib.hid (⟨HM0.out.goes HK0.out hG,by rw [List.nil_append,Nat.sub_zero];exact HR.out.symm,Nat.zero_le _⟩:LS iB 111 rd W p q m 6 B mc R c 0 (.slice none 0 0) [] a1 e1 W1);clear hG H1 HM0;go_wp2_with fail;go_loopw [9] (fun i wr=>∃(j:Nat) (v:Value) (done:List uw) (a' :Nat) (e' :Int),j≤c∧i= .int .i64 j∧Hid (LS iB 111 rd W p q m 6 B mc R c j v done a' e' wr)) (fun i _=>c - (intOf i).toNat)
 case atStart=>exact ⟨0, .slice none 0 0, [],a1,e1,Nat.zero_le _,rfl,HL0.out⟩
 case round=>
  obtain ⟨j,v,done,a',e',hj,rfl,HL⟩:=hrel;obtain ⟨A,cc,c0,c1,c2,f0,f1,f2,hle,hq,hlt,ha⟩:=HL.out.lm.rd.cells;clear hle hq HL0;by_cases h0:e' =0
  ·subst h0;by_cases hjc:j< c
   ·have hjc2:(j:Int)<(c:Int):=by omega
    have HM:=Lib.hid HL.out.lm;obtain ⟨R9,hR9⟩:∃r,r=l7 B a' 0:=⟨_,rfl⟩;have HRD:=Lib.hid ((HRD0.out a' 0).trans hR9.symm);unfold l7 at hR9;have HC:=Lib.hid (fun X (h:Rdr X p q B a' 0)=>kQ X p q B a' 0 h HBB.out);generalize jI B a' 0=r at *;obtain ⟨nm,a2,e2⟩:=r;try dsimp only at HC hR9
    have HC2:=Lib.hid (fun X (h:Rdr X p q B a2 e2)=>zg X p q B a2 e2 h HBB.out);have hkb:=yK (a:=a2) (e:=e2) HBB.out;generalize knM B a2 e2=r at *;obtain ⟨kd,a3,e3⟩:=r;try dsimp only at HC2 hkb hR9
    have HC3:=Lib.hid (fun X (h:Rdr X p q B a3 e3)=>oP X p q B a3 e3 h HBB.out);have hub:=bP (a:=a3) (e:=e3) HBB.out;generalize az (aI B a3) a3 e3=r at *;obtain ⟨ix,a4,e4⟩:=r;try dsimp only at HC3 hub hR9
    have HR9:=Lib.hid hR9;obtain ⟨X9,hX9⟩:∃x:uw,x=⟨nm,kd,ix⟩:=⟨_,rfl⟩;rw [←hX9]at HR9;have HX9:=Lib.hid hX9;have HL9:=Lib.hid (show (done.length+1) * 32≤140737488355328 from by have h:=HL.out.len;omega);have HKB:=Lib.hid hkb;have HUB:=Lib.hid hub;clear hR9 hkb hub hX9;go_wp2_with fail;refine (HC.out _ HM.out.rd).mono ?_;rintro E W2 ⟨rfl,hG⟩;replace HM:=Lib.hid (HM.out.goes HK0.out hG);clear hG HC c0 c1 c2 f0 f1 f2 hlt;go_wp2_with fail;refine (HC2.out _ HM.out.rd).mono ?_;rintro E W3 ⟨rfl,hG⟩;replace HM:=Lib.hid (HM.out.goes HK0.out hG);clear hG HC2;go_wp2_with fail;have HM9:=Lib.hid HM.out.drew;refine wp_region_noPanic ?_;refine dI (fun w' =>Blk w' m (mc.setIfInBounds 6 v) 78) (fun i=>i==16) (by kernel_rfl) HM9.out.blk (fun hHeld=> ?_);refine aC (i:=0) (oi:= ?_) (v:= ?_) ?_ (by kernel_rfl) (by kernel_rfl) (by kernel_rfl) (by kernel_rfl) (fun _ _ _ h=>h) (Or.inl ⟨?_, ?_⟩) hHeld ?_;rotate_left 2
    ·simp only [List.getElem?_toArray,List.getElem?_cons_succ,List.getElem?_cons_zero];exact rfl
    ·rfl
    ·(intro w hSw;go_simp;try with_reducible rfl)
    refine aC (i:=1) (oi:= ?_) (v:= ?_) ?_ (by kernel_rfl) (by kernel_rfl) (by kernel_rfl) (by kernel_rfl) (fun _ _ _ h=>h) (Or.inl ⟨?_, ?_⟩) hHeld ?_;rotate_left 2
    ·simp only [List.getElem?_toArray,List.getElem?_cons_succ,List.getElem?_cons_zero];exact rfl
    ·rfl
    ·(intro w hSw;go_simp;try with_reducible rfl)
    refine aC (i:=2) (oi:= ?_) (v:= ?_) ?_ (by kernel_rfl) (by kernel_rfl) (by kernel_rfl) (by kernel_rfl) (fun _ _ _ h=>h) (Or.inl ⟨?_, ?_⟩) hHeld ?_;rotate_left 2
    ·simp only [List.getElem?_toArray,List.getElem?_cons_succ,List.getElem?_cons_zero];exact rfl
    ·rfl
    ·(intro w hSw;go_simp;try with_reducible rfl)
    refine aC (i:=3) (oi:= ?_) (v:= ?_) ?_ (by kernel_rfl) (by kernel_rfl) (by kernel_rfl) (by kernel_rfl) (fun _ _ _ h=>h) (Or.inl ⟨?_, ?_⟩) hHeld ?_;rotate_left 2
    ·simp only [List.getElem?_toArray,List.getElem?_cons_succ,List.getElem?_cons_zero];exact rfl
    ·rfl
    ·(intro w hSw;go_simp;try with_reducible rfl)
    refine aC (i:=4) (oi:= ?_) (v:= ?_) ?_ (by kernel_rfl) (by kernel_rfl) (by kernel_rfl) (by kernel_rfl) (fun _ _ _ h=>h) (Or.inl ⟨?_, ?_⟩) hHeld ?_;rotate_left 2
    ·simp only [List.getElem?_toArray,List.getElem?_cons_succ,List.getElem?_cons_zero];exact rfl
    ·rfl
    ·(intro w hSw;go_simp;try with_reducible rfl)
    refine aC (i:=5) (oi:= ?_) (v:= ?_) ?_ (by kernel_rfl) (by kernel_rfl) (by kernel_rfl) (by kernel_rfl) (fun _ _ _ h=>h) (Or.inl ⟨?_, ?_⟩) hHeld ?_;rotate_left 2
    ·simp only [List.getElem?_toArray,List.getElem?_cons_succ,List.getElem?_cons_zero];exact rfl
    ·rfl
    ·(intro w hSw;have e:=LM.at_ hSw HK0.out;go_simp;try with_reducible rfl)
    refine aC (i:=6) (oi:= ?_) (v:= ?_) ?_ (by kernel_rfl) (by kernel_rfl) (by kernel_rfl) (by kernel_rfl) (fun _ _ _ h=>h) (Or.inl ⟨?_, ?_⟩) hHeld ?_;rotate_left 2
    ·simp only [List.getElem?_toArray,List.getElem?_cons_succ,List.getElem?_cons_zero];exact rfl
    ·rfl
    ·(intro w hSw;go_simp;try with_reducible rfl)
    refine aC (i:=7) (oi:= ?_) (v:= ?_) ?_ (by kernel_rfl) (by kernel_rfl) (by kernel_rfl) (by kernel_rfl) (fun _ _ _ h=>h) (Or.inl ⟨?_, ?_⟩) hHeld ?_;rotate_left 2
    ·simp only [List.getElem?_toArray,List.getElem?_cons_succ,List.getElem?_cons_zero];exact rfl
    ·rfl
    ·(intro w hSw;go_simp;try with_reducible rfl)
    refine aC (i:=8) (oi:= ?_) (v:= ?_) ?_ (by kernel_rfl) (by kernel_rfl) (by kernel_rfl) (by kernel_rfl) (fun _ _ _ h=>h) (Or.inl ⟨?_, ?_⟩) hHeld ?_;rotate_left 2
    ·simp only [List.getElem?_toArray,List.getElem?_cons_succ,List.getElem?_cons_zero];exact rfl
    ·rfl
    ·(intro w hSw;go_simp;try with_reducible rfl)
    refine aP (i:=9) (o:= ?_) (by kernel_rfl) ?_ rfl (fun K hK=> ?_);rotate_left
    ·simp only [List.getElem?_toArray,List.getElem?_cons_succ,List.getElem?_cons_zero];exact rfl
    go_simp;refine (HC3.out _ HM9.out.rd).mono ?_;rintro E W4 ⟨rfl,hG⟩;have HM2:=Lib.hid (HM9.out.goes HK0.out hG);have hFK:FK iB W4 (fun k=>k=q∨W3.drew.heap.size≤k) X9 [.string nm, .int .i64 kd, .int .u32 ix]:=by rw [HX9.out];exact En (x:=⟨nm,kd,ix⟩) HKB.out HUB.out
    have HFK:=Lib.hid hFK;clear hG hFK;go_wp2_with fail;refine hK.out _ _ HM2.out.blk (fun hHeld=> ?_);clear hK K;try simp only [Act.put,List.setIfInBounds_toArray,List.set_cons_zero,List.set_cons_succ]
    refine aC (i:=10) (oi:= ?_) (v:= ?_) ?_ (by kernel_rfl) (by kernel_rfl) (by kernel_rfl) (by kernel_rfl) (fun _ _ _ h=>h) (Or.inl ⟨?_, ?_⟩) hHeld ?_;rotate_left 2
    ·simp only [List.getElem?_toArray,List.getElem?_cons_succ,List.getElem?_cons_zero];exact rfl
    ·rfl
    ·(intro w hSw;go_simp;try with_reducible rfl)
    refine aP (i:=11) (o:= ?_) (by kernel_rfl) ?_ rfl (fun K hK=> ?_);rotate_left
    ·simp only [List.getElem?_toArray,List.getElem?_cons_succ,List.getElem?_cons_zero];exact rfl
    go_simp;refine hK.out _ _ (hHeld.alloc _) (fun hHeld=> ?_);clear hK K;try simp only [Act.put,List.setIfInBounds_toArray,List.set_cons_zero,List.set_cons_succ]
    refine aP (i:=12) (o:= ?_) (by kernel_rfl) ?_ rfl (fun K hK=> ?_);rotate_left
    ·simp only [List.getElem?_toArray,List.getElem?_cons_succ,List.getElem?_cons_zero];exact rfl
    refine Own.bY (d:=iB) W.heap.size rfl (.tmp 80) (.tmp 86) 43 111 _ 32 rfl Tryz.underlying43 sN rfl (by decide) (by decide) v done X9 [.string nm, .int .i64 kd, .int .u32 ix] (fun k=>k=q∨W.heap.size≤k) rfl rfl (HM9.out.fk HK0.out HFK.out) HM2.out.own HM2.out.g.size HL9.out ?_;intro v1 w1 hown1 hg1 hat1;obtain ⟨A9,c9,rfl,hl9,hF9⟩:=Own.reads hown1;rw [show (done++ [X9]).length=done.length+1 by simp]at hown1;have HST:=Lib.hid (HM2.out.store HK0.out hown1 hg1);have hbk:=HM2.out.look HK0.out hg1;have q2:=LM.at_ hbk HK0.out;have qf:=hbk.frozen 6;have ql:=hbk.lt;refine hK.out _ _ hbk (fun hHeld=> ?_);clear hK K;try simp only [Act.put,List.setIfInBounds_toArray,List.set_cons_zero,List.set_cons_succ]
    refine aP (i:=13) (o:= ?_) (by kernel_rfl) ?_ rfl (fun K hK=> ?_);rotate_left
    ·simp only [List.getElem?_toArray,List.getElem?_cons_succ,List.getElem?_cons_zero];exact rfl
    go_simp;refine hK.out _ _ hHeld (fun hHeld=> ?_);clear hK K;try simp only [Act.put,List.setIfInBounds_toArray,List.set_cons_zero,List.set_cons_succ]
    refine aP (i:=14) (o:= ?_) (by kernel_rfl) ?_ rfl (fun K hK=> ?_);rotate_left
    ·simp only [List.getElem?_toArray,List.getElem?_cons_succ,List.getElem?_cons_zero];exact rfl
    go_simp;refine hK.out _ _ hHeld (fun hHeld=> ?_);clear hK K;try simp only [Act.put,List.setIfInBounds_toArray,List.set_cons_zero,List.set_cons_succ]
    refine aP (i:=15) (o:= ?_) (by kernel_rfl) ?_ rfl (fun K hK=> ?_);rotate_left
    ·simp only [List.getElem?_toArray,List.getElem?_cons_succ,List.getElem?_cons_zero];exact rfl
    go_simp;refine hK.out _ _ hHeld (fun hHeld=> ?_);clear hK K;try simp only [Act.put,List.setIfInBounds_toArray,List.set_cons_zero,List.set_cons_succ]
    refine fG (i:=16) (o:= ?_) (by kernel_rfl) ?_ rfl (fun K hK=> ?_);rotate_left
    ·simp only [List.getElem?_toArray,List.getElem?_cons_succ,List.getElem?_cons_zero];exact rfl
    go_simp;refine hK.out _ _ ?_;clear hK K;try simp only [Act.put,List.setIfInBounds_toArray,List.set_cons_zero,List.set_cons_succ]
    refine eQ (by kernel_rfl) ?_ _;refine NoPanic.normal ?_;clear hown1 hg1 hat1 hl9 hF9 hbk q2 qf ql hHeld;go_wp2_with fail;go_roundw
    case rel=>
     exact ⟨j+1,_,done++ [X9],_,_,by omega,by go_num,HL.out.step HST.out (HRD.out.trans HR9.out) hjc⟩
    case measure=>simp [intOf];omega
   ·have hjc2:¬(j:Int)<(c:Int):=by omega
    go_wp2_with fail;go_end0;exact HL.out.fin (.inl (by omega))
  ·have h0' :(e' ==0)=false:=by simp;exact h0
   by_cases hjc:j< c
   ·have hjc2:(j:Int)<(c:Int):=by omega
    go_wp2_with fail;go_end0;exact HL.out.fin (.inr h0)
   ·have hjc2:¬(j:Int)<(c:Int):=by omega
    go_wp2_with fail;go_end0;exact HL.out.fin (.inr h0)
theorem IX (W:World) (p q m:Nat) (sat:Bool) (B:List Int) (a:Nat) (e:Int) (mc:Array Value) (hC:Rdr W p q B a e) (hB:aK B) (hm:Blk W m mc 78) (hi:mc[9]? =some (.slice none 0 0)) (hmp:m≠p) (hmq:m≠q) (hq:q< W.heap.size):
  Calls Tryz.prog 23 #[.pointer (some ⟨m,0,none⟩), .int .i64 9, .pointer (some ⟨p,0,none⟩), .bool sat] W (lQ iE 92 W p q m mc 9 B (bq (gM sat B) B a e)):=by
 have HK0:=Lib.hid (⟨hC.lt,hq,hm.lt,hmp,hmq,hC.1,(Array.getElem?_eq_some_iff.1 hi).1⟩:LSC W p q m 9 mc);have HM0:=Lib.hid (LM.start (d:=iE) (t:=92) hC hm hi);have H1:=Lib.hid (dM W p q B a e hC hB);have hcb:=bK (a:=a) (e:=e) hB;have HBB:=Lib.hid hB;obtain ⟨rd,hrd⟩:∃rd,rd=(gM sat B):=⟨_,rfl⟩;have HRD0:=Lib.hid (fun a e=>(by rw [hrd]:rd a e=gM sat B a e));rw [←hrd];obtain ⟨R,hR⟩:∃R,R=bq rd B a e:=⟨_,rfl⟩;rw [←hR];clear hrd;unfold bq at hR;generalize az (aG B a) a e=n at *;obtain ⟨nv,a1,e1⟩:=n;dsimp only at hR H1 hcb;obtain ⟨c,rfl⟩:=Int.eq_ofNat_of_zero_le hcb.1;rw [Int.toNat_natCast]at hR;have HR:=Lib.hid hR;have hc:=hcb.2;clear hC hB hm hi hmp hmq hq hR hcb;go_enter Tryz.func23,Tryz.ntmps23;go_wp2_with fail;refine H1.out.mono ?_;rintro E W1 ⟨rfl,hG⟩;have HL0:=Lib.hid (⟨HM0.out.goes HK0.out hG,by rw [List.nil_append,Nat.sub_zero];exact HR.out.symm,Nat.zero_le _⟩:LS iE 92 rd W p q m 9 B mc R c 0 (.slice none 0 0) [] a1 e1 W1);clear hG H1 HM0;go_wp2_with fail;go_loopw [9] (fun i wr=>∃(j:Nat) (v:Value) (done:List kN) (a' :Nat) (e' :Int),j≤c∧i= .int .i64 j∧Hid (LS iE 92 rd W p q m 9 B mc R c j v done a' e' wr)) (fun i _=>c - (intOf i).toNat)
 case atStart=>exact ⟨0, .slice none 0 0, [],a1,e1,Nat.zero_le _,rfl,HL0.out⟩
 case round=>
  obtain ⟨j,v,done,a',e',hj,rfl,HL⟩:=hrel;obtain ⟨A,cc,c0,c1,c2,f0,f1,f2,hle,hq,hlt,ha⟩:=HL.out.lm.rd.cells;clear hle hq HL0;by_cases h0:e' =0
  ·subst h0;by_cases hjc:j< c
   ·have hjc2:(j:Int)<(c:Int):=by omega
    have HM:=Lib.hid HL.out.lm;obtain ⟨R9,hR9⟩:∃r,r=gM sat B a' 0:=⟨_,rfl⟩;have HRD:=Lib.hid ((HRD0.out a' 0).trans hR9.symm);unfold gM wK at hR9;rw [show dP B a' 0=az (aI B a') a' 0 from rfl]at hR9;have HC:=Lib.hid (fun X (h:Rdr X p q B a' 0)=>oP X p q B a' 0 h HBB.out);have hub:=bP (a:=a') (e:=0) HBB.out;generalize az (aI B a') a' 0=r at *;obtain ⟨tb,a2,e2⟩:=r;try dsimp only at HC hub hR9
    have HC2:=Lib.hid (fun X (h:Rdr X p q B a2 e2)=>mI X p q sat B a2 e2 h HBB.out);generalize eX sat B a2 e2=r at *;obtain ⟨bd,a3,e3⟩:=r;try dsimp only at HC2 hR9
    have HC3:=Lib.hid (fun X (h:Rdr X p q B a3 e3)=>pg X p q B a3 e3 h HBB.out);generalize bq (dP B) B a3 e3=r at *;obtain ⟨fs,a4,e4⟩:=r;try dsimp only at HC3 hR9
    have HR9:=Lib.hid hR9;obtain ⟨X9,hX9⟩:∃x:kN,x=⟨tb,bd,fs⟩:=⟨_,rfl⟩;rw [←hX9]at HR9;have HX9:=Lib.hid hX9;have HL9:=Lib.hid (show (done.length+1) * 56≤140737488355328 from by have h:=HL.out.len;omega);have HUB:=Lib.hid hub;clear hR9 hub hX9;go_wp2_with fail;refine (HC.out _ HM.out.rd).mono ?_;rintro E W2 ⟨rfl,hG⟩;have HZ:=Lib.hid (show wr.heap.size≤W2.heap.size from hG.2.size);replace HM:=Lib.hid (HM.out.goes HK0.out hG);clear hG HC c0 c1 c2 f0 f1 f2 hlt;go_wp2_with fail;refine (HC2.out _ HM.out.rd).mono ?_;rintro E W3 ⟨⟨A1,k1,rfl,hl1,hF1⟩,hG⟩;have HF1:=Lib.hid (eu (Ft.mono hF1 (ok' :=fun k=>wr.heap.size≤k) (fun k (hk:W2.heap.size≤k)=>by have h:=HZ.out;omega)));have HL1:=Lib.hid hl1;have HZ3:=Lib.hid (show W2.heap.size≤W3.heap.size from hG.2.size);replace HM:=Lib.hid (HM.out.goes HK0.out hG);have hpw:p< wr.heap.size:=HL.out.lm.rd.lt;have HPW:=Lib.hid hpw;clear hG HC2 hF1 hl1 hpw;go_wp2_with fail;have HM9:=Lib.hid HM.out.drew;refine wp_region_noPanic ?_;refine dI (fun w' =>Blk w' m (mc.setIfInBounds 9 v) 78) (fun i=>i==16) (by kernel_rfl) HM9.out.blk (fun hHeld=> ?_);refine aC (i:=0) (oi:= ?_) (v:= ?_) ?_ (by kernel_rfl) (by kernel_rfl) (by kernel_rfl) (by kernel_rfl) (fun _ _ _ h=>h) (Or.inl ⟨?_, ?_⟩) hHeld ?_;rotate_left 2
    ·simp only [List.getElem?_toArray,List.getElem?_cons_succ,List.getElem?_cons_zero];exact rfl
    ·rfl
    ·(intro w hSw;go_simp;try with_reducible rfl)
    refine aC (i:=1) (oi:= ?_) (v:= ?_) ?_ (by kernel_rfl) (by kernel_rfl) (by kernel_rfl) (by kernel_rfl) (fun _ _ _ h=>h) (Or.inl ⟨?_, ?_⟩) hHeld ?_;rotate_left 2
    ·simp only [List.getElem?_toArray,List.getElem?_cons_succ,List.getElem?_cons_zero];exact rfl
    ·rfl
    ·(intro w hSw;go_simp;try with_reducible rfl)
    refine aC (i:=2) (oi:= ?_) (v:= ?_) ?_ (by kernel_rfl) (by kernel_rfl) (by kernel_rfl) (by kernel_rfl) (fun _ _ _ h=>h) (Or.inl ⟨?_, ?_⟩) hHeld ?_;rotate_left 2
    ·simp only [List.getElem?_toArray,List.getElem?_cons_succ,List.getElem?_cons_zero];exact rfl
    ·rfl
    ·(intro w hSw;go_simp;try with_reducible rfl)
    refine aC (i:=3) (oi:= ?_) (v:= ?_) ?_ (by kernel_rfl) (by kernel_rfl) (by kernel_rfl) (by kernel_rfl) (fun _ _ _ h=>h) (Or.inl ⟨?_, ?_⟩) hHeld ?_;rotate_left 2
    ·simp only [List.getElem?_toArray,List.getElem?_cons_succ,List.getElem?_cons_zero];exact rfl
    ·rfl
    ·(intro w hSw;go_simp;try with_reducible rfl)
    refine aC (i:=4) (oi:= ?_) (v:= ?_) ?_ (by kernel_rfl) (by kernel_rfl) (by kernel_rfl) (by kernel_rfl) (fun _ _ _ h=>h) (Or.inl ⟨?_, ?_⟩) hHeld ?_;rotate_left 2
    ·simp only [List.getElem?_toArray,List.getElem?_cons_succ,List.getElem?_cons_zero];exact rfl
    ·rfl
    ·(intro w hSw;go_simp;try with_reducible rfl)
    refine aC (i:=5) (oi:= ?_) (v:= ?_) ?_ (by kernel_rfl) (by kernel_rfl) (by kernel_rfl) (by kernel_rfl) (fun _ _ _ h=>h) (Or.inl ⟨?_, ?_⟩) hHeld ?_;rotate_left 2
    ·simp only [List.getElem?_toArray,List.getElem?_cons_succ,List.getElem?_cons_zero];exact rfl
    ·rfl
    ·(intro w hSw;have e:=LM.at_ hSw HK0.out;go_simp;try with_reducible rfl)
    refine aC (i:=6) (oi:= ?_) (v:= ?_) ?_ (by kernel_rfl) (by kernel_rfl) (by kernel_rfl) (by kernel_rfl) (fun _ _ _ h=>h) (Or.inl ⟨?_, ?_⟩) hHeld ?_;rotate_left 2
    ·simp only [List.getElem?_toArray,List.getElem?_cons_succ,List.getElem?_cons_zero];exact rfl
    ·rfl
    ·(intro w hSw;go_simp;try with_reducible rfl)
    refine aC (i:=7) (oi:= ?_) (v:= ?_) ?_ (by kernel_rfl) (by kernel_rfl) (by kernel_rfl) (by kernel_rfl) (fun _ _ _ h=>h) (Or.inl ⟨?_, ?_⟩) hHeld ?_;rotate_left 2
    ·simp only [List.getElem?_toArray,List.getElem?_cons_succ,List.getElem?_cons_zero];exact rfl
    ·rfl
    ·(intro w hSw;go_simp;try with_reducible rfl)
    refine aC (i:=8) (oi:= ?_) (v:= ?_) ?_ (by kernel_rfl) (by kernel_rfl) (by kernel_rfl) (by kernel_rfl) (fun _ _ _ h=>h) (Or.inl ⟨?_, ?_⟩) hHeld ?_;rotate_left 2
    ·simp only [List.getElem?_toArray,List.getElem?_cons_succ,List.getElem?_cons_zero];exact rfl
    ·rfl
    ·(intro w hSw;go_simp;try with_reducible rfl)
    refine aP (i:=9) (o:= ?_) (by kernel_rfl) ?_ rfl (fun K hK=> ?_);rotate_left
    ·simp only [List.getElem?_toArray,List.getElem?_cons_succ,List.getElem?_cons_zero];exact rfl
    go_simp;refine (HC3.out _ HM9.out.rd).mono ?_;rintro E W4 ⟨⟨v2,rfl,ho2⟩,hG⟩;obtain ⟨A2,k2,rfl,hl2,hF2⟩:=ho2.reads;have HM2:=Lib.hid (HM9.out.goes HK0.out hG);have hFK:FK iE W4 (fun k=>k=q∨wr.heap.size≤k) X9 [.int .u32 tb, .slice A1 bd.length k1, .slice A2 fs.length k2]:=by rw [HX9.out];exact vN (x:=⟨tb,bd,fs⟩) (wf_u32 HUB.out) (Ft.mono (jy HF1.out hG (fun k (hk:wr.heap.size≤k)=>by have h:=HPW.out;omega)) (fun k hk=> .inr hk)) HL1.out (Ft.mono hF2 (fun k hk=> .inr (by rcases hk with hk|hk;exact hk.elim;have h1:W3.heap.size≤k:=hk;have h2:=HZ.out;have h3:=HZ3.out;omega))) hl2
    have HFK:=Lib.hid hFK;clear hG hF2 hl2 ho2 hFK;go_wp2_with fail;refine hK.out _ _ HM2.out.blk (fun hHeld=> ?_);clear hK K;try simp only [Act.put,List.setIfInBounds_toArray,List.set_cons_zero,List.set_cons_succ]
    refine aC (i:=10) (oi:= ?_) (v:= ?_) ?_ (by kernel_rfl) (by kernel_rfl) (by kernel_rfl) (by kernel_rfl) (fun _ _ _ h=>h) (Or.inl ⟨?_, ?_⟩) hHeld ?_;rotate_left 2
    ·simp only [List.getElem?_toArray,List.getElem?_cons_succ,List.getElem?_cons_zero];exact rfl
    ·rfl
    ·(intro w hSw;go_simp;try with_reducible rfl)
    refine aP (i:=11) (o:= ?_) (by kernel_rfl) ?_ rfl (fun K hK=> ?_);rotate_left
    ·simp only [List.getElem?_toArray,List.getElem?_cons_succ,List.getElem?_cons_zero];exact rfl
    go_simp;refine hK.out _ _ (hHeld.alloc _) (fun hHeld=> ?_);clear hK K;try simp only [Act.put,List.setIfInBounds_toArray,List.set_cons_zero,List.set_cons_succ]
    refine aP (i:=12) (o:= ?_) (by kernel_rfl) ?_ rfl (fun K hK=> ?_);rotate_left
    ·simp only [List.getElem?_toArray,List.getElem?_cons_succ,List.getElem?_cons_zero];exact rfl
    refine Own.bY (d:=iE) W.heap.size rfl (.tmp 103) (.tmp 109) 44 92 _ 56 rfl Tryz.underlying44 qI rfl (by decide) (by decide) v done X9 [.int .u32 tb, .slice A1 bd.length k1, .slice A2 fs.length k2] (fun k=>k=q∨W.heap.size≤k) rfl rfl (HL.out.lm.fk HK0.out HFK.out) HM2.out.own HM2.out.g.size HL9.out ?_;intro v1 w1 hown1 hg1 hat1;obtain ⟨A9,c9,rfl,hl9,hF9⟩:=Own.reads hown1;rw [show (done++ [X9]).length=done.length+1 by simp]at hown1;have HST:=Lib.hid (HM2.out.store HK0.out hown1 hg1);have hbk:=HM2.out.look HK0.out hg1;have q2:=LM.at_ hbk HK0.out;have qf:=hbk.frozen 9;have ql:=hbk.lt;refine hK.out _ _ hbk (fun hHeld=> ?_);clear hK K;try simp only [Act.put,List.setIfInBounds_toArray,List.set_cons_zero,List.set_cons_succ]
    refine aP (i:=13) (o:= ?_) (by kernel_rfl) ?_ rfl (fun K hK=> ?_);rotate_left
    ·simp only [List.getElem?_toArray,List.getElem?_cons_succ,List.getElem?_cons_zero];exact rfl
    go_simp;refine hK.out _ _ hHeld (fun hHeld=> ?_);clear hK K;try simp only [Act.put,List.setIfInBounds_toArray,List.set_cons_zero,List.set_cons_succ]
    refine aP (i:=14) (o:= ?_) (by kernel_rfl) ?_ rfl (fun K hK=> ?_);rotate_left
    ·simp only [List.getElem?_toArray,List.getElem?_cons_succ,List.getElem?_cons_zero];exact rfl
    go_simp;refine hK.out _ _ hHeld (fun hHeld=> ?_);clear hK K;try simp only [Act.put,List.setIfInBounds_toArray,List.set_cons_zero,List.set_cons_succ]
    refine aP (i:=15) (o:= ?_) (by kernel_rfl) ?_ rfl (fun K hK=> ?_);rotate_left
    ·simp only [List.getElem?_toArray,List.getElem?_cons_succ,List.getElem?_cons_zero];exact rfl
    go_simp;refine hK.out _ _ hHeld (fun hHeld=> ?_);clear hK K;try simp only [Act.put,List.setIfInBounds_toArray,List.set_cons_zero,List.set_cons_succ]
    refine fG (i:=16) (o:= ?_) (by kernel_rfl) ?_ rfl (fun K hK=> ?_);rotate_left
    ·simp only [List.getElem?_toArray,List.getElem?_cons_succ,List.getElem?_cons_zero];exact rfl
    go_simp;refine hK.out _ _ ?_;clear hK K;try simp only [Act.put,List.setIfInBounds_toArray,List.set_cons_zero,List.set_cons_succ]
    refine eQ (by kernel_rfl) ?_ _;refine NoPanic.normal ?_;clear hown1 hg1 hat1 hl9 hF9 hbk q2 qf ql hHeld;go_wp2_with fail;go_roundw
    case rel=>
     exact ⟨j+1,_,done++ [X9],_,_,by omega,by go_num,HL.out.step HST.out (HRD.out.trans HR9.out) hjc⟩
    case measure=>simp [intOf];omega
   ·have hjc2:¬(j:Int)<(c:Int):=by omega
    go_wp2_with fail;go_end0;exact HL.out.fin (.inl (by omega))
  ·have h0' :(e' ==0)=false:=by simp;exact h0
   by_cases hjc:j< c
   ·have hjc2:(j:Int)<(c:Int):=by omega
    go_wp2_with fail;go_end0;exact HL.out.fin (.inr h0)
   ·have hjc2:¬(j:Int)<(c:Int):=by omega
    go_wp2_with fail;go_end0;exact HL.out.fin (.inr h0)
theorem Gy (W:World) (p q m:Nat) (sat:Bool) (B:List Int) (a:Nat) (e:Int) (mc:Array Value) (hC:Rdr W p q B a e) (hB:aK B) (hm:Blk W m mc 78) (hi:mc[2]? =some (.slice none 0 0)) (hmp:m≠p) (hmq:m≠q) (hq:q< W.heap.size):
  Calls Tryz.prog 23 #[.pointer (some ⟨m,0,none⟩), .int .i64 10, .pointer (some ⟨p,0,none⟩), .bool sat] W (lQ jo 87 W p q m mc 2 B (bq (jg sat B) B a e)):=by
 have HK0:=Lib.hid (⟨hC.lt,hq,hm.lt,hmp,hmq,hC.1,(Array.getElem?_eq_some_iff.1 hi).1⟩:LSC W p q m 2 mc);have HM0:=Lib.hid (LM.start (d:=jo) (t:=87) hC hm hi);have H1:=Lib.hid (dM W p q B a e hC hB);have hcb:=bK (a:=a) (e:=e) hB;have HBB:=Lib.hid hB;obtain ⟨rd,hrd⟩:∃rd,rd=(jg sat B):=⟨_,rfl⟩;have HRD0:=Lib.hid (fun a e=>(by rw [hrd]:rd a e=jg sat B a e));rw [←hrd];obtain ⟨R,hR⟩:∃R,R=bq rd B a e:=⟨_,rfl⟩;rw [←hR];clear hrd;unfold bq at hR;generalize az (aG B a) a e=n at *;obtain ⟨nv,a1,e1⟩:=n;dsimp only at hR H1 hcb;obtain ⟨c,rfl⟩:=Int.eq_ofNat_of_zero_le hcb.1;rw [Int.toNat_natCast]at hR;have HR:=Lib.hid hR;have hc:=hcb.2;clear hC hB hm hi hmp hmq hq hR hcb;go_enter Tryz.func23,Tryz.ntmps23;go_wp2_with fail;refine H1.out.mono ?_;rintro E W1 ⟨rfl,hG⟩;have HL0:=Lib.hid (⟨HM0.out.goes HK0.out hG,by rw [List.nil_append,Nat.sub_zero];exact HR.out.symm,Nat.zero_le _⟩:LS jo 87 rd W p q m 2 B mc R c 0 (.slice none 0 0) [] a1 e1 W1);clear hG H1 HM0;go_wp2_with fail;go_loopw [9] (fun i wr=>∃(j:Nat) (v:Value) (done:List FnD) (a' :Nat) (e' :Int),j≤c∧i= .int .i64 j∧Hid (LS jo 87 rd W p q m 2 B mc R c j v done a' e' wr)) (fun i _=>c - (intOf i).toNat)
 case atStart=>exact ⟨0, .slice none 0 0, [],a1,e1,Nat.zero_le _,rfl,HL0.out⟩
 case round=>
  obtain ⟨j,v,done,a',e',hj,rfl,HL⟩:=hrel;obtain ⟨A,cc,c0,c1,c2,f0,f1,f2,hle,hq,hlt,ha⟩:=HL.out.lm.rd.cells;clear hle hq HL0;by_cases h0:e' =0
  ·subst h0;by_cases hjc:j< c
   ·have hjc2:(j:Int)<(c:Int):=by omega
    have HM:=Lib.hid HL.out.lm;obtain ⟨R9,hR9⟩:∃r,r=jg sat B a' 0:=⟨_,rfl⟩;have HRD:=Lib.hid ((HRD0.out a' 0).trans hR9.symm);have HC:=Lib.hid (fun X (h:Rdr X p q B a' 0) (hx:q< X.heap.size)=>Ac X p q sat B a' 0 h HBB.out hx);generalize jg sat B a' 0=r at *;obtain ⟨X9,a2,e2⟩:=r;try dsimp only at HC
    have HR9:=Lib.hid hR9;have HL9:=Lib.hid (show (done.length+1) * 56≤140737488355328 from by have h:=HL.out.len;omega);clear hR9;go_wp2_with fail;have HM9:=Lib.hid HM.out.drew;refine wp_region_noPanic ?_;refine dI (fun w' =>Blk w' m (mc.setIfInBounds 2 v) 78) (fun i=>i==14) (by kernel_rfl) HM9.out.blk (fun hHeld=> ?_);refine aC (i:=0) (oi:= ?_) (v:= ?_) ?_ (by kernel_rfl) (by kernel_rfl) (by kernel_rfl) (by kernel_rfl) (fun _ _ _ h=>h) (Or.inl ⟨?_, ?_⟩) hHeld ?_;rotate_left 2
    ·simp only [List.getElem?_toArray,List.getElem?_cons_succ,List.getElem?_cons_zero];exact rfl
    ·rfl
    ·(intro w hSw;go_simp;try with_reducible rfl)
    refine aC (i:=1) (oi:= ?_) (v:= ?_) ?_ (by kernel_rfl) (by kernel_rfl) (by kernel_rfl) (by kernel_rfl) (fun _ _ _ h=>h) (Or.inl ⟨?_, ?_⟩) hHeld ?_;rotate_left 2
    ·simp only [List.getElem?_toArray,List.getElem?_cons_succ,List.getElem?_cons_zero];exact rfl
    ·rfl
    ·(intro w hSw;go_simp;try with_reducible rfl)
    refine aC (i:=2) (oi:= ?_) (v:= ?_) ?_ (by kernel_rfl) (by kernel_rfl) (by kernel_rfl) (by kernel_rfl) (fun _ _ _ h=>h) (Or.inl ⟨?_, ?_⟩) hHeld ?_;rotate_left 2
    ·simp only [List.getElem?_toArray,List.getElem?_cons_succ,List.getElem?_cons_zero];exact rfl
    ·rfl
    ·(intro w hSw;go_simp;try with_reducible rfl)
    refine aC (i:=3) (oi:= ?_) (v:= ?_) ?_ (by kernel_rfl) (by kernel_rfl) (by kernel_rfl) (by kernel_rfl) (fun _ _ _ h=>h) (Or.inl ⟨?_, ?_⟩) hHeld ?_;rotate_left 2
    ·simp only [List.getElem?_toArray,List.getElem?_cons_succ,List.getElem?_cons_zero];exact rfl
    ·rfl
    ·(intro w hSw;go_simp;try with_reducible rfl)
    refine aC (i:=4) (oi:= ?_) (v:= ?_) ?_ (by kernel_rfl) (by kernel_rfl) (by kernel_rfl) (by kernel_rfl) (fun _ _ _ h=>h) (Or.inl ⟨?_, ?_⟩) hHeld ?_;rotate_left 2
    ·simp only [List.getElem?_toArray,List.getElem?_cons_succ,List.getElem?_cons_zero];exact rfl
    ·rfl
    ·(intro w hSw;go_simp;try with_reducible rfl)
    refine aC (i:=5) (oi:= ?_) (v:= ?_) ?_ (by kernel_rfl) (by kernel_rfl) (by kernel_rfl) (by kernel_rfl) (fun _ _ _ h=>h) (Or.inl ⟨?_, ?_⟩) hHeld ?_;rotate_left 2
    ·simp only [List.getElem?_toArray,List.getElem?_cons_succ,List.getElem?_cons_zero];exact rfl
    ·rfl
    ·(intro w hSw;have e:=LM.at_ hSw HK0.out;go_simp;try with_reducible rfl)
    refine aC (i:=6) (oi:= ?_) (v:= ?_) ?_ (by kernel_rfl) (by kernel_rfl) (by kernel_rfl) (by kernel_rfl) (fun _ _ _ h=>h) (Or.inl ⟨?_, ?_⟩) hHeld ?_;rotate_left 2
    ·simp only [List.getElem?_toArray,List.getElem?_cons_succ,List.getElem?_cons_zero];exact rfl
    ·rfl
    ·(intro w hSw;go_simp;try with_reducible rfl)
    refine aC (i:=7) (oi:= ?_) (v:= ?_) ?_ (by kernel_rfl) (by kernel_rfl) (by kernel_rfl) (by kernel_rfl) (fun _ _ _ h=>h) (Or.inl ⟨?_, ?_⟩) hHeld ?_;rotate_left 2
    ·simp only [List.getElem?_toArray,List.getElem?_cons_succ,List.getElem?_cons_zero];exact rfl
    ·rfl
    ·(intro w hSw;go_simp;try with_reducible rfl)
    refine aP (i:=8) (o:= ?_) (by kernel_rfl) ?_ rfl (fun K hK=> ?_);rotate_left
    ·simp only [List.getElem?_toArray,List.getElem?_cons_succ,List.getElem?_cons_zero];exact rfl
    go_simp;refine (HC.out _ HM9.out.rd (by have h:=HM9.out.g.size;have h2:=HK0.out.hq;omega)).mono ?_;rintro E W2 ⟨⟨cs,rfl,hF⟩,hG⟩;obtain ⟨AL,cL,AB,cB,rfl,hF2,hF3⟩:=oh hF;have HM2:=Lib.hid (HM9.out.goes HK0.out hG);have HFK:=Lib.hid hF;clear hG hF hF2 hF3;go_wp2_with fail;refine hK.out _ _ HM2.out.blk (fun hHeld=> ?_);clear hK K;try simp only [Act.put,List.setIfInBounds_toArray,List.set_cons_zero,List.set_cons_succ]
    refine aP (i:=9) (o:= ?_) (by kernel_rfl) ?_ rfl (fun K hK=> ?_);rotate_left
    ·simp only [List.getElem?_toArray,List.getElem?_cons_succ,List.getElem?_cons_zero];exact rfl
    go_simp;refine hK.out _ _ (hHeld.alloc _) (fun hHeld=> ?_);clear hK K;try simp only [Act.put,List.setIfInBounds_toArray,List.set_cons_zero,List.set_cons_succ]
    refine aP (i:=10) (o:= ?_) (by kernel_rfl) ?_ rfl (fun K hK=> ?_);rotate_left
    ·simp only [List.getElem?_toArray,List.getElem?_cons_succ,List.getElem?_cons_zero];exact rfl
    refine Own.bY (d:=jo) W.heap.size rfl (.tmp 121) (.tmp 125) 40 87 _ 56 rfl Tryz.underlying40 wP rfl (by decide) (by decide) v done X9 [.int .u32 X9.ty, .slice AL X9.loc.length cL, .slice AB X9.body.length cB] (fun k=>k=q∨W.heap.size≤k) rfl rfl (HM9.out.fk HK0.out HFK.out) HM2.out.own HM2.out.g.size HL9.out ?_;intro v1 w1 hown1 hg1 hat1;obtain ⟨A9,c9,rfl,hl9,hF9⟩:=Own.reads hown1;rw [show (done++ [X9]).length=done.length+1 by simp]at hown1;have HST:=Lib.hid (HM2.out.store HK0.out hown1 hg1);have hbk:=HM2.out.look HK0.out hg1;have q2:=LM.at_ hbk HK0.out;have qf:=hbk.frozen 2;have ql:=hbk.lt;refine hK.out _ _ hbk (fun hHeld=> ?_);clear hK K;try simp only [Act.put,List.setIfInBounds_toArray,List.set_cons_zero,List.set_cons_succ]
    refine aP (i:=11) (o:= ?_) (by kernel_rfl) ?_ rfl (fun K hK=> ?_);rotate_left
    ·simp only [List.getElem?_toArray,List.getElem?_cons_succ,List.getElem?_cons_zero];exact rfl
    go_simp;refine hK.out _ _ hHeld (fun hHeld=> ?_);clear hK K;try simp only [Act.put,List.setIfInBounds_toArray,List.set_cons_zero,List.set_cons_succ]
    refine aP (i:=12) (o:= ?_) (by kernel_rfl) ?_ rfl (fun K hK=> ?_);rotate_left
    ·simp only [List.getElem?_toArray,List.getElem?_cons_succ,List.getElem?_cons_zero];exact rfl
    go_simp;refine hK.out _ _ hHeld (fun hHeld=> ?_);clear hK K;try simp only [Act.put,List.setIfInBounds_toArray,List.set_cons_zero,List.set_cons_succ]
    refine aP (i:=13) (o:= ?_) (by kernel_rfl) ?_ rfl (fun K hK=> ?_);rotate_left
    ·simp only [List.getElem?_toArray,List.getElem?_cons_succ,List.getElem?_cons_zero];exact rfl
    go_simp;refine hK.out _ _ hHeld (fun hHeld=> ?_);clear hK K;try simp only [Act.put,List.setIfInBounds_toArray,List.set_cons_zero,List.set_cons_succ]
    refine fG (i:=14) (o:= ?_) (by kernel_rfl) ?_ rfl (fun K hK=> ?_);rotate_left
    ·simp only [List.getElem?_toArray,List.getElem?_cons_succ,List.getElem?_cons_zero];exact rfl
    go_simp;refine hK.out _ _ ?_;clear hK K;try simp only [Act.put,List.setIfInBounds_toArray,List.set_cons_zero,List.set_cons_succ]
    refine eQ (by kernel_rfl) ?_ _;refine NoPanic.normal ?_;clear hown1 hg1 hat1 hl9 hF9 hbk q2 qf ql hHeld;go_wp2_with fail;go_roundw
    case rel=>
     exact ⟨j+1,_,done++ [X9],_,_,by omega,by go_num,HL.out.step HST.out (HRD.out.trans HR9.out) hjc⟩
    case measure=>simp [intOf];omega
   ·have hjc2:¬(j:Int)<(c:Int):=by omega
    go_wp2_with fail;go_end0;exact HL.out.fin (.inl (by omega))
  ·have h0' :(e' ==0)=false:=by simp;exact h0
   by_cases hjc:j< c
   ·have hjc2:(j:Int)<(c:Int):=by omega
    go_wp2_with fail;go_end0;exact HL.out.fin (.inr h0)
   ·have hjc2:¬(j:Int)<(c:Int):=by omega
    go_wp2_with fail;go_end0;exact HL.out.fin (.inr h0)
theorem EL (W:World) (p q m:Nat) (sat:Bool) (B:List Int) (a:Nat) (e:Int) (mc:Array Value) (hC:Rdr W p q B a e) (hB:aK B) (hm:Blk W m mc 78) (hi:mc[10]? =some (.slice none 0 0)) (hmp:m≠p) (hmq:m≠q) (hq:q< W.heap.size):
  Calls Tryz.prog 23 #[.pointer (some ⟨m,0,none⟩), .int .i64 11, .pointer (some ⟨p,0,none⟩), .bool sat] W (lQ iy 95 W p q m mc 10 B (bq (gP sat B) B a e)):=by
 have HK0:=Lib.hid (⟨hC.lt,hq,hm.lt,hmp,hmq,hC.1,(Array.getElem?_eq_some_iff.1 hi).1⟩:LSC W p q m 10 mc);have HM0:=Lib.hid (LM.start (d:=iy) (t:=95) hC hm hi);have H1:=Lib.hid (dM W p q B a e hC hB);have hcb:=bK (a:=a) (e:=e) hB;have HBB:=Lib.hid hB;obtain ⟨rd,hrd⟩:∃rd,rd=(gP sat B):=⟨_,rfl⟩;have HRD0:=Lib.hid (fun a e=>(by rw [hrd]:rd a e=gP sat B a e));rw [←hrd];obtain ⟨R,hR⟩:∃R,R=bq rd B a e:=⟨_,rfl⟩;rw [←hR];clear hrd;unfold bq at hR;generalize az (aG B a) a e=n at *;obtain ⟨nv,a1,e1⟩:=n;dsimp only at hR H1 hcb;obtain ⟨c,rfl⟩:=Int.eq_ofNat_of_zero_le hcb.1;rw [Int.toNat_natCast]at hR;have HR:=Lib.hid hR;have hc:=hcb.2;clear hC hB hm hi hmp hmq hq hR hcb;go_enter Tryz.func23,Tryz.ntmps23;go_wp2_with fail;refine H1.out.mono ?_;rintro E W1 ⟨rfl,hG⟩;have HL0:=Lib.hid (⟨HM0.out.goes HK0.out hG,by rw [List.nil_append,Nat.sub_zero];exact HR.out.symm,Nat.zero_le _⟩:LS iy 95 rd W p q m 10 B mc R c 0 (.slice none 0 0) [] a1 e1 W1);clear hG H1 HM0;go_wp2_with fail;go_loopw [9] (fun i wr=>∃(j:Nat) (v:Value) (done:List j5) (a' :Nat) (e' :Int),j≤c∧i= .int .i64 j∧Hid (LS iy 95 rd W p q m 10 B mc R c j v done a' e' wr)) (fun i _=>c - (intOf i).toNat)
 case atStart=>exact ⟨0, .slice none 0 0, [],a1,e1,Nat.zero_le _,rfl,HL0.out⟩
 case round=>
  obtain ⟨j,v,done,a',e',hj,rfl,HL⟩:=hrel;obtain ⟨A,cc,c0,c1,c2,f0,f1,f2,hle,hq,hlt,ha⟩:=HL.out.lm.rd.cells;clear hle hq HL0;by_cases h0:e' =0
  ·subst h0;by_cases hjc:j< c
   ·have hjc2:(j:Int)<(c:Int):=by omega
    have HM:=Lib.hid HL.out.lm;obtain ⟨R9,hR9⟩:∃r,r=gP sat B a' 0:=⟨_,rfl⟩;have HRD:=Lib.hid ((HRD0.out a' 0).trans hR9.symm);unfold gP dP at hR9;have HC:=Lib.hid (fun X (h:Rdr X p q B a' 0)=>oP X p q B a' 0 h HBB.out);have hub:=bP (a:=a') (e:=0) HBB.out;generalize az (aI B a') a' 0=r at *;obtain ⟨tb,a2,e2⟩:=r;try dsimp only at HC hub hR9
    have HC2:=Lib.hid (fun X (h:Rdr X p q B a2 e2)=>mI X p q sat B a2 e2 h HBB.out);generalize eX sat B a2 e2=r at *;obtain ⟨bd,a3,e3⟩:=r;try dsimp only at HC2 hR9
    have hH1:=fun X (hX:Rdr X p q B a3 e3)=>fq X p q B a3 32 e3 hX HBB.out (by decide) (by decide)
    simp only [show ∀a,bQ B a 32=aI B a from fun _=>rfl]at hH1;have hub2:=bP (a:=a3) (e:=e3) HBB.out;have hpb:=fw HBB.out a3 e3;unfold aT at hR9 hpb;generalize az (aI B a3) a3 e3=r at *;obtain ⟨uv,a4,e4⟩:=r;try dsimp only at hH1 hub2 hpb hR9
    obtain ⟨nb,rfl⟩:=Int.eq_ofNat_of_zero_le hub2.1;rw [Int.toNat_natCast]at hR9 hpb;have HC4:=Lib.hid (fun X (hX:Rdr X p q B a4 e4)=>mM X p q B a4 nb e4 hX HBB.out (by omega));generalize rdL (cO B a4 nb) a4 e4=r at *;obtain ⟨bs,a5,e5⟩:=r;try dsimp only at HC4 hpb hR9
    have HC3:=Lib.hid hH1;have HPB:=Lib.hid hpb;have HR9:=Lib.hid hR9;obtain ⟨X9,hX9⟩:∃x:j5,x=⟨tb,bd,bs⟩:=⟨_,rfl⟩;rw [←hX9]at HR9;have HX9:=Lib.hid hX9;have HL9:=Lib.hid (show (done.length+1) * 56≤140737488355328 from by have h:=HL.out.len;omega);have HUB:=Lib.hid hub;clear hR9 hub hX9 hH1 hub2 hpb;go_wp2_with fail;refine (HC.out _ HM.out.rd).mono ?_;rintro E W2 ⟨rfl,hG⟩;have HZ:=Lib.hid (show wr.heap.size≤W2.heap.size from hG.2.size);replace HM:=Lib.hid (HM.out.goes HK0.out hG);clear hG HC c0 c1 c2 f0 f1 f2 hlt;go_wp2_with fail;refine (HC2.out _ HM.out.rd).mono ?_;rintro E W3 ⟨⟨A1,k1,rfl,hl1,hF1⟩,hG⟩;have HF1:=Lib.hid (eu (Ft.mono hF1 (ok' :=fun k=>wr.heap.size≤k) (fun k (hk:W2.heap.size≤k)=>by have h:=HZ.out;omega)));have HL1:=Lib.hid hl1;have HZ3:=Lib.hid (show W2.heap.size≤W3.heap.size from hG.2.size);replace HM:=Lib.hid (HM.out.goes HK0.out hG);have hpw:p< wr.heap.size:=HL.out.lm.rd.lt;have HPW:=Lib.hid hpw;clear hG HC2 hF1 hl1 hpw;go_wp2_with fail;have HM9:=Lib.hid HM.out.drew;refine wp_region_noPanic ?_;refine dI (fun w' =>Blk w' m (mc.setIfInBounds 10 v) 78) (fun i=>i==18) (by kernel_rfl) HM9.out.blk (fun hHeld=> ?_);refine aC (i:=0) (oi:= ?_) (v:= ?_) ?_ (by kernel_rfl) (by kernel_rfl) (by kernel_rfl) (by kernel_rfl) (fun _ _ _ h=>h) (Or.inl ⟨?_, ?_⟩) hHeld ?_;rotate_left 2
    ·simp only [List.getElem?_toArray,List.getElem?_cons_succ,List.getElem?_cons_zero];exact rfl
    ·rfl
    ·(intro w hSw;go_simp;try with_reducible rfl)
    refine aC (i:=1) (oi:= ?_) (v:= ?_) ?_ (by kernel_rfl) (by kernel_rfl) (by kernel_rfl) (by kernel_rfl) (fun _ _ _ h=>h) (Or.inl ⟨?_, ?_⟩) hHeld ?_;rotate_left 2
    ·simp only [List.getElem?_toArray,List.getElem?_cons_succ,List.getElem?_cons_zero];exact rfl
    ·rfl
    ·(intro w hSw;go_simp;try with_reducible rfl)
    refine aC (i:=2) (oi:= ?_) (v:= ?_) ?_ (by kernel_rfl) (by kernel_rfl) (by kernel_rfl) (by kernel_rfl) (fun _ _ _ h=>h) (Or.inl ⟨?_, ?_⟩) hHeld ?_;rotate_left 2
    ·simp only [List.getElem?_toArray,List.getElem?_cons_succ,List.getElem?_cons_zero];exact rfl
    ·rfl
    ·(intro w hSw;go_simp;try with_reducible rfl)
    refine aC (i:=3) (oi:= ?_) (v:= ?_) ?_ (by kernel_rfl) (by kernel_rfl) (by kernel_rfl) (by kernel_rfl) (fun _ _ _ h=>h) (Or.inl ⟨?_, ?_⟩) hHeld ?_;rotate_left 2
    ·simp only [List.getElem?_toArray,List.getElem?_cons_succ,List.getElem?_cons_zero];exact rfl
    ·rfl
    ·(intro w hSw;go_simp;try with_reducible rfl)
    refine aC (i:=4) (oi:= ?_) (v:= ?_) ?_ (by kernel_rfl) (by kernel_rfl) (by kernel_rfl) (by kernel_rfl) (fun _ _ _ h=>h) (Or.inl ⟨?_, ?_⟩) hHeld ?_;rotate_left 2
    ·simp only [List.getElem?_toArray,List.getElem?_cons_succ,List.getElem?_cons_zero];exact rfl
    ·rfl
    ·(intro w hSw;go_simp;try with_reducible rfl)
    refine aC (i:=5) (oi:= ?_) (v:= ?_) ?_ (by kernel_rfl) (by kernel_rfl) (by kernel_rfl) (by kernel_rfl) (fun _ _ _ h=>h) (Or.inl ⟨?_, ?_⟩) hHeld ?_;rotate_left 2
    ·simp only [List.getElem?_toArray,List.getElem?_cons_succ,List.getElem?_cons_zero];exact rfl
    ·rfl
    ·(intro w hSw;have e:=LM.at_ hSw HK0.out;go_simp;try with_reducible rfl)
    refine aC (i:=6) (oi:= ?_) (v:= ?_) ?_ (by kernel_rfl) (by kernel_rfl) (by kernel_rfl) (by kernel_rfl) (fun _ _ _ h=>h) (Or.inl ⟨?_, ?_⟩) hHeld ?_;rotate_left 2
    ·simp only [List.getElem?_toArray,List.getElem?_cons_succ,List.getElem?_cons_zero];exact rfl
    ·rfl
    ·(intro w hSw;go_simp;try with_reducible rfl)
    refine aC (i:=7) (oi:= ?_) (v:= ?_) ?_ (by kernel_rfl) (by kernel_rfl) (by kernel_rfl) (by kernel_rfl) (fun _ _ _ h=>h) (Or.inl ⟨?_, ?_⟩) hHeld ?_;rotate_left 2
    ·simp only [List.getElem?_toArray,List.getElem?_cons_succ,List.getElem?_cons_zero];exact rfl
    ·rfl
    ·(intro w hSw;go_simp;try with_reducible rfl)
    refine aC (i:=8) (oi:= ?_) (v:= ?_) ?_ (by kernel_rfl) (by kernel_rfl) (by kernel_rfl) (by kernel_rfl) (fun _ _ _ h=>h) (Or.inl ⟨?_, ?_⟩) hHeld ?_;rotate_left 2
    ·simp only [List.getElem?_toArray,List.getElem?_cons_succ,List.getElem?_cons_zero];exact rfl
    ·rfl
    ·(intro w hSw;go_simp;try with_reducible rfl)
    refine aC (i:=9) (oi:= ?_) (v:= ?_) ?_ (by kernel_rfl) (by kernel_rfl) (by kernel_rfl) (by kernel_rfl) (fun _ _ _ h=>h) (Or.inl ⟨?_, ?_⟩) hHeld ?_;rotate_left 2
    ·simp only [List.getElem?_toArray,List.getElem?_cons_succ,List.getElem?_cons_zero];exact rfl
    ·rfl
    ·(intro w hSw;go_simp;try with_reducible rfl)
    refine aP (i:=10) (o:= ?_) (by kernel_rfl) ?_ rfl (fun K hK=> ?_);rotate_left
    ·simp only [List.getElem?_toArray,List.getElem?_cons_succ,List.getElem?_cons_zero];exact rfl
    go_simp;refine (HC3.out _ HM9.out.rd).mono ?_;rintro E W4 ⟨rfl,hG⟩;have HM2:=Lib.hid (HM9.out.goes HK0.out hG);replace HF1:=Lib.hid (jy HF1.out hG (fun k (hk:wr.heap.size≤k)=>by have h:=HPW.out;omega));clear hG;go_wp2_with fail;refine hK.out _ _ HM2.out.blk (fun hHeld=> ?_);clear hK K;try simp only [Act.put,List.setIfInBounds_toArray,List.set_cons_zero,List.set_cons_succ]
    refine aP (i:=11) (o:= ?_) (by kernel_rfl) ?_ rfl (fun K hK=> ?_);rotate_left
    ·simp only [List.getElem?_toArray,List.getElem?_cons_succ,List.getElem?_cons_zero];exact rfl
    go_simp;refine (HC4.out _ HM2.out.rd).mono ?_;rintro E W5 ⟨⟨A2,k2,rfl,hl2,hby⟩,hG⟩;have HM3:=Lib.hid (HM2.out.goes HK0.out hG);have hFK:FK iy W5 (fun k=>k=q∨wr.heap.size≤k) X9 [.int .u32 tb, .slice A1 bd.length k1, .slice A2 bs.length k2]:=by rw [HX9.out];exact wh (x:=⟨tb,bd,bs⟩) (wf_u32 HUB.out) (Ft.mono (jy HF1.out hG (fun k (hk:wr.heap.size≤k)=>by have h:=HPW.out;omega)) (fun k hk=> .inr hk)) HL1.out (Ft.mono (uH hby HPB.out.2 HPB.out.1) (fun k hk=> .inl hk)) hl2
    have HFK:=Lib.hid hFK;clear hG hby hl2 hFK;go_wp2_with fail;refine hK.out _ _ HM3.out.blk (fun hHeld=> ?_);clear hK K;try simp only [Act.put,List.setIfInBounds_toArray,List.set_cons_zero,List.set_cons_succ]
    refine aC (i:=12) (oi:= ?_) (v:= ?_) ?_ (by kernel_rfl) (by kernel_rfl) (by kernel_rfl) (by kernel_rfl) (fun _ _ _ h=>h) (Or.inl ⟨?_, ?_⟩) hHeld ?_;rotate_left 2
    ·simp only [List.getElem?_toArray,List.getElem?_cons_succ,List.getElem?_cons_zero];exact rfl
    ·rfl
    ·(intro w hSw;go_simp;try with_reducible rfl)
    refine aP (i:=13) (o:= ?_) (by kernel_rfl) ?_ rfl (fun K hK=> ?_);rotate_left
    ·simp only [List.getElem?_toArray,List.getElem?_cons_succ,List.getElem?_cons_zero];exact rfl
    go_simp;refine hK.out _ _ (hHeld.alloc _) (fun hHeld=> ?_);clear hK K;try simp only [Act.put,List.setIfInBounds_toArray,List.set_cons_zero,List.set_cons_succ]
    refine aP (i:=14) (o:= ?_) (by kernel_rfl) ?_ rfl (fun K hK=> ?_);rotate_left
    ·simp only [List.getElem?_toArray,List.getElem?_cons_succ,List.getElem?_cons_zero];exact rfl
    refine Own.bY (d:=iy) W.heap.size rfl (.tmp 142) (.tmp 150) 45 95 _ 56 rfl Tryz.underlying45 qA rfl (by decide) (by decide) v done X9 [.int .u32 tb, .slice A1 bd.length k1, .slice A2 bs.length k2] (fun k=>k=q∨W.heap.size≤k) rfl rfl (HL.out.lm.fk HK0.out HFK.out) HM3.out.own HM3.out.g.size HL9.out ?_;intro v1 w1 hown1 hg1 hat1;obtain ⟨A9,c9,rfl,hl9,hF9⟩:=Own.reads hown1;rw [show (done++ [X9]).length=done.length+1 by simp]at hown1;have HST:=Lib.hid (HM3.out.store HK0.out hown1 hg1);have hbk:=HM3.out.look HK0.out hg1;have q2:=LM.at_ hbk HK0.out;have qf:=hbk.frozen 10;have ql:=hbk.lt;refine hK.out _ _ hbk (fun hHeld=> ?_);clear hK K;try simp only [Act.put,List.setIfInBounds_toArray,List.set_cons_zero,List.set_cons_succ]
    refine aP (i:=15) (o:= ?_) (by kernel_rfl) ?_ rfl (fun K hK=> ?_);rotate_left
    ·simp only [List.getElem?_toArray,List.getElem?_cons_succ,List.getElem?_cons_zero];exact rfl
    go_simp;refine hK.out _ _ hHeld (fun hHeld=> ?_);clear hK K;try simp only [Act.put,List.setIfInBounds_toArray,List.set_cons_zero,List.set_cons_succ]
    refine aP (i:=16) (o:= ?_) (by kernel_rfl) ?_ rfl (fun K hK=> ?_);rotate_left
    ·simp only [List.getElem?_toArray,List.getElem?_cons_succ,List.getElem?_cons_zero];exact rfl
    go_simp;refine hK.out _ _ hHeld (fun hHeld=> ?_);clear hK K;try simp only [Act.put,List.setIfInBounds_toArray,List.set_cons_zero,List.set_cons_succ]
    refine aP (i:=17) (o:= ?_) (by kernel_rfl) ?_ rfl (fun K hK=> ?_);rotate_left
    ·simp only [List.getElem?_toArray,List.getElem?_cons_succ,List.getElem?_cons_zero];exact rfl
    go_simp;refine hK.out _ _ hHeld (fun hHeld=> ?_);clear hK K;try simp only [Act.put,List.setIfInBounds_toArray,List.set_cons_zero,List.set_cons_succ]
    refine fG (i:=18) (o:= ?_) (by kernel_rfl) ?_ rfl (fun K hK=> ?_);rotate_left
    ·simp only [List.getElem?_toArray,List.getElem?_cons_succ,List.getElem?_cons_zero];exact rfl
    go_simp;refine hK.out _ _ ?_;clear hK K;try simp only [Act.put,List.setIfInBounds_toArray,List.set_cons_zero,List.set_cons_succ]
    refine eQ (by kernel_rfl) ?_ _;refine NoPanic.normal ?_;clear hown1 hg1 hat1 hl9 hF9 hbk q2 qf ql hHeld;go_wp2_with fail;go_roundw
    case rel=>
     exact ⟨j+1,_,done++ [X9],_,_,by omega,by go_num,HL.out.step HST.out (HRD.out.trans HR9.out) hjc⟩
    case measure=>simp [intOf];omega
   ·have hjc2:¬(j:Int)<(c:Int):=by omega
    go_wp2_with fail;go_end0;exact HL.out.fin (.inl (by omega))
  ·have h0' :(e' ==0)=false:=by simp;exact h0
   by_cases hjc:j< c
   ·have hjc2:(j:Int)<(c:Int):=by omega
    go_wp2_with fail;go_end0;exact HL.out.fin (.inr h0)
   ·have hjc2:¬(j:Int)<(c:Int):=by omega
    go_wp2_with fail;go_end0;exact HL.out.fin (.inr h0)
theorem GA (W:World) (p q m:Nat) (B:List Int) (a:Nat) (e:Int) (mc:Array Value) (hC:Rdr W p q B a e) (hB:aK B) (hm:Blk W m mc 78) (hi:mc[0]? =some (.slice none 0 0)) (hmp:m≠p) (hmq:m≠q) (hq:q< W.heap.size):
  Calls Tryz.prog 22 #[.pointer (some ⟨m,0,none⟩), .int .i64 1, .pointer (some ⟨p,0,none⟩)] W (lQ kFt 99 W p q m mc 0 B (bq (ik B) B a e)):=by
 have HK0:=Lib.hid (⟨hC.lt,hq,hm.lt,hmp,hmq,hC.1,(Array.getElem?_eq_some_iff.1 hi).1⟩:LSC W p q m 0 mc);have HM0:=Lib.hid (LM.start (d:=kFt) (t:=99) hC hm hi);have H1:=Lib.hid (dM W p q B a e hC hB);have hcb:=bK (a:=a) (e:=e) hB;have HBB:=Lib.hid hB;obtain ⟨rd,hrd⟩:∃rd,rd=(ik B):=⟨_,rfl⟩;have HRD0:=Lib.hid (fun a e=>(by rw [hrd]:rd a e=ik B a e));rw [←hrd];obtain ⟨R,hR⟩:∃R,R=bq rd B a e:=⟨_,rfl⟩;rw [←hR];clear hrd;unfold bq at hR;generalize az (aG B a) a e=n at *;obtain ⟨nv,a1,e1⟩:=n;dsimp only at hR H1 hcb;obtain ⟨c,rfl⟩:=Int.eq_ofNat_of_zero_le hcb.1;rw [Int.toNat_natCast]at hR;have HR:=Lib.hid hR;have hc:=hcb.2;clear hC hB hm hi hmp hmq hq hR hcb;go_enter Tryz.func22,Tryz.ntmps22;go_wp2_with fail;refine H1.out.mono ?_;rintro E W1 ⟨rfl,hG⟩;have HL0:=Lib.hid (⟨HM0.out.goes HK0.out hG,by rw [List.nil_append,Nat.sub_zero];exact HR.out.symm,Nat.zero_le _⟩:LS kFt 99 rd W p q m 0 B mc R c 0 (.slice none 0 0) [] a1 e1 W1);clear hG H1 HM0;go_wp2_with fail;go_loopw [7] (fun i wr=>∃(j:Nat) (v:Value) (done:List (List Int×List Int)) (a' :Nat) (e' :Int),j≤c∧i= .int .i64 j∧Hid (LS kFt 99 rd W p q m 0 B mc R c j v done a' e' wr)) (fun i _=>c - (intOf i).toNat)
 case atStart=>exact ⟨0, .slice none 0 0, [],a1,e1,Nat.zero_le _,rfl,HL0.out⟩
 case round=>
  obtain ⟨j,v,done,a',e',hj,rfl,HL⟩:=hrel;obtain ⟨A,cc,c0,c1,c2,f0,f1,f2,hle,hq,hlt,ha⟩:=HL.out.lm.rd.cells;clear hle hq HL0;by_cases h0:e' =0
  ·subst h0;by_cases hjc:j< c
   ·have hjc2:(j:Int)<(c:Int):=by omega
    have HM:=Lib.hid HL.out.lm;obtain ⟨R9,hR9⟩:∃r,r=ik B a' 0:=⟨_,rfl⟩;have HRD:=Lib.hid ((HRD0.out a' 0).trans hR9.symm);have HC:=Lib.hid (fun X (h:Rdr X p q B a' 0)=>zS X p q B a' 0 h HBB.out);generalize ik B a' 0=r at *;obtain ⟨⟨ps,rs⟩,a2,e2⟩:=r;try dsimp only at HC
    have HR9:=Lib.hid hR9;obtain ⟨X9,hX9⟩:∃x,x=(ps,rs):=⟨_,rfl⟩;have HL9:=Lib.hid (show (done.length+1) * 48≤140737488355328 from by have h:=HL.out.len;omega);clear hR9;go_wp2_with fail;refine (HC.out _ HM.out.rd).mono ?_;rintro E W2 ⟨⟨A1,k1,A2,k2,rfl,hl1,hl2,hF1,hF2⟩,hG⟩;have hFK:=HM.out.fk HK0.out (cs:= [.slice A1 ps.length k1, .slice A2 rs.length k2]) (x:=(ps,rs)) (d:=kFt) (He (Ft.mono hF1 (fun k hk=> .inr hk)) (Ft.mono hF2 (fun k hk=> .inr hk)) hl1 hl2);replace HM:=Lib.hid (HM.out.goes HK0.out hG);rw [←hX9]at hFK HR9;have HFK:=Lib.hid hFK;have hgs:=HM.out.g.size;have hb0:=HM.out.blk;have q2:=LM.at_ hb0 HK0.out;have qf:=hb0.frozen 0;have ql:=hb0.lt;clear hG hF1 hF2 hFK hb0 c0 c1 c2 f0 f1 f2 hlt HC;go_wp2_with (at_builtin;refine Own.append (d:=kFt) W.heap.size rfl (.tmp 62) (.tmp 66) 38 99 _ 48 rfl Tryz.underlying38 tY rfl (by decide) (by decide) v done X9 _ (fun k=>k=q∨W.heap.size≤k) rfl rfl HFK.out HM.out.own hgs HL9.out ?_;intro v1 w1 hown1 hg1 hat1;have hbk:=HM.out.look HK0.out hg1;obtain ⟨A9,c9,rfl,hl9,hF9⟩:=Own.reads hown1;rw [show (done++ [X9]).length=done.length+1 by simp]at hown1;have HST:=Lib.hid (HM.out.store HK0.out hown1 hg1);have q2:=LM.at_ hbk HK0.out;have qf:=hbk.frozen 0;have ql:=hbk.lt);clear hown1 hg1 hat1 hl9 hF9 hbk q2 qf ql;go_wp2_with fail;go_roundw
    case rel=>
     exact ⟨j+1,_,done++ [X9],_,_,by omega,by go_num,HL.out.step HST.out (HRD.out.trans HR9.out) hjc⟩
    case measure=>simp [intOf];omega
   ·have hjc2:¬(j:Int)<(c:Int):=by omega
    go_wp2_with fail;go_end0;exact HL.out.fin (.inl (by omega))
  ·have h0' :(e' ==0)=false:=by simp;exact h0
   by_cases hjc:j< c
   ·have hjc2:(j:Int)<(c:Int):=by omega
    go_wp2_with fail;go_end0;exact HL.out.fin (.inr h0)
   ·have hjc2:¬(j:Int)<(c:Int):=by omega
    go_wp2_with fail;go_end0;exact HL.out.fin (.inr h0)
theorem E8 (W:World) (p q m:Nat) (B:List Int) (a:Nat) (e:Int) (mc:Array Value) (hC:Rdr W p q B a e) (hB:aK B) (hm:Blk W m mc 78) (hi:mc[1]? =some (.slice none 0 0)) (hmp:m≠p) (hmq:m≠q) (hq:q< W.heap.size):
  Calls Tryz.prog 22 #[.pointer (some ⟨m,0,none⟩), .int .i64 2, .pointer (some ⟨p,0,none⟩)] W (lQ iF 108 W p q m mc 1 B (bq (kv B) B a e)):=by
 have HK0:=Lib.hid (⟨hC.lt,hq,hm.lt,hmp,hmq,hC.1,(Array.getElem?_eq_some_iff.1 hi).1⟩:LSC W p q m 1 mc);have HM0:=Lib.hid (LM.start (d:=iF) (t:=108) hC hm hi);have H1:=Lib.hid (dM W p q B a e hC hB);have hcb:=bK (a:=a) (e:=e) hB;have HBB:=Lib.hid hB;obtain ⟨rd,hrd⟩:∃rd,rd=(kv B):=⟨_,rfl⟩;have HRD0:=Lib.hid (fun a e=>(by rw [hrd]:rd a e=kv B a e));rw [←hrd];obtain ⟨R,hR⟩:∃R,R=bq rd B a e:=⟨_,rfl⟩;rw [←hR];clear hrd;unfold bq at hR;generalize az (aG B a) a e=n at *;obtain ⟨nv,a1,e1⟩:=n;dsimp only at hR H1 hcb;obtain ⟨c,rfl⟩:=Int.eq_ofNat_of_zero_le hcb.1;rw [Int.toNat_natCast]at hR;have HR:=Lib.hid hR;have hc:=hcb.2;clear hC hB hm hi hmp hmq hq hR hcb;go_enter Tryz.func22,Tryz.ntmps22;go_wp2_with fail;refine H1.out.mono ?_;rintro E W1 ⟨rfl,hG⟩;have HL0:=Lib.hid (⟨HM0.out.goes HK0.out hG,by rw [List.nil_append,Nat.sub_zero];exact HR.out.symm,Nat.zero_le _⟩:LS iF 108 rd W p q m 1 B mc R c 0 (.slice none 0 0) [] a1 e1 W1);clear hG H1 HM0;go_wp2_with fail;go_loopw [7] (fun i wr=>∃(j:Nat) (v:Value) (done:List vK) (a' :Nat) (e' :Int),j≤c∧i= .int .i64 j∧Hid (LS iF 108 rd W p q m 1 B mc R c j v done a' e' wr)) (fun i _=>c - (intOf i).toNat)
 case atStart=>exact ⟨0, .slice none 0 0, [],a1,e1,Nat.zero_le _,rfl,HL0.out⟩
 case round=>
  obtain ⟨j,v,done,a',e',hj,rfl,HL⟩:=hrel;obtain ⟨A,cc,c0,c1,c2,f0,f1,f2,hle,hq,hlt,ha⟩:=HL.out.lm.rd.cells;clear hle hq HL0;by_cases h0:e' =0
  ·subst h0;by_cases hjc:j< c
   ·have hjc2:(j:Int)<(c:Int):=by omega
    have HM:=Lib.hid HL.out.lm;obtain ⟨R9,hR9⟩:∃r,r=kv B a' 0:=⟨_,rfl⟩;have HRD:=Lib.hid ((HRD0.out a' 0).trans hR9.symm);have HC:=Lib.hid (fun X (h:Rdr X p q B a' 0)=>rY X p q B a' 0 h HBB.out);generalize kv B a' 0=r at *;obtain ⟨X9,a2,e2⟩:=r;try dsimp only at HC
    have HR9:=Lib.hid hR9;have HL9:=Lib.hid (show (done.length+1) * 64≤140737488355328 from by have h:=HL.out.len;omega);clear hR9;go_wp2_with fail;have HM9:=Lib.hid HM.out.drew;refine wp_region_noPanic ?_;refine dI (fun w' =>Blk w' m (mc.setIfInBounds 1 v) 78) (fun i=>i==13) (by kernel_rfl) HM9.out.blk (fun hHeld=> ?_);refine aC (i:=0) (oi:= ?_) (v:= ?_) ?_ (by kernel_rfl) (by kernel_rfl) (by kernel_rfl) (by kernel_rfl) (fun _ _ _ h=>h) (Or.inl ⟨?_, ?_⟩) hHeld ?_;rotate_left 2
    ·simp only [List.getElem?_toArray,List.getElem?_cons_succ,List.getElem?_cons_zero];exact rfl
    ·rfl
    ·(intro w hSw;go_simp;try with_reducible rfl)
    refine aC (i:=1) (oi:= ?_) (v:= ?_) ?_ (by kernel_rfl) (by kernel_rfl) (by kernel_rfl) (by kernel_rfl) (fun _ _ _ h=>h) (Or.inl ⟨?_, ?_⟩) hHeld ?_;rotate_left 2
    ·simp only [List.getElem?_toArray,List.getElem?_cons_succ,List.getElem?_cons_zero];exact rfl
    ·rfl
    ·(intro w hSw;go_simp;try with_reducible rfl)
    refine aC (i:=2) (oi:= ?_) (v:= ?_) ?_ (by kernel_rfl) (by kernel_rfl) (by kernel_rfl) (by kernel_rfl) (fun _ _ _ h=>h) (Or.inl ⟨?_, ?_⟩) hHeld ?_;rotate_left 2
    ·simp only [List.getElem?_toArray,List.getElem?_cons_succ,List.getElem?_cons_zero];exact rfl
    ·rfl
    ·(intro w hSw;go_simp;try with_reducible rfl)
    refine aC (i:=3) (oi:= ?_) (v:= ?_) ?_ (by kernel_rfl) (by kernel_rfl) (by kernel_rfl) (by kernel_rfl) (fun _ _ _ h=>h) (Or.inl ⟨?_, ?_⟩) hHeld ?_;rotate_left 2
    ·simp only [List.getElem?_toArray,List.getElem?_cons_succ,List.getElem?_cons_zero];exact rfl
    ·rfl
    ·(intro w hSw;go_simp;try with_reducible rfl)
    refine aC (i:=4) (oi:= ?_) (v:= ?_) ?_ (by kernel_rfl) (by kernel_rfl) (by kernel_rfl) (by kernel_rfl) (fun _ _ _ h=>h) (Or.inl ⟨?_, ?_⟩) hHeld ?_;rotate_left 2
    ·simp only [List.getElem?_toArray,List.getElem?_cons_succ,List.getElem?_cons_zero];exact rfl
    ·rfl
    ·(intro w hSw;go_simp;try with_reducible rfl)
    refine aC (i:=5) (oi:= ?_) (v:= ?_) ?_ (by kernel_rfl) (by kernel_rfl) (by kernel_rfl) (by kernel_rfl) (fun _ _ _ h=>h) (Or.inl ⟨?_, ?_⟩) hHeld ?_;rotate_left 2
    ·simp only [List.getElem?_toArray,List.getElem?_cons_succ,List.getElem?_cons_zero];exact rfl
    ·rfl
    ·(intro w hSw;have e:=LM.at_ hSw HK0.out;go_simp;try with_reducible rfl)
    refine aC (i:=6) (oi:= ?_) (v:= ?_) ?_ (by kernel_rfl) (by kernel_rfl) (by kernel_rfl) (by kernel_rfl) (fun _ _ _ h=>h) (Or.inl ⟨?_, ?_⟩) hHeld ?_;rotate_left 2
    ·simp only [List.getElem?_toArray,List.getElem?_cons_succ,List.getElem?_cons_zero];exact rfl
    ·rfl
    ·(intro w hSw;go_simp;try with_reducible rfl)
    refine aP (i:=7) (o:= ?_) (by kernel_rfl) ?_ rfl (fun K hK=> ?_);rotate_left
    ·simp only [List.getElem?_toArray,List.getElem?_cons_succ,List.getElem?_cons_zero];exact rfl
    go_simp;refine (HC.out _ HM9.out.rd).mono ?_;rintro E W2 ⟨⟨cs,rfl,hF⟩,hG⟩;obtain rfl:=lF hF;have HM2:=Lib.hid (HM9.out.goes HK0.out hG);have HFK:=Lib.hid hF;clear hG hF;go_wp2_with fail;refine hK.out _ _ HM2.out.blk (fun hHeld=> ?_);clear hK K;try simp only [Act.put,List.setIfInBounds_toArray,List.set_cons_zero,List.set_cons_succ]
    refine aP (i:=8) (o:= ?_) (by kernel_rfl) ?_ rfl (fun K hK=> ?_);rotate_left
    ·simp only [List.getElem?_toArray,List.getElem?_cons_succ,List.getElem?_cons_zero];exact rfl
    go_simp;refine hK.out _ _ (hHeld.alloc _) (fun hHeld=> ?_);clear hK K;try simp only [Act.put,List.setIfInBounds_toArray,List.set_cons_zero,List.set_cons_succ]
    refine aP (i:=9) (o:= ?_) (by kernel_rfl) ?_ rfl (fun K hK=> ?_);rotate_left
    ·simp only [List.getElem?_toArray,List.getElem?_cons_succ,List.getElem?_cons_zero];exact rfl
    refine Own.bY (d:=iF) W.heap.size rfl (.tmp 78) (.tmp 81) 39 108 _ 64 rfl Tryz.underlying39 sP rfl (by decide) (by decide) v done X9 [.string X9.m, .string X9.n, .int .i64 X9.kind, .int .u32 X9.ty, .int .u32 X9.lim.1, .int .u32 X9.lim.2.1, .bool X9.lim.2.2, .int .u8 X9.glob.1, .bool X9.glob.2] (fun k=>k=q∨W.heap.size≤k) rfl rfl (HM9.out.fk HK0.out HFK.out) HM2.out.own HM2.out.g.size HL9.out ?_;intro v1 w1 hown1 hg1 hat1;obtain ⟨A9,c9,rfl,hl9,hF9⟩:=Own.reads hown1;rw [show (done++ [X9]).length=done.length+1 by simp]at hown1;have HST:=Lib.hid (HM2.out.store HK0.out hown1 hg1);have hbk:=HM2.out.look HK0.out hg1;have q2:=LM.at_ hbk HK0.out;have qf:=hbk.frozen 1;have ql:=hbk.lt;refine hK.out _ _ hbk (fun hHeld=> ?_);clear hK K;try simp only [Act.put,List.setIfInBounds_toArray,List.set_cons_zero,List.set_cons_succ]
    refine aP (i:=10) (o:= ?_) (by kernel_rfl) ?_ rfl (fun K hK=> ?_);rotate_left
    ·simp only [List.getElem?_toArray,List.getElem?_cons_succ,List.getElem?_cons_zero];exact rfl
    go_simp;refine hK.out _ _ hHeld (fun hHeld=> ?_);clear hK K;try simp only [Act.put,List.setIfInBounds_toArray,List.set_cons_zero,List.set_cons_succ]
    refine aP (i:=11) (o:= ?_) (by kernel_rfl) ?_ rfl (fun K hK=> ?_);rotate_left
    ·simp only [List.getElem?_toArray,List.getElem?_cons_succ,List.getElem?_cons_zero];exact rfl
    go_simp;refine hK.out _ _ hHeld (fun hHeld=> ?_);clear hK K;try simp only [Act.put,List.setIfInBounds_toArray,List.set_cons_zero,List.set_cons_succ]
    refine aP (i:=12) (o:= ?_) (by kernel_rfl) ?_ rfl (fun K hK=> ?_);rotate_left
    ·simp only [List.getElem?_toArray,List.getElem?_cons_succ,List.getElem?_cons_zero];exact rfl
    go_simp;refine hK.out _ _ hHeld (fun hHeld=> ?_);clear hK K;try simp only [Act.put,List.setIfInBounds_toArray,List.set_cons_zero,List.set_cons_succ]
    refine fG (i:=13) (o:= ?_) (by kernel_rfl) ?_ rfl (fun K hK=> ?_);rotate_left
    ·simp only [List.getElem?_toArray,List.getElem?_cons_succ,List.getElem?_cons_zero];exact rfl
    go_simp;refine hK.out _ _ ?_;clear hK K;try simp only [Act.put,List.setIfInBounds_toArray,List.set_cons_zero,List.set_cons_succ]
    refine eQ (by kernel_rfl) ?_ _;refine NoPanic.normal ?_;clear hown1 hg1 hat1 hl9 hF9 hbk q2 qf ql hHeld;go_wp2_with fail;go_roundw
    case rel=>
     exact ⟨j+1,_,done++ [X9],_,_,by omega,by go_num,HL.out.step HST.out (HRD.out.trans HR9.out) hjc⟩
    case measure=>simp [intOf];omega
   ·have hjc2:¬(j:Int)<(c:Int):=by omega
    go_wp2_with fail;go_end0;exact HL.out.fin (.inl (by omega))
  ·have h0' :(e' ==0)=false:=by simp;exact h0
   by_cases hjc:j< c
   ·have hjc2:(j:Int)<(c:Int):=by omega
    go_wp2_with fail;go_end0;exact HL.out.fin (.inr h0)
   ·have hjc2:¬(j:Int)<(c:Int):=by omega
    go_wp2_with fail;go_end0;exact HL.out.fin (.inr h0)
theorem EZ (W:World) (p q m:Nat) (B:List Int) (a:Nat) (e:Int) (mc:Array Value) (hC:Rdr W p q B a e) (hB:aK B) (hm:Blk W m mc 78) (hi:mc[3]? =some (.slice none 0 0)) (hmp:m≠p) (hmq:m≠q) (hq:q< W.heap.size):
  Calls Tryz.prog 22 #[.pointer (some ⟨m,0,none⟩), .int .i64 4, .pointer (some ⟨p,0,none⟩)] W (lQ dK 106 W p q m mc 3 B (bq (gJ B) B a e)):=by
 have HK0:=Lib.hid (⟨hC.lt,hq,hm.lt,hmp,hmq,hC.1,(Array.getElem?_eq_some_iff.1 hi).1⟩:LSC W p q m 3 mc);have HM0:=Lib.hid (LM.start (d:=dK) (t:=106) hC hm hi);have H1:=Lib.hid (dM W p q B a e hC hB);have hcb:=bK (a:=a) (e:=e) hB;have HBB:=Lib.hid hB;obtain ⟨rd,hrd⟩:∃rd,rd=(gJ B):=⟨_,rfl⟩;have HRD0:=Lib.hid (fun a e=>(by rw [hrd]:rd a e=gJ B a e));rw [←hrd];obtain ⟨R,hR⟩:∃R,R=bq rd B a e:=⟨_,rfl⟩;rw [←hR];clear hrd;unfold bq at hR;generalize az (aG B a) a e=n at *;obtain ⟨nv,a1,e1⟩:=n;dsimp only at hR H1 hcb;obtain ⟨c,rfl⟩:=Int.eq_ofNat_of_zero_le hcb.1;rw [Int.toNat_natCast]at hR;have HR:=Lib.hid hR;have hc:=hcb.2;clear hC hB hm hi hmp hmq hq hR hcb;go_enter Tryz.func22,Tryz.ntmps22;go_wp2_with fail;refine H1.out.mono ?_;rintro E W1 ⟨rfl,hG⟩;have HL0:=Lib.hid (⟨HM0.out.goes HK0.out hG,by rw [List.nil_append,Nat.sub_zero];exact HR.out.symm,Nat.zero_le _⟩:LS dK 106 rd W p q m 3 B mc R c 0 (.slice none 0 0) [] a1 e1 W1);clear hG H1 HM0;go_wp2_with fail;go_loopw [7] (fun i wr=>∃(j:Nat) (v:Value) (done:List (Int×Int×Bool)) (a' :Nat) (e' :Int),j≤c∧i= .int .i64 j∧Hid (LS dK 106 rd W p q m 3 B mc R c j v done a' e' wr)) (fun i _=>c - (intOf i).toNat)
 case atStart=>exact ⟨0, .slice none 0 0, [],a1,e1,Nat.zero_le _,rfl,HL0.out⟩
 case round=>
  obtain ⟨j,v,done,a',e',hj,rfl,HL⟩:=hrel;obtain ⟨A,cc,c0,c1,c2,f0,f1,f2,hle,hq,hlt,ha⟩:=HL.out.lm.rd.cells;clear hle hq HL0;by_cases h0:e' =0
  ·subst h0;by_cases hjc:j< c
   ·have hjc2:(j:Int)<(c:Int):=by omega
    have HM:=Lib.hid HL.out.lm;obtain ⟨R9,hR9⟩:∃r,r=gJ B a' 0:=⟨_,rfl⟩;have HRD:=Lib.hid ((HRD0.out a' 0).trans hR9.symm);have HC:=Lib.hid (fun X (h:Rdr X p q B a' 0)=>qM X p q B a' 0 h HBB.out);have hbd:=ry HBB.out a' 0;generalize gJ B a' 0=r at *;obtain ⟨X9,a2,e2⟩:=r;try dsimp only at HC hbd
    dsimp only [gI]at HC;have HR9:=Lib.hid hR9;have HBD:=Lib.hid hbd;have HL9:=Lib.hid (show (done.length+1) * 12≤140737488355328 from by have h:=HL.out.len;omega);clear hR9 hbd;go_wp2_with fail;have HM9:=Lib.hid HM.out.drew;refine wp_region_noPanic ?_;refine dI (fun w' =>Blk w' m (mc.setIfInBounds 3 v) 78) (fun i=>i==13) (by kernel_rfl) HM9.out.blk (fun hHeld=> ?_);refine aC (i:=0) (oi:= ?_) (v:= ?_) ?_ (by kernel_rfl) (by kernel_rfl) (by kernel_rfl) (by kernel_rfl) (fun _ _ _ h=>h) (Or.inl ⟨?_, ?_⟩) hHeld ?_;rotate_left 2
    ·simp only [List.getElem?_toArray,List.getElem?_cons_succ,List.getElem?_cons_zero];exact rfl
    ·rfl
    ·(intro w hSw;go_simp;try with_reducible rfl)
    refine aC (i:=1) (oi:= ?_) (v:= ?_) ?_ (by kernel_rfl) (by kernel_rfl) (by kernel_rfl) (by kernel_rfl) (fun _ _ _ h=>h) (Or.inl ⟨?_, ?_⟩) hHeld ?_;rotate_left 2
    ·simp only [List.getElem?_toArray,List.getElem?_cons_succ,List.getElem?_cons_zero];exact rfl
    ·rfl
    ·(intro w hSw;go_simp;try with_reducible rfl)
    refine aC (i:=2) (oi:= ?_) (v:= ?_) ?_ (by kernel_rfl) (by kernel_rfl) (by kernel_rfl) (by kernel_rfl) (fun _ _ _ h=>h) (Or.inl ⟨?_, ?_⟩) hHeld ?_;rotate_left 2
    ·simp only [List.getElem?_toArray,List.getElem?_cons_succ,List.getElem?_cons_zero];exact rfl
    ·rfl
    ·(intro w hSw;go_simp;try with_reducible rfl)
    refine aC (i:=3) (oi:= ?_) (v:= ?_) ?_ (by kernel_rfl) (by kernel_rfl) (by kernel_rfl) (by kernel_rfl) (fun _ _ _ h=>h) (Or.inl ⟨?_, ?_⟩) hHeld ?_;rotate_left 2
    ·simp only [List.getElem?_toArray,List.getElem?_cons_succ,List.getElem?_cons_zero];exact rfl
    ·rfl
    ·(intro w hSw;go_simp;try with_reducible rfl)
    refine aC (i:=4) (oi:= ?_) (v:= ?_) ?_ (by kernel_rfl) (by kernel_rfl) (by kernel_rfl) (by kernel_rfl) (fun _ _ _ h=>h) (Or.inl ⟨?_, ?_⟩) hHeld ?_;rotate_left 2
    ·simp only [List.getElem?_toArray,List.getElem?_cons_succ,List.getElem?_cons_zero];exact rfl
    ·rfl
    ·(intro w hSw;go_simp;try with_reducible rfl)
    refine aC (i:=5) (oi:= ?_) (v:= ?_) ?_ (by kernel_rfl) (by kernel_rfl) (by kernel_rfl) (by kernel_rfl) (fun _ _ _ h=>h) (Or.inl ⟨?_, ?_⟩) hHeld ?_;rotate_left 2
    ·simp only [List.getElem?_toArray,List.getElem?_cons_succ,List.getElem?_cons_zero];exact rfl
    ·rfl
    ·(intro w hSw;have e:=LM.at_ hSw HK0.out;go_simp;try with_reducible rfl)
    refine aC (i:=6) (oi:= ?_) (v:= ?_) ?_ (by kernel_rfl) (by kernel_rfl) (by kernel_rfl) (by kernel_rfl) (fun _ _ _ h=>h) (Or.inl ⟨?_, ?_⟩) hHeld ?_;rotate_left 2
    ·simp only [List.getElem?_toArray,List.getElem?_cons_succ,List.getElem?_cons_zero];exact rfl
    ·rfl
    ·(intro w hSw;go_simp;try with_reducible rfl)
    refine aP (i:=7) (o:= ?_) (by kernel_rfl) ?_ rfl (fun K hK=> ?_);rotate_left
    ·simp only [List.getElem?_toArray,List.getElem?_cons_succ,List.getElem?_cons_zero];exact rfl
    go_simp;refine (HC.out _ HM9.out.rd).mono ?_;rintro E W2 ⟨rfl,hG⟩;have HM2:=Lib.hid (HM9.out.goes HK0.out hG);have HFK:=Lib.hid (show FK dK W2 (fun k=>k=q∨wr.drew.heap.size≤k) X9 [.int .u32 X9.1, .int .u32 X9.2.1, .bool X9.2.2]from uI HBD.out.1 HBD.out.2);clear hG;go_wp2_with fail;refine hK.out _ _ HM2.out.blk (fun hHeld=> ?_);clear hK K;try simp only [Act.put,List.setIfInBounds_toArray,List.set_cons_zero,List.set_cons_succ]
    refine aP (i:=8) (o:= ?_) (by kernel_rfl) ?_ rfl (fun K hK=> ?_);rotate_left
    ·simp only [List.getElem?_toArray,List.getElem?_cons_succ,List.getElem?_cons_zero];exact rfl
    go_simp;refine hK.out _ _ (hHeld.alloc _) (fun hHeld=> ?_);clear hK K;try simp only [Act.put,List.setIfInBounds_toArray,List.set_cons_zero,List.set_cons_succ]
    refine aP (i:=9) (o:= ?_) (by kernel_rfl) ?_ rfl (fun K hK=> ?_);rotate_left
    ·simp only [List.getElem?_toArray,List.getElem?_cons_succ,List.getElem?_cons_zero];exact rfl
    refine Own.bY (d:=dK) W.heap.size rfl (.tmp 93) (.tmp 96) 41 106 _ 12 rfl Tryz.underlying41 oD rfl (by decide) (by decide) v done X9 [.int .u32 X9.1, .int .u32 X9.2.1, .bool X9.2.2] (fun k=>k=q∨W.heap.size≤k) rfl rfl (HM9.out.fk HK0.out HFK.out) HM2.out.own HM2.out.g.size HL9.out ?_;intro v1 w1 hown1 hg1 hat1;obtain ⟨A9,c9,rfl,hl9,hF9⟩:=Own.reads hown1;rw [show (done++ [X9]).length=done.length+1 by simp]at hown1;have HST:=Lib.hid (HM2.out.store HK0.out hown1 hg1);have hbk:=HM2.out.look HK0.out hg1;have q2:=LM.at_ hbk HK0.out;have qf:=hbk.frozen 3;have ql:=hbk.lt;refine hK.out _ _ hbk (fun hHeld=> ?_);clear hK K;try simp only [Act.put,List.setIfInBounds_toArray,List.set_cons_zero,List.set_cons_succ]
    refine aP (i:=10) (o:= ?_) (by kernel_rfl) ?_ rfl (fun K hK=> ?_);rotate_left
    ·simp only [List.getElem?_toArray,List.getElem?_cons_succ,List.getElem?_cons_zero];exact rfl
    go_simp;refine hK.out _ _ hHeld (fun hHeld=> ?_);clear hK K;try simp only [Act.put,List.setIfInBounds_toArray,List.set_cons_zero,List.set_cons_succ]
    refine aP (i:=11) (o:= ?_) (by kernel_rfl) ?_ rfl (fun K hK=> ?_);rotate_left
    ·simp only [List.getElem?_toArray,List.getElem?_cons_succ,List.getElem?_cons_zero];exact rfl
    go_simp;refine hK.out _ _ hHeld (fun hHeld=> ?_);clear hK K;try simp only [Act.put,List.setIfInBounds_toArray,List.set_cons_zero,List.set_cons_succ]
    refine aP (i:=12) (o:= ?_) (by kernel_rfl) ?_ rfl (fun K hK=> ?_);rotate_left
    ·simp only [List.getElem?_toArray,List.getElem?_cons_succ,List.getElem?_cons_zero];exact rfl
    go_simp;refine hK.out _ _ hHeld (fun hHeld=> ?_);clear hK K;try simp only [Act.put,List.setIfInBounds_toArray,List.set_cons_zero,List.set_cons_succ]
    refine fG (i:=13) (o:= ?_) (by kernel_rfl) ?_ rfl (fun K hK=> ?_);rotate_left
    ·simp only [List.getElem?_toArray,List.getElem?_cons_succ,List.getElem?_cons_zero];exact rfl
    go_simp;refine hK.out _ _ ?_;clear hK K;try simp only [Act.put,List.setIfInBounds_toArray,List.set_cons_zero,List.set_cons_succ]
    refine eQ (by kernel_rfl) ?_ _;refine NoPanic.normal ?_;clear hown1 hg1 hat1 hl9 hF9 hbk q2 qf ql hHeld;go_wp2_with fail;go_roundw
    case rel=>
     exact ⟨j+1,_,done++ [X9],_,_,by omega,by go_num,HL.out.step HST.out (HRD.out.trans HR9.out) hjc⟩
    case measure=>simp [intOf];omega
   ·have hjc2:¬(j:Int)<(c:Int):=by omega
    go_wp2_with fail;go_end0;exact HL.out.fin (.inl (by omega))
  ·have h0' :(e' ==0)=false:=by simp;exact h0
   by_cases hjc:j< c
   ·have hjc2:(j:Int)<(c:Int):=by omega
    go_wp2_with fail;go_end0;exact HL.out.fin (.inr h0)
   ·have hjc2:¬(j:Int)<(c:Int):=by omega
    go_wp2_with fail;go_end0;exact HL.out.fin (.inr h0)
theorem G8 (W:World) (p q m:Nat) (B:List Int) (a:Nat) (e:Int) (mc:Array Value) (hC:Rdr W p q B a e) (hB:aK B) (hm:Blk W m mc 78) (hi:mc[4]? =some (.slice none 0 0)) (hmp:m≠p) (hmq:m≠q) (hq:q< W.heap.size):
  Calls Tryz.prog 22 #[.pointer (some ⟨m,0,none⟩), .int .i64 5, .pointer (some ⟨p,0,none⟩)] W (lQ dK 106 W p q m mc 4 B (bq (fB B) B a e)):=by
 have HK0:=Lib.hid (⟨hC.lt,hq,hm.lt,hmp,hmq,hC.1,(Array.getElem?_eq_some_iff.1 hi).1⟩:LSC W p q m 4 mc);have HM0:=Lib.hid (LM.start (d:=dK) (t:=106) hC hm hi);have H1:=Lib.hid (dM W p q B a e hC hB);have hcb:=bK (a:=a) (e:=e) hB;have HBB:=Lib.hid hB;obtain ⟨rd,hrd⟩:∃rd,rd=(fB B):=⟨_,rfl⟩;have HRD0:=Lib.hid (fun a e=>(by rw [hrd]:rd a e=fB B a e));rw [←hrd];obtain ⟨R,hR⟩:∃R,R=bq rd B a e:=⟨_,rfl⟩;rw [←hR];clear hrd;unfold bq at hR;generalize az (aG B a) a e=n at *;obtain ⟨nv,a1,e1⟩:=n;dsimp only at hR H1 hcb;obtain ⟨c,rfl⟩:=Int.eq_ofNat_of_zero_le hcb.1;rw [Int.toNat_natCast]at hR;have HR:=Lib.hid hR;have hc:=hcb.2;clear hC hB hm hi hmp hmq hq hR hcb;go_enter Tryz.func22,Tryz.ntmps22;go_wp2_with fail;refine H1.out.mono ?_;rintro E W1 ⟨rfl,hG⟩;have HL0:=Lib.hid (⟨HM0.out.goes HK0.out hG,by rw [List.nil_append,Nat.sub_zero];exact HR.out.symm,Nat.zero_le _⟩:LS dK 106 rd W p q m 4 B mc R c 0 (.slice none 0 0) [] a1 e1 W1);clear hG H1 HM0;go_wp2_with fail;go_loopw [7] (fun i wr=>∃(j:Nat) (v:Value) (done:List (Int×Int×Bool)) (a' :Nat) (e' :Int),j≤c∧i= .int .i64 j∧Hid (LS dK 106 rd W p q m 4 B mc R c j v done a' e' wr)) (fun i _=>c - (intOf i).toNat)
 case atStart=>exact ⟨0, .slice none 0 0, [],a1,e1,Nat.zero_le _,rfl,HL0.out⟩
 case round=>
  obtain ⟨j,v,done,a',e',hj,rfl,HL⟩:=hrel;obtain ⟨A,cc,c0,c1,c2,f0,f1,f2,hle,hq,hlt,ha⟩:=HL.out.lm.rd.cells;clear hle hq HL0;by_cases h0:e' =0
  ·subst h0;by_cases hjc:j< c
   ·have hjc2:(j:Int)<(c:Int):=by omega
    have HM:=Lib.hid HL.out.lm;obtain ⟨R9,hR9⟩:∃r,r=fB B a' 0:=⟨_,rfl⟩;have HRD:=Lib.hid ((HRD0.out a' 0).trans hR9.symm);have HC:=Lib.hid (fun X (h:Rdr X p q B a' 0)=>lT X p q B a' 0 h HBB.out);have hbd:=oM HBB.out a' 0;generalize fB B a' 0=r at *;obtain ⟨X9,a2,e2⟩:=r;try dsimp only at HC hbd
    dsimp only [gI]at HC;have HR9:=Lib.hid hR9;have HBD:=Lib.hid hbd;have HL9:=Lib.hid (show (done.length+1) * 12≤140737488355328 from by have h:=HL.out.len;omega);clear hR9 hbd;go_wp2_with fail;have HM9:=Lib.hid HM.out.drew;refine wp_region_noPanic ?_;refine dI (fun w' =>Blk w' m (mc.setIfInBounds 4 v) 78) (fun i=>i==13) (by kernel_rfl) HM9.out.blk (fun hHeld=> ?_);refine aC (i:=0) (oi:= ?_) (v:= ?_) ?_ (by kernel_rfl) (by kernel_rfl) (by kernel_rfl) (by kernel_rfl) (fun _ _ _ h=>h) (Or.inl ⟨?_, ?_⟩) hHeld ?_;rotate_left 2
    ·simp only [List.getElem?_toArray,List.getElem?_cons_succ,List.getElem?_cons_zero];exact rfl
    ·rfl
    ·(intro w hSw;go_simp;try with_reducible rfl)
    refine aC (i:=1) (oi:= ?_) (v:= ?_) ?_ (by kernel_rfl) (by kernel_rfl) (by kernel_rfl) (by kernel_rfl) (fun _ _ _ h=>h) (Or.inl ⟨?_, ?_⟩) hHeld ?_;rotate_left 2
    ·simp only [List.getElem?_toArray,List.getElem?_cons_succ,List.getElem?_cons_zero];exact rfl
    ·rfl
    ·(intro w hSw;go_simp;try with_reducible rfl)
    refine aC (i:=2) (oi:= ?_) (v:= ?_) ?_ (by kernel_rfl) (by kernel_rfl) (by kernel_rfl) (by kernel_rfl) (fun _ _ _ h=>h) (Or.inl ⟨?_, ?_⟩) hHeld ?_;rotate_left 2
    ·simp only [List.getElem?_toArray,List.getElem?_cons_succ,List.getElem?_cons_zero];exact rfl
    ·rfl
    ·(intro w hSw;go_simp;try with_reducible rfl)
    refine aC (i:=3) (oi:= ?_) (v:= ?_) ?_ (by kernel_rfl) (by kernel_rfl) (by kernel_rfl) (by kernel_rfl) (fun _ _ _ h=>h) (Or.inl ⟨?_, ?_⟩) hHeld ?_;rotate_left 2
    ·simp only [List.getElem?_toArray,List.getElem?_cons_succ,List.getElem?_cons_zero];exact rfl
    ·rfl
    ·(intro w hSw;go_simp;try with_reducible rfl)
    refine aC (i:=4) (oi:= ?_) (v:= ?_) ?_ (by kernel_rfl) (by kernel_rfl) (by kernel_rfl) (by kernel_rfl) (fun _ _ _ h=>h) (Or.inl ⟨?_, ?_⟩) hHeld ?_;rotate_left 2
    ·simp only [List.getElem?_toArray,List.getElem?_cons_succ,List.getElem?_cons_zero];exact rfl
    ·rfl
    ·(intro w hSw;go_simp;try with_reducible rfl)
    refine aC (i:=5) (oi:= ?_) (v:= ?_) ?_ (by kernel_rfl) (by kernel_rfl) (by kernel_rfl) (by kernel_rfl) (fun _ _ _ h=>h) (Or.inl ⟨?_, ?_⟩) hHeld ?_;rotate_left 2
    ·simp only [List.getElem?_toArray,List.getElem?_cons_succ,List.getElem?_cons_zero];exact rfl
    ·rfl
    ·(intro w hSw;have e:=LM.at_ hSw HK0.out;go_simp;try with_reducible rfl)
    refine aC (i:=6) (oi:= ?_) (v:= ?_) ?_ (by kernel_rfl) (by kernel_rfl) (by kernel_rfl) (by kernel_rfl) (fun _ _ _ h=>h) (Or.inl ⟨?_, ?_⟩) hHeld ?_;rotate_left 2
    ·simp only [List.getElem?_toArray,List.getElem?_cons_succ,List.getElem?_cons_zero];exact rfl
    ·rfl
    ·(intro w hSw;go_simp;try with_reducible rfl)
    refine aP (i:=7) (o:= ?_) (by kernel_rfl) ?_ rfl (fun K hK=> ?_);rotate_left
    ·simp only [List.getElem?_toArray,List.getElem?_cons_succ,List.getElem?_cons_zero];exact rfl
    go_simp;refine (HC.out _ HM9.out.rd).mono ?_;rintro E W2 ⟨rfl,hG⟩;have HM2:=Lib.hid (HM9.out.goes HK0.out hG);have HFK:=Lib.hid (show FK dK W2 (fun k=>k=q∨wr.drew.heap.size≤k) X9 [.int .u32 X9.1, .int .u32 X9.2.1, .bool X9.2.2]from uI HBD.out.1 HBD.out.2);clear hG;go_wp2_with fail;refine hK.out _ _ HM2.out.blk (fun hHeld=> ?_);clear hK K;try simp only [Act.put,List.setIfInBounds_toArray,List.set_cons_zero,List.set_cons_succ]
    refine aP (i:=8) (o:= ?_) (by kernel_rfl) ?_ rfl (fun K hK=> ?_);rotate_left
    ·simp only [List.getElem?_toArray,List.getElem?_cons_succ,List.getElem?_cons_zero];exact rfl
    go_simp;refine hK.out _ _ (hHeld.alloc _) (fun hHeld=> ?_);clear hK K;try simp only [Act.put,List.setIfInBounds_toArray,List.set_cons_zero,List.set_cons_succ]
    refine aP (i:=9) (o:= ?_) (by kernel_rfl) ?_ rfl (fun K hK=> ?_);rotate_left
    ·simp only [List.getElem?_toArray,List.getElem?_cons_succ,List.getElem?_cons_zero];exact rfl
    refine Own.bY (d:=dK) W.heap.size rfl (.tmp 108) (.tmp 111) 41 106 _ 12 rfl Tryz.underlying41 oD rfl (by decide) (by decide) v done X9 [.int .u32 X9.1, .int .u32 X9.2.1, .bool X9.2.2] (fun k=>k=q∨W.heap.size≤k) rfl rfl (HM9.out.fk HK0.out HFK.out) HM2.out.own HM2.out.g.size HL9.out ?_;intro v1 w1 hown1 hg1 hat1;obtain ⟨A9,c9,rfl,hl9,hF9⟩:=Own.reads hown1;rw [show (done++ [X9]).length=done.length+1 by simp]at hown1;have HST:=Lib.hid (HM2.out.store HK0.out hown1 hg1);have hbk:=HM2.out.look HK0.out hg1;have q2:=LM.at_ hbk HK0.out;have qf:=hbk.frozen 4;have ql:=hbk.lt;refine hK.out _ _ hbk (fun hHeld=> ?_);clear hK K;try simp only [Act.put,List.setIfInBounds_toArray,List.set_cons_zero,List.set_cons_succ]
    refine aP (i:=10) (o:= ?_) (by kernel_rfl) ?_ rfl (fun K hK=> ?_);rotate_left
    ·simp only [List.getElem?_toArray,List.getElem?_cons_succ,List.getElem?_cons_zero];exact rfl
    go_simp;refine hK.out _ _ hHeld (fun hHeld=> ?_);clear hK K;try simp only [Act.put,List.setIfInBounds_toArray,List.set_cons_zero,List.set_cons_succ]
    refine aP (i:=11) (o:= ?_) (by kernel_rfl) ?_ rfl (fun K hK=> ?_);rotate_left
    ·simp only [List.getElem?_toArray,List.getElem?_cons_succ,List.getElem?_cons_zero];exact rfl
    go_simp;refine hK.out _ _ hHeld (fun hHeld=> ?_);clear hK K;try simp only [Act.put,List.setIfInBounds_toArray,List.set_cons_zero,List.set_cons_succ]
    refine aP (i:=12) (o:= ?_) (by kernel_rfl) ?_ rfl (fun K hK=> ?_);rotate_left
    ·simp only [List.getElem?_toArray,List.getElem?_cons_succ,List.getElem?_cons_zero];exact rfl
    go_simp;refine hK.out _ _ hHeld (fun hHeld=> ?_);clear hK K;try simp only [Act.put,List.setIfInBounds_toArray,List.set_cons_zero,List.set_cons_succ]
    refine fG (i:=13) (o:= ?_) (by kernel_rfl) ?_ rfl (fun K hK=> ?_);rotate_left
    ·simp only [List.getElem?_toArray,List.getElem?_cons_succ,List.getElem?_cons_zero];exact rfl
    go_simp;refine hK.out _ _ ?_;clear hK K;try simp only [Act.put,List.setIfInBounds_toArray,List.set_cons_zero,List.set_cons_succ]
    refine eQ (by kernel_rfl) ?_ _;refine NoPanic.normal ?_;clear hown1 hg1 hat1 hl9 hF9 hbk q2 qf ql hHeld;go_wp2_with fail;go_roundw
    case rel=>
     exact ⟨j+1,_,done++ [X9],_,_,by omega,by go_num,HL.out.step HST.out (HRD.out.trans HR9.out) hjc⟩
    case measure=>simp [intOf];omega
   ·have hjc2:¬(j:Int)<(c:Int):=by omega
    go_wp2_with fail;go_end0;exact HL.out.fin (.inl (by omega))
  ·have h0' :(e' ==0)=false:=by simp;exact h0
   by_cases hjc:j< c
   ·have hjc2:(j:Int)<(c:Int):=by omega
    go_wp2_with fail;go_end0;exact HL.out.fin (.inr h0)
   ·have hjc2:¬(j:Int)<(c:Int):=by omega
    go_wp2_with fail;go_end0;exact HL.out.fin (.inr h0)
def EA (W:World) (p q m:Nat) (mc:Array Value) (B:List Int) (r:Nat×Int) (E:Ending) (w' :World):Prop:=
 E= .returned (.tuple #[])∧Blk w' m mc 78∧Rdr w' p q B r.1 r.2∧G2 W w' p m
theorem Fy (W:World) (p q m:Nat) (B:List Int) (a:Nat) (e:Int) (mc:Array Value) (hC:Rdr W p q B a e) (hB:aK B) (hm:Blk W m mc 78) (hi:mc[11]? =some (.slice none 0 0)) (hmp:m≠p) (hmq:m≠q) (hq:q< W.heap.size):
  Calls Tryz.prog 22 #[.pointer (some ⟨m,0,none⟩), .int .i64 3, .pointer (some ⟨p,0,none⟩)] W (lQ (rng .u32) 30 W p q m mc 11 B (bq (dP B) B a e)):=by
 have HK0:=Lib.hid (⟨hC.lt,hq,hm.lt,hmp,hmq,hC.1,(Array.getElem?_eq_some_iff.1 hi).1⟩:LSC W p q m 11 mc);have HM:=Lib.hid (LM.start (d:=rng .u32) (t:=30) hC hm hi);have HC:=Lib.hid (pg W p q B a e hC hB);generalize bq (dP B) B a e=r at *;obtain ⟨xs,a2,e2⟩:=r;clear hC hB hm hi hmp hmq hq;go_enter Tryz.func22,Tryz.ntmps22;go_wp2_with fail;refine HC.out.mono ?_;rintro E W1 ⟨⟨v1,rfl,ho1⟩,hG⟩;have ho2:=ho1.mono (ok' :=fun k=>k=q∨W.heap.size≤k) (fun k hk=>hk.elim);obtain ⟨A9,c9,rfl,hl9,hF9⟩:=Own.reads ho1;replace HM:=Lib.hid (HM.out.goes HK0.out hG);have hb:=HM.out.blk;have q2:=LM.at_ hb HK0.out;have qf:=hb.frozen 11;have ql:=hb.lt;have HO:=Lib.hid ho2;clear hG ho1 ho2 hl9 hF9 hb HC;go_wp2_with fail;go_end0;have h3:=HK0.out.hm;have h4:=HK0.out.mp;have h5:=HK0.out.mq;have hq9:=HK0.out.hq;have hbs:=HM.out.blk.set 11 (.slice A9 xs.length c9);rw [Array.setIfInBounds_setIfInBounds]at hbs;refine ⟨rfl,⟨.slice A9 xs.length c9,HO.out.grown (bA W1 m 11 _) (.inr (fun e=>by have:=(Own.block HO.out e).1;omega)) (fun x hx e=>by injection e with e;omega),hbs⟩,HM.out.rd.other m 11 _ (fun e=>h4 e.symm) (fun _ e=>h5 e.symm),HM.out.g.grown (bA W1 m 11 _) (fun r e=>by injection e with e;exact .inr (.inl e.symm))⟩
theorem IU (W:World) (p q m:Nat) (sat:Bool) (B:List Int) (a:Nat) (e:Int) (mc:Array Value) (v7 v8:Value) (hC:Rdr W p q B a e) (hB:aK B) (hm:Blk W m mc 78) (hm7:mc[7]? =some v7) (hm8:mc[8]? =some v8) (hmp:m≠p) (hmq:m≠q):
  Calls Tryz.prog 23 #[.pointer (some ⟨m,0,none⟩), .int .i64 8, .pointer (some ⟨p,0,none⟩), .bool sat] W (EA W p q m ((mc.setIfInBounds 7 (.bool true)).setIfInBounds 8 (.int .u32 (dP B a e).1)) B (dP B a e).2):=by
 have c7:W.cell? ⟨m,7,none⟩=some v7:=(hm.cell 7).trans hm7;have f7:=hm.frozen 7;have hl:=hm.lt;have HM:=Lib.hid (hm.set 7 (.bool true));have HR:=Lib.hid (hC.other m 7 (.bool true) (fun e=>hmp e.symm) (fun _ e=>hmq e.symm));have HC:=Lib.hid (oP _ p q B a e HR.out hB);have HM8:=Lib.hid hm8;have HG0:=Lib.hid ((G2.refl W p m).grown (bA W m 7 (.bool true)) (fun r e=>by injection e with e;exact .inr (.inl e.symm)));have HMP:=Lib.hid hmp;have HMQ:=Lib.hid hmq;unfold dP;generalize az (aI B a) a e=r at *;obtain ⟨n,a1,e1⟩:=r;clear hC hB hm hm7 hm8 hmp hmq;go_enter Tryz.func23,Tryz.ntmps23;go_wp2_with fail;generalize W.setCell ⟨m,7,none⟩ (.bool true)=W0 at *;refine HC.out.mono ?_;rintro E W1 ⟨rfl,hG⟩;have hm1:=HM.out.grown hG.2 (fun e=>HMP.out (by injection e));have c8:W1.cell? ⟨m,8,none⟩=some v8:=by rw [hm1.cell 8,Array.getElem?_setIfInBounds_ne (by decide)];exact HM8.out
 have f8:=hm1.frozen 8;have hml1:=hm1.lt;have HM1:=Lib.hid hm1;have HG:=Lib.hid hG;clear hm1 hG c7 f7 hl;go_wp2_with fail;go_end0;exact ⟨rfl,HM1.out.set 8 _,HG.out.1.other m 8 _ (fun e=>HMP.out e.symm) (fun _ e=>HMQ.out e.symm),(HG0.out.grown HG.out.2 (fun r e=>by injection e with e;exact .inl e.symm)).grown (bA W1 m 8 _) (fun r e=>by injection e with e;exact .inr (.inl e.symm))⟩
theorem EP (W:World) (p q m:Nat) (B:List Int) (a:Nat) (e:Int) (mc:Array Value) (hC:Rdr W p q B a e) (hB:aK B) (hm:Blk W m mc 78) (hmp:m≠p) (hmq:m≠q):
  Calls Tryz.prog 22 #[.pointer (some ⟨m,0,none⟩), .int .i64 0, .pointer (some ⟨p,0,none⟩)] W (EA W p q m mc B (AJ B a e)):=by
 have HM:=Lib.hid hm;have H1:=Lib.hid (kQ W p q B a e hC hB);have HMP:=Lib.hid hmp;have HMQ:=Lib.hid hmq;have hbl:=hB.1;have HBB:=Lib.hid hB;unfold AJ;dsimp only;generalize jI B a e=r at *;obtain ⟨s,a1,e1⟩:=r;dsimp only at H1 ⊢;have HC2:=Lib.hid (fun X (h:Rdr X p q B a1 e1)=>mM X p q B a1 (B.length - a1) e1 h HBB.out (by omega));generalize rdL (cO B a1 (B.length - a1)) a1 e1=r at *;obtain ⟨l,a2,e2⟩:=r;clear hC hB hm hmp hmq;go_enter Tryz.func22,Tryz.ntmps22;go_wp2_with fail;refine H1.out.mono ?_;rintro E W1 ⟨rfl,hG⟩;have hab:=hG.1.2.1;have HG:=Lib.hid hG;have HR:=Lib.hid (qx hG.1);have HM1:=Lib.hid ((HM.out.grown hG.2 (fun e=>HMP.out (by injection e))).drew);obtain ⟨A,cc,c0,c1,c2,f0,f1,f2,hle,hq,hlt,ha⟩:=hG.1.cells;have hcv:IntKind.u64.wrap ((B.length:Int) - (a1:Int))=((B.length - a1:Nat):Int):=by rw [IntKind.wrap_u64];omega
 have hcv0:IntKind.i64.wrap ((B.length:Int) - (a1:Int))=(B.length:Int) - (a1:Int):=by rw [IntKind.wrap_i64];omega
 clear hG hle hq;go_wp2_with fail;go_still_tail 12,(by kernel_rfl);change wpList _ _ _ _ _ W1.drew;go_wp2_with fail;refine (HC2.out _ HR.out).mono ?_;rintro E W2 ⟨⟨A2,k2,rfl,hl2,hby⟩,hG2⟩;have HG2:=Lib.hid hG2;clear hby hl2 hG2 c0 c1 c2 f0 f1 f2 hlt;go_wp2_with fail;go_end0;exact ⟨rfl,HM1.out.grown HG2.out.2 (fun e=>HMP.out (by injection e)),HG2.out.1,(((G2.refl W p m).grown HG.out.2 (fun r e=>by injection e with e;exact .inl e.symm)).grown (show W1.grownBy W1.drew none from ⟨rfl,rfl,rfl,Nat.le_refl _,fun _ _ _=>rfl⟩) (fun r e=>by cases e)).grown HG2.out.2 (fun r e=>by injection e with e;exact .inl e.symm)⟩
end Go.Proofs.YtofaiocffifhfaaGreat
