/- Lemmas towards this claim's statement, each under the conditions that it states itself. -/
import Derived.Test.YtofaiocffifhfaaGreatMd8
set_option maxRecDepth 100000
set_option maxHeartbeats 8000000
set_option linter.unusedVariables false
set_option linter.unusedSimpArgs false
namespace Go.Proofs.YtofaiocffifhfaaGreat
open Go.RowKit Go.Shelf YtofaiocffifhfaaGreatB Go.Proofs.YtofaiocffifhfaaGreatW.PrintWords
theorem Cu (bk:Bool→Nat→Int→List Ins×Int×Nat×Int) (W:World) (R p q:Nat) (sat:Bool) (deep:Nat) (B:List Int) (a a1:Nat) (b opc i:Int) (hR:Rq W R p sat) (hRp:R≠p) (hC:Rdr W p q B a 0) (hB:aK B) (hx:B[a]? =some b)
  (hi1:¬(2≤b∧b≤4)) (h5:¬b=5∧¬b=11) (ho:opM sat B a 0=(opc,a1,0)) (hopc:0≤opc∧opc≤5000000000) (hi2:iO opc=i) (c1:¬i=1) (c3:¬i=3):
  Calls Tryz.prog 118 #[.pointer (some ⟨R,0,none⟩), .int .i64 deep] W (jA W p q B (bE bk B opc i a1)):=by
 have hxb:=hB.get hx;have hplt:=hC.lt;have hRlt:=hR.cells.2.2;have HP:=Lib.hid (fJ (W.alloc (.cells bO 151)) R p q sat B a 0 (Blk.alloc hR _) (hC.alloc _) hB);rw [show eU B a 0=b from by simp [eU,aO,hx],show (aO B a 0).2=0 from by simp [aO,hx]]at HP;have HI2:=Lib.hid (fun X=>lS X opc hopc.1 hopc.2);rw [hi2]at HI2;have HOP:=Lib.hid (fun X h1 h2=>uu X R p q sat B a 0 h1 hRp h2 hB (fun b' hb' =>by rw [show aO B a 0=(b,0)from by simp [aO,hx]]at hb';injection hb' with hb' _;subst hb';exact h5));rw [ho]at HOP;have HR:=Lib.hid (show Rq (W.alloc (.cells bO 151)) R p sat from Blk.alloc hR _);have HZ:=Lib.hid (Blk.new W bO 151);have HB:=Lib.hid hB
 have hm:decide (2≤b)=false∨(decide (2≤b)=true∧decide (b≤4)=false):=by
  by_cases h:2≤b
  ·exact .inr ⟨decide_eq_true h,decide_eq_false (fun h4=>hi1 ⟨h,h4⟩)⟩
  ·exact .inl (decide_eq_false h)
 have hopd:decide (opc< 0)=false:=decide_eq_false (by omega);have HW:=Lib.hid hC;have HC1:=Lib.hid c1;have HC3:=Lib.hid c3;clear hR hC hB hx ho hi2 hxb c1 c3 h5 hi1;go_enter Tryz.func118,Tryz.ntmps118;go_wp2_with fail;refine HP.out.mono ?_;rintro E W1 ⟨rfl,hG1⟩;have HR1:=Lib.hid (HR.out.goes hRp hG1);have HZ1:=Lib.hid (HZ.out.grown hG1.2 (by simp;omega));have HG1:=Lib.hid (aF.aW hG1);clear hG1 HP HR HZ;go_upto_region 2 with fail;go_cut [21]from 12 to 21 (fun s21 wx=>s21= .bool false∧wx=W1)
 case first=>
  rcases hm with hm|⟨hm,hm2⟩
  all_goals
   go_wp2_with fail;go_meet;exact ⟨rfl,rfl⟩
 case rest=>
 obtain ⟨rfl,rfl⟩:=hcut;clear hm;go_wp2_with fail;refine (HOP.out _ HR1.out HG1.out.1).mono ?_;rintro E W3 ⟨rfl,hG3⟩;have HR3:=Lib.hid (HR1.out.goes hRp hG3);have HZ3:=Lib.hid (HZ1.out.grown hG3.2 (by simp;omega));have HG3:=Lib.hid (HG1.out.trans hG3);clear hG3 HR1 HZ1 HG1 HOP;rw [show pM (opc,a1,0)=opc from if_pos rfl];go_wp2_with fail;refine (HI2.out _).mono ?_;rintro E W4 ⟨rfl,hB4⟩;have XB4:Blk W4 W3.heap.size (aX opc 0 0 0 0 (.slice none 0 0) (.slice none 0 0) (.slice none 0 0) false) 151:=(Blk.new W3 (aX opc 0 0 0 0 (.slice none 0 0) (.slice none 0 0) (.slice none 0 0) false) 151).below hB4 (by simp);have hg4:aF W3 W4 p q B a1 0:=aF.aW (o:= .cells (aX opc 0 0 0 0 (.slice none 0 0) (.slice none 0 0) (.slice none 0 0) false) 151) ⟨(HG3.out.1.alloc _).below hB4,aL hB4 _⟩;have HR4:=Lib.hid (HR3.out.goes hRp hg4);have HZ4:=Lib.hid (HZ3.out.grown hg4.2 (by simp;omega));have HG4:=Lib.hid (HG3.out.trans hg4);have HX4:=Lib.hid XB4;have hXp:p< W3.heap.size:=Nat.lt_of_lt_of_le hplt HG3.out.2.size;have hXR:R< W3.heap.size:=Nat.lt_of_lt_of_le hRlt HG3.out.2.size;have hXZ:W.heap.size< W3.heap.size:=HZ3.out.lt;obtain ⟨X,hXe⟩:∃X,X=W3.heap.size:=⟨_,rfl⟩;rw [←hXe]at HX4 hXp hXR hXZ ⊢;clear hB4 XB4 hg4 HR3 HZ3 HG3 hXe HI2;by_cases c2:i=2
 ·obtain rfl:i=2:=c2;have HV:=Lib.hid (show bE bk B opc 2 a1=(.mk opc 0 (az (aI B a1) a1 0).1 0 0 [] [] [] false,(az (aI B a1) a1 0).2.1,(az (aI B a1) a1 0).2.2)from rfl);obtain ⟨s0,s1,slt⟩:=HR4.out.cells;obtain ⟨x0,x1,x2,x3,x4,x5,x6,x7,x8⟩:=aD HX4.out;obtain ⟨xf0,xf1,xf2,xf3,xf4,xf5,xf6,xf7,xf8,xlt⟩:=aA HX4.out;obtain ⟨z0,z1,z2,z3,z4,z5,z6,z7,z8⟩:=aD HZ4.out;obtain ⟨zf0,zf1,zf2,zf3,zf4,zf5,zf6,zf7,zf8,zlt⟩:=aA HZ4.out;go_wp2_with fail;have hvb:=dD B a1 0 HB.out;have H:=Lib.hid (jJ W4 p q B a1 0 HG4.out.1 HB.out);generalize az (aI B a1) a1 0=t at *;obtain ⟨v14,a14,e14⟩:=t;simp only at HV;obtain ⟨hv14,hw14⟩:=hvb;refine H.out.mono ?_;rintro E W14 ⟨rfl,hG⟩;have hG0:aF W4 W14 p q B a14 e14:=hG;have HR14:=Lib.hid (HR4.out.goes hRp hG0);have HX14:=Lib.hid (HX4.out.grown hG0.2 (by simp;omega));have HZ14:=Lib.hid (HZ4.out.grown hG0.2 (by simp;omega));have HG14:=Lib.hid (HG4.out.trans hG0);clear hG hG0 H HR4 HX4 HZ4 HG4;clear s0 s1 slt x0 x1 x2 x3 x4 x5 x6 x7 x8 xf0 xf1 xf2 xf3 xf4 xf5 xf6 xf7 xf8 xlt z0 z1 z2 z3 z4 z5 z6 z7 z8 zf0 zf1 zf2 zf3 zf4 zf5 zf6 zf7 zf8 zlt;obtain ⟨s0,s1,slt⟩:=HR14.out.cells;obtain ⟨x0,x1,x2,x3,x4,x5,x6,x7,x8⟩:=aD HX14.out;obtain ⟨xf0,xf1,xf2,xf3,xf4,xf5,xf6,xf7,xf8,xlt⟩:=aA HX14.out;obtain ⟨z0,z1,z2,z3,z4,z5,z6,z7,z8⟩:=aD HZ14.out;obtain ⟨zf0,zf1,zf2,zf3,zf4,zf5,zf6,zf7,zf8,zlt⟩:=aA HZ14.out;go_wp2_with fail;have HX15:=Lib.hid (show Blk (W14.setCell ⟨X,2,none⟩ (.int .u32 v14)) X (aX opc 0 v14 0 0 (.slice none 0 0) (.slice none 0 0) (.slice none 0 0) false) 151 from by have:=HX14.out.set 2 (.int .u32 v14);simpa [aX] using this);have HZ15:=Lib.hid (show Blk (W14.setCell ⟨X,2,none⟩ (.int .u32 v14)) W.heap.size bO 151 from HZ14.out.aJ ⟨X,2,none⟩ (.int .u32 v14) (by simp;omega));have HR15:=Lib.hid (show Rq (W14.setCell ⟨X,2,none⟩ (.int .u32 v14)) R p sat from Blk.aJ HR14.out ⟨X,2,none⟩ (.int .u32 v14) (by simp;omega));have HG15:=Lib.hid (show aF W (W14.setCell ⟨X,2,none⟩ (.int .u32 v14)) p q B a14 e14 from HG14.out.bG HW.out X (by omega) 2 (.int .u32 v14));clear HX14 HZ14 HR14 HG14;clear s0 s1 slt x0 x1 x2 x3 x4 x5 x6 x7 x8 xf0 xf1 xf2 xf3 xf4 xf5 xf6 xf7 xf8 xlt z0 z1 z2 z3 z4 z5 z6 z7 z8 zf0 zf1 zf2 zf3 zf4 zf5 zf6 zf7 zf8 zlt;change bodyPost _ _ _ Exit.ret _ (bJ (W14.setCell ⟨X,2,none⟩ (.int .u32 v14)) W.heap.size (.int .i64 opc) (.int .u8 0) (.int .u32 v14) (.int .u32 0) (.int .u64 0) (.slice none 0 0) (.slice none 0 0) (.slice none 0 0) (.bool false));have hgF:aF W (bJ (W14.setCell ⟨X,2,none⟩ (.int .u32 v14)) W.heap.size (.int .i64 opc) (.int .u8 0) (.int .u32 v14) (.int .u32 0) (.int .u64 0) (.slice none 0 0) (.slice none 0 0) (.slice none 0 0) (.bool false)) p q B a14 e14:=dw HW.out HG15.out _ (Nat.le_refl _) _ _ _ _ _ _ _ _ _;have hbF:=bL HZ15.out (.int .i64 opc) (.int .u8 0) (.int .u32 v14) (.int .u32 0) (.int .u64 0) (.slice none 0 0) (.slice none 0 0) (.slice none 0 0) (.bool false);generalize bJ (W14.setCell ⟨X,2,none⟩ (.int .u32 v14)) W.heap.size (.int .i64 opc) (.int .u8 0) (.int .u32 v14) (.int .u32 0) (.int .u64 0) (.slice none 0 0) (.slice none 0 0) (.slice none 0 0) (.bool false)=V9 at *;obtain ⟨y0,y1,y2,y3,y4,y5,y6,y7,y8⟩:=aD hbF;rw [HV.out];have HGF:=Lib.hid hgF;refine bodyPost_ret (v:= .agg (aX opc 0 v14 0 0 (.slice none 0 0) (.slice none 0 0) (.slice none 0 0) false)) (by simp [results,Tryz.results118,go_sem,y0,y1,y2,y3,y4,y5,y6,y7,y8,aX]) rfl ⟨.mk opc 0 v14 0 0 [] [] [] false,none,none,none,0,0,0,rfl, ?_,fun _=>rfl,HGF.out⟩;exact fF hopc (by omega) (by omega) (by omega) (by omega)
 by_cases c4:i=4
 ·obtain rfl:i=4:=c4;have HV:=Lib.hid (show bE bk B opc 4 a1=(.mk opc 0 (az (aI B a1) a1 0).1 0 0 [] [] [] false,(az (aI B a1) a1 0).2.1,(az (aI B a1) a1 0).2.2)from rfl);obtain ⟨s0,s1,slt⟩:=HR4.out.cells;obtain ⟨x0,x1,x2,x3,x4,x5,x6,x7,x8⟩:=aD HX4.out;obtain ⟨xf0,xf1,xf2,xf3,xf4,xf5,xf6,xf7,xf8,xlt⟩:=aA HX4.out;obtain ⟨z0,z1,z2,z3,z4,z5,z6,z7,z8⟩:=aD HZ4.out;obtain ⟨zf0,zf1,zf2,zf3,zf4,zf5,zf6,zf7,zf8,zlt⟩:=aA HZ4.out;go_wp2_with fail;have hvb:=dD B a1 0 HB.out;have H:=Lib.hid (jJ W4 p q B a1 0 HG4.out.1 HB.out);generalize az (aI B a1) a1 0=t at *;obtain ⟨v14,a14,e14⟩:=t;simp only at HV;obtain ⟨hv14,hw14⟩:=hvb;refine H.out.mono ?_;rintro E W14 ⟨rfl,hG⟩;have hG0:aF W4 W14 p q B a14 e14:=hG;have HR14:=Lib.hid (HR4.out.goes hRp hG0);have HX14:=Lib.hid (HX4.out.grown hG0.2 (by simp;omega));have HZ14:=Lib.hid (HZ4.out.grown hG0.2 (by simp;omega));have HG14:=Lib.hid (HG4.out.trans hG0);clear hG hG0 H HR4 HX4 HZ4 HG4;clear s0 s1 slt x0 x1 x2 x3 x4 x5 x6 x7 x8 xf0 xf1 xf2 xf3 xf4 xf5 xf6 xf7 xf8 xlt z0 z1 z2 z3 z4 z5 z6 z7 z8 zf0 zf1 zf2 zf3 zf4 zf5 zf6 zf7 zf8 zlt;obtain ⟨s0,s1,slt⟩:=HR14.out.cells;obtain ⟨x0,x1,x2,x3,x4,x5,x6,x7,x8⟩:=aD HX14.out;obtain ⟨xf0,xf1,xf2,xf3,xf4,xf5,xf6,xf7,xf8,xlt⟩:=aA HX14.out;obtain ⟨z0,z1,z2,z3,z4,z5,z6,z7,z8⟩:=aD HZ14.out;obtain ⟨zf0,zf1,zf2,zf3,zf4,zf5,zf6,zf7,zf8,zlt⟩:=aA HZ14.out;go_wp2_with fail;have HX15:=Lib.hid (show Blk (W14.setCell ⟨X,2,none⟩ (.int .u32 v14)) X (aX opc 0 v14 0 0 (.slice none 0 0) (.slice none 0 0) (.slice none 0 0) false) 151 from by have:=HX14.out.set 2 (.int .u32 v14);simpa [aX] using this);have HZ15:=Lib.hid (show Blk (W14.setCell ⟨X,2,none⟩ (.int .u32 v14)) W.heap.size bO 151 from HZ14.out.aJ ⟨X,2,none⟩ (.int .u32 v14) (by simp;omega));have HR15:=Lib.hid (show Rq (W14.setCell ⟨X,2,none⟩ (.int .u32 v14)) R p sat from Blk.aJ HR14.out ⟨X,2,none⟩ (.int .u32 v14) (by simp;omega));have HG15:=Lib.hid (show aF W (W14.setCell ⟨X,2,none⟩ (.int .u32 v14)) p q B a14 e14 from HG14.out.bG HW.out X (by omega) 2 (.int .u32 v14));clear HX14 HZ14 HR14 HG14;clear s0 s1 slt x0 x1 x2 x3 x4 x5 x6 x7 x8 xf0 xf1 xf2 xf3 xf4 xf5 xf6 xf7 xf8 xlt z0 z1 z2 z3 z4 z5 z6 z7 z8 zf0 zf1 zf2 zf3 zf4 zf5 zf6 zf7 zf8 zlt;change bodyPost _ _ _ Exit.ret _ (bJ (W14.setCell ⟨X,2,none⟩ (.int .u32 v14)) W.heap.size (.int .i64 opc) (.int .u8 0) (.int .u32 v14) (.int .u32 0) (.int .u64 0) (.slice none 0 0) (.slice none 0 0) (.slice none 0 0) (.bool false));have hgF:aF W (bJ (W14.setCell ⟨X,2,none⟩ (.int .u32 v14)) W.heap.size (.int .i64 opc) (.int .u8 0) (.int .u32 v14) (.int .u32 0) (.int .u64 0) (.slice none 0 0) (.slice none 0 0) (.slice none 0 0) (.bool false)) p q B a14 e14:=dw HW.out HG15.out _ (Nat.le_refl _) _ _ _ _ _ _ _ _ _;have hbF:=bL HZ15.out (.int .i64 opc) (.int .u8 0) (.int .u32 v14) (.int .u32 0) (.int .u64 0) (.slice none 0 0) (.slice none 0 0) (.slice none 0 0) (.bool false);generalize bJ (W14.setCell ⟨X,2,none⟩ (.int .u32 v14)) W.heap.size (.int .i64 opc) (.int .u8 0) (.int .u32 v14) (.int .u32 0) (.int .u64 0) (.slice none 0 0) (.slice none 0 0) (.slice none 0 0) (.bool false)=V9 at *;obtain ⟨y0,y1,y2,y3,y4,y5,y6,y7,y8⟩:=aD hbF;rw [HV.out];have HGF:=Lib.hid hgF;refine bodyPost_ret (v:= .agg (aX opc 0 v14 0 0 (.slice none 0 0) (.slice none 0 0) (.slice none 0 0) false)) (by simp [results,Tryz.results118,go_sem,y0,y1,y2,y3,y4,y5,y6,y7,y8,aX]) rfl ⟨.mk opc 0 v14 0 0 [] [] [] false,none,none,none,0,0,0,rfl, ?_,fun _=>rfl,HGF.out⟩;exact fF hopc (by omega) (by omega) (by omega) (by omega)
 by_cases c5:i=5
 ·obtain rfl:i=5:=c5;have HV:=Lib.hid (show bE bk B opc 5 a1=(.mk opc 0 (az (aI B a1) a1 0).1 0 0 [] [] [] false,(dO B (az (aI B a1) a1 0).2.1 (az (aI B a1) a1 0).2.2).1,(dO B (az (aI B a1) a1 0).2.1 (az (aI B a1) a1 0).2.2).2)from rfl);obtain ⟨s0,s1,slt⟩:=HR4.out.cells;obtain ⟨x0,x1,x2,x3,x4,x5,x6,x7,x8⟩:=aD HX4.out;obtain ⟨xf0,xf1,xf2,xf3,xf4,xf5,xf6,xf7,xf8,xlt⟩:=aA HX4.out;obtain ⟨z0,z1,z2,z3,z4,z5,z6,z7,z8⟩:=aD HZ4.out;obtain ⟨zf0,zf1,zf2,zf3,zf4,zf5,zf6,zf7,zf8,zlt⟩:=aA HZ4.out;go_wp2_with fail;have hvb:=dD B a1 0 HB.out;have H:=Lib.hid (jJ W4 p q B a1 0 HG4.out.1 HB.out);generalize az (aI B a1) a1 0=t at *;obtain ⟨v14,a14,e14⟩:=t;simp only at HV;obtain ⟨hv14,hw14⟩:=hvb;refine H.out.mono ?_;rintro E W14 ⟨rfl,hG⟩;have hG0:aF W4 W14 p q B a14 e14:=hG;have HR14:=Lib.hid (HR4.out.goes hRp hG0);have HX14:=Lib.hid (HX4.out.grown hG0.2 (by simp;omega));have HZ14:=Lib.hid (HZ4.out.grown hG0.2 (by simp;omega));have HG14:=Lib.hid (HG4.out.trans hG0);clear hG hG0 H HR4 HX4 HZ4 HG4;clear s0 s1 slt x0 x1 x2 x3 x4 x5 x6 x7 x8 xf0 xf1 xf2 xf3 xf4 xf5 xf6 xf7 xf8 xlt z0 z1 z2 z3 z4 z5 z6 z7 z8 zf0 zf1 zf2 zf3 zf4 zf5 zf6 zf7 zf8 zlt;obtain ⟨s0,s1,slt⟩:=HR14.out.cells;obtain ⟨x0,x1,x2,x3,x4,x5,x6,x7,x8⟩:=aD HX14.out;obtain ⟨xf0,xf1,xf2,xf3,xf4,xf5,xf6,xf7,xf8,xlt⟩:=aA HX14.out;obtain ⟨z0,z1,z2,z3,z4,z5,z6,z7,z8⟩:=aD HZ14.out;obtain ⟨zf0,zf1,zf2,zf3,zf4,zf5,zf6,zf7,zf8,zlt⟩:=aA HZ14.out;go_wp2_with fail;have HX15:=Lib.hid (show Blk (W14.setCell ⟨X,2,none⟩ (.int .u32 v14)) X (aX opc 0 v14 0 0 (.slice none 0 0) (.slice none 0 0) (.slice none 0 0) false) 151 from by have:=HX14.out.set 2 (.int .u32 v14);simpa [aX] using this);have HZ15:=Lib.hid (show Blk (W14.setCell ⟨X,2,none⟩ (.int .u32 v14)) W.heap.size bO 151 from HZ14.out.aJ ⟨X,2,none⟩ (.int .u32 v14) (by simp;omega));have HR15:=Lib.hid (show Rq (W14.setCell ⟨X,2,none⟩ (.int .u32 v14)) R p sat from Blk.aJ HR14.out ⟨X,2,none⟩ (.int .u32 v14) (by simp;omega));have HG15:=Lib.hid (show aF W (W14.setCell ⟨X,2,none⟩ (.int .u32 v14)) p q B a14 e14 from HG14.out.bG HW.out X (by omega) 2 (.int .u32 v14));generalize W14.setCell ⟨X,2,none⟩ (.int .u32 v14)=W15 at *;clear HX14 HZ14 HR14 HG14;clear s0 s1 slt x0 x1 x2 x3 x4 x5 x6 x7 x8 xf0 xf1 xf2 xf3 xf4 xf5 xf6 xf7 xf8 xlt z0 z1 z2 z3 z4 z5 z6 z7 z8 zf0 zf1 zf2 zf3 zf4 zf5 zf6 zf7 zf8 zlt;obtain ⟨s0,s1,slt⟩:=HR15.out.cells;obtain ⟨x0,x1,x2,x3,x4,x5,x6,x7,x8⟩:=aD HX15.out;obtain ⟨xf0,xf1,xf2,xf3,xf4,xf5,xf6,xf7,xf8,xlt⟩:=aA HX15.out;obtain ⟨z0,z1,z2,z3,z4,z5,z6,z7,z8⟩:=aD HZ15.out;obtain ⟨zf0,zf1,zf2,zf3,zf4,zf5,zf6,zf7,zf8,zlt⟩:=aA HZ15.out;have H:=Lib.hid (su W15 R p q sat B a14 e14 HR15.out hRp HG15.out.1 HB.out);generalize dO B a14 e14=t at *;obtain ⟨a25,e25⟩:=t;simp only at HV;refine H.out.mono ?_;rintro E W25 ⟨rfl,hG⟩;have hG0:aF W15 W25 p q B a25 e25:=hG;have HR25:=Lib.hid (HR15.out.goes hRp hG0);have HX25:=Lib.hid (HX15.out.grown hG0.2 (by simp;omega));have HZ25:=Lib.hid (HZ15.out.grown hG0.2 (by simp;omega));have HG25:=Lib.hid (HG15.out.trans hG0);clear hG hG0 H HR15 HX15 HZ15 HG15;clear s0 s1 slt x0 x1 x2 x3 x4 x5 x6 x7 x8 xf0 xf1 xf2 xf3 xf4 xf5 xf6 xf7 xf8 xlt z0 z1 z2 z3 z4 z5 z6 z7 z8 zf0 zf1 zf2 zf3 zf4 zf5 zf6 zf7 zf8 zlt;obtain ⟨s0,s1,slt⟩:=HR25.out.cells;obtain ⟨x0,x1,x2,x3,x4,x5,x6,x7,x8⟩:=aD HX25.out;obtain ⟨xf0,xf1,xf2,xf3,xf4,xf5,xf6,xf7,xf8,xlt⟩:=aA HX25.out;obtain ⟨z0,z1,z2,z3,z4,z5,z6,z7,z8⟩:=aD HZ25.out;obtain ⟨zf0,zf1,zf2,zf3,zf4,zf5,zf6,zf7,zf8,zlt⟩:=aA HZ25.out;go_wp2_with fail;clear s0 s1 slt x0 x1 x2 x3 x4 x5 x6 x7 x8 xf0 xf1 xf2 xf3 xf4 xf5 xf6 xf7 xf8 xlt z0 z1 z2 z3 z4 z5 z6 z7 z8 zf0 zf1 zf2 zf3 zf4 zf5 zf6 zf7 zf8 zlt;change bodyPost _ _ _ Exit.ret _ (bJ W25 W.heap.size (.int .i64 opc) (.int .u8 0) (.int .u32 v14) (.int .u32 0) (.int .u64 0) (.slice none 0 0) (.slice none 0 0) (.slice none 0 0) (.bool false))
  have hgF:aF W (bJ W25 W.heap.size (.int .i64 opc) (.int .u8 0) (.int .u32 v14) (.int .u32 0) (.int .u64 0) (.slice none 0 0) (.slice none 0 0) (.slice none 0 0) (.bool false)) p q B a25 e25:=dw HW.out HG25.out _ (Nat.le_refl _) _ _ _ _ _ _ _ _ _;have hbF:=bL HZ25.out (.int .i64 opc) (.int .u8 0) (.int .u32 v14) (.int .u32 0) (.int .u64 0) (.slice none 0 0) (.slice none 0 0) (.slice none 0 0) (.bool false);generalize bJ W25 W.heap.size (.int .i64 opc) (.int .u8 0) (.int .u32 v14) (.int .u32 0) (.int .u64 0) (.slice none 0 0) (.slice none 0 0) (.slice none 0 0) (.bool false)=V9 at *;obtain ⟨y0,y1,y2,y3,y4,y5,y6,y7,y8⟩:=aD hbF;rw [HV.out];have HGF:=Lib.hid hgF;refine bodyPost_ret (v:= .agg (aX opc 0 v14 0 0 (.slice none 0 0) (.slice none 0 0) (.slice none 0 0) false)) (by simp [results,Tryz.results118,go_sem,y0,y1,y2,y3,y4,y5,y6,y7,y8,aX]) rfl ⟨.mk opc 0 v14 0 0 [] [] [] false,none,none,none,0,0,0,rfl, ?_,fun _=>rfl,HGF.out⟩;exact fF hopc (by omega) (by omega) (by omega) (by omega)
 by_cases c6:i=6
 ·obtain rfl:i=6:=c6;have HV:=Lib.hid (show bE bk B opc 6 a1=(.mk opc 0 (az (aI B a1) a1 0).1 (az (aI B (az (aI B a1) a1 0).2.1) (az (aI B a1) a1 0).2.1 (az (aI B a1) a1 0).2.2).1 0 [] [] [] false,(az (aI B (az (aI B a1) a1 0).2.1) (az (aI B a1) a1 0).2.1 (az (aI B a1) a1 0).2.2).2.1,(az (aI B (az (aI B a1) a1 0).2.1) (az (aI B a1) a1 0).2.1 (az (aI B a1) a1 0).2.2).2.2)from rfl);obtain ⟨s0,s1,slt⟩:=HR4.out.cells;obtain ⟨x0,x1,x2,x3,x4,x5,x6,x7,x8⟩:=aD HX4.out;obtain ⟨xf0,xf1,xf2,xf3,xf4,xf5,xf6,xf7,xf8,xlt⟩:=aA HX4.out;obtain ⟨z0,z1,z2,z3,z4,z5,z6,z7,z8⟩:=aD HZ4.out;obtain ⟨zf0,zf1,zf2,zf3,zf4,zf5,zf6,zf7,zf8,zlt⟩:=aA HZ4.out;go_wp2_with fail;have hvb:=dD B a1 0 HB.out;have H:=Lib.hid (jJ W4 p q B a1 0 HG4.out.1 HB.out);generalize az (aI B a1) a1 0=t at *;obtain ⟨v14,a14,e14⟩:=t;simp only at HV;obtain ⟨hv14,hw14⟩:=hvb;refine H.out.mono ?_;rintro E W14 ⟨rfl,hG⟩;have hG0:aF W4 W14 p q B a14 e14:=hG;have HR14:=Lib.hid (HR4.out.goes hRp hG0);have HX14:=Lib.hid (HX4.out.grown hG0.2 (by simp;omega));have HZ14:=Lib.hid (HZ4.out.grown hG0.2 (by simp;omega));have HG14:=Lib.hid (HG4.out.trans hG0);clear hG hG0 H HR4 HX4 HZ4 HG4;clear s0 s1 slt x0 x1 x2 x3 x4 x5 x6 x7 x8 xf0 xf1 xf2 xf3 xf4 xf5 xf6 xf7 xf8 xlt z0 z1 z2 z3 z4 z5 z6 z7 z8 zf0 zf1 zf2 zf3 zf4 zf5 zf6 zf7 zf8 zlt;obtain ⟨s0,s1,slt⟩:=HR14.out.cells;obtain ⟨x0,x1,x2,x3,x4,x5,x6,x7,x8⟩:=aD HX14.out;obtain ⟨xf0,xf1,xf2,xf3,xf4,xf5,xf6,xf7,xf8,xlt⟩:=aA HX14.out;obtain ⟨z0,z1,z2,z3,z4,z5,z6,z7,z8⟩:=aD HZ14.out;obtain ⟨zf0,zf1,zf2,zf3,zf4,zf5,zf6,zf7,zf8,zlt⟩:=aA HZ14.out;go_wp2_with fail;have HX15:=Lib.hid (show Blk (W14.setCell ⟨X,2,none⟩ (.int .u32 v14)) X (aX opc 0 v14 0 0 (.slice none 0 0) (.slice none 0 0) (.slice none 0 0) false) 151 from by have:=HX14.out.set 2 (.int .u32 v14);simpa [aX] using this);have HZ15:=Lib.hid (show Blk (W14.setCell ⟨X,2,none⟩ (.int .u32 v14)) W.heap.size bO 151 from HZ14.out.aJ ⟨X,2,none⟩ (.int .u32 v14) (by simp;omega));have HR15:=Lib.hid (show Rq (W14.setCell ⟨X,2,none⟩ (.int .u32 v14)) R p sat from Blk.aJ HR14.out ⟨X,2,none⟩ (.int .u32 v14) (by simp;omega));have HG15:=Lib.hid (show aF W (W14.setCell ⟨X,2,none⟩ (.int .u32 v14)) p q B a14 e14 from HG14.out.bG HW.out X (by omega) 2 (.int .u32 v14));generalize W14.setCell ⟨X,2,none⟩ (.int .u32 v14)=W15 at *;clear HX14 HZ14 HR14 HG14;clear s0 s1 slt x0 x1 x2 x3 x4 x5 x6 x7 x8 xf0 xf1 xf2 xf3 xf4 xf5 xf6 xf7 xf8 xlt z0 z1 z2 z3 z4 z5 z6 z7 z8 zf0 zf1 zf2 zf3 zf4 zf5 zf6 zf7 zf8 zlt;obtain ⟨s0,s1,slt⟩:=HR15.out.cells;obtain ⟨x0,x1,x2,x3,x4,x5,x6,x7,x8⟩:=aD HX15.out;obtain ⟨xf0,xf1,xf2,xf3,xf4,xf5,xf6,xf7,xf8,xlt⟩:=aA HX15.out;obtain ⟨z0,z1,z2,z3,z4,z5,z6,z7,z8⟩:=aD HZ15.out;obtain ⟨zf0,zf1,zf2,zf3,zf4,zf5,zf6,zf7,zf8,zlt⟩:=aA HZ15.out;have hvb:=dD B a14 e14 HB.out;have H:=Lib.hid (jJ W15 p q B a14 e14 HG15.out.1 HB.out);generalize az (aI B a14) a14 e14=t at *;obtain ⟨v25,a25,e25⟩:=t;simp only at HV;obtain ⟨hv25,hw25⟩:=hvb;refine H.out.mono ?_;rintro E W25 ⟨rfl,hG⟩;have hG0:aF W15 W25 p q B a25 e25:=hG;have HR25:=Lib.hid (HR15.out.goes hRp hG0);have HX25:=Lib.hid (HX15.out.grown hG0.2 (by simp;omega));have HZ25:=Lib.hid (HZ15.out.grown hG0.2 (by simp;omega));have HG25:=Lib.hid (HG15.out.trans hG0);clear hG hG0 H HR15 HX15 HZ15 HG15;clear s0 s1 slt x0 x1 x2 x3 x4 x5 x6 x7 x8 xf0 xf1 xf2 xf3 xf4 xf5 xf6 xf7 xf8 xlt z0 z1 z2 z3 z4 z5 z6 z7 z8 zf0 zf1 zf2 zf3 zf4 zf5 zf6 zf7 zf8 zlt;obtain ⟨s0,s1,slt⟩:=HR25.out.cells;obtain ⟨x0,x1,x2,x3,x4,x5,x6,x7,x8⟩:=aD HX25.out;obtain ⟨xf0,xf1,xf2,xf3,xf4,xf5,xf6,xf7,xf8,xlt⟩:=aA HX25.out;obtain ⟨z0,z1,z2,z3,z4,z5,z6,z7,z8⟩:=aD HZ25.out;obtain ⟨zf0,zf1,zf2,zf3,zf4,zf5,zf6,zf7,zf8,zlt⟩:=aA HZ25.out;go_wp2_with fail;have HX26:=Lib.hid (show Blk (W25.setCell ⟨X,3,none⟩ (.int .u32 v25)) X (aX opc 0 v14 v25 0 (.slice none 0 0) (.slice none 0 0) (.slice none 0 0) false) 151 from by have:=HX25.out.set 3 (.int .u32 v25);simpa [aX] using this)
  have HZ26:=Lib.hid (show Blk (W25.setCell ⟨X,3,none⟩ (.int .u32 v25)) W.heap.size bO 151 from HZ25.out.aJ ⟨X,3,none⟩ (.int .u32 v25) (by simp;omega));have HR26:=Lib.hid (show Rq (W25.setCell ⟨X,3,none⟩ (.int .u32 v25)) R p sat from Blk.aJ HR25.out ⟨X,3,none⟩ (.int .u32 v25) (by simp;omega));have HG26:=Lib.hid (show aF W (W25.setCell ⟨X,3,none⟩ (.int .u32 v25)) p q B a25 e25 from HG25.out.bG HW.out X (by omega) 3 (.int .u32 v25));clear HX25 HZ25 HR25 HG25;clear s0 s1 slt x0 x1 x2 x3 x4 x5 x6 x7 x8 xf0 xf1 xf2 xf3 xf4 xf5 xf6 xf7 xf8 xlt z0 z1 z2 z3 z4 z5 z6 z7 z8 zf0 zf1 zf2 zf3 zf4 zf5 zf6 zf7 zf8 zlt;change bodyPost _ _ _ Exit.ret _ (bJ (W25.setCell ⟨X,3,none⟩ (.int .u32 v25)) W.heap.size (.int .i64 opc) (.int .u8 0) (.int .u32 v14) (.int .u32 v25) (.int .u64 0) (.slice none 0 0) (.slice none 0 0) (.slice none 0 0) (.bool false));have hgF:aF W (bJ (W25.setCell ⟨X,3,none⟩ (.int .u32 v25)) W.heap.size (.int .i64 opc) (.int .u8 0) (.int .u32 v14) (.int .u32 v25) (.int .u64 0) (.slice none 0 0) (.slice none 0 0) (.slice none 0 0) (.bool false)) p q B a25 e25:=dw HW.out HG26.out _ (Nat.le_refl _) _ _ _ _ _ _ _ _ _;have hbF:=bL HZ26.out (.int .i64 opc) (.int .u8 0) (.int .u32 v14) (.int .u32 v25) (.int .u64 0) (.slice none 0 0) (.slice none 0 0) (.slice none 0 0) (.bool false);generalize bJ (W25.setCell ⟨X,3,none⟩ (.int .u32 v25)) W.heap.size (.int .i64 opc) (.int .u8 0) (.int .u32 v14) (.int .u32 v25) (.int .u64 0) (.slice none 0 0) (.slice none 0 0) (.slice none 0 0) (.bool false)=V9 at *;obtain ⟨y0,y1,y2,y3,y4,y5,y6,y7,y8⟩:=aD hbF;rw [HV.out];have HGF:=Lib.hid hgF;refine bodyPost_ret (v:= .agg (aX opc 0 v14 v25 0 (.slice none 0 0) (.slice none 0 0) (.slice none 0 0) false)) (by simp [results,Tryz.results118,go_sem,y0,y1,y2,y3,y4,y5,y6,y7,y8,aX]) rfl ⟨.mk opc 0 v14 v25 0 [] [] [] false,none,none,none,0,0,0,rfl, ?_,fun _=>rfl,HGF.out⟩;exact fF hopc (by omega) (by omega) (by omega) (by omega)
 by_cases c7:i=7
 ·obtain rfl:i=7:=c7;have HV:=Lib.hid (show bE bk B opc 7 a1=(.mk opc 0 0 0 0 [] [] [] false,(dO B a1 0).1,(dO B a1 0).2)from rfl);obtain ⟨s0,s1,slt⟩:=HR4.out.cells;obtain ⟨x0,x1,x2,x3,x4,x5,x6,x7,x8⟩:=aD HX4.out;obtain ⟨xf0,xf1,xf2,xf3,xf4,xf5,xf6,xf7,xf8,xlt⟩:=aA HX4.out;obtain ⟨z0,z1,z2,z3,z4,z5,z6,z7,z8⟩:=aD HZ4.out;obtain ⟨zf0,zf1,zf2,zf3,zf4,zf5,zf6,zf7,zf8,zlt⟩:=aA HZ4.out;go_wp2_with fail;have H:=Lib.hid (su W4 R p q sat B a1 0 HR4.out hRp HG4.out.1 HB.out);generalize dO B a1 0=t at *;obtain ⟨a14,e14⟩:=t;simp only at HV;refine H.out.mono ?_;rintro E W14 ⟨rfl,hG⟩;have hG0:aF W4 W14 p q B a14 e14:=hG;have HR14:=Lib.hid (HR4.out.goes hRp hG0);have HX14:=Lib.hid (HX4.out.grown hG0.2 (by simp;omega));have HZ14:=Lib.hid (HZ4.out.grown hG0.2 (by simp;omega));have HG14:=Lib.hid (HG4.out.trans hG0);clear hG hG0 H HR4 HX4 HZ4 HG4;clear s0 s1 slt x0 x1 x2 x3 x4 x5 x6 x7 x8 xf0 xf1 xf2 xf3 xf4 xf5 xf6 xf7 xf8 xlt z0 z1 z2 z3 z4 z5 z6 z7 z8 zf0 zf1 zf2 zf3 zf4 zf5 zf6 zf7 zf8 zlt;obtain ⟨s0,s1,slt⟩:=HR14.out.cells;obtain ⟨x0,x1,x2,x3,x4,x5,x6,x7,x8⟩:=aD HX14.out;obtain ⟨xf0,xf1,xf2,xf3,xf4,xf5,xf6,xf7,xf8,xlt⟩:=aA HX14.out;obtain ⟨z0,z1,z2,z3,z4,z5,z6,z7,z8⟩:=aD HZ14.out;obtain ⟨zf0,zf1,zf2,zf3,zf4,zf5,zf6,zf7,zf8,zlt⟩:=aA HZ14.out;go_wp2_with fail;clear s0 s1 slt x0 x1 x2 x3 x4 x5 x6 x7 x8 xf0 xf1 xf2 xf3 xf4 xf5 xf6 xf7 xf8 xlt z0 z1 z2 z3 z4 z5 z6 z7 z8 zf0 zf1 zf2 zf3 zf4 zf5 zf6 zf7 zf8 zlt;change bodyPost _ _ _ Exit.ret _ (bJ W14 W.heap.size (.int .i64 opc) (.int .u8 0) (.int .u32 0) (.int .u32 0) (.int .u64 0) (.slice none 0 0) (.slice none 0 0) (.slice none 0 0) (.bool false));have hgF:aF W (bJ W14 W.heap.size (.int .i64 opc) (.int .u8 0) (.int .u32 0) (.int .u32 0) (.int .u64 0) (.slice none 0 0) (.slice none 0 0) (.slice none 0 0) (.bool false)) p q B a14 e14:=dw HW.out HG14.out _ (Nat.le_refl _) _ _ _ _ _ _ _ _ _;have hbF:=bL HZ14.out (.int .i64 opc) (.int .u8 0) (.int .u32 0) (.int .u32 0) (.int .u64 0) (.slice none 0 0) (.slice none 0 0) (.slice none 0 0) (.bool false);generalize bJ W14 W.heap.size (.int .i64 opc) (.int .u8 0) (.int .u32 0) (.int .u32 0) (.int .u64 0) (.slice none 0 0) (.slice none 0 0) (.slice none 0 0) (.bool false)=V9 at *;obtain ⟨y0,y1,y2,y3,y4,y5,y6,y7,y8⟩:=aD hbF;rw [HV.out];have HGF:=Lib.hid hgF;refine bodyPost_ret (v:= .agg (aX opc 0 0 0 0 (.slice none 0 0) (.slice none 0 0) (.slice none 0 0) false)) (by simp [results,Tryz.results118,go_sem,y0,y1,y2,y3,y4,y5,y6,y7,y8,aX]) rfl ⟨.mk opc 0 0 0 0 [] [] [] false,none,none,none,0,0,0,rfl, ?_,fun _=>rfl,HGF.out⟩;exact fF hopc (by omega) (by omega) (by omega) (by omega)
 by_cases c8:i=8
 ·obtain rfl:i=8:=c8;have HV:=Lib.hid (show bE bk B opc 8 a1=(.mk opc 0 0 0 (az (fu B a1) a1 0).1 [] [] [] false,(az (fu B a1) a1 0).2.1,(az (fu B a1) a1 0).2.2)from rfl);obtain ⟨s0,s1,slt⟩:=HR4.out.cells;obtain ⟨x0,x1,x2,x3,x4,x5,x6,x7,x8⟩:=aD HX4.out;obtain ⟨xf0,xf1,xf2,xf3,xf4,xf5,xf6,xf7,xf8,xlt⟩:=aA HX4.out;obtain ⟨z0,z1,z2,z3,z4,z5,z6,z7,z8⟩:=aD HZ4.out;obtain ⟨zf0,zf1,zf2,zf3,zf4,zf5,zf6,zf7,zf8,zlt⟩:=aA HZ4.out;go_wp2_with fail;have hvb:=tL B a1 0;have H:=Lib.hid (Bp W4 p q B a1 0 HG4.out.1 HB.out);generalize az (fu B a1) a1 0=t at *;obtain ⟨v14,a14,e14⟩:=t;simp only at HV;obtain ⟨hv14,hw14⟩:=hvb;refine H.out.mono ?_;rintro E W14 ⟨rfl,hG⟩;have hG0:aF W4 W14 p q B a14 e14:=hG;have HR14:=Lib.hid (HR4.out.goes hRp hG0);have HX14:=Lib.hid (HX4.out.grown hG0.2 (by simp;omega));have HZ14:=Lib.hid (HZ4.out.grown hG0.2 (by simp;omega));have HG14:=Lib.hid (HG4.out.trans hG0);clear hG hG0 H HR4 HX4 HZ4 HG4;clear s0 s1 slt x0 x1 x2 x3 x4 x5 x6 x7 x8 xf0 xf1 xf2 xf3 xf4 xf5 xf6 xf7 xf8 xlt z0 z1 z2 z3 z4 z5 z6 z7 z8 zf0 zf1 zf2 zf3 zf4 zf5 zf6 zf7 zf8 zlt;obtain ⟨s0,s1,slt⟩:=HR14.out.cells;obtain ⟨x0,x1,x2,x3,x4,x5,x6,x7,x8⟩:=aD HX14.out;obtain ⟨xf0,xf1,xf2,xf3,xf4,xf5,xf6,xf7,xf8,xlt⟩:=aA HX14.out;obtain ⟨z0,z1,z2,z3,z4,z5,z6,z7,z8⟩:=aD HZ14.out;obtain ⟨zf0,zf1,zf2,zf3,zf4,zf5,zf6,zf7,zf8,zlt⟩:=aA HZ14.out;go_wp2_with fail;have HX15:=Lib.hid (show Blk (W14.setCell ⟨X,4,none⟩ (.int .u64 v14)) X (aX opc 0 0 0 v14 (.slice none 0 0) (.slice none 0 0) (.slice none 0 0) false) 151 from by have:=HX14.out.set 4 (.int .u64 v14);simpa [aX] using this);have HZ15:=Lib.hid (show Blk (W14.setCell ⟨X,4,none⟩ (.int .u64 v14)) W.heap.size bO 151 from HZ14.out.aJ ⟨X,4,none⟩ (.int .u64 v14) (by simp;omega));have HR15:=Lib.hid (show Rq (W14.setCell ⟨X,4,none⟩ (.int .u64 v14)) R p sat from Blk.aJ HR14.out ⟨X,4,none⟩ (.int .u64 v14) (by simp;omega));have HG15:=Lib.hid (show aF W (W14.setCell ⟨X,4,none⟩ (.int .u64 v14)) p q B a14 e14 from HG14.out.bG HW.out X (by omega) 4 (.int .u64 v14));clear HX14 HZ14 HR14 HG14;clear s0 s1 slt x0 x1 x2 x3 x4 x5 x6 x7 x8 xf0 xf1 xf2 xf3 xf4 xf5 xf6 xf7 xf8 xlt z0 z1 z2 z3 z4 z5 z6 z7 z8 zf0 zf1 zf2 zf3 zf4 zf5 zf6 zf7 zf8 zlt;change bodyPost _ _ _ Exit.ret _ (bJ (W14.setCell ⟨X,4,none⟩ (.int .u64 v14)) W.heap.size (.int .i64 opc) (.int .u8 0) (.int .u32 0) (.int .u32 0) (.int .u64 v14) (.slice none 0 0) (.slice none 0 0) (.slice none 0 0) (.bool false));have hgF:aF W (bJ (W14.setCell ⟨X,4,none⟩ (.int .u64 v14)) W.heap.size (.int .i64 opc) (.int .u8 0) (.int .u32 0) (.int .u32 0) (.int .u64 v14) (.slice none 0 0) (.slice none 0 0) (.slice none 0 0) (.bool false)) p q B a14 e14:=dw HW.out HG15.out _ (Nat.le_refl _) _ _ _ _ _ _ _ _ _;have hbF:=bL HZ15.out (.int .i64 opc) (.int .u8 0) (.int .u32 0) (.int .u32 0) (.int .u64 v14) (.slice none 0 0) (.slice none 0 0) (.slice none 0 0) (.bool false);generalize bJ (W14.setCell ⟨X,4,none⟩ (.int .u64 v14)) W.heap.size (.int .i64 opc) (.int .u8 0) (.int .u32 0) (.int .u32 0) (.int .u64 v14) (.slice none 0 0) (.slice none 0 0) (.slice none 0 0) (.bool false)=V9 at *;obtain ⟨y0,y1,y2,y3,y4,y5,y6,y7,y8⟩:=aD hbF;rw [HV.out];have HGF:=Lib.hid hgF;refine bodyPost_ret (v:= .agg (aX opc 0 0 0 v14 (.slice none 0 0) (.slice none 0 0) (.slice none 0 0) false)) (by simp [results,Tryz.results118,go_sem,y0,y1,y2,y3,y4,y5,y6,y7,y8,aX]) rfl ⟨.mk opc 0 0 0 v14 [] [] [] false,none,none,none,0,0,0,rfl, ?_,fun _=>rfl,HGF.out⟩;exact fF hopc (by omega) (by omega) (by omega) (by omega)
 by_cases c9:i=9
 ·obtain rfl:i=9:=c9;have HV:=Lib.hid (show bE bk B opc 9 a1=(.mk opc 0 0 0 (az (fC B a1) a1 0).1 [] [] [] false,(az (fC B a1) a1 0).2.1,(az (fC B a1) a1 0).2.2)from rfl);obtain ⟨s0,s1,slt⟩:=HR4.out.cells;obtain ⟨x0,x1,x2,x3,x4,x5,x6,x7,x8⟩:=aD HX4.out;obtain ⟨xf0,xf1,xf2,xf3,xf4,xf5,xf6,xf7,xf8,xlt⟩:=aA HX4.out;obtain ⟨z0,z1,z2,z3,z4,z5,z6,z7,z8⟩:=aD HZ4.out;obtain ⟨zf0,zf1,zf2,zf3,zf4,zf5,zf6,zf7,zf8,zlt⟩:=aA HZ4.out;go_wp2_with fail;have hvb:=sH B a1 0 HB.out;have H:=Lib.hid (zI W4 p q B a1 0 HG4.out.1 HB.out);generalize az (fC B a1) a1 0=t at *;obtain ⟨v14,a14,e14⟩:=t;simp only at HV;obtain ⟨hv14,hw14⟩:=hvb;refine H.out.mono ?_;rintro E W14 ⟨rfl,hG⟩;have hG0:aF W4 W14 p q B a14 e14:=hG;have HR14:=Lib.hid (HR4.out.goes hRp hG0);have HX14:=Lib.hid (HX4.out.grown hG0.2 (by simp;omega));have HZ14:=Lib.hid (HZ4.out.grown hG0.2 (by simp;omega));have HG14:=Lib.hid (HG4.out.trans hG0);clear hG hG0 H HR4 HX4 HZ4 HG4;clear s0 s1 slt x0 x1 x2 x3 x4 x5 x6 x7 x8 xf0 xf1 xf2 xf3 xf4 xf5 xf6 xf7 xf8 xlt z0 z1 z2 z3 z4 z5 z6 z7 z8 zf0 zf1 zf2 zf3 zf4 zf5 zf6 zf7 zf8 zlt;obtain ⟨s0,s1,slt⟩:=HR14.out.cells;obtain ⟨x0,x1,x2,x3,x4,x5,x6,x7,x8⟩:=aD HX14.out;obtain ⟨xf0,xf1,xf2,xf3,xf4,xf5,xf6,xf7,xf8,xlt⟩:=aA HX14.out;obtain ⟨z0,z1,z2,z3,z4,z5,z6,z7,z8⟩:=aD HZ14.out;obtain ⟨zf0,zf1,zf2,zf3,zf4,zf5,zf6,zf7,zf8,zlt⟩:=aA HZ14.out;go_wp2_with fail;have HX15:=Lib.hid (show Blk (W14.setCell ⟨X,4,none⟩ (.int .u64 v14)) X (aX opc 0 0 0 v14 (.slice none 0 0) (.slice none 0 0) (.slice none 0 0) false) 151 from by have:=HX14.out.set 4 (.int .u64 v14);simpa [aX] using this);have HZ15:=Lib.hid (show Blk (W14.setCell ⟨X,4,none⟩ (.int .u64 v14)) W.heap.size bO 151 from HZ14.out.aJ ⟨X,4,none⟩ (.int .u64 v14) (by simp;omega));have HR15:=Lib.hid (show Rq (W14.setCell ⟨X,4,none⟩ (.int .u64 v14)) R p sat from Blk.aJ HR14.out ⟨X,4,none⟩ (.int .u64 v14) (by simp;omega));have HG15:=Lib.hid (show aF W (W14.setCell ⟨X,4,none⟩ (.int .u64 v14)) p q B a14 e14 from HG14.out.bG HW.out X (by omega) 4 (.int .u64 v14));clear HX14 HZ14 HR14 HG14;clear s0 s1 slt x0 x1 x2 x3 x4 x5 x6 x7 x8 xf0 xf1 xf2 xf3 xf4 xf5 xf6 xf7 xf8 xlt z0 z1 z2 z3 z4 z5 z6 z7 z8 zf0 zf1 zf2 zf3 zf4 zf5 zf6 zf7 zf8 zlt;change bodyPost _ _ _ Exit.ret _ (bJ (W14.setCell ⟨X,4,none⟩ (.int .u64 v14)) W.heap.size (.int .i64 opc) (.int .u8 0) (.int .u32 0) (.int .u32 0) (.int .u64 v14) (.slice none 0 0) (.slice none 0 0) (.slice none 0 0) (.bool false));have hgF:aF W (bJ (W14.setCell ⟨X,4,none⟩ (.int .u64 v14)) W.heap.size (.int .i64 opc) (.int .u8 0) (.int .u32 0) (.int .u32 0) (.int .u64 v14) (.slice none 0 0) (.slice none 0 0) (.slice none 0 0) (.bool false)) p q B a14 e14:=dw HW.out HG15.out _ (Nat.le_refl _) _ _ _ _ _ _ _ _ _;have hbF:=bL HZ15.out (.int .i64 opc) (.int .u8 0) (.int .u32 0) (.int .u32 0) (.int .u64 v14) (.slice none 0 0) (.slice none 0 0) (.slice none 0 0) (.bool false);generalize bJ (W14.setCell ⟨X,4,none⟩ (.int .u64 v14)) W.heap.size (.int .i64 opc) (.int .u8 0) (.int .u32 0) (.int .u32 0) (.int .u64 v14) (.slice none 0 0) (.slice none 0 0) (.slice none 0 0) (.bool false)=V9 at *;obtain ⟨y0,y1,y2,y3,y4,y5,y6,y7,y8⟩:=aD hbF;rw [HV.out];have HGF:=Lib.hid hgF;refine bodyPost_ret (v:= .agg (aX opc 0 0 0 v14 (.slice none 0 0) (.slice none 0 0) (.slice none 0 0) false)) (by simp [results,Tryz.results118,go_sem,y0,y1,y2,y3,y4,y5,y6,y7,y8,aX]) rfl ⟨.mk opc 0 0 0 v14 [] [] [] false,none,none,none,0,0,0,rfl, ?_,fun _=>rfl,HGF.out⟩;exact fF hopc (by omega) (by omega) (by omega) (by omega)
 by_cases c10:i=10
 ·obtain rfl:i=10:=c10;have HV:=Lib.hid (show bE bk B opc 10 a1=(.mk opc 0 0 0 (az (dN B a1 4) a1 0).1 [] [] [] false,(az (dN B a1 4) a1 0).2.1,(az (dN B a1 4) a1 0).2.2)from rfl);obtain ⟨s0,s1,slt⟩:=HR4.out.cells;obtain ⟨x0,x1,x2,x3,x4,x5,x6,x7,x8⟩:=aD HX4.out;obtain ⟨xf0,xf1,xf2,xf3,xf4,xf5,xf6,xf7,xf8,xlt⟩:=aA HX4.out;obtain ⟨z0,z1,z2,z3,z4,z5,z6,z7,z8⟩:=aD HZ4.out;obtain ⟨zf0,zf1,zf2,zf3,zf4,zf5,zf6,zf7,zf8,zlt⟩:=aA HZ4.out;go_wp2_with fail;have hvb:=mJ B a1 4 0 (by omega) HB.out;have H:=Lib.hid (D7 W4 p q B a1 0 HG4.out.1 HB.out);generalize az (dN B a1 4) a1 0=t at *;obtain ⟨v14,a14,e14⟩:=t;simp only at HV;obtain ⟨hv14,hw14⟩:=hvb;refine H.out.mono ?_;rintro E W14 ⟨rfl,hG⟩;have hG0:aF W4 W14 p q B a14 e14:=hG;have HR14:=Lib.hid (HR4.out.goes hRp hG0);have HX14:=Lib.hid (HX4.out.grown hG0.2 (by simp;omega));have HZ14:=Lib.hid (HZ4.out.grown hG0.2 (by simp;omega));have HG14:=Lib.hid (HG4.out.trans hG0);clear hG hG0 H HR4 HX4 HZ4 HG4;clear s0 s1 slt x0 x1 x2 x3 x4 x5 x6 x7 x8 xf0 xf1 xf2 xf3 xf4 xf5 xf6 xf7 xf8 xlt z0 z1 z2 z3 z4 z5 z6 z7 z8 zf0 zf1 zf2 zf3 zf4 zf5 zf6 zf7 zf8 zlt;obtain ⟨s0,s1,slt⟩:=HR14.out.cells;obtain ⟨x0,x1,x2,x3,x4,x5,x6,x7,x8⟩:=aD HX14.out;obtain ⟨xf0,xf1,xf2,xf3,xf4,xf5,xf6,xf7,xf8,xlt⟩:=aA HX14.out;obtain ⟨z0,z1,z2,z3,z4,z5,z6,z7,z8⟩:=aD HZ14.out;obtain ⟨zf0,zf1,zf2,zf3,zf4,zf5,zf6,zf7,zf8,zlt⟩:=aA HZ14.out;go_wp2_with fail;have HX15:=Lib.hid (show Blk (W14.setCell ⟨X,4,none⟩ (.int .u64 v14)) X (aX opc 0 0 0 v14 (.slice none 0 0) (.slice none 0 0) (.slice none 0 0) false) 151 from by have:=HX14.out.set 4 (.int .u64 v14);simpa [aX] using this);have HZ15:=Lib.hid (show Blk (W14.setCell ⟨X,4,none⟩ (.int .u64 v14)) W.heap.size bO 151 from HZ14.out.aJ ⟨X,4,none⟩ (.int .u64 v14) (by simp;omega));have HR15:=Lib.hid (show Rq (W14.setCell ⟨X,4,none⟩ (.int .u64 v14)) R p sat from Blk.aJ HR14.out ⟨X,4,none⟩ (.int .u64 v14) (by simp;omega));have HG15:=Lib.hid (show aF W (W14.setCell ⟨X,4,none⟩ (.int .u64 v14)) p q B a14 e14 from HG14.out.bG HW.out X (by omega) 4 (.int .u64 v14));clear HX14 HZ14 HR14 HG14;clear s0 s1 slt x0 x1 x2 x3 x4 x5 x6 x7 x8 xf0 xf1 xf2 xf3 xf4 xf5 xf6 xf7 xf8 xlt z0 z1 z2 z3 z4 z5 z6 z7 z8 zf0 zf1 zf2 zf3 zf4 zf5 zf6 zf7 zf8 zlt;change bodyPost _ _ _ Exit.ret _ (bJ (W14.setCell ⟨X,4,none⟩ (.int .u64 v14)) W.heap.size (.int .i64 opc) (.int .u8 0) (.int .u32 0) (.int .u32 0) (.int .u64 v14) (.slice none 0 0) (.slice none 0 0) (.slice none 0 0) (.bool false));have hgF:aF W (bJ (W14.setCell ⟨X,4,none⟩ (.int .u64 v14)) W.heap.size (.int .i64 opc) (.int .u8 0) (.int .u32 0) (.int .u32 0) (.int .u64 v14) (.slice none 0 0) (.slice none 0 0) (.slice none 0 0) (.bool false)) p q B a14 e14:=dw HW.out HG15.out _ (Nat.le_refl _) _ _ _ _ _ _ _ _ _;have hbF:=bL HZ15.out (.int .i64 opc) (.int .u8 0) (.int .u32 0) (.int .u32 0) (.int .u64 v14) (.slice none 0 0) (.slice none 0 0) (.slice none 0 0) (.bool false);generalize bJ (W14.setCell ⟨X,4,none⟩ (.int .u64 v14)) W.heap.size (.int .i64 opc) (.int .u8 0) (.int .u32 0) (.int .u32 0) (.int .u64 v14) (.slice none 0 0) (.slice none 0 0) (.slice none 0 0) (.bool false)=V9 at *;obtain ⟨y0,y1,y2,y3,y4,y5,y6,y7,y8⟩:=aD hbF;rw [HV.out];have HGF:=Lib.hid hgF;refine bodyPost_ret (v:= .agg (aX opc 0 0 0 v14 (.slice none 0 0) (.slice none 0 0) (.slice none 0 0) false)) (by simp [results,Tryz.results118,go_sem,y0,y1,y2,y3,y4,y5,y6,y7,y8,aX]) rfl ⟨.mk opc 0 0 0 v14 [] [] [] false,none,none,none,0,0,0,rfl, ?_,fun _=>rfl,HGF.out⟩;exact fF hopc (by omega) (by omega) (by omega) (by omega)
 by_cases c11:i=11
 ·obtain rfl:i=11:=c11;have HV:=Lib.hid (show bE bk B opc 11 a1=(.mk opc 0 0 0 (az (dN B a1 8) a1 0).1 [] [] [] false,(az (dN B a1 8) a1 0).2.1,(az (dN B a1 8) a1 0).2.2)from rfl);obtain ⟨s0,s1,slt⟩:=HR4.out.cells;obtain ⟨x0,x1,x2,x3,x4,x5,x6,x7,x8⟩:=aD HX4.out;obtain ⟨xf0,xf1,xf2,xf3,xf4,xf5,xf6,xf7,xf8,xlt⟩:=aA HX4.out;obtain ⟨z0,z1,z2,z3,z4,z5,z6,z7,z8⟩:=aD HZ4.out;obtain ⟨zf0,zf1,zf2,zf3,zf4,zf5,zf6,zf7,zf8,zlt⟩:=aA HZ4.out;go_wp2_with fail;have hvb:=mJ B a1 8 0 (by omega) HB.out;have H:=Lib.hid (Cm W4 p q B a1 0 HG4.out.1 HB.out);generalize az (dN B a1 8) a1 0=t at *;obtain ⟨v14,a14,e14⟩:=t;simp only at HV;obtain ⟨hv14,hw14⟩:=hvb;refine H.out.mono ?_;rintro E W14 ⟨rfl,hG⟩;have hG0:aF W4 W14 p q B a14 e14:=hG;have HR14:=Lib.hid (HR4.out.goes hRp hG0);have HX14:=Lib.hid (HX4.out.grown hG0.2 (by simp;omega));have HZ14:=Lib.hid (HZ4.out.grown hG0.2 (by simp;omega));have HG14:=Lib.hid (HG4.out.trans hG0);clear hG hG0 H HR4 HX4 HZ4 HG4;clear s0 s1 slt x0 x1 x2 x3 x4 x5 x6 x7 x8 xf0 xf1 xf2 xf3 xf4 xf5 xf6 xf7 xf8 xlt z0 z1 z2 z3 z4 z5 z6 z7 z8 zf0 zf1 zf2 zf3 zf4 zf5 zf6 zf7 zf8 zlt;obtain ⟨s0,s1,slt⟩:=HR14.out.cells;obtain ⟨x0,x1,x2,x3,x4,x5,x6,x7,x8⟩:=aD HX14.out;obtain ⟨xf0,xf1,xf2,xf3,xf4,xf5,xf6,xf7,xf8,xlt⟩:=aA HX14.out;obtain ⟨z0,z1,z2,z3,z4,z5,z6,z7,z8⟩:=aD HZ14.out;obtain ⟨zf0,zf1,zf2,zf3,zf4,zf5,zf6,zf7,zf8,zlt⟩:=aA HZ14.out;go_wp2_with fail;have HX15:=Lib.hid (show Blk (W14.setCell ⟨X,4,none⟩ (.int .u64 v14)) X (aX opc 0 0 0 v14 (.slice none 0 0) (.slice none 0 0) (.slice none 0 0) false) 151 from by have:=HX14.out.set 4 (.int .u64 v14);simpa [aX] using this);have HZ15:=Lib.hid (show Blk (W14.setCell ⟨X,4,none⟩ (.int .u64 v14)) W.heap.size bO 151 from HZ14.out.aJ ⟨X,4,none⟩ (.int .u64 v14) (by simp;omega));have HR15:=Lib.hid (show Rq (W14.setCell ⟨X,4,none⟩ (.int .u64 v14)) R p sat from Blk.aJ HR14.out ⟨X,4,none⟩ (.int .u64 v14) (by simp;omega));have HG15:=Lib.hid (show aF W (W14.setCell ⟨X,4,none⟩ (.int .u64 v14)) p q B a14 e14 from HG14.out.bG HW.out X (by omega) 4 (.int .u64 v14));clear HX14 HZ14 HR14 HG14;clear s0 s1 slt x0 x1 x2 x3 x4 x5 x6 x7 x8 xf0 xf1 xf2 xf3 xf4 xf5 xf6 xf7 xf8 xlt z0 z1 z2 z3 z4 z5 z6 z7 z8 zf0 zf1 zf2 zf3 zf4 zf5 zf6 zf7 zf8 zlt;change bodyPost _ _ _ Exit.ret _ (bJ (W14.setCell ⟨X,4,none⟩ (.int .u64 v14)) W.heap.size (.int .i64 opc) (.int .u8 0) (.int .u32 0) (.int .u32 0) (.int .u64 v14) (.slice none 0 0) (.slice none 0 0) (.slice none 0 0) (.bool false));have hgF:aF W (bJ (W14.setCell ⟨X,4,none⟩ (.int .u64 v14)) W.heap.size (.int .i64 opc) (.int .u8 0) (.int .u32 0) (.int .u32 0) (.int .u64 v14) (.slice none 0 0) (.slice none 0 0) (.slice none 0 0) (.bool false)) p q B a14 e14:=dw HW.out HG15.out _ (Nat.le_refl _) _ _ _ _ _ _ _ _ _;have hbF:=bL HZ15.out (.int .i64 opc) (.int .u8 0) (.int .u32 0) (.int .u32 0) (.int .u64 v14) (.slice none 0 0) (.slice none 0 0) (.slice none 0 0) (.bool false);generalize bJ (W14.setCell ⟨X,4,none⟩ (.int .u64 v14)) W.heap.size (.int .i64 opc) (.int .u8 0) (.int .u32 0) (.int .u32 0) (.int .u64 v14) (.slice none 0 0) (.slice none 0 0) (.slice none 0 0) (.bool false)=V9 at *;obtain ⟨y0,y1,y2,y3,y4,y5,y6,y7,y8⟩:=aD hbF;rw [HV.out];have HGF:=Lib.hid hgF;refine bodyPost_ret (v:= .agg (aX opc 0 0 0 v14 (.slice none 0 0) (.slice none 0 0) (.slice none 0 0) false)) (by simp [results,Tryz.results118,go_sem,y0,y1,y2,y3,y4,y5,y6,y7,y8,aX]) rfl ⟨.mk opc 0 0 0 v14 [] [] [] false,none,none,none,0,0,0,rfl, ?_,fun _=>rfl,HGF.out⟩;exact fF hopc (by omega) (by omega) (by omega) (by omega)
 have HC24:=Lib.hid (show ¬(i=2∨i=4)from fun h=>h.elim c2 c4);have HC5:=Lib.hid c5;have HC6:=Lib.hid c6;have HC7:=Lib.hid c7;have HC8:=Lib.hid c8;have HC9:=Lib.hid c9;have HC10:=Lib.hid c10;have HC11:=Lib.hid c11;have b1:(i==1)=false:=beq_eq_false_iff_ne.mpr HC1.out;have b3:(i==3)=false:=beq_eq_false_iff_ne.mpr HC3.out;have b2:(i==2)=false:=beq_eq_false_iff_ne.mpr c2;have b4:(i==4)=false:=beq_eq_false_iff_ne.mpr c4;have b5:(i==5)=false:=beq_eq_false_iff_ne.mpr c5;have b6:(i==6)=false:=beq_eq_false_iff_ne.mpr c6;have b7:(i==7)=false:=beq_eq_false_iff_ne.mpr c7;have b8:(i==8)=false:=beq_eq_false_iff_ne.mpr c8;have b9:(i==9)=false:=beq_eq_false_iff_ne.mpr c9;have b10:(i==10)=false:=beq_eq_false_iff_ne.mpr c10;have b11:(i==11)=false:=beq_eq_false_iff_ne.mpr c11;clear c2 c4 c5 c6 c7 c8 c9 c10 c11;have HV:=Lib.hid (show bE bk B opc i a1=(.mk opc 0 0 0 0 [] [] [] false,a1,0)from by unfold bE;rw [if_neg HC1.out,if_neg HC24.out,if_neg HC3.out,if_neg HC5.out,if_neg HC6.out,if_neg HC7.out,if_neg HC8.out,if_neg HC9.out,if_neg HC10.out,if_neg HC11.out];rfl);obtain ⟨s0,s1,slt⟩:=HR4.out.cells;obtain ⟨x0,x1,x2,x3,x4,x5,x6,x7,x8⟩:=aD HX4.out;obtain ⟨xf0,xf1,xf2,xf3,xf4,xf5,xf6,xf7,xf8,xlt⟩:=aA HX4.out;obtain ⟨z0,z1,z2,z3,z4,z5,z6,z7,z8⟩:=aD HZ4.out;obtain ⟨zf0,zf1,zf2,zf3,zf4,zf5,zf6,zf7,zf8,zlt⟩:=aA HZ4.out;go_wp2_with fail;clear s0 s1 slt x0 x1 x2 x3 x4 x5 x6 x7 x8 xf0 xf1 xf2 xf3 xf4 xf5 xf6 xf7 xf8 xlt z0 z1 z2 z3 z4 z5 z6 z7 z8 zf0 zf1 zf2 zf3 zf4 zf5 zf6 zf7 zf8 zlt;change bodyPost _ _ _ Exit.ret _ (bJ W4 W.heap.size (.int .i64 opc) (.int .u8 0) (.int .u32 0) (.int .u32 0) (.int .u64 0) (.slice none 0 0) (.slice none 0 0) (.slice none 0 0) (.bool false));have hgF:aF W (bJ W4 W.heap.size (.int .i64 opc) (.int .u8 0) (.int .u32 0) (.int .u32 0) (.int .u64 0) (.slice none 0 0) (.slice none 0 0) (.slice none 0 0) (.bool false)) p q B a1 0:=dw HW.out HG4.out _ (Nat.le_refl _) _ _ _ _ _ _ _ _ _;have hbF:=bL HZ4.out (.int .i64 opc) (.int .u8 0) (.int .u32 0) (.int .u32 0) (.int .u64 0) (.slice none 0 0) (.slice none 0 0) (.slice none 0 0) (.bool false);generalize bJ W4 W.heap.size (.int .i64 opc) (.int .u8 0) (.int .u32 0) (.int .u32 0) (.int .u64 0) (.slice none 0 0) (.slice none 0 0) (.slice none 0 0) (.bool false)=V9 at *;obtain ⟨y0,y1,y2,y3,y4,y5,y6,y7,y8⟩:=aD hbF;rw [HV.out];have HGF:=Lib.hid hgF;refine bodyPost_ret (v:= .agg (aX opc 0 0 0 0 (.slice none 0 0) (.slice none 0 0) (.slice none 0 0) false)) (by simp [results,Tryz.results118,go_sem,y0,y1,y2,y3,y4,y5,y6,y7,y8,aX]) rfl ⟨.mk opc 0 0 0 0 [] [] [] false,none,none,none,0,0,0,rfl, ?_,fun _=>rfl,HGF.out⟩;exact fF hopc (by omega) (by omega) (by omega) (by omega)
def pX (W:World) (p q:Nat) (B:List Int) (r:List Ins×Int×Nat×Int) (E:Ending) (w' :World):Prop:=
 (∃A c,E= .returned (.tuple #[.slice A r.1.length c, .bool (r.2.1==5)])∧r.1.length≤c∧FC kR w' (fun k=>W.heap.size≤k) A r.1)∧aF W w' p q B r.2.2.1 r.2.2.2
theorem FC.dF {α:Type} {d:Kd α} {W W1:World} {ok:Nat→Prop} {A:Option Addr} {xs:List α} {p q:Nat} {B:List Int} {a:Nat} {e:Int} (h:FC d W ok A xs) (hG:aF W W1 p q B a e) (hg:¬ok p):FC d W1 ok A xs:=Ft.grown h hG.2 (fun k hk e=>by injection e with e;exact hg (e ▸ hk))
theorem lg (W:World) (R p q:Nat) (sat:Bool) (deep:Nat) (B:List Int) (a a1:Nat) (e nv pe o1 e1:Int) (hR:Rq W R p sat) (hRp:R≠p) (hC:Rdr W p q B a e) (hB:aK B) (hnv:eU B a e=nv) (hpe:(aO B a e).2=pe)
  (hm:decide (2≤nv)=false∨(decide (2≤nv)=true∧(decide (nv≤4)=false∨(decide (nv≤4)=true∧decide ((64:Int)≤(deep:Int))=false))))
  (hop:∀X,Rq X R p sat→Rdr X p q B a pe→Calls Tryz.prog 125 #[.pointer (some ⟨R,0,none⟩)] X (mH X p q B (o1,a1,e1))) (he1:¬e1=0):
  Calls Tryz.prog 118 #[.pointer (some ⟨R,0,none⟩), .int .i64 deep] W (jA W p q B (fP 0,a1,e1)):=by
 have hplt:=hC.lt;have hRlt:=hR.cells.2.2;have HP:=Lib.hid (fJ (W.alloc (.cells bO 151)) R p q sat B a e (Blk.alloc hR _) (hC.alloc _) hB);rw [hnv,hpe]at HP;have HOP:=Lib.hid hop;have HV:=Lib.hid (show pM (o1,a1,e1)= -1 from if_neg he1);have HR:=Lib.hid (show Rq (W.alloc (.cells bO 151)) R p sat from Blk.alloc hR _);have HZ:=Lib.hid (Blk.new W bO 151);have HW:=Lib.hid hC;clear hR hC hB hnv hpe hop he1;go_enter Tryz.func118,Tryz.ntmps118;go_wp2_with fail;refine HP.out.mono ?_;rintro E W1 ⟨rfl,hG1⟩;have HR1:=Lib.hid (HR.out.goes hRp hG1);have HZ1:=Lib.hid (HZ.out.grown hG1.2 (by simp;omega));have HG1:=Lib.hid (aF.aW hG1);clear hG1 HP HR HZ;go_upto_region 2 with fail;go_cut [21]from 12 to 21 (fun s21 wx=>s21= .bool false∧wx=W1)
 case first=>
  rcases hm with hm|⟨hm,hm2|⟨hm2,hm3⟩⟩
  all_goals
   go_wp2_with fail;go_meet;exact ⟨rfl,rfl⟩
 case rest=>
 obtain ⟨rfl,rfl⟩:=hcut;clear hm;go_wp2_with fail;refine (HOP.out _ HR1.out HG1.out.1).mono ?_;rintro E W3 ⟨rfl,hG3⟩;have HR3:=Lib.hid (HR1.out.goes hRp hG3);have HZ3:=Lib.hid (HZ1.out.grown hG3.2 (by simp;omega));have HG3:=Lib.hid (HG1.out.trans hG3);clear hG3 HR1 HZ1 HG1 HOP;rw [HV.out];obtain ⟨z0,z1,z2,z3,z4,z5,z6,z7,z8⟩:=aD HZ3.out;obtain ⟨zf0,zf1,zf2,zf3,zf4,zf5,zf6,zf7,zf8,zlt⟩:=aA HZ3.out;go_wp2_with fail;change bodyPost _ _ _ Exit.ret _ (bJ W3 W.heap.size (.int .i64 0) (.int .u8 0) (.int .u32 0) (.int .u32 0) (.int .u64 0) (.slice none 0 0) (.slice none 0 0) (.slice none 0 0) (.bool false));have hgF:aF W (bJ W3 W.heap.size (.int .i64 0) (.int .u8 0) (.int .u32 0) (.int .u32 0) (.int .u64 0) (.slice none 0 0) (.slice none 0 0) (.slice none 0 0) (.bool false)) p q B a1 e1:=dw HW.out HG3.out _ (Nat.le_refl _) _ _ _ _ _ _ _ _ _;have hbF:=bL HZ3.out (.int .i64 0) (.int .u8 0) (.int .u32 0) (.int .u32 0) (.int .u64 0) (.slice none 0 0) (.slice none 0 0) (.slice none 0 0) (.bool false);generalize bJ W3 W.heap.size (.int .i64 0) (.int .u8 0) (.int .u32 0) (.int .u32 0) (.int .u64 0) (.slice none 0 0) (.slice none 0 0) (.slice none 0 0) (.bool false)=V9 at *;clear z0 z1 z2 z3 z4 z5 z6 z7 z8 zf0 zf1 zf2 zf3 zf4 zf5 zf6 zf7 zf8 zlt;obtain ⟨y0,y1,y2,y3,y4,y5,y6,y7,y8⟩:=aD hbF;have HGF:=Lib.hid hgF;refine bodyPost_ret (v:= .agg (aX 0 0 0 0 0 (.slice none 0 0) (.slice none 0 0) (.slice none 0 0) false)) (by simp [results,Tryz.results118,go_sem,y0,y1,y2,y3,y4,y5,y6,y7,y8,aX]) rfl ⟨fP 0,none,none,none,0,0,0,rfl, ?_,fun _=>rfl,HGF.out⟩;exact fF (by omega) (by omega) (by omega) (by omega) (by omega)
theorem vD (W:World) (R p q:Nat) (sat:Bool) (deep:Nat) (B:List Int) (a:Nat) (b:Int) (hR:Rq W R p sat) (hRp:R≠p) (hC:Rdr W p q B a 0) (hB:aK B) (hx:B[a]? =some b) (hb:2≤b∧b≤4) (hd:64≤deep):
  Calls Tryz.prog 118 #[.pointer (some ⟨R,0,none⟩), .int .i64 deep] W (jA W p q B (fP 0,a,3)):=by
 have hplt:=hC.lt;have hRlt:=hR.cells.2.2;obtain ⟨a1,ha1⟩:∃a1,a1=a:=⟨_,rfl⟩;obtain ⟨e1,he1⟩:∃e1:Int,e1=3:=⟨_,rfl⟩;have HP:=Lib.hid (fJ (W.alloc (.cells bO 151)) R p q sat B a 0 (Blk.alloc hR _) (hC.alloc _) hB);rw [show eU B a 0=b from by simp [eU,aO,hx],show (aO B a 0).2=0 from by simp [aO,hx]]at HP;have HOP:=Lib.hid (fun X h1 h2=>qa X R p q sat B a e1 h1 h2 hB (by rw [he1];show ¬(3:Int)=0;decide));rw [show (0,a,(aO B a e1).2)=((0:Int),a1,e1)from by rw [he1,ha1];rfl]at HOP;have HV:=Lib.hid (show pM (0,a1,e1)= -1 from by rw [he1];rfl);have HF:=Lib.hid (fun X h=>dx X p q B a 0 3 h);rw [show cz 0 3=e1 from by rw [he1];rfl]at HF;have HR:=Lib.hid (show Rq (W.alloc (.cells bO 151)) R p sat from Blk.alloc hR _);have HZ:=Lib.hid (Blk.new W bO 151);have HW:=Lib.hid hC;have hm:decide (2≤b)=true∧decide (b≤4)=true∧decide ((64:Int)≤(deep:Int))=true:=⟨decide_eq_true hb.1,decide_eq_true hb.2,decide_eq_true (by omega)⟩;rw [←ha1,←he1];have HA:=Lib.hid ha1;clear hR hC hB hx hb hd he1 ha1;go_enter Tryz.func118,Tryz.ntmps118;go_wp2_with fail;refine HP.out.mono ?_;rintro E W1 ⟨rfl,hG1⟩;have HR1:=Lib.hid (HR.out.goes hRp hG1);have HZ1:=Lib.hid (HZ.out.grown hG1.2 (by simp;omega));have HG1:=Lib.hid (aF.aW hG1);clear hG1 HP HR HZ;go_upto_region 2 with fail;go_cut [21]from 12 to 21 (fun s21 wx=>s21= .bool true∧wx=W1)
 case first=>
  obtain ⟨hm,hm2,hm3⟩:=hm;go_wp2_with fail;go_meet;exact ⟨rfl,rfl⟩
 case rest=>
 obtain ⟨rfl,rfl⟩:=hcut;clear hm;obtain ⟨s0,s1,slt⟩:=HR1.out.cells;go_wp2_with fail;refine (HF.out _ HG1.out.1).mono ?_;rintro E W2 ⟨rfl,hG2⟩;have HR2:=Lib.hid (HR1.out.goes hRp hG2);have HZ2:=Lib.hid (HZ1.out.grown hG2.2 (by simp;omega));have HG2:=Lib.hid (HG1.out.trans hG2);clear hG2 HR1 HZ1 HG1 HF s0 s1 slt;go_wp2_with fail;refine (HOP.out _ HR2.out HG2.out.1).mono ?_;rintro E W3 ⟨rfl,hG3⟩;have HR3:=Lib.hid (HR2.out.goes hRp hG3);have HZ3:=Lib.hid (HZ2.out.grown hG3.2 (by simp;omega));have HG3:=Lib.hid (HG2.out.trans hG3);clear hG3 HR2 HZ2 HG2 HOP;rw [HV.out];obtain ⟨z0,z1,z2,z3,z4,z5,z6,z7,z8⟩:=aD HZ3.out;obtain ⟨zf0,zf1,zf2,zf3,zf4,zf5,zf6,zf7,zf8,zlt⟩:=aA HZ3.out;go_wp2_with fail;change bodyPost _ _ _ Exit.ret _ (bJ W3 W.heap.size (.int .i64 0) (.int .u8 0) (.int .u32 0) (.int .u32 0) (.int .u64 0) (.slice none 0 0) (.slice none 0 0) (.slice none 0 0) (.bool false));have hgF:aF W (bJ W3 W.heap.size (.int .i64 0) (.int .u8 0) (.int .u32 0) (.int .u32 0) (.int .u64 0) (.slice none 0 0) (.slice none 0 0) (.slice none 0 0) (.bool false)) p q B a1 e1:=dw HW.out HG3.out _ (Nat.le_refl _) _ _ _ _ _ _ _ _ _;have hbF:=bL HZ3.out (.int .i64 0) (.int .u8 0) (.int .u32 0) (.int .u32 0) (.int .u64 0) (.slice none 0 0) (.slice none 0 0) (.slice none 0 0) (.bool false);generalize bJ W3 W.heap.size (.int .i64 0) (.int .u8 0) (.int .u32 0) (.int .u32 0) (.int .u64 0) (.slice none 0 0) (.slice none 0 0) (.slice none 0 0) (.bool false)=V9 at *;clear z0 z1 z2 z3 z4 z5 z6 z7 z8 zf0 zf1 zf2 zf3 zf4 zf5 zf6 zf7 zf8 zlt;obtain ⟨y0,y1,y2,y3,y4,y5,y6,y7,y8⟩:=aD hbF;have HGF:=Lib.hid hgF;refine bodyPost_ret (v:= .agg (aX 0 0 0 0 0 (.slice none 0 0) (.slice none 0 0) (.slice none 0 0) false)) (by simp [results,Tryz.results118,go_sem,y0,y1,y2,y3,y4,y5,y6,y7,y8,aX]) rfl ⟨fP 0,none,none,none,0,0,0,rfl, ?_,fun _=>rfl,HGF.out⟩;exact fF (by omega) (by omega) (by omega) (by omega) (by omega)
theorem Db (bk:Bool→Nat→Int→List Ins×Int×Nat×Int) (W:World) (R p q:Nat) (sat:Bool) (deep:Nat) (B:List Int) (a:Nat) (b:Int) (hR:Rq W R p sat) (hRp:R≠p) (hC:Rdr W p q B a 0) (hB:aK B) (hx:B[a]? =some b) (hb:2≤b∧b≤4) (hd:deep< 64)
  (hbk:∀(W' :World) (m:Bool) (a' :Nat) (e' :Int),a+1≤a' ∨¬e' =0→Rq W' R p sat→Rdr W' p q B a' e' →Calls Tryz.prog 93 #[.pointer (some ⟨R,0,none⟩), .int .i64 ((deep:Int)+1), .bool m] W' (pX W' p q B (bk m a' e')))
  (hge:xW bk):
  Calls Tryz.prog 118 #[.pointer (some ⟨R,0,none⟩), .int .i64 deep] W (jA W p q B (bE bk B b 1 (a+1))):=by
 have hplt:=hC.lt;have hRlt:=hR.cells.2.2;have hbb:=hB.get hx;obtain ⟨a1,ha1⟩:∃a1,a1=a+1:=⟨_,rfl⟩;obtain ⟨opc,hopc⟩:∃opc:Int,opc=b:=⟨_,rfl⟩;have him:bN b=(1,true):=by unfold bN;rw [if_neg (by omega),if_pos (by omega)]
 have HP:=Lib.hid (fJ (W.alloc (.cells bO 151)) R p q sat B a 0 (Blk.alloc hR _) (hC.alloc _) hB);rw [show eU B a 0=b from by simp [eU,aO,hx],show (aO B a 0).2=0 from by simp [aO,hx]]at HP;have HOP:=Lib.hid (fun X h1 h2=>yO X R p q sat B a b h1 hRp h2 hB hx (by omega) 1 (by unfold iO;rw [him];rfl) (by omega) (by omega) (by omega));rw [show (b,a+1,(0:Int))=(opc,a1,0)from by rw [hopc,ha1]]at HOP;have HV1:=Lib.hid (show pM (opc,a1,0)=opc from if_pos rfl);have HI2:=Lib.hid (fun X=>lS X opc (by omega) (by omega));rw [show iO opc=1 from by rw [hopc];unfold iO;rw [him];rfl]at HI2;have HR:=Lib.hid (show Rq (W.alloc (.cells bO 151)) R p sat from Blk.alloc hR _);have HZ:=Lib.hid (Blk.new W bO 151);have HW:=Lib.hid hC;have hm:decide (2≤b)=true∧decide (b≤4)=true∧decide ((64:Int)≤(deep:Int))=false:=⟨decide_eq_true hb.1,decide_eq_true hb.2,decide_eq_false (by omega)⟩;have hdi:(deep:Int)≤63:=by omega
 have hopd:decide (opc< 0)=false:=decide_eq_false (by omega);have hopc2:0≤opc∧opc≤5000000000:=by omega
 rw [←ha1,show bE bk B b 1 a1=bE bk B opc 1 a1 from by rw [hopc]];have HBK:=Lib.hid (show ∀(W' :World) (m:Bool) (a' :Nat) (e' :Int),a1≤a' ∨¬e' =0→Rq W' R p sat→Rdr W' p q B a' e' →Calls Tryz.prog 93 #[.pointer (some ⟨R,0,none⟩), .int .i64 ((deep:Int)+1), .bool m] W' (pX W' p q B (bk m a' e'))from by rw [ha1];exact hbk);have HGE:=Lib.hid hge;have HB:=Lib.hid hB;have HV:=Lib.hid (show bE bk B opc 1 a1=(let t:=az (ek B a1) a1 0;let r:=bk (opc==4) t.2.1 t.2.2;if r.2.1=5 then let s:=bk false r.2.2.1 r.2.2.2;(.mk opc t.1 0 0 0 [] r.1 s.1 true,s.2.2.1,s.2.2.2)else (.mk opc t.1 0 0 0 [] r.1 [] false,r.2.2.1,r.2.2.2))from if_pos rfl);clear hR hC hB hx hb hd hbk hge hopc ha1 him hbb;go_enter Tryz.func118,Tryz.ntmps118;go_wp2_with fail;refine HP.out.mono ?_;rintro E W1 ⟨rfl,hG1⟩;have HR1:=Lib.hid (HR.out.goes hRp hG1);have HZ1:=Lib.hid (HZ.out.grown hG1.2 (by simp;omega));have HG1:=Lib.hid (aF.aW hG1);clear hG1 HP HR HZ;go_upto_region 2 with fail;go_cut [21]from 12 to 21 (fun s21 wx=>s21= .bool false∧wx=W1)
 case first=>
  obtain ⟨hm,hm2,hm3⟩:=hm;go_wp2_with fail;go_meet;exact ⟨rfl,rfl⟩
 case rest=>
 obtain ⟨rfl,rfl⟩:=hcut;clear hm;go_wp2_with fail;refine (HOP.out _ HR1.out HG1.out.1).mono ?_;rintro E W3 ⟨rfl,hG3⟩;have HR3:=Lib.hid (HR1.out.goes hRp hG3);have HZ3:=Lib.hid (HZ1.out.grown hG3.2 (by simp;omega));have HG3:=Lib.hid (HG1.out.trans hG3);clear hG3 HR1 HZ1 HG1 HOP;rw [HV1.out];go_wp2_with fail;refine (HI2.out _).mono ?_;rintro E W4 ⟨rfl,hB4⟩;have XB4:Blk W4 W3.heap.size (aX opc 0 0 0 0 (.slice none 0 0) (.slice none 0 0) (.slice none 0 0) false) 151:=(Blk.new W3 (aX opc 0 0 0 0 (.slice none 0 0) (.slice none 0 0) (.slice none 0 0) false) 151).below hB4 (by simp);have hg4:aF W3 W4 p q B a1 0:=aF.aW (o:= .cells (aX opc 0 0 0 0 (.slice none 0 0) (.slice none 0 0) (.slice none 0 0) false) 151) ⟨(HG3.out.1.alloc _).below hB4,aL hB4 _⟩;have HR4:=Lib.hid (HR3.out.goes hRp hg4);have HZ4:=Lib.hid (HZ3.out.grown hg4.2 (by simp;omega));have HG4:=Lib.hid (HG3.out.trans hg4);have HX4:=Lib.hid XB4;have hXp:p< W3.heap.size:=Nat.lt_of_lt_of_le hplt HG3.out.2.size;have hXR:R< W3.heap.size:=Nat.lt_of_lt_of_le hRlt HG3.out.2.size;have hXZ:W.heap.size< W3.heap.size:=HZ3.out.lt;obtain ⟨X,hXe⟩:∃X,X=W3.heap.size:=⟨_,rfl⟩;rw [←hXe]at HX4 hXp hXR hXZ ⊢;clear hB4 XB4 hg4 HR3 HZ3 HG3 hXe HI2;obtain ⟨s0,s1,slt⟩:=HR4.out.cells;obtain ⟨x0,x1,x2,x3,x4,x5,x6,x7,x8⟩:=aD HX4.out;obtain ⟨xf0,xf1,xf2,xf3,xf4,xf5,xf6,xf7,xf8,xlt⟩:=aA HX4.out;obtain ⟨z0,z1,z2,z3,z4,z5,z6,z7,z8⟩:=aD HZ4.out;obtain ⟨zf0,zf1,zf2,zf3,zf4,zf5,zf6,zf7,zf8,zlt⟩:=aA HZ4.out;go_wp2_with fail;have H:=Lib.hid (uA W4 p q B a1 0 HG4.out.1 HB.out);have hty:=Lib.hid (sK B a1 0);have hg1:=Lib.hid (uJ (B:=B) (a:=a1) (e:=0));generalize az (ek B a1) a1 0=t at *;obtain ⟨ty,a2,e2⟩:=t;simp only at HV;refine H.out.mono ?_;rintro E W5 ⟨rfl,hG⟩;have hG:aF W4 W5 p q B a2 e2:=hG;have HR5:=Lib.hid (HR4.out.goes hRp hG);have HX5:=Lib.hid (HX4.out.grown hG.2 (by simp;omega));have HZ5:=Lib.hid (HZ4.out.grown hG.2 (by simp;omega));have HG5:=Lib.hid (HG4.out.trans hG);clear hG HR4 HX4 HZ4 HG4;clear s0 s1 slt x0 x1 x2 x3 x4 x5 x6 x7 x8 xf0 xf1 xf2 xf3 xf4 xf5 xf6 xf7 xf8 xlt z0 z1 z2 z3 z4 z5 z6 z7 z8 zf0 zf1 zf2 zf3 zf4 zf5 zf6 zf7 zf8 zlt;obtain ⟨s0,s1,slt⟩:=HR5.out.cells;obtain ⟨x0,x1,x2,x3,x4,x5,x6,x7,x8⟩:=aD HX5.out;obtain ⟨xf0,xf1,xf2,xf3,xf4,xf5,xf6,xf7,xf8,xlt⟩:=aA HX5.out;obtain ⟨z0,z1,z2,z3,z4,z5,z6,z7,z8⟩:=aD HZ5.out;obtain ⟨zf0,zf1,zf2,zf3,zf4,zf5,zf6,zf7,zf8,zlt⟩:=aA HZ5.out;go_wp2_with fail;have HX6:=Lib.hid (show Blk (W5.setCell ⟨X,1,none⟩ (.int .u8 ty)) X (aX opc ty 0 0 0 (.slice none 0 0) (.slice none 0 0) (.slice none 0 0) false) 151 from by have:=HX5.out.set 1 (.int .u8 ty);simpa [aX] using this);have HZ6:=Lib.hid (show Blk (W5.setCell ⟨X,1,none⟩ (.int .u8 ty)) W.heap.size bO 151 from HZ5.out.aJ ⟨X,1,none⟩ (.int .u8 ty) (by simp;omega));have HR6:=Lib.hid (show Rq (W5.setCell ⟨X,1,none⟩ (.int .u8 ty)) R p sat from Blk.aJ HR5.out ⟨X,1,none⟩ (.int .u8 ty) (by simp;omega));have HG6:=Lib.hid (show aF W (W5.setCell ⟨X,1,none⟩ (.int .u8 ty)) p q B a2 e2 from HG5.out.bG HW.out X (by omega) 1 (.int .u8 ty));clear HX5 HZ5 HR5 HG5;generalize W5.setCell ⟨X,1,none⟩ (.int .u8 ty)=W6 at *;clear s0 s1 slt x0 x1 x2 x3 x4 x5 x6 x7 x8 xf0 xf1 xf2 xf3 xf4 xf5 xf6 xf7 xf8 xlt z0 z1 z2 z3 z4 z5 z6 z7 z8 zf0 zf1 zf2 zf3 zf4 zf5 zf6 zf7 zf8 zlt;have HBC:=Lib.hid (HBK.out W6 (opc==4) a2 e2 (by by_cases h:e2=0;exact .inl (hg1.out h).1;exact .inr h) HR6.out HG6.out.1);have hg2:=Lib.hid (HGE.out (opc==4) a2 e2);have HBK2:=Lib.hid (fun X' a' e' =>HBK.out X' false a' e');generalize bk (opc==4) a2 e2=r at *;obtain ⟨th,en,a3,e3⟩:=r;simp only at HV;have hW6X:=HX6.out.lt;have hW6Z:=HZ6.out.lt;have hW6s:=HG6.out.2.size;obtain ⟨s0,s1,slt⟩:=HR6.out.cells;obtain ⟨x0,x1,x2,x3,x4,x5,x6,x7,x8⟩:=aD HX6.out;obtain ⟨xf0,xf1,xf2,xf3,xf4,xf5,xf6,xf7,xf8,xlt⟩:=aA HX6.out;obtain ⟨z0,z1,z2,z3,z4,z5,z6,z7,z8⟩:=aD HZ6.out;obtain ⟨zf0,zf1,zf2,zf3,zf4,zf5,zf6,zf7,zf8,zlt⟩:=aA HZ6.out
 refine HBC.out.mono ?_;rintro E W7 ⟨⟨A6,c6,rfl,hl6,hF6⟩,hG⟩;have hG:aF W6 W7 p q B a3 e3:=hG;have HT7:=Lib.hid hF6;clear hF6 HBC HBK;have HR7:=Lib.hid (HR6.out.goes hRp hG);have HX7:=Lib.hid (HX6.out.grown hG.2 (by simp;omega));have HZ7:=Lib.hid (HZ6.out.grown hG.2 (by simp;omega));have HG7:=Lib.hid (HG6.out.trans hG);clear hG HR6 HX6 HZ6 HG6;clear s0 s1 slt x0 x1 x2 x3 x4 x5 x6 x7 x8 xf0 xf1 xf2 xf3 xf4 xf5 xf6 xf7 xf8 xlt z0 z1 z2 z3 z4 z5 z6 z7 z8 zf0 zf1 zf2 zf3 zf4 zf5 zf6 zf7 zf8 zlt;obtain ⟨s0,s1,slt⟩:=HR7.out.cells;obtain ⟨x0,x1,x2,x3,x4,x5,x6,x7,x8⟩:=aD HX7.out;obtain ⟨xf0,xf1,xf2,xf3,xf4,xf5,xf6,xf7,xf8,xlt⟩:=aA HX7.out;obtain ⟨z0,z1,z2,z3,z4,z5,z6,z7,z8⟩:=aD HZ7.out;obtain ⟨zf0,zf1,zf2,zf3,zf4,zf5,zf6,zf7,zf8,zlt⟩:=aA HZ7.out;simp only;by_cases h5:en=5
 ·subst h5;rw [if_pos rfl]at HV;go_wp2_with fail;have HX8:=Lib.hid (show Blk (W7.setCell ⟨X,6,none⟩ (.slice A6 th.length c6)) X (aX opc ty 0 0 0 (.slice none 0 0) (.slice A6 th.length c6) (.slice none 0 0) false) 151 from by have:=HX7.out.set 6 (.slice A6 th.length c6);simpa [aX] using this);have HZ8:=Lib.hid (show Blk (W7.setCell ⟨X,6,none⟩ (.slice A6 th.length c6)) W.heap.size bO 151 from HZ7.out.aJ ⟨X,6,none⟩ (.slice A6 th.length c6) (by simp;omega));have HR8:=Lib.hid (show Rq (W7.setCell ⟨X,6,none⟩ (.slice A6 th.length c6)) R p sat from Blk.aJ HR7.out ⟨X,6,none⟩ (.slice A6 th.length c6) (by simp;omega));have HG8:=Lib.hid (show aF W (W7.setCell ⟨X,6,none⟩ (.slice A6 th.length c6)) p q B a3 e3 from HG7.out.bG HW.out X (by omega) 6 (.slice A6 th.length c6));have HT8:=Lib.hid (FC.set HT7.out X 6 (.slice A6 th.length c6) (by simp;omega));clear HX7 HZ7 HR7 HG7 HT7;have HX9:=Lib.hid (show Blk ((W7.setCell ⟨X,6,none⟩ (.slice A6 th.length c6)).setCell ⟨X,8,none⟩ (.bool true)) X (aX opc ty 0 0 0 (.slice none 0 0) (.slice A6 th.length c6) (.slice none 0 0) true) 151 from by have:=HX8.out.set 8 (.bool true);simpa [aX] using this);have HZ9:=Lib.hid (show Blk ((W7.setCell ⟨X,6,none⟩ (.slice A6 th.length c6)).setCell ⟨X,8,none⟩ (.bool true)) W.heap.size bO 151 from HZ8.out.aJ ⟨X,8,none⟩ (.bool true) (by simp;omega));have HR9:=Lib.hid (show Rq ((W7.setCell ⟨X,6,none⟩ (.slice A6 th.length c6)).setCell ⟨X,8,none⟩ (.bool true)) R p sat from Blk.aJ HR8.out ⟨X,8,none⟩ (.bool true) (by simp;omega));have HG9:=Lib.hid (show aF W ((W7.setCell ⟨X,6,none⟩ (.slice A6 th.length c6)).setCell ⟨X,8,none⟩ (.bool true)) p q B a3 e3 from HG8.out.bG HW.out X (by omega) 8 (.bool true));have HT9:=Lib.hid (FC.set HT8.out X 8 (.bool true) (by simp;omega));clear HX8 HZ8 HR8 HG8 HT8;generalize (W7.setCell ⟨X,6,none⟩ (.slice A6 th.length c6)).setCell ⟨X,8,none⟩ (.bool true)=W9 at *;clear s0 s1 slt x0 x1 x2 x3 x4 x5 x6 x7 x8 xf0 xf1 xf2 xf3 xf4 xf5 xf6 xf7 xf8 xlt z0 z1 z2 z3 z4 z5 z6 z7 z8 zf0 zf1 zf2 zf3 zf4 zf5 zf6 zf7 zf8 zlt
  have HBC:=Lib.hid (HBK2.out W9 a3 e3 (by
   by_cases h:e3=0
   ·have h1:=hg2.out h;have h2:=hg1.out h1.2;exact .inl (Nat.le_trans h2.1 h1.1)
   ·exact .inr h) HR9.out HG9.out.1)
  generalize bk false a3 e3=r2 at *;obtain ⟨el,en2,a4,e4⟩:=r2;simp only at HV;have hW9X:=HX9.out.lt;have hW9Z:=HZ9.out.lt;have hW9s:=HG9.out.2.size;obtain ⟨s0,s1,slt⟩:=HR9.out.cells;obtain ⟨x0,x1,x2,x3,x4,x5,x6,x7,x8⟩:=aD HX9.out;obtain ⟨xf0,xf1,xf2,xf3,xf4,xf5,xf6,xf7,xf8,xlt⟩:=aA HX9.out;obtain ⟨z0,z1,z2,z3,z4,z5,z6,z7,z8⟩:=aD HZ9.out;obtain ⟨zf0,zf1,zf2,zf3,zf4,zf5,zf6,zf7,zf8,zlt⟩:=aA HZ9.out;refine HBC.out.mono ?_;rintro E W10 ⟨⟨A7,c7,rfl,hl7,hF7⟩,hG⟩;have hG:aF W9 W10 p q B a4 e4:=hG;have HE10:=Lib.hid hF7;clear hF7 HBC HBK2;have HR10:=Lib.hid (HR9.out.goes hRp hG);have HX10:=Lib.hid (HX9.out.grown hG.2 (by simp;omega));have HZ10:=Lib.hid (HZ9.out.grown hG.2 (by simp;omega));have HG10:=Lib.hid (HG9.out.trans hG);have HT10:=Lib.hid (FC.dF HT9.out hG (by simp;omega));clear hG HR9 HX9 HZ9 HG9 HT9;clear s0 s1 slt x0 x1 x2 x3 x4 x5 x6 x7 x8 xf0 xf1 xf2 xf3 xf4 xf5 xf6 xf7 xf8 xlt z0 z1 z2 z3 z4 z5 z6 z7 z8 zf0 zf1 zf2 zf3 zf4 zf5 zf6 zf7 zf8 zlt;obtain ⟨s0,s1,slt⟩:=HR10.out.cells;obtain ⟨x0,x1,x2,x3,x4,x5,x6,x7,x8⟩:=aD HX10.out;obtain ⟨xf0,xf1,xf2,xf3,xf4,xf5,xf6,xf7,xf8,xlt⟩:=aA HX10.out;obtain ⟨z0,z1,z2,z3,z4,z5,z6,z7,z8⟩:=aD HZ10.out;obtain ⟨zf0,zf1,zf2,zf3,zf4,zf5,zf6,zf7,zf8,zlt⟩:=aA HZ10.out;go_wp2_with fail;have HX11:=Lib.hid (show Blk (W10.setCell ⟨X,7,none⟩ (.slice A7 el.length c7)) X (aX opc ty 0 0 0 (.slice none 0 0) (.slice A6 th.length c6) (.slice A7 el.length c7) true) 151 from by have:=HX10.out.set 7 (.slice A7 el.length c7);simpa [aX] using this);have HZ11:=Lib.hid (show Blk (W10.setCell ⟨X,7,none⟩ (.slice A7 el.length c7)) W.heap.size bO 151 from HZ10.out.aJ ⟨X,7,none⟩ (.slice A7 el.length c7) (by simp;omega));have HR11:=Lib.hid (show Rq (W10.setCell ⟨X,7,none⟩ (.slice A7 el.length c7)) R p sat from Blk.aJ HR10.out ⟨X,7,none⟩ (.slice A7 el.length c7) (by simp;omega));have HG11:=Lib.hid (show aF W (W10.setCell ⟨X,7,none⟩ (.slice A7 el.length c7)) p q B a4 e4 from HG10.out.bG HW.out X (by omega) 7 (.slice A7 el.length c7));have HT11:=Lib.hid (FC.set HT10.out X 7 (.slice A7 el.length c7) (by simp;omega));have HE11:=Lib.hid (FC.set HE10.out X 7 (.slice A7 el.length c7) (by simp;omega));clear HX10 HZ10 HR10 HG10 HT10 HE10;clear s0 s1 slt x0 x1 x2 x3 x4 x5 x6 x7 x8 xf0 xf1 xf2 xf3 xf4 xf5 xf6 xf7 xf8 xlt z0 z1 z2 z3 z4 z5 z6 z7 z8 zf0 zf1 zf2 zf3 zf4 zf5 zf6 zf7 zf8 zlt;change bodyPost _ _ _ Exit.ret _ (bJ (W10.setCell ⟨X,7,none⟩ (.slice A7 el.length c7)) W.heap.size (.int .i64 opc) (.int .u8 ty) (.int .u32 0) (.int .u32 0) (.int .u64 0) (.slice none 0 0) (.slice A6 th.length c6) (.slice A7 el.length c7) (.bool true));have hgF:aF W (bJ (W10.setCell ⟨X,7,none⟩ (.slice A7 el.length c7)) W.heap.size (.int .i64 opc) (.int .u8 ty) (.int .u32 0) (.int .u32 0) (.int .u64 0) (.slice none 0 0) (.slice A6 th.length c6) (.slice A7 el.length c7) (.bool true)) p q B a4 e4:=dw HW.out HG11.out _ (Nat.le_refl _) _ _ _ _ _ _ _ _ _;have hbF:=bL HZ11.out (.int .i64 opc) (.int .u8 ty) (.int .u32 0) (.int .u32 0) (.int .u64 0) (.slice none 0 0) (.slice A6 th.length c6) (.slice A7 el.length c7) (.bool true);have hfT:=jr HT11.out W.heap.size (by simp;omega) (.int .i64 opc) (.int .u8 ty) (.int .u32 0) (.int .u32 0) (.int .u64 0) (.slice none 0 0) (.slice A6 th.length c6) (.slice A7 el.length c7) (.bool true);have hfE:=jr HE11.out W.heap.size (by simp;omega) (.int .i64 opc) (.int .u8 ty) (.int .u32 0) (.int .u32 0) (.int .u64 0) (.slice none 0 0) (.slice A6 th.length c6) (.slice A7 el.length c7) (.bool true);generalize bJ (W10.setCell ⟨X,7,none⟩ (.slice A7 el.length c7)) W.heap.size (.int .i64 opc) (.int .u8 ty) (.int .u32 0) (.int .u32 0) (.int .u64 0) (.slice none 0 0) (.slice A6 th.length c6) (.slice A7 el.length c7) (.bool true)=V9 at *;obtain ⟨y0,y1,y2,y3,y4,y5,y6,y7,y8⟩:=aD hbF;have HGF:=Lib.hid hgF;have HFT:=Lib.hid hfT;have HFE:=Lib.hid hfE;rw [HV.out];refine bodyPost_ret (v:= .agg (aX opc ty 0 0 0 (.slice none 0 0) (.slice A6 th.length c6) (.slice A7 el.length c7) true)) (by simp [results,Tryz.results118,go_sem,y0,y1,y2,y3,y4,y5,y6,y7,y8,aX]) rfl ⟨.mk opc ty 0 0 0 [] th el true,none,A6,A7,0,c6,c7,rfl, ?_,fun _=>rfl,HGF.out⟩
  refine il (x:= .mk opc ty 0 0 0 [] th el true) (jq hopc2.1 hopc2.2) (p9 hty.out) rfl rfl rfl FC.nil (HFT.out.mono ?_) (HFE.out.mono ?_) (Nat.le_refl _) hl6 hl7
  all_goals
   intro k hk
   first|exact Nat.le_trans hW6s hk|exact Nat.le_trans hW9s hk
 ·have h5b:(en==5)=false:=beq_eq_false_iff_ne.2 h5;rw [if_neg h5]at HV;clear h5;go_wp2_with fail;have HX8:=Lib.hid (show Blk (W7.setCell ⟨X,6,none⟩ (.slice A6 th.length c6)) X (aX opc ty 0 0 0 (.slice none 0 0) (.slice A6 th.length c6) (.slice none 0 0) false) 151 from by have:=HX7.out.set 6 (.slice A6 th.length c6);simpa [aX] using this);have HZ8:=Lib.hid (show Blk (W7.setCell ⟨X,6,none⟩ (.slice A6 th.length c6)) W.heap.size bO 151 from HZ7.out.aJ ⟨X,6,none⟩ (.slice A6 th.length c6) (by simp;omega));have HR8:=Lib.hid (show Rq (W7.setCell ⟨X,6,none⟩ (.slice A6 th.length c6)) R p sat from Blk.aJ HR7.out ⟨X,6,none⟩ (.slice A6 th.length c6) (by simp;omega));have HG8:=Lib.hid (show aF W (W7.setCell ⟨X,6,none⟩ (.slice A6 th.length c6)) p q B a3 e3 from HG7.out.bG HW.out X (by omega) 6 (.slice A6 th.length c6));have HT8:=Lib.hid (FC.set HT7.out X 6 (.slice A6 th.length c6) (by simp;omega));clear HX7 HZ7 HR7 HG7 HT7;have HX9:=Lib.hid (show Blk ((W7.setCell ⟨X,6,none⟩ (.slice A6 th.length c6)).setCell ⟨X,8,none⟩ (.bool false)) X (aX opc ty 0 0 0 (.slice none 0 0) (.slice A6 th.length c6) (.slice none 0 0) false) 151 from by have:=HX8.out.set 8 (.bool false);simpa [aX] using this);have HZ9:=Lib.hid (show Blk ((W7.setCell ⟨X,6,none⟩ (.slice A6 th.length c6)).setCell ⟨X,8,none⟩ (.bool false)) W.heap.size bO 151 from HZ8.out.aJ ⟨X,8,none⟩ (.bool false) (by simp;omega));have HR9:=Lib.hid (show Rq ((W7.setCell ⟨X,6,none⟩ (.slice A6 th.length c6)).setCell ⟨X,8,none⟩ (.bool false)) R p sat from Blk.aJ HR8.out ⟨X,8,none⟩ (.bool false) (by simp;omega));have HG9:=Lib.hid (show aF W ((W7.setCell ⟨X,6,none⟩ (.slice A6 th.length c6)).setCell ⟨X,8,none⟩ (.bool false)) p q B a3 e3 from HG8.out.bG HW.out X (by omega) 8 (.bool false));have HT9:=Lib.hid (FC.set HT8.out X 8 (.bool false) (by simp;omega));clear HX8 HZ8 HR8 HG8 HT8;clear s0 s1 slt x0 x1 x2 x3 x4 x5 x6 x7 x8 xf0 xf1 xf2 xf3 xf4 xf5 xf6 xf7 xf8 xlt z0 z1 z2 z3 z4 z5 z6 z7 z8 zf0 zf1 zf2 zf3 zf4 zf5 zf6 zf7 zf8 zlt;change bodyPost _ _ _ Exit.ret _ (bJ ((W7.setCell ⟨X,6,none⟩ (.slice A6 th.length c6)).setCell ⟨X,8,none⟩ (.bool false)) W.heap.size (.int .i64 opc) (.int .u8 ty) (.int .u32 0) (.int .u32 0) (.int .u64 0) (.slice none 0 0) (.slice A6 th.length c6) (.slice none 0 0) (.bool false));have hgF:aF W (bJ ((W7.setCell ⟨X,6,none⟩ (.slice A6 th.length c6)).setCell ⟨X,8,none⟩ (.bool false)) W.heap.size (.int .i64 opc) (.int .u8 ty) (.int .u32 0) (.int .u32 0) (.int .u64 0) (.slice none 0 0) (.slice A6 th.length c6) (.slice none 0 0) (.bool false)) p q B a3 e3:=dw HW.out HG9.out _ (Nat.le_refl _) _ _ _ _ _ _ _ _ _;have hbF:=bL HZ9.out (.int .i64 opc) (.int .u8 ty) (.int .u32 0) (.int .u32 0) (.int .u64 0) (.slice none 0 0) (.slice A6 th.length c6) (.slice none 0 0) (.bool false);have hfT:=jr HT9.out W.heap.size (by simp;omega) (.int .i64 opc) (.int .u8 ty) (.int .u32 0) (.int .u32 0) (.int .u64 0) (.slice none 0 0) (.slice A6 th.length c6) (.slice none 0 0) (.bool false);generalize bJ ((W7.setCell ⟨X,6,none⟩ (.slice A6 th.length c6)).setCell ⟨X,8,none⟩ (.bool false)) W.heap.size (.int .i64 opc) (.int .u8 ty) (.int .u32 0) (.int .u32 0) (.int .u64 0) (.slice none 0 0) (.slice A6 th.length c6) (.slice none 0 0) (.bool false)=V9 at *;obtain ⟨y0,y1,y2,y3,y4,y5,y6,y7,y8⟩:=aD hbF;have HGF:=Lib.hid hgF;have HFT:=Lib.hid hfT;rw [HV.out];refine bodyPost_ret (v:= .agg (aX opc ty 0 0 0 (.slice none 0 0) (.slice A6 th.length c6) (.slice none 0 0) false)) (by simp [results,Tryz.results118,go_sem,y0,y1,y2,y3,y4,y5,y6,y7,y8,aX]) rfl ⟨.mk opc ty 0 0 0 [] th [] false,none,A6,none,0,c6,0,rfl, ?_,fun _=>rfl,HGF.out⟩;refine il (x:= .mk opc ty 0 0 0 [] th [] false) (jq hopc2.1 hopc2.2) (p9 hty.out) rfl rfl rfl FC.nil (HFT.out.mono ?_) FC.nil (Nat.le_refl _) hl6 (Nat.le_refl _)
  all_goals
   intro k hk
   first|exact Nat.le_trans hW6s hk|exact Nat.le_trans hW9s hk
theorem Ed (bk:Bool→Nat→Int→List Ins×Int×Nat×Int) (W:World) (R p q:Nat) (sat:Bool) (deep:Nat) (B:List Int) (a a1:Nat) (b opc:Int) (hR:Rq W R p sat) (hRp:R≠p) (hC:Rdr W p q B a 0) (hB:aK B) (hx:B[a]? =some b)
  (hi1:¬(2≤b∧b≤4)) (h5:¬b=5∧¬b=11) (ho:opM sat B a 0=(opc,a1,0)) (hopc:0≤opc∧opc≤5000000000) (hi2:iO opc=3):
  Calls Tryz.prog 118 #[.pointer (some ⟨R,0,none⟩), .int .i64 deep] W (jA W p q B (bE bk B opc 3 a1)):=by
 have hxb:=hB.get hx;have hplt:=hC.lt;have hRlt:=hR.cells.2.2;have HP:=Lib.hid (fJ (W.alloc (.cells bO 151)) R p q sat B a 0 (Blk.alloc hR _) (hC.alloc _) hB);rw [show eU B a 0=b from by simp [eU,aO,hx],show (aO B a 0).2=0 from by simp [aO,hx]]at HP;have HI2:=Lib.hid (fun X=>lS X opc hopc.1 hopc.2);rw [hi2]at HI2;have HOP:=Lib.hid (fun X h1 h2=>uu X R p q sat B a 0 h1 hRp h2 hB (fun b' hb' =>by rw [show aO B a 0=(b,0)from by simp [aO,hx]]at hb';injection hb' with hb' _;subst hb';exact h5));rw [ho]at HOP;have HR:=Lib.hid (show Rq (W.alloc (.cells bO 151)) R p sat from Blk.alloc hR _);have HZ:=Lib.hid (Blk.new W bO 151);have HB:=Lib.hid hB
 have hm:decide (2≤b)=false∨(decide (2≤b)=true∧decide (b≤4)=false):=by
  by_cases h:2≤b
  ·exact .inr ⟨decide_eq_true h,decide_eq_false (fun h4=>hi1 ⟨h,h4⟩)⟩
  ·exact .inl (decide_eq_false h)
 have hopd:decide (opc< 0)=false:=decide_eq_false (by omega);have HW:=Lib.hid hC;clear hR hC hB hx ho hi2 hxb h5 hi1;go_enter Tryz.func118,Tryz.ntmps118;go_wp2_with fail;refine HP.out.mono ?_;rintro E W1 ⟨rfl,hG1⟩;have HR1:=Lib.hid (HR.out.goes hRp hG1);have HZ1:=Lib.hid (HZ.out.grown hG1.2 (by simp;omega));have HG1:=Lib.hid (aF.aW hG1);clear hG1 HP HR HZ;go_upto_region 2 with fail;go_cut [21]from 12 to 21 (fun s21 wx=>s21= .bool false∧wx=W1)
 case first=>
  rcases hm with hm|⟨hm,hm2⟩
  all_goals
   go_wp2_with fail;go_meet;exact ⟨rfl,rfl⟩
 case rest=>
 obtain ⟨rfl,rfl⟩:=hcut;clear hm;go_wp2_with fail;refine (HOP.out _ HR1.out HG1.out.1).mono ?_;rintro E W3 ⟨rfl,hG3⟩;have HR3:=Lib.hid (HR1.out.goes hRp hG3);have HZ3:=Lib.hid (HZ1.out.grown hG3.2 (by simp;omega));have HG3:=Lib.hid (HG1.out.trans hG3);clear hG3 HR1 HZ1 HG1 HOP;rw [show pM (opc,a1,0)=opc from if_pos rfl];go_wp2_with fail;refine (HI2.out _).mono ?_;rintro E W4 ⟨rfl,hB4⟩;have XB4:Blk W4 W3.heap.size (aX opc 0 0 0 0 (.slice none 0 0) (.slice none 0 0) (.slice none 0 0) false) 151:=(Blk.new W3 (aX opc 0 0 0 0 (.slice none 0 0) (.slice none 0 0) (.slice none 0 0) false) 151).below hB4 (by simp);have hg4:aF W3 W4 p q B a1 0:=aF.aW (o:= .cells (aX opc 0 0 0 0 (.slice none 0 0) (.slice none 0 0) (.slice none 0 0) false) 151) ⟨(HG3.out.1.alloc _).below hB4,aL hB4 _⟩;have HR4:=Lib.hid (HR3.out.goes hRp hg4);have HZ4:=Lib.hid (HZ3.out.grown hg4.2 (by simp;omega));have HG4:=Lib.hid (HG3.out.trans hg4);have HX4:=Lib.hid XB4;have hXp:p< W3.heap.size:=Nat.lt_of_lt_of_le hplt HG3.out.2.size;have hXR:R< W3.heap.size:=Nat.lt_of_lt_of_le hRlt HG3.out.2.size;have hXZ:W.heap.size< W3.heap.size:=HZ3.out.lt;obtain ⟨X,hXe⟩:∃X,X=W3.heap.size:=⟨_,rfl⟩;rw [←hXe]at HX4 hXp hXR hXZ ⊢;clear hB4 XB4 hg4 HR3 HZ3 HG3 hXe HI2;obtain ⟨s0,s1,slt⟩:=HR4.out.cells;obtain ⟨x0,x1,x2,x3,x4,x5,x6,x7,x8⟩:=aD HX4.out;obtain ⟨xf0,xf1,xf2,xf3,xf4,xf5,xf6,xf7,xf8,xlt⟩:=aA HX4.out;obtain ⟨z0,z1,z2,z3,z4,z5,z6,z7,z8⟩:=aD HZ4.out;obtain ⟨zf0,zf1,zf2,zf3,zf4,zf5,zf6,zf7,zf8,zlt⟩:=aA HZ4.out;go_wp2_with fail;have H:=Lib.hid (dM W4 p q B a1 0 HG4.out.1 HB.out);have hb:=pE B a1 0 HB.out;have HV:=Lib.hid (show bT B a1 0=jL B (az (aG B a1) a1 0).1.toNat (az (aG B a1) a1 0).2.1 (az (aG B a1) a1 0).2.2 []from rfl);have HVB:=Lib.hid (show bE bk B opc 3 a1=(let l:=bT B a1 0;let t:=az (aI B l.2.1) l.2.1 l.2.2;(.mk opc 0 t.1 0 0 l.1 [] [] false,t.2.1,t.2.2))from rfl);generalize az (aG B a1) a1 0=t at *;obtain ⟨ni,a0,e0⟩:=t;obtain ⟨n,rfl⟩:=Int.eq_ofNat_of_zero_le hb.1;have hn:(n:Int)≤4096:=hb.2;rw [show ((n:Int).toNat)=n from Int.toNat_natCast n]at HV;clear hb;refine H.out.mono ?_;rintro E W5 ⟨rfl,hG⟩;have hG:aF W4 W5 p q B a0 e0:=hG;have HR5:=Lib.hid (HR4.out.goes hRp hG);have HX5:=Lib.hid (HX4.out.grown hG.2 (by simp;omega));have HZ5:=Lib.hid (HZ4.out.grown hG.2 (by simp;omega));have HG5:=Lib.hid (HG4.out.trans hG);clear hG H HR4 HX4 HZ4 HG4;clear s0 s1 slt x0 x1 x2 x3 x4 x5 x6 x7 x8 xf0 xf1 xf2 xf3 xf4 xf5 xf6 xf7 xf8 xlt z0 z1 z2 z3 z4 z5 z6 z7 z8 zf0 zf1 zf2 zf3 zf4 zf5 zf6 zf7 zf8 zlt;have hW5X:=HX5.out.lt;have hW5s:=HG5.out.2.size;have hW5R:=HR5.out.cells.2.2;go_wp2_with fail;go_loopw [9] (fun i wr=>∃(j a5:Nat) (e5:Int) (xs:List Int) (v:Value),j≤n∧i= .int .i64 j∧xs.length=j∧Blk wr X (aX opc 0 0 0 0 v (.slice none 0 0) (.slice none 0 0) false) 151∧Blk wr W.heap.size bO 151∧Rq wr R p sat∧Own (rng .u32) 30 wr W5.heap.size (fun k=>W5.heap.size≤k) v xs∧aF W wr p q B a5 e5∧W5.heap.size≤wr.heap.size∧Hid (bT B a1 0=jL B (n - j) a5 e5 xs)) (fun i _=>n - (intOf i).toNat)
 case atStart=>exact ⟨0,a0,e0, [],(.slice none 0 0),Nat.zero_le _,rfl,rfl,HX5.out,HZ5.out,HR5.out,Own.nil,HG5.out,Nat.le_refl _,HV⟩
 case round=>
  obtain ⟨j,a5,e5,xs,v,hj,rfl,hxl,hX,hZ,hR,hown,hGo,hws,hlab⟩:=hrel;have HXL:=Lib.hid hxl;have HX6:=Lib.hid hX;have HZ6:=Lib.hid hZ;have HR6:=Lib.hid hR;have HO:=Lib.hid hown;have HG6:=Lib.hid hGo;clear hxl hX hZ hR hown hGo;obtain ⟨A,c,c0,c1,c2,f0,f1,f2,hle,hq,hlt,ha⟩:=HG6.out.1.cells;clear hq;obtain ⟨s0,s1,slt⟩:=HR6.out.cells;obtain ⟨x0,x1,x2,x3,x4,x5,x6,x7,x8⟩:=aD HX6.out;obtain ⟨xf0,xf1,xf2,xf3,xf4,xf5,xf6,xf7,xf8,xlt⟩:=aA HX6.out;obtain ⟨z0,z1,z2,z3,z4,z5,z6,z7,z8⟩:=aD HZ6.out;obtain ⟨zf0,zf1,zf2,zf3,zf4,zf5,zf6,zf7,zf8,zlt⟩:=aA HZ6.out;by_cases hfin:j< n∧e5=0
  ·obtain ⟨hlt2,rfl⟩:=hfin;have hlt3:(j:Int)<(n:Int):=by omega
   have hub:=dD B a5 0 HB.out;have HU:=Lib.hid (jJ wr.drew p q B a5 0 (HG6.out.1.below ⟨rfl,rfl,rfl,Nat.le_refl _,fun _ _=>rfl⟩) HB.out)
   have HL:=Lib.hid (show bT B a1 0=jL B (n - (j+1)) (az (aI B a5) a5 0).2.1 (az (aI B a5) a5 0).2.2 (xs++ [(az (aI B a5) a5 0).1])from by
    rw [hlab.out,show n - j=n - (j+1)+1 from by omega,jL,if_pos rfl])
   generalize az (aI B a5) a5 0=t at *;obtain ⟨x,a6,e6⟩:=t;obtain ⟨hx0,hx1⟩:=hub;go_wp2_with fail;have hOd:=Lib.hid (Own.below HO.out ((Below.refl wr.heap.size wr).drew));have hneX:some X≠some p:=by simp;omega
   have hneR:some R≠some p:=by simpa using hRp
   have hRX:some R≠some X:=by simp;omega
   have hvb:=Lib.hid (show ∀k,v.ownBlock=some k→W5.heap.size≤k from fun k hk=>(HO.out.block hk).1);have hvX:some X≠v.ownBlock:=fun e=>by have:=hvb.out _ e.symm;omega
   have hvR:some R≠v.ownBlock:=fun e=>by have:=hvb.out _ e.symm;omega
   have hxl:xs.length≤5000:=by have:=HXL.out;omega
   have hOg:=Lib.hid (show ∀W2,wr.drew.grownBy W2 (some p)→Own (rng .u32) 30 W2 W5.heap.size (fun k=>W5.heap.size≤k) v xs from fun W2 h=>Own.grown hOd.out h (by
    cases hv:v.ownBlock with
    |none=>exact .inl rfl
    |some k=>right;intro e;injection e with e;have:=hvb.out k hv;omega) (fun k hk e=>by injection e with e;omega))
   have HFK:=Lib.hid (show ∀(W' :World) (ok:Nat→Prop),FK (rng .u32) W' ok x [.int .u32 (IntKind.u32.wrap x)]from fun W' ok=>by rw [show IntKind.u32.wrap x=x from by rw [IntKind.wrap_u32];omega];exact CY hx0 hx1)
   have hXn:=Lib.hid (show ∀W2 w1,wr.drew.grownBy W2 (some p)→W2.grownBy w1 v.ownBlock→w1.cell? ⟨X,5,none⟩=some v∧w1.frozen? ⟨X,5,none⟩=false∧X< w1.heap.size∧w1.cell? ⟨R,0,none⟩=some (.pointer (some ⟨p,0,none⟩))from fun W2 w1 h h1=>by
    have hb:=Blk.grown (Blk.grown (show Blk wr.drew X _ _ from HX6.out) h hneX) h1 hvX
    exact ⟨(aD hb).2.2.2.2.2.1,hb.frozen 5,hb.lt,World.grownBy.cell h1 (World.grownBy.cell h s0 hneR) hvR⟩)
   have hl6:=Lib.hid (show (xs.length+1) * 4≤140737488355328 from by omega)
   go_region_law
    (first
     |(go_simp;go_at_call_of 38 (Value.pointer (some ⟨p,0,none⟩));refine HU.out.mono ?_;rintro e1' W2 ⟨rfl,hG2⟩;have y5:W2.cell? ⟨X,5,none⟩=some v:=World.grownBy.cell hG2.2 x5 hneX;have y5l:X< W2.heap.size:=Nat.lt_of_lt_of_le xlt hG2.2.size)
     |(refine Own.bY (d:=rng .u32) W5.heap.size rfl (.tmp 98) (.tmp 105) 69 30 _ 4 rfl Tryz.underlying69 Ho rfl (by decide) (by decide) v xs x _ (fun k=>W5.heap.size≤k) rfl rfl (HFK.out _ _) (hOg.out _ hG2.2) (Nat.le_trans hws hG2.2.size) hl6.out ?_;intro v1 w1 hown1 hg1 hat1;obtain ⟨k5,k5f,k5l,k0⟩:=hXn.out _ _ hG2.2 hg1;obtain ⟨A1,c1',rfl,hl1',hF1⟩:=Own.reads hown1))
   all_goals
    have hlen:(xs++ [x]).length=xs.length+1:=by simp
    have hvb2:=Lib.hid (show ∀k,(Value.slice A1 (xs++ [x]).length c1').ownBlock=some k→W5.heap.size≤k from fun k hk=>(hown1.block hk).1);have hw1s:W5.heap.size≤w1.heap.size:=Nat.le_trans hws (Nat.le_trans hG2.2.size hg1.size);rw [hlen]at hown1 hvb2;have HV5:=Lib.hid hvb2.out;have HG7:=Lib.hid (show aF W (w1.setCell ⟨X,5,none⟩ (.slice A1 (xs.length+1) c1')) p q B a6 e6 from (jv HW.out (HG6.out.trans ⟨hG2.1,(show wr.grownBy wr.drew (some p)from ⟨rfl,rfl,rfl,Nat.le_refl _,fun _ _ _=>rfl⟩).trans hG2.2⟩) hg1 (fun k hk=>Nat.le_trans hW5s (hvb.out k hk))).bG HW.out X (by omega) _ _)
    have HX7:=Lib.hid (show Blk (w1.setCell ⟨X,5,none⟩ (.slice A1 (xs.length+1) c1')) X (aX opc 0 0 0 0 (.slice A1 (xs.length+1) c1') (.slice none 0 0) (.slice none 0 0) false) 151 from by
     have:=(Blk.grown (Blk.grown (show Blk wr.drew X _ _ from HX6.out) hG2.2 hneX) hg1 hvX).set 5 (.slice A1 (xs.length+1) c1')
     simpa [aX] using this)
    have HZ7:=Lib.hid (show Blk (w1.setCell ⟨X,5,none⟩ (.slice A1 (xs.length+1) c1')) W.heap.size bO 151 from
     (Blk.grown (Blk.grown (show Blk wr.drew W.heap.size _ _ from HZ6.out) hG2.2 (by simp;omega)) hg1 (fun e=>by have:=hvb.out _ e.symm;omega)).aJ ⟨X,5,none⟩ _ (by simp;omega))
    have HR7:=Lib.hid (show Rq (w1.setCell ⟨X,5,none⟩ (.slice A1 (xs.length+1) c1')) R p sat from
     Blk.aJ (Blk.grown (Blk.grown (show Blk wr.drew R _ _ from HR6.out) hG2.2 hneR) hg1 hvR) ⟨X,5,none⟩ _ (by simp;omega))
    have HO7:=Lib.hid (Own.grown hown1 (bA w1 X 5 (.slice A1 (xs.length+1) c1')) (by
     cases hv:(Value.slice A1 (xs.length+1) c1').ownBlock with
     |none=>exact .inl rfl
     |some k=>right;intro e;injection e with e;have:=HV5.out k hv;omega) (fun k hk e=>by injection e with e;omega))
    have hs7:=(bA w1 X 5 (.slice A1 (xs.length+1) c1')).size;clear hown1 hvb2 hlen hG2 hg1 k5 k5f k5l k0 y5 y5l hF1;go_wp2_with fail;go_roundw
    case rel=>exact ⟨j+1,a6,e6,xs++ [x],_,by omega,by go_num,by rw [List.length_append,HXL.out];rfl,HX7.out,HZ7.out,HR7.out,HO7.out,HG7.out,Nat.le_trans hw1s hs7,HL⟩
    case measure=>simp [intOf];omega
  ·have HLE:=Lib.hid (show bT B a1 0=(xs,a5,e5)from by
    by_cases he:e5=0
    ·have:j=n:=by omega
     rw [hlab.out,this,Nat.sub_self];rfl
    ·rw [hlab.out,lK _ _ _ _ _ he])
   obtain ⟨AL,cL,rfl,hl5,hF6⟩:=Own.reads HO.out;have HF6:=Lib.hid (hF6.mono (ok' :=fun k=>W5.heap.size≤k) (fun k hk=>hk.elim id id));have hub:=dD B a5 e5 HB.out;have HU:=Lib.hid (jJ wr p q B a5 e5 HG6.out.1 HB.out);have HVC:=Lib.hid (show bE bk B opc 3 a1=(.mk opc 0 (az (aI B a5) a5 e5).1 0 0 xs [] [] false,(az (aI B a5) a5 e5).2.1,(az (aI B a5) a5 e5).2.2)from by rw [HVB.out,HLE.out]);generalize az (aI B a5) a5 e5=t at *;obtain ⟨x,a6,e6⟩:=t;obtain ⟨hx0,hx1⟩:=hub;simp only at hx0 hx1;clear hF6;by_cases hlt5:j< n
   ·have he:¬e5=0:=fun h=>hfin ⟨hlt5,h⟩
    have he2:(e5==0)=false:=beq_eq_false_iff_ne.2 he;have hlt3:(j:Int)<(n:Int):=by omega
    clear hfin he;go_wp2_with fail;refine HU.out.mono ?_;rintro E W7 ⟨rfl,hG⟩;have hG:aF wr W7 p q B a6 e6:=hG;have HX7:=Lib.hid (HX6.out.grown hG.2 (by simp;omega));have HZ7:=Lib.hid (HZ6.out.grown hG.2 (by simp;omega));have HG7:=Lib.hid (HG6.out.trans hG);have HF7:=Lib.hid (FC.dF HF6.out hG (by simp;omega));clear hG HU s0 s1 slt x0 x1 x2 x3 x4 x5 x6 x7 x8 xf0 xf1 xf2 xf3 xf4 xf5 xf6 xf7 xf8 xlt z0 z1 z2 z3 z4 z5 z6 z7 z8 zf0 zf1 zf2 zf3 zf4 zf5 zf6 zf7 zf8 zlt;obtain ⟨x0,x1,x2,x3,x4,x5,x6,x7,x8⟩:=aD HX7.out;obtain ⟨xf0,xf1,xf2,xf3,xf4,xf5,xf6,xf7,xf8,xlt⟩:=aA HX7.out;obtain ⟨z0,z1,z2,z3,z4,z5,z6,z7,z8⟩:=aD HZ7.out;obtain ⟨zf0,zf1,zf2,zf3,zf4,zf5,zf6,zf7,zf8,zlt⟩:=aA HZ7.out;go_wp2_with fail;have HZ8:=Lib.hid (show Blk (W7.setCell ⟨X,2,none⟩ (.int .u32 x)) W.heap.size bO 151 from HZ7.out.aJ ⟨X,2,none⟩ (.int .u32 x) (by simp;omega));have HG8:=Lib.hid (show aF W (W7.setCell ⟨X,2,none⟩ (.int .u32 x)) p q B a6 e6 from HG7.out.bG HW.out X (by omega) 2 (.int .u32 x));have HF8:=Lib.hid (FC.set HF7.out X 2 (.int .u32 x) (by simp;omega));change bodyPost _ _ _ Exit.ret _ (bJ (W7.setCell ⟨X,2,none⟩ (.int .u32 x)) W.heap.size (.int .i64 opc) (.int .u8 0) (.int .u32 x) (.int .u32 0) (.int .u64 0) (.slice AL xs.length cL) (.slice none 0 0) (.slice none 0 0) (.bool false));have hgF:aF W (bJ (W7.setCell ⟨X,2,none⟩ (.int .u32 x)) W.heap.size (.int .i64 opc) (.int .u8 0) (.int .u32 x) (.int .u32 0) (.int .u64 0) (.slice AL xs.length cL) (.slice none 0 0) (.slice none 0 0) (.bool false)) p q B a6 e6:=dw HW.out HG8.out _ (Nat.le_refl _) _ _ _ _ _ _ _ _ _;have hbF:=bL HZ8.out (.int .i64 opc) (.int .u8 0) (.int .u32 x) (.int .u32 0) (.int .u64 0) (.slice AL xs.length cL) (.slice none 0 0) (.slice none 0 0) (.bool false);have hfF:=jr HF8.out W.heap.size (by simp;omega) (.int .i64 opc) (.int .u8 0) (.int .u32 x) (.int .u32 0) (.int .u64 0) (.slice AL xs.length cL) (.slice none 0 0) (.slice none 0 0) (.bool false);generalize bJ (W7.setCell ⟨X,2,none⟩ (.int .u32 x)) W.heap.size (.int .i64 opc) (.int .u8 0) (.int .u32 x) (.int .u32 0) (.int .u64 0) (.slice AL xs.length cL) (.slice none 0 0) (.slice none 0 0) (.bool false)=V9 at *;obtain ⟨y0,y1,y2,y3,y4,y5,y6,y7,y8⟩:=aD hbF;have HGF:=Lib.hid hgF;have HFF:=Lib.hid hfF;rw [HVC.out];refine bodyPost_ret (v:= .agg (aX opc 0 x 0 0 (.slice AL xs.length cL) (.slice none 0 0) (.slice none 0 0) false)) (by simp [results,Tryz.results118,go_sem,y0,y1,y2,y3,y4,y5,y6,y7,y8,aX]) rfl ⟨.mk opc 0 x 0 0 xs [] [] false,AL,none,none,cL,0,0,rfl, ?_,fun _=>rfl,HGF.out⟩;refine il (x:= .mk opc 0 x 0 0 xs [] [] false) (jq hopc.1 hopc.2) rfl (show (Lit.int .u32 x).wf=true from by simp [Lit.wf,IntKind.min,IntKind.max,IntKind.signed,IntKind.bits];omega) rfl rfl (HFF.out.mono ?_) FC.nil FC.nil hl5 (Nat.le_refl _) (Nat.le_refl _);intro k hk;exact Nat.le_trans hW5s hk
   ·have hlt3:¬(j:Int)<(n:Int):=by omega
    clear hfin;go_wp2_with fail;refine HU.out.mono ?_;rintro E W7 ⟨rfl,hG⟩;have hG:aF wr W7 p q B a6 e6:=hG;have HX7:=Lib.hid (HX6.out.grown hG.2 (by simp;omega));have HZ7:=Lib.hid (HZ6.out.grown hG.2 (by simp;omega));have HG7:=Lib.hid (HG6.out.trans hG);have HF7:=Lib.hid (FC.dF HF6.out hG (by simp;omega));clear hG HU s0 s1 slt x0 x1 x2 x3 x4 x5 x6 x7 x8 xf0 xf1 xf2 xf3 xf4 xf5 xf6 xf7 xf8 xlt z0 z1 z2 z3 z4 z5 z6 z7 z8 zf0 zf1 zf2 zf3 zf4 zf5 zf6 zf7 zf8 zlt;obtain ⟨x0,x1,x2,x3,x4,x5,x6,x7,x8⟩:=aD HX7.out;obtain ⟨xf0,xf1,xf2,xf3,xf4,xf5,xf6,xf7,xf8,xlt⟩:=aA HX7.out;obtain ⟨z0,z1,z2,z3,z4,z5,z6,z7,z8⟩:=aD HZ7.out;obtain ⟨zf0,zf1,zf2,zf3,zf4,zf5,zf6,zf7,zf8,zlt⟩:=aA HZ7.out;go_wp2_with fail;have HZ8:=Lib.hid (show Blk (W7.setCell ⟨X,2,none⟩ (.int .u32 x)) W.heap.size bO 151 from HZ7.out.aJ ⟨X,2,none⟩ (.int .u32 x) (by simp;omega));have HG8:=Lib.hid (show aF W (W7.setCell ⟨X,2,none⟩ (.int .u32 x)) p q B a6 e6 from HG7.out.bG HW.out X (by omega) 2 (.int .u32 x));have HF8:=Lib.hid (FC.set HF7.out X 2 (.int .u32 x) (by simp;omega));change bodyPost _ _ _ Exit.ret _ (bJ (W7.setCell ⟨X,2,none⟩ (.int .u32 x)) W.heap.size (.int .i64 opc) (.int .u8 0) (.int .u32 x) (.int .u32 0) (.int .u64 0) (.slice AL xs.length cL) (.slice none 0 0) (.slice none 0 0) (.bool false));have hgF:aF W (bJ (W7.setCell ⟨X,2,none⟩ (.int .u32 x)) W.heap.size (.int .i64 opc) (.int .u8 0) (.int .u32 x) (.int .u32 0) (.int .u64 0) (.slice AL xs.length cL) (.slice none 0 0) (.slice none 0 0) (.bool false)) p q B a6 e6:=dw HW.out HG8.out _ (Nat.le_refl _) _ _ _ _ _ _ _ _ _;have hbF:=bL HZ8.out (.int .i64 opc) (.int .u8 0) (.int .u32 x) (.int .u32 0) (.int .u64 0) (.slice AL xs.length cL) (.slice none 0 0) (.slice none 0 0) (.bool false);have hfF:=jr HF8.out W.heap.size (by simp;omega) (.int .i64 opc) (.int .u8 0) (.int .u32 x) (.int .u32 0) (.int .u64 0) (.slice AL xs.length cL) (.slice none 0 0) (.slice none 0 0) (.bool false);generalize bJ (W7.setCell ⟨X,2,none⟩ (.int .u32 x)) W.heap.size (.int .i64 opc) (.int .u8 0) (.int .u32 x) (.int .u32 0) (.int .u64 0) (.slice AL xs.length cL) (.slice none 0 0) (.slice none 0 0) (.bool false)=V9 at *;obtain ⟨y0,y1,y2,y3,y4,y5,y6,y7,y8⟩:=aD hbF;have HGF:=Lib.hid hgF;have HFF:=Lib.hid hfF;rw [HVC.out];refine bodyPost_ret (v:= .agg (aX opc 0 x 0 0 (.slice AL xs.length cL) (.slice none 0 0) (.slice none 0 0) false)) (by simp [results,Tryz.results118,go_sem,y0,y1,y2,y3,y4,y5,y6,y7,y8,aX]) rfl ⟨.mk opc 0 x 0 0 xs [] [] false,AL,none,none,cL,0,0,rfl, ?_,fun _=>rfl,HGF.out⟩;refine il (x:= .mk opc 0 x 0 0 xs [] [] false) (jq hopc.1 hopc.2) rfl (show (Lit.int .u32 x).wf=true from by simp [Lit.wf,IntKind.min,IntKind.max,IntKind.signed,IntKind.bits];omega) rfl rfl (HFF.out.mono ?_) FC.nil FC.nil hl5 (Nat.le_refl _) (Nat.le_refl _);intro k hk;exact Nat.le_trans hW5s hk
theorem Bu {b:Int}:(bN b).1=1↔2≤b∧b≤4:=by
 constructor
 ·intro h;have:=(qb (b:=b) (ib:=(bN b).2) (by rw [←h])).1;omega
 ·intro h;unfold bN;rw [if_neg (by omega),if_pos (by omega)]
theorem Gn {sat:Bool} {B:List Int} {a:Nat} {e:Int} (h:(opM sat B a e).2.2=0):iO (opM sat B a e).1=(bN (opM sat B a e).1).1:=by
 have key:(bN (opM sat B a e).1).2=true:=by
  unfold opM at h ⊢;split at h
  next hp=>
   rw [if_pos hp];split at h
   next h2=>
    rw [if_pos h2];unfold fD at h ⊢;simp only at h ⊢;split at h
    next h7=>
     unfold cz at h;split at h
     ·cases h
     ·contradiction
    next h7=>
     have hb:0≤(az (aI B (a+1)) (a+1) 0).1:=by
      unfold az;rw [if_pos rfl];unfold dm
      cases aI B (a+1)with
      |error _=>exact Int.le_refl _
      |ok y=>exact Int.natCast_nonneg _
     generalize (az (aI B (a+1)) (a+1) 0).1=n at *;unfold bN;rw [if_neg (by omega),if_neg (by omega),if_neg (by omega),if_neg (by omega),if_neg (by omega),if_neg (by omega),if_neg (by omega),if_neg (by omega),if_neg (by omega),if_neg (by omega),if_neg (by omega),if_neg (by omega),if_neg (by omega)];exact decide_eq_true (by omega)
   next h2=>
    rw [if_neg h2];split at h
    next h3=>rw [if_pos h3];exact h3
    next h3=>cases h
  next hp=>exact absurd h hp
 unfold iO;rw [if_pos key]
theorem vF (W:World) (R p q:Nat) (sat:Bool) (deep:Nat) (B:List Int) (a:Nat) (hR:Rq W R p sat) (hRp:R≠p) (hC:Rdr W p q B a 0) (hB:aK B) (hx:B[a]? =some 5):
  Calls Tryz.prog 118 #[.pointer (some ⟨R,0,none⟩), .int .i64 deep] W (jA W p q B (fP 0,a,108)):=
 lg W R p q sat deep B a a 0 5 0 0 108 hR hRp hC hB (by simp [eU,aO,hx]) (by simp [aO,hx]) (.inr ⟨rfl, .inl rfl⟩)
  (fun X h1 h2=>yZ X R p q sat B a 5 h1 hRp h2 hB hx (by omega) _ rfl (.inr rfl)) (by decide)
theorem yh (bk:Bool→Nat→Int→List Ins×Int×Nat×Int) (W:World) (R p q:Nat) (sat:Bool) (deep:Nat) (B:List Int) (a:Nat) (e:Int) (hR:Rq W R p sat) (hRp:R≠p) (hC:Rdr W p q B a e) (hB:aK B) (h5:∀b,aO B a e=(b,0)→¬b=5∧¬b=11)
  (hbk:∀(W' :World) (m:Bool) (a' :Nat) (e' :Int),a+1≤a' ∨¬e' =0→Rq W' R p sat→Rdr W' p q B a' e' →Calls Tryz.prog 93 #[.pointer (some ⟨R,0,none⟩), .int .i64 ((deep:Int)+1), .bool m] W' (pX W' p q B (bk m a' e')))
  (hge:xW bk):
  Calls Tryz.prog 118 #[.pointer (some ⟨R,0,none⟩), .int .i64 deep] W (jA W p q B (fQ bk sat B deep a e)):=by
 by_cases hp:(aO B a e).2=0
 ·obtain ⟨b,hx⟩:∃b,aO B a e=(b,0):=⟨(aO B a e).1,by rw [←hp]⟩;obtain ⟨rfl,hxx⟩:=gG hx;have hn:=h5 b hx;have hbb:=hB.get hxx;by_cases h1:2≤b∧b≤4
  ·have hi:bN b=(1,true):=by unfold bN;rw [if_neg (by omega),if_pos (by omega)]
   by_cases hd:64≤deep
   ·have hdE:iC B deep a 0=3:=by unfold iC;rw [hx];simp only [hi];exact if_pos ⟨trivial,hd,trivial⟩
    have:fQ bk sat B deep a 0=(fP 0,a,3):=by unfold fQ;rw [hdE,rE];rfl
    rw [this];exact vD W R p q sat deep B a b hR hRp hC hB hxx h1 hd
   ·have hdE:iC B deep a 0=0:=by unfold iC;rw [hx];simp only [hi];exact if_neg (fun h=>hd h.2.1)
    have:fQ bk sat B deep a 0=bE bk B b 1 (a+1):=by unfold fQ;rw [hdE,xZ hxx hi];simp only [hi];rfl
    rw [this];exact Db bk W R p q sat deep B a b hR hRp hC hB hxx h1 (by omega) hbk hge
  ·have hni:¬(bN b).1=1:=fun h=>h1 (Bu.1 h)
   have hdE:iC B deep a 0=0:=by unfold iC;rw [hx];exact if_neg (fun h=>hni h.1)
   have hop:=EC (sat:=sat) (a:=a) (e:=0) hB (by rw [hx];exact hni);obtain ⟨opc,a1,e1,ho⟩:∃opc a1 e1,opM sat B a 0=(opc,a1,e1):=⟨_,_,_,rfl⟩;by_cases he1:e1=0
   ·subst he1;have hk:=Gn (sat:=sat) (B:=B) (a:=a) (e:=0) (by rw [ho]);rw [ho]at hop hk;simp only at hop hk;have:fQ bk sat B deep a 0=bE bk B opc (bN opc).1 a1:=by unfold fQ;rw [hdE,ho];rfl
    rw [this];by_cases h3:(bN opc).1=3
    ·rw [h3];exact Ed bk W R p q sat deep B a a1 b opc hR hRp hC hB hxx h1 hn ho hop.2 (by rw [hk,h3])
    ·exact Cu bk W R p q sat deep B a a1 b opc _ hR hRp hC hB hxx h1 hn ho hop.2 hk hop.1 h3
   ·have:fQ bk sat B deep a 0=(fP 0,a1,e1):=by unfold fQ;rw [hdE,ho];exact if_neg he1
    rw [this];refine lg W R p q sat deep B a a1 0 b 0 opc e1 hR hRp hC hB (by simp [eU,hx]) (by rw [hx]) ?_ (fun X g1 g2=>by rw [←ho];exact uu X R p q sat B a 0 g1 hRp g2 hB h5) he1;by_cases h2:2≤b
    ·exact .inr ⟨decide_eq_true h2, .inl (decide_eq_false (fun h4=>h1 ⟨h2,h4⟩))⟩
    ·exact .inl (decide_eq_false h2)
 ·have hp2:=hp
  have hpv:(aO B a e).1=0:=by
   unfold aO at hp ⊢;by_cases he:e=0
   ·rw [if_pos he]at hp ⊢
    cases hy:B[a]? with
    |none=>rfl
    |some y=>rw [hy]at hp;exact absurd rfl hp
   ·rw [if_neg he]
  have hdE:iC B deep a e=(aO B a e).2:=by unfold iC;exact if_neg (fun h=>hp h.2.2)
  have hpp:(aO B a (aO B a e).2).2=(aO B a e).2:=by
   generalize (aO B a e).2=pe at *;unfold aO;rw [if_neg hp]
  have ho:opM sat B a (aO B a e).2=(0,a,(aO B a e).2):=by unfold opM;rw [hpp,if_neg hp]
  have:fQ bk sat B deep a e=(fP 0,a,(aO B a e).2):=by unfold fQ;rw [hdE,ho];exact if_neg hp
  rw [this];refine lg W R p q sat deep B a a e (-1) _ 0 (aO B a e).2 hR hRp hC hB (if_neg hp) rfl (.inl (by decide)) (fun X g1 g2=> ?_) hp;have:=qa X R p q sat B a (aO B a e).2 g1 g2 hB (by rw [hpp];exact hp);rw [hpp]at this;exact this
theorem dY {W:World} {p q:Nat} {B:List Int} {a:Nat} {e:Int} (h:Rdr W p q B a e):jQ W p B.length=if e=0 then B.length+1 - a else 0:=by
 obtain ⟨A,c,c0,c1,c2,_⟩:=h.cells;unfold jQ;rw [c2,c1];simp only [Int.toNat_natCast]
theorem Own.dF {α:Type} {d:Kd α} {t:TypeId} {W W1:World} {base:Nat} {ok:Nat→Prop} {v:Value} {xs:List α} {p q:Nat} {B:List Int} {a:Nat} {e:Int} (h:Own d t W base ok v xs) (hG:aF W W1 p q B a e) (hp:p< base) (hok:∀k,ok k→base≤k):Own d t W1 base ok v xs:=
 h.grown hG.2 (by
  cases hv:v.ownBlock with
  |none=>exact .inl rfl
  |some k=>right;intro e;injection e with e;have:=(h.block hv).1;omega) (fun k hk e=>by injection e with e;have:=hok k hk;omega)
theorem aF.alloc {W W1:World} {p q:Nat} {B:List Int} {a:Nat} {e:Int} (h:aF W W1 p q B a e) (o:Obj):aF W (W1.alloc o) p q B a e:=⟨h.1.alloc o,h.2.trans (World.grownBy_alloc W1 o _)⟩
theorem EM (R p q:Nat) (sat:Bool) (B:List Int) (hRp:R≠p) (hB:aK B):∀(f deep:Nat) (may:Bool) (W:World) (a:Nat) (e:Int),Rq W R p sat→Rdr W p q B a e→(e=0→B.length< a+f)→
  Calls Tryz.prog 93 #[.pointer (some ⟨R,0,none⟩), .int .i64 deep, .bool may] W (pX W p q B (dh sat B f deep may a e [])):=by
 intro f
 induction f using Nat.strongRecOn with
 |ind f ih=>
 intro deep may W a e hR hC hfu;have IH:=Lib.hid ih;have HR:=Lib.hid hR;have HB:=Lib.hid hB;have HW:=Lib.hid hC;have hplt:=hC.lt;have hRlt:=hR.cells.2.2;have HFU:=Lib.hid hfu;clear ih hR hB hC hfu;go_enter Tryz.func93,Tryz.ntmps93;go_wp2_with fail;go_loopw [8] (fun v wr=>∃(a1:Nat) (e1:Int) (f1:Nat) (xs:List Ins),Own kR 151 wr W.heap.size (fun k=>W.heap.size≤k) v xs∧aF W wr p q B a1 e1∧Hid (f1≤f∧(e1=0→xs.length≤a1)∧(e1=0→B.length< a1+f1)∧dh sat B f deep may a e []=dh sat B f1 deep may a1 e1 xs)) (fun _ wr=>jQ wr p B.length)
 case atStart=>exact ⟨a,e,f, [],Own.nil,aF.same HW.out,Lib.hid ⟨Nat.le_refl _,fun _=>Nat.zero_le _,HFU.out,rfl⟩⟩
 case round=>
  obtain ⟨a1,e1,f1,xs,hown,hGo,hst⟩:=hrel;have hsz:=hGo.2.size;have HR1:=Lib.hid (HR.out.goes hRp hGo);obtain ⟨s0,s1,slt⟩:=HR1.out.cells;have HGo:=Lib.hid hGo;have HO:=Lib.hid hown;clear hGo hown;obtain ⟨A0,c',c0,c1,c2,f0,f1',f2,hle0,hq0,hlt0,ha0⟩:=HGo.out.1.cells;clear hq0;by_cases he:e1=0
  ·subst he;have hal:=HGo.out.1.2.1;have HGo:=Lib.hid (show aF W wr p q B a1 0 from HGo.out);have HN:=Lib.hid (fJ wr R p q sat B a1 0 HR1.out HGo.out.1 HB.out);obtain ⟨g,rfl⟩:∃g,f1=g+1:=⟨f1 - 1,by have:=hst.out.2.2.1 rfl;omega⟩;have hxl:=hst.out.2.1 rfl;have hff:=hst.out.1;have hfu:=hst.out.2.2.1 rfl;have hBl:=HB.out.1;by_cases hbx:∃b,B[a1]? =some b
   ·obtain ⟨b,hx⟩:=hbx;rw [show eU B a1 0=b from by simp [eU,aO,hx],show (aO B a1 0).2=0 from by simp [aO,hx]]at HN;have hx:=Lib.hid hx;go_wp2_with fail;refine HN.out.mono ?_;rintro E W2 ⟨rfl,hG⟩;have hG0:aF wr W2 p q B a1 0:=hG;have HR2:=Lib.hid (HR1.out.goes hRp hG0);have HG2:=Lib.hid (HGo.out.trans hG0);have HO2:=Lib.hid (Own.dF HO.out hG0 hplt (fun k hk=>hk));clear hG hG0 HN s0 s1 slt;obtain ⟨s0,s1,slt⟩:=HR2.out.cells;by_cases h11:b=11
    ·subst h11;have HBy:=Lib.hid (fun X h=>fK X p q B a1 0 h HB.out);rw [show aQ B a1 0=(11,a1+1,0)from by rw [aQ,if_pos rfl,hx.out]]at HBy;have HV:=Lib.hid (show dh sat B f deep may a e []=(xs,11,a1+1,0)from by rw [hst.out.2.2.2,dh,if_pos rfl,hx.out];rfl);go_wp2_with fail;refine (HBy.out _ HG2.out.1).mono ?_;rintro E W3 ⟨rfl,hG⟩;have hG0:aF W2 W3 p q B (a1+1) 0:=hG;have HG3:=Lib.hid (HG2.out.trans hG0);have HO3:=Lib.hid (Own.dF HO2.out hG0 hplt (fun k hk=>hk));clear hG hG0 HBy s0 s1 slt HR2 HG2 HO2;go_wp2_with fail;obtain ⟨A,c,hu,hle,hF⟩:=HO3.out.reads;subst hu;go_ret2;rw [HV.out];exact ⟨⟨A,c,rfl,hle,hF.mono (fun k hk=>hk.elim id id)⟩,HG3.out⟩
    ·by_cases h5:b=5
     ·subst h5;clear h11
      cases may with
      |true=>
       have HBy:=Lib.hid (fun X h=>fK X p q B a1 0 h HB.out);rw [show aQ B a1 0=(5,a1+1,0)from by rw [aQ,if_pos rfl,hx.out]]at HBy;have HV:=Lib.hid (show dh sat B f deep true a e []=(xs,5,a1+1,0)from by rw [hst.out.2.2.2,dh,if_pos rfl,hx.out];rfl);go_wp2_with fail;refine (HBy.out _ HG2.out.1).mono ?_;rintro E W3 ⟨rfl,hG⟩;have hG0:aF W2 W3 p q B (a1+1) 0:=hG;have HG3:=Lib.hid (HG2.out.trans hG0);have HO3:=Lib.hid (Own.dF HO2.out hG0 hplt (fun k hk=>hk));clear hG hG0 HBy s0 s1 slt HR2 HG2 HO2;go_wp2_with fail;obtain ⟨A,c,hu,hle,hF⟩:=HO3.out.reads;subst hu;go_ret2;rw [HV.out];exact ⟨⟨A,c,rfl,hle,hF.mono (fun k hk=>hk.elim id id)⟩,HG3.out⟩
      |false=>
       have HV:=Lib.hid (show dh sat B f deep false a e []=([],0,a1,108)from by rw [hst.out.2.2.2,dh,if_pos rfl,hx.out];rfl);have HI:=Lib.hid (vF W2 R p q sat deep B a1 HR2.out hRp HG2.out.1 HB.out hx.out);have HRN:=Lib.hid (show ¬(108:Int)=0 from by decide);go_wp2_with fail;refine HI.out.mono ?_;rintro E W3 ⟨x',AL,AT,AE,cL,cT,cE,rfl,hF,hxr,hG⟩;have hG:aF W2 W3 p q B a1 108:=hG;clear hxr;have HR3:=Lib.hid (HR2.out.goes hRp hG);have HG3:=Lib.hid (HG2.out.trans hG);have HO3:=Lib.hid (Own.dF HO2.out hG hplt (fun k hk=>hk));have hgs:=HG3.out.2.size;have hg2:=HG2.out.2.size;have HFK:=Lib.hid (show FK kR W3 (fun k=>(fun k=>W.heap.size≤k) k∧some k≠u8.ownBlock) x' [.int .i64 x'.op, .int .u8 x'.ty, .int .u32 x'.a, .int .u32 x'.b, .int .u64 x'.bits, .slice AL x'.list.length cL, .slice AT x'.th.length cT, .slice AE x'.el.length cE, .bool x'.has]from hF.mono (fun k hk=>⟨Nat.le_trans hg2 hk,fun e=>by have:=(HO2.out.block e.symm).2;omega⟩));clear hF hG s0 s1 slt HR2 HG2 HI;simp only [aX];go_wp2_with (at_builtin;refine Own.append (d:=kR) W.heap.size rfl (.tmp 39) (.tmp 43) 85 151 _ 112 rfl Tryz.underlying85 wM rfl (by decide) (by decide) u8 xs x' _ (fun k=>W.heap.size≤k) rfl rfl HFK.out HO3.out hgs (by omega) ?_;intro v1 w1 hown1 hg1 hat1);have HO4:=Lib.hid hown1;have HG4:=Lib.hid (show aF W w1 p q B a1 108 from jv HW.out HG3.out hg1 (fun k hk=>(HO3.out.block hk).1));clear hown1 hg1 hat1;go_wp2_with fail;go_roundw
       case rel=>exact ⟨a1,108,0,xs++ [x'],HO4.out,HG4.out,Lib.hid ⟨Nat.zero_le _,fun h=>absurd h HRN.out,fun h=>absurd h HRN.out,by rw [HV.out,gN _ _ _ _ _ _ HRN.out]⟩⟩
       case measure=>
        rw [dY HG4.out.1,dY HGo.out.1,if_neg HRN.out,if_pos rfl];omega
     ·have h11b:(b==11)=false:=beq_eq_false_iff_ne.2 h11;have h5b:(b==5)=false:=beq_eq_false_iff_ne.2 h5;have HVn:=Lib.hid (show dh sat B f deep may a e []=(let r:=fQ (uk sat B g (deep+1)) sat B deep a1 0;if r.2.2=0 then dh sat B g deep may r.2.1 0 (xs++ [r.1])else ([],0,r.2.1,r.2.2))from by rw [hst.out.2.2.2];exact tN hx.out h11 h5);have HI:=Lib.hid (yh (uk sat B g (deep+1)) W2 R p q sat deep B a1 0 HR2.out hRp HG2.out.1 HB.out (fun b' hb' =>by rw [show aO B a1 0=(b,0)from by simp [aO,hx.out]]at hb';injection hb' with hb' _;subst hb';exact ⟨h5,h11⟩) (fun W' m a' e' hh hr hc=>IH.out g (by omega) (deep+1) m W' a' e' hr hc (fun he=>by omega)) (fun m a e h=>ow HB.out g (deep+1) m a e [] h));have HGE:=Lib.hid (fun h=>xN (bk:=uk sat B g (deep+1)) (sat:=sat) (B:=B) (deep:=deep) (a:=a1) (e:=0) HB.out (fun m a e h=>ow HB.out g (deep+1) m a e [] h) h);generalize fQ (uk sat B g (deep+1)) sat B deep a1 0=r at *;obtain ⟨rx,ra,re⟩:=r;simp only at HVn HGE;clear h11 h5;go_wp2_with fail;refine HI.out.mono ?_;rintro E W3 ⟨x',AL,AT,AE,cL,cT,cE,rfl,hF,hxr,hG⟩;have hG:aF W2 W3 p q B ra re:=hG;have hxr:re=0→x' =rx:=hxr;by_cases hre:re=0
      ·subst hre;obtain rfl:=hxr rfl;have hra:=HGE.out rfl;have hral:=hG.1.2.1;have HV:=Lib.hid (show dh sat B f deep may a e []=dh sat B g deep may ra 0 (xs++ [x'])from by rw [HVn.out];exact if_pos rfl);have HR3:=Lib.hid (HR2.out.goes hRp hG);have HG3:=Lib.hid (HG2.out.trans hG);have HO3:=Lib.hid (Own.dF HO2.out hG hplt (fun k hk=>hk));have hgs:=HG3.out.2.size;have hg2:=HG2.out.2.size;have HFK:=Lib.hid (show FK kR W3 (fun k=>(fun k=>W.heap.size≤k) k∧some k≠u8.ownBlock) x' [.int .i64 x'.op, .int .u8 x'.ty, .int .u32 x'.a, .int .u32 x'.b, .int .u64 x'.bits, .slice AL x'.list.length cL, .slice AT x'.th.length cT, .slice AE x'.el.length cE, .bool x'.has]from hF.mono (fun k hk=>⟨Nat.le_trans hg2 hk,fun e=>by have:=(HO2.out.block e.symm).2;omega⟩));clear hF hG s0 s1 slt HR2 HG2 HI;simp only [aX];go_wp2_with (at_builtin;refine Own.append (d:=kR) W.heap.size rfl (.tmp 39) (.tmp 43) 85 151 _ 112 rfl Tryz.underlying85 wM rfl (by decide) (by decide) u8 xs x' _ (fun k=>W.heap.size≤k) rfl rfl HFK.out HO3.out hgs (by omega) ?_;intro v1 w1 hown1 hg1 hat1);have HO4:=Lib.hid hown1;have HG4:=Lib.hid (show aF W w1 p q B ra 0 from jv HW.out HG3.out hg1 (fun k hk=>(HO3.out.block hk).1));clear hown1 hg1 hat1;go_wp2_with fail;go_roundw
       case rel=>exact ⟨ra,0,g,xs++ [x'],HO4.out,HG4.out,Lib.hid ⟨by omega,fun _=>by rw [List.length_append];simp;omega,fun _=>by omega,HV.out⟩⟩
       case measure=>
        rw [dY HG4.out.1,dY HGo.out.1,if_pos rfl,if_pos rfl];omega
      ·have HV:=Lib.hid (show dh sat B f deep may a e []=([],0,ra,re)from by rw [HVn.out];exact if_neg hre);have HRN:=Lib.hid hre;clear hre hxr;have HR3:=Lib.hid (HR2.out.goes hRp hG);have HG3:=Lib.hid (HG2.out.trans hG);have HO3:=Lib.hid (Own.dF HO2.out hG hplt (fun k hk=>hk));have hgs:=HG3.out.2.size;have hg2:=HG2.out.2.size;have HFK:=Lib.hid (show FK kR W3 (fun k=>(fun k=>W.heap.size≤k) k∧some k≠u8.ownBlock) x' [.int .i64 x'.op, .int .u8 x'.ty, .int .u32 x'.a, .int .u32 x'.b, .int .u64 x'.bits, .slice AL x'.list.length cL, .slice AT x'.th.length cT, .slice AE x'.el.length cE, .bool x'.has]from hF.mono (fun k hk=>⟨Nat.le_trans hg2 hk,fun e=>by have:=(HO2.out.block e.symm).2;omega⟩));clear hF hG s0 s1 slt HR2 HG2 HI;simp only [aX];go_wp2_with (at_builtin;refine Own.append (d:=kR) W.heap.size rfl (.tmp 39) (.tmp 43) 85 151 _ 112 rfl Tryz.underlying85 wM rfl (by decide) (by decide) u8 xs x' _ (fun k=>W.heap.size≤k) rfl rfl HFK.out HO3.out hgs (by omega) ?_;intro v1 w1 hown1 hg1 hat1);have HO4:=Lib.hid hown1;have HG4:=Lib.hid (show aF W w1 p q B ra re from jv HW.out HG3.out hg1 (fun k hk=>(HO3.out.block hk).1));clear hown1 hg1 hat1;go_wp2_with fail;go_roundw
       case rel=>exact ⟨ra,re,0,xs++ [x'],HO4.out,HG4.out,Lib.hid ⟨Nat.zero_le _,fun h=>absurd h HRN.out,fun h=>absurd h HRN.out,by rw [HV.out,gN _ _ _ _ _ _ HRN.out]⟩⟩
       case measure=>
        rw [dY HG4.out.1,dY HGo.out.1,if_neg HRN.out,if_pos rfl];omega
   ·have hx:B[a1]? =none:=by
     cases h:B[a1]? with
     |none=>rfl
     |some b=>exact absurd ⟨b,h⟩ hbx
    clear hbx;rw [show eU B a1 0= -1 from by simp [eU,aO,hx],show (aO B a1 0).2=100 from by simp [aO,hx]]at HN;have HV:=Lib.hid (show dh sat B f deep may a e []=([],0,a1,100)from by rw [hst.out.2.2.2,dh,if_pos rfl,hx]);clear hx;go_wp2_with fail;refine HN.out.mono ?_;rintro E W2 ⟨rfl,hG⟩;have hG0:aF wr W2 p q B a1 100:=hG;have HR2:=Lib.hid (HR1.out.goes hRp hG0);have HG2:=Lib.hid (HGo.out.trans hG0);have HO2:=Lib.hid (Own.dF HO.out hG0 hplt (fun k hk=>hk));clear hG hG0 HN s0 s1 slt;obtain ⟨s0,s1,slt⟩:=HR2.out.cells;have HI:=Lib.hid (lg W2 R p q sat deep B a1 a1 100 (-1) 100 0 100 HR2.out hRp HG2.out.1 HB.out rfl rfl (.inl rfl) (fun X g1 g2=>qa X R p q sat B a1 100 g1 g2 HB.out (by show ¬(100:Int)=0;decide)) (by decide));have HRN:=Lib.hid (show ¬(100:Int)=0 from by decide);go_wp2_with fail;refine HI.out.mono ?_;rintro E W3 ⟨x',AL,AT,AE,cL,cT,cE,rfl,hF,hxr,hG⟩;have hG:aF W2 W3 p q B a1 100:=hG;clear hxr;have HR3:=Lib.hid (HR2.out.goes hRp hG);have HG3:=Lib.hid (HG2.out.trans hG);have HO3:=Lib.hid (Own.dF HO2.out hG hplt (fun k hk=>hk));have hgs:=HG3.out.2.size;have hg2:=HG2.out.2.size;have HFK:=Lib.hid (show FK kR W3 (fun k=>(fun k=>W.heap.size≤k) k∧some k≠u8.ownBlock) x' [.int .i64 x'.op, .int .u8 x'.ty, .int .u32 x'.a, .int .u32 x'.b, .int .u64 x'.bits, .slice AL x'.list.length cL, .slice AT x'.th.length cT, .slice AE x'.el.length cE, .bool x'.has]from hF.mono (fun k hk=>⟨Nat.le_trans hg2 hk,fun e=>by have:=(HO2.out.block e.symm).2;omega⟩));clear hF hG s0 s1 slt HR2 HG2 HI;simp only [aX];go_wp2_with (at_builtin;refine Own.append (d:=kR) W.heap.size rfl (.tmp 39) (.tmp 43) 85 151 _ 112 rfl Tryz.underlying85 wM rfl (by decide) (by decide) u8 xs x' _ (fun k=>W.heap.size≤k) rfl rfl HFK.out HO3.out hgs (by omega) ?_;intro v1 w1 hown1 hg1 hat1);have HO4:=Lib.hid hown1;have HG4:=Lib.hid (show aF W w1 p q B a1 100 from jv HW.out HG3.out hg1 (fun k hk=>(HO3.out.block hk).1));clear hown1 hg1 hat1;go_wp2_with fail;go_roundw
    case rel=>exact ⟨a1,100,0,xs++ [x'],HO4.out,HG4.out,Lib.hid ⟨Nat.zero_le _,fun h=>absurd h HRN.out,fun h=>absurd h HRN.out,by rw [HV.out,gN _ _ _ _ _ _ HRN.out]⟩⟩
    case measure=>
     rw [dY HG4.out.1,dY HGo.out.1,if_neg HRN.out,if_pos rfl];omega
  ·have HV:=Lib.hid (show dh sat B f deep may a e []=([],0,a1,e1)from by rw [hst.out.2.2.2];exact gN _ _ _ _ _ _ he);have he2:(e1==0)=false:=beq_eq_false_iff_ne.2 he;clear he;go_wp2_with fail;go_ret2;rw [HV.out];exact ⟨⟨none,0,rfl,Nat.le_refl _,FC.nil⟩,HGo.out⟩
def zZ (W:World) (p q:Nat) (B:List Int) (r:List Ins×Nat×Int) (E:Ending) (w' :World):Prop:=
 (∃A c,E= .returned (.slice A r.1.length c)∧r.1.length≤c∧FC kR w' (fun k=>W.heap.size≤k) A r.1)∧aF W w' p q B r.2.1 r.2.2
theorem mI (W:World) (p q:Nat) (sat:Bool) (B:List Int) (a:Nat) (e:Int) (hC:Rdr W p q B a e) (hB:aK B):
  Calls Tryz.prog 54 #[.pointer (some ⟨p,0,none⟩), .bool sat] W (zZ W p q B (eX sat B a e)):=by
 have hplt:=hC.lt;have HBK:=Lib.hid (EM W.heap.size p q sat B (by omega) hB (B.length+1) 0 false (W.alloc (.cells #[.pointer (some ⟨p,0,none⟩), .bool sat] 186)) a e (Blk.new W _ _) (hC.alloc _) (fun _=>by omega));have HV:=Lib.hid (show eX sat B a e=(let r:=dh sat B (B.length+1) 0 false a e [];(if r.2.2.2=0 then r.1 else [],r.2.2.1,r.2.2.2))from rfl);generalize dh sat B (B.length+1) 0 false a e []=r at *;obtain ⟨l,en,a1,e1⟩:=r;simp only at HV;clear hC hB;go_enter Tryz.func54,Tryz.ntmps54;go_wp2_with fail;refine HBK.out.mono ?_;rintro E W1 ⟨⟨A,c,rfl,hl,hF⟩,hG⟩;have hG0:aF (W.alloc (.cells #[.pointer (some ⟨p,0,none⟩), .bool sat] 186)) W1 p q B a1 e1:=hG;have HG1:=Lib.hid (aF.aW hG0);have HF:=Lib.hid (hF.mono (ok' :=fun k=>W.heap.size≤k) (fun k hk=>by simp at hk;omega));clear hG hG0 hF HBK;obtain ⟨A0,c',c0,c1,c2,f0,f1',f2,hle0,hq0,hlt0,ha0⟩:=HG1.out.1.cells;clear hq0;by_cases he:e1=0
 ·subst he;go_wp2_with fail;go_ret;rw [HV.out,if_pos trivial];exact ⟨⟨A,c,rfl,hl,HF.out⟩,HG1.out⟩
 ·have he2:(e1 !=0)=true:=by simpa using he
  rw [if_neg he]at HV;clear he;go_wp2_with fail;go_ret;rw [HV.out];exact ⟨⟨none,0,rfl,Nat.le_refl _,FC.nil⟩,HG1.out⟩
def pU (n:Nat):List Int:=
 if 1114111< n∨(55296≤n∧n≤57343)then []
 else if n< 128 then [(n:Int)]
 else if n< 2048 then [192+(n:Int) / 64,128+(n:Int) % 64]
 else if n< 65536 then [224+(n:Int) / 4096,128+(n:Int) / 64 % 64,128+(n:Int) % 64]
 else [240+(n:Int) / 262144,128+(n:Int) / 4096 % 64,128+(n:Int) / 64 % 64,128+(n:Int) % 64]
def qc (W:World) (l:List Int) (E:Ending) (W' :World):Prop:=
 (∃A c,E= .returned (.slice A l.length c)∧RdI W' .u8 A l)∧Below W.heap.size W W'
theorem qz (W:World) (l:List Int) (hl:l.length≤100) (t:TypeId):RdI (W.alloc (.cells (l.map (Value.int .u8)).toArray t)) .u8 (some ⟨W.heap.size,0,none⟩) l:=
 ⟨by omega,fun hp=>by
  obtain ⟨o,e,hc⟩:=fM W l t hp
  exact ⟨_,o,e,hc⟩⟩
theorem Gl (W:World) (n:Nat) (hn:n≤1000000000):Calls Tryz.prog 124 #[.int .i64 n] W (qc W (pU n)):=by
 have h0:¬(n:Int)< 0:=by omega
 by_cases h1:1114111< n
 ·have g1:(1114111:Int)<(n:Int):=by omega
  have HM:pU n= []:=by unfold pU;rw [if_pos (.inl h1)]
  rw [HM];go_enter Tryz.func124,Tryz.ntmps124;go_wp2_with fail;go_ret;exact ⟨⟨none,0,rfl,by simp,fun h=>absurd h (by simp)⟩,Below.refl _ _⟩
 ·have g1:¬(1114111:Int)<(n:Int):=by omega
  by_cases h2:55296≤n∧n≤57343
  ·have g2:(55296:Int)≤(n:Int):=by omega
   have g3:(n:Int)≤57343:=by omega
   have HM:pU n= []:=by unfold pU;rw [if_pos (.inr h2)]
   rw [HM];go_enter Tryz.func124,Tryz.ntmps124;go_wp2_with fail;go_ret;exact ⟨⟨none,0,rfl,by simp,fun h=>absurd h (by simp)⟩,Below.refl _ _⟩
  ·have hM:pU n=(if n< 128 then [(n:Int)]
     else if n< 2048 then [192+(n:Int) / 64,128+(n:Int) % 64]
     else if n< 65536 then [224+(n:Int) / 4096,128+(n:Int) / 64 % 64,128+(n:Int) % 64]
     else [240+(n:Int) / 262144,128+(n:Int) / 4096 % 64,128+(n:Int) / 64 % 64,128+(n:Int) % 64]):=by
    unfold pU;rw [if_neg (by omega)]
   by_cases h3:n< 128
   ·have g3:(n:Int)< 128:=by omega
    have g4:¬(55296:Int)≤(n:Int):=by omega
    rw [hM,if_pos h3];clear hM;go_enter Tryz.func124,Tryz.ntmps124;go_wp2_with fail;go_ret;exact ⟨⟨some ⟨W.heap.size,0,none⟩,1,rfl,qz W [(n:Int)] (by simp) _⟩,aY (Below.refl _ _) _⟩
   ·have g3:¬(n:Int)< 128:=by omega
    by_cases h4:n< 2048
    ·have g4:(n:Int)< 2048:=by omega
     have g5:¬(55296:Int)≤(n:Int):=by omega
     have q1:Int.tdiv (n:Int) 64=(n:Int) / 64:=rfl;have q2:Int.tmod (n:Int) 64=(n:Int) % 64:=rfl;rw [hM,if_neg h3,if_pos h4];clear hM;go_enter Tryz.func124,Tryz.ntmps124;go_wp2_with fail;go_ret;exact ⟨⟨some ⟨W.heap.size,0,none⟩,2,rfl,qz W [192+(n:Int) / 64,128+(n:Int) % 64] (by simp) _⟩,aY (Below.refl _ _) _⟩
    ·have g4:¬(n:Int)< 2048:=by omega
     have q1:Int.tdiv (n:Int) 64=(n:Int) / 64:=rfl;have q2:Int.tmod (n:Int) 64=(n:Int) % 64:=rfl;have q3:Int.tdiv (n:Int) 4096=(n:Int) / 4096:=rfl;have q4:Int.tmod ((n:Int) / 64) 64=(n:Int) / 64 % 64:=by rw [Int.tmod_eq_emod_of_nonneg (by omega)]
     have q5:Int.tmod ((n:Int) / 4096) 64=(n:Int) / 4096 % 64:=by rw [Int.tmod_eq_emod_of_nonneg (by omega)]
     have q6:Int.tdiv (n:Int) 262144=(n:Int) / 262144:=rfl;by_cases h5:n< 65536
     ·have g5:(n:Int)< 65536:=by omega
      rw [hM,if_neg h3,if_neg h4,if_pos h5];clear hM;have hfin:∀X:World,qc X [224+(n:Int) / 4096,128+(n:Int) / 64 % 64,128+(n:Int) % 64] (.returned (.slice (some ⟨X.heap.size,0,none⟩) 3 3)) (X.alloc (.cells (([224+(n:Int) / 4096,128+(n:Int) / 64 % 64,128+(n:Int) % 64]:List Int).map (Value.int .u8)).toArray 5)):=fun X=>⟨⟨some ⟨X.heap.size,0,none⟩,3,rfl,qz X _ (by simp) _⟩,aY (Below.refl _ _) _⟩
      have HF:=Lib.hid hfin;clear hfin;by_cases h6:n< 55296
      ·have g6:¬(55296:Int)≤(n:Int):=by omega
       go_enter Tryz.func124,Tryz.ntmps124;go_wp2_with fail;go_ret;exact HF.out W
      ·have g6:(55296:Int)≤(n:Int):=by omega
       have g7:¬(n:Int)≤57343:=by omega
       go_enter Tryz.func124,Tryz.ntmps124;go_wp2_with fail;go_ret;exact HF.out W
     ·have g5:¬(n:Int)< 65536:=by omega
      have g6:(55296:Int)≤(n:Int):=by omega
      have g7:¬(n:Int)≤57343:=by omega
      rw [hM,if_neg h3,if_neg h4,if_neg h5];clear hM;go_enter Tryz.func124,Tryz.ntmps124;go_wp2_with fail;go_ret;exact ⟨⟨some ⟨W.heap.size,0,none⟩,4,rfl,qz W [240+(n:Int) / 262144,128+(n:Int) / 4096 % 64,128+(n:Int) / 64 % 64,128+(n:Int) % 64] (by simp) _⟩,aY (Below.refl _ _) _⟩
theorem Ga (W:World) (c:Int) (h0:c< 0) (hn: -1000000000≤c):Calls Tryz.prog 124 #[.int .i64 c] W (qc W []):=by
 go_enter Tryz.func124,Tryz.ntmps124;go_wp2_with fail;go_ret;exact ⟨⟨none,0,rfl,by simp,fun h=>absurd h (by simp)⟩,Below.refl _ _⟩
def eO:Int→List Int→Int
 |c, []=>c
 |c,b::l=>eO (64 * c+b - 128) l
def jC (n:Nat) (b:Int):Int:=if n=2 then b - 192 else if n=3 then b - 224 else if n=4 then b - 240 else b
def iT (l:List Int):Int:=match l with| []=>0|b::r=>eO (jC (r.length+1) b) r
def ny (c:Int):List Int:=if c< 0 then []else pU c.toNat
def jK (B:List Int) (a n:Nat):Bool:=decide (a+n≤B.length) && decide (ny (iT ((B.drop a).take n))=(B.drop a).take n)
def iQ (B:List Int) (a:Nat):Int×Int:=
 if jK B a 1 then (iT ((B.drop a).take 1),((a+1:Nat):Int))else if jK B a 2 then (iT ((B.drop a).take 2),((a+2:Nat):Int))
 else if jK B a 3 then (iT ((B.drop a).take 3),((a+3:Nat):Int))else if jK B a 4 then (iT ((B.drop a).take 4),((a+4:Nat):Int))else (-1,0)
theorem Fa (W:World) (c:Int) (h0: -1000000000≤c) (h1:c≤1000000000):Calls Tryz.prog 124 #[.int .i64 c] W (qc W (ny c)):=by
 unfold ny;by_cases h:c< 0
 ·rw [if_pos h];exact Ga W c h h0
 ·rw [if_neg h];obtain ⟨n,rfl⟩:=Int.eq_ofNat_of_zero_le (Int.not_lt.1 h);rw [Int.toNat_natCast];exact Gl W n (by omega)
theorem ng:∀(l:List Int) (c b:Int),eO c (l++ [b])=64 * eO c l+b - 128
 | [],c,b=>rfl
 |x::l,c,b=>by
  rw [List.cons_append,eO,eO];exact ng l _ b
def rR:Nat→Int
 |0=>300
 |k+1=>64 * rR k+128
theorem sW {B:List Int} {a m:Nat} {b0:Int} (hb:B[a]? =some b0) (hm:1≤m) (hl:a+m≤B.length):iT ((B.drop a).take m)=eO (jC m b0) ((B.drop (a+1)).take (m - 1)):=by
 have h1:(B.drop a).take m=b0::(B.drop (a+1)).take (m - 1):=by
  obtain ⟨k,rfl⟩:∃k,m=k+1:=⟨m - 1,by omega⟩
  have h2:B.drop a=b0::B.drop (a+1):=by
   have hlt:=(List.getElem?_eq_some_iff.1 hb).1;rw [List.drop_eq_getElem_cons hlt,(List.getElem?_eq_some_iff.1 hb).2]
  rw [h2,List.take_succ_cons,Nat.add_sub_cancel]
 rw [h1];show eO (jC (((B.drop (a+1)).take (m - 1)).length+1) b0) _=_
 rw [show ((B.drop (a+1)).take (m - 1)).length+1=m by rw [List.length_take,List.length_drop];omega]
theorem qN {B:List Int} {a:Nat} (h:∀k,1≤k→k≤4→jK B a k=false):iQ B a=(-1,0):=by
 unfold iQ;rw [h 1 (by omega) (by omega),h 2 (by omega) (by omega),h 3 (by omega) (by omega),h 4 (by omega) (by omega)];rfl
theorem Am {B:List Int} {a m:Nat} (h:∀k,1≤k→k< m→jK B a k=false) (h1:1≤m) (h4:m≤4) (hh:jK B a m=true):iQ B a=(iT ((B.drop a).take m),((a+m:Nat):Int)):=by
 unfold iQ;have hm:m=1∨m=2∨m=3∨m=4:=by omega
 rcases hm with rfl|rfl|rfl|rfl
 ·rw [hh];rfl
 ·rw [h 1 (by omega) (by omega),hh];rfl
 ·rw [h 1 (by omega) (by omega),h 2 (by omega) (by omega),hh];rfl
 ·rw [h 1 (by omega) (by omega),h 2 (by omega) (by omega),h 3 (by omega) (by omega),hh];rfl
theorem vM {B:List Int} (hB:∀x∈B,0≤x∧x≤255) {c0:Int} (h0: -300≤c0∧c0≤300) (s:Nat):∀k, -rR k≤eO c0 ((B.drop s).take k)∧eO c0 ((B.drop s).take k)≤rR k
 |0=>by simpa [eO,rR] using h0
 |k+1=>by
  have h:=vM hB h0 s k
  have hp:∀k,0≤rR k:=fun k=>by
   induction k with
   |zero=>simp [rR]
   |succ k ih=>rw [rR];omega
  have hk:=hp k;rw [List.take_add_one]
  cases hx:(B.drop s)[k]? with
  |none=>
   simp only [Option.toList_none,List.append_nil];rw [rR];omega
  |some b=>
   have hb:=hB b (List.mem_of_mem_drop (List.mem_of_getElem? hx));simp only [Option.toList_some];rw [ng,rR];omega
theorem yB {B:List Int} {c0:Int} {s k:Nat} {b:Int} (hx:B[s+k]? =some b):eO c0 ((B.drop s).take (k+1))=64 * eO c0 ((B.drop s).take k)+b - 128:=by
 rw [List.take_add_one,List.getElem?_drop,hx];simp only [Option.toList_some];exact ng _ _ _
def pO (L B:List Int) (a m j:Nat):Bool:=decide (L.length=m) && decide (L.take j=(B.drop a).take j)
theorem zu (L B:List Int) (a m:Nat):pO L B a m 0=decide (L.length=m):=by simp [pO]
theorem BB {L B:List Int} {a m j:Nat} {x y:Int} (h:pO L B a m j=true) (hx:L[j]? =some x) (hy:B[a+j]? =some y):pO L B a m (j+1)=decide (x=y):=by
 unfold pO at *;simp only [Bool.and_eq_true,decide_eq_true_eq]at h;rw [List.take_add_one,List.take_add_one,h.2,hx,List.getElem?_drop,hy,h.1];simp
theorem Fz {L B:List Int} {a m j:Nat} (h:pO L B a m j=false):L≠(B.drop a).take m∨j ≥ m+1∨B.length< a+m:=by
 by_cases hj:j≤m
 ·by_cases hl:a+m≤B.length
  ·left;intro e;have h1:L.length=m:=by rw [e,List.length_take,List.length_drop];omega
   have h2:L.take j=(B.drop a).take j:=by rw [e,List.take_take];congr 1;omega
   unfold pO at h;simp [h1,h2]at h
  ·exact .inr (.inr (by omega))
 ·exact .inr (.inl (by omega))
theorem Ip {B:List Int} {a m j:Nat} {x0:Int} {r:Bool} (hb:B[a]? =some x0) (hm:1≤m) (hfit:a+m≤B.length) (h:pO (ny (eO (jC m x0) ((B.drop (a+1)).take (m - 1)))) B a m j=r) (hj:j≤m) (he:r=false∨j=m):jK B a m=r:=by
 unfold jK;rw [sW hb hm hfit];generalize ny _=L at *;rw [decide_eq_true hfit,Bool.true_and]
 cases r with
 |false=>
  rcases Fz h with h|h|h
  ·exact decide_eq_false h
  ·omega
  ·omega
 |true=>
  obtain rfl:j=m:=by rcases he with he|he;cases he;exact he
  unfold pO at h;simp only [Bool.and_eq_true,decide_eq_true_eq]at h;have h1:L.take j=L:=List.take_of_length_le (by omega);exact decide_eq_true (by rw [←h.2,h1])
theorem mR {w:World} (m:Nat):Below w.heap.size w (w.drewN m):=⟨rfl,rfl,rfl,Nat.le_refl _,fun _ _=>rfl⟩
def vP (W:World) (r:Int×Int) (E:Ending) (W' :World):Prop:=E= .returned (.tuple #[.int .i64 r.1, .int .i64 r.2])∧Below W.heap.size W W'
theorem CP (W:World) (A:Option Addr) (c:Nat) (B:List Int) (a:Nat) (hR:RdI W .u8 A B) (hB:aK B) (ha:a< B.length):
  Calls Tryz.prog 116 #[.slice A B.length c, .int .i64 a] W (vP W (iQ B a)):=by
 have HR:=Lib.hid hR;have HB:=Lib.hid hB;have hl:=hB.1;have g0:¬(a:Int)< 0:=by omega
 have g1:¬(B.length:Int)≤(a:Int):=by omega
 obtain ⟨R,hRR⟩:∃R,R=iQ B a:=⟨_,rfl⟩;rw [←hRR];have HRR:=Lib.hid hRR;obtain ⟨b,o,x0,hA,e0,hx0⟩:=hR.get a ha;have hb0:=hB.2 x0 (List.mem_of_getElem? hx0.out);have HX0:=Lib.hid hx0.out;have hbl:=World.block_lt_of_cell? _ _ e0;have HB0:=Lib.hid (show b< W.heap.size from hbl);subst hA;clear hR hB hRR hx0 e0 hbl;go_enter Tryz.func116,Tryz.ntmps116;go_wp2_with fail;go_loopw [6] (fun n wr=>∃(m:Nat),1≤m∧m≤5∧n= .int .i64 m∧Hid (∀k,1≤k→k< m→jK B a k=false)∧Hid (Below W.heap.size W wr)) (fun n _=>6 - (intOf n).toNat)
 case atStart=>exact ⟨1,by omega,by omega,rfl,Lib.hid (fun k h1 h2=>by omega),Below.refl _ _⟩
 case round=>
  obtain ⟨m,hm1,hm5,rfl,HNO,HBw⟩:=hrel;by_cases h4:m≤4
  ·have h4' :(m:Int)≤4:=by omega
   by_cases hfit:a+m≤B.length
   ·have hfit' :(a:Int)+(m:Int)≤(B.length:Int):=by omega
    generalize wr=X at *;have HRX:=Lib.hid (HR.out.below HBw.out)
    have e0:X.cell? ⟨b,o+a,none⟩=some (.int .u8 x0):=by
     obtain ⟨b',o',y,hA,e,hy⟩:=HRX.out.get a ha;injection hA with hA;injection hA with h1 h2;subst h1 h2;have:y=x0:=by have:=hy.out.symm.trans HX0.out;injection this
     rw [←this];exact e
    have hbl:b< X.heap.size:=by have:=HBw.out.size;have:=HB0.out;omega
    obtain ⟨c0,hc0⟩:∃c0,c0=jC m x0:=⟨_,rfl⟩;have hc0b: -300≤c0∧c0≤300:=by rw [hc0];unfold jC;repeat' split;all_goals omega
    have HC0:=Lib.hid hc0;have HFB:=Lib.hid (fun k=>vM HB.out.2 hc0b (a+1) k)
    have hsp:((((m:Int)==2)=true∧((m:Int)==3)=false∧((m:Int)==4)=false)∧x0 - 192=c0)∨((((m:Int)==2)=false∧((m:Int)==3)=true∧((m:Int)==4)=false)∧x0 - 224=c0)∨((((m:Int)==2)=false∧((m:Int)==3)=false∧((m:Int)==4)=true)∧x0 - 240=c0)∨((((m:Int)==2)=false∧((m:Int)==3)=false∧((m:Int)==4)=false)∧x0=c0):=by
     rw [hc0];unfold jC;have hm:m=1∨m=2∨m=3∨m=4:=by omega
     rcases hm with rfl|rfl|rfl|rfl<;>simp
    have HFB2:=Lib.hid (fun k (hk:k≤3)=>(show -79175808≤eO c0 ((B.drop (a+1)).take k)∧eO c0 ((B.drop (a+1)).take k)≤79175808 from by
     have h:=HFB.out k;have hk:k=0∨k=1∨k=2∨k=3:=by omega
     rcases hk with rfl|rfl|rfl|rfl<;>simp only [rR]at h<;>omega))
    have HGET:=Lib.hid (fun k (hk:k< B.length)=>(show ∃y,X.cell? ⟨b,o+k,none⟩=some (.int .u8 y)∧B[k]? =some y∧0≤y∧y≤255 from by
     obtain ⟨b',o',y,hA,e,hy⟩:=HRX.out.get k hk;injection hA with hA;injection hA with h1 h2;subst h1 h2
     exact ⟨y,e,hy.out,HB.out.2 y (List.mem_of_getElem? hy.out)⟩))
    clear hc0;rcases hsp with ⟨⟨q2,q3,q4⟩,hc⟩|⟨⟨q2,q3,q4⟩,hc⟩|⟨⟨q2,q3,q4⟩,hc⟩|⟨⟨q2,q3,q4⟩,hc⟩
    all_goals
     go_wp2_with fail;go_loopw [7,8] (fun v i wr=>∃(j:Nat),1≤j∧j≤m∧i= .int .i64 j∧wr=X∧v= .int .i64 (eO c0 ((B.drop (a+1)).take (j - 1)))) (fun _ i _=>m - (intOf i).toNat)
     case atStart=>exact ⟨1,Nat.le_refl _,hm1,rfl,rfl,by rw [Nat.sub_self,List.take_zero];first|rfl|rw [eO,hc]⟩
     case round=>
      obtain ⟨j,hj1,hjm,rfl,rfl,rfl⟩:=hrel;obtain ⟨f1,f2⟩:=HFB2.out (j - 1) (by omega);by_cases hlt:j< m
      ·have hlt' :(j:Int)<(m:Int):=by omega
       have e2:=HGET.out (a+j) (by omega);obtain ⟨y,e2,hy,y0,y1⟩:=e2;have HST:=Lib.hid (yB (c0:=c0) (s:=a+1) (k:=j - 1) (show B[a+1+(j - 1)]? =some y by rw [show a+1+(j - 1)=a+j by omega];exact hy));clear hy;generalize eO c0 ((B.drop (a+1)).take (j - 1))=fc at *;go_wp2_with fail;go_roundw
       case rel=>exact ⟨j+1,by omega,by omega,by go_num,by first|rfl|trivial,by rw [Nat.add_sub_cancel];have h:=HST.out;rw [show j - 1+1=j by omega]at h;rw [h]⟩
       case measure=>simp [intOf];omega
      ·have hlt' :¬(j:Int)<(m:Int):=by omega
       obtain rfl:j=m:=by omega
       have HP:=Lib.hid (Fa wr (eO c0 ((B.drop (a+1)).take (j - 1))) (by omega) (by omega));have HHIT:=Lib.hid (fun (r:Bool) (k:Nat) h h1 h2=>Ip (r:=r) (j:=k) HX0.out hm1 hfit (by rw [←HC0.out];exact h) h1 h2);have HCH:=Lib.hid (show iT ((B.drop a).take j)=eO c0 ((B.drop (a+1)).take (j - 1))by rw [sW HX0.out hm1 hfit,HC0.out]);generalize eO c0 ((B.drop (a+1)).take (j - 1))=ch at *;go_wp2_with fail;refine HP.out.mono ?_;rintro E w1 ⟨⟨A2,c2,rfl,hR2⟩,hb2⟩;have HR2:=Lib.hid hR2;have HB2:=Lib.hid (HBw.out.trans (hb2.mono HBw.out.size));generalize ny ch=L at *;clear hR2 hb2 e0 hbl HP;go_wp2_with fail;go_loopw [10,11] (fun s i wr=>∃(k:Nat),k≤j∧i= .int .i64 k∧s= .bool (pO L B a j k)∧Hid (RdI wr .u8 A2 L)∧Hid (Below W.heap.size W wr)) (fun _ i _=>j - (intOf i).toNat)
       case atStart=>exact ⟨0,Nat.zero_le _,rfl,by rw [zu];congr 1;rw [Bool.eq_iff_iff];simp;omega,HR2,HB2⟩
       case round=>
        obtain ⟨k,hk,rfl,rfl,HR3,HB3⟩:=hrel;obtain ⟨s,hs⟩:∃s,s=pO L B a j k:=⟨_,rfl⟩;rw [←hs];have HSS:=Lib.hid hs.symm;clear hs
        cases s with
        |false=>
         have HH:=Lib.hid (HHIT.out false k HSS.out hk (.inl rfl));by_cases hkj:k< j
         ·have hkj' :(k:Int)<(j:Int):=by omega
          go_wp2_with fail;go_roundw
          case rel=>exact ⟨j+1,by omega,by omega,by go_num,Lib.hid (fun i h1 h2=>by by_cases h3:i=j;(subst h3;exact HH.out);exact HNO.out i h1 (by omega)),HB3⟩
          case measure=>simp [intOf];omega
         ·have hkj' :¬(k:Int)<(j:Int):=by omega
          go_wp2_with fail;go_roundw
          case rel=>exact ⟨j+1,by omega,by omega,by go_num,Lib.hid (fun i h1 h2=>by by_cases h3:i=j;(subst h3;exact HH.out);exact HNO.out i h1 (by omega)),HB3⟩
          case measure=>simp [intOf];omega
        |true=>
         have HLL:=Lib.hid (show L.length=j by have h:=HSS.out;unfold pO at h;simp at h;exact h.1);by_cases hkj:k< j
         ·have hkj' :(k:Int)<(j:Int):=by omega
          have hkl:(k:Int)<(L.length:Int):=by have:=HLL.out;omega
          obtain ⟨b2,o2,z,hA2,e2,hz⟩:=HR3.out.get k (by omega);subst hA2;obtain ⟨b',o',y,hA,e3,hy⟩:=(HR.out.below HB3.out).get (a+k) (by omega);injection hA with hA;injection hA with h1 h2;subst h1 h2;have HST:=Lib.hid (BB HSS.out hz.out hy.out);clear hz hy;go_wp2_with fail;go_quiet (fail);go_wp2_with fail;go_roundw
          case rel=>exact ⟨k+1,by omega,by go_num,by rw [HST.out];congr 1,Lib.hid (HR3.out.below (mR _)),Lib.hid (HB3.out.trans ((mR _).mono HB3.out.size))⟩
          case measure=>simp [intOf];omega
         ·have hkj' :¬(k:Int)<(j:Int):=by omega
          obtain rfl:k=j:=by omega
          have HH:=Lib.hid (HHIT.out true k HSS.out hk (.inr rfl));go_wp2_with fail;go_ret2;exact ⟨by rw [HRR.out,Am HNO.out hm1 h4 HH.out,HCH.out];rfl,HB3.out⟩
   ·have hfit' :¬(a:Int)+(m:Int)≤(B.length:Int):=by omega
    have HN0:=Lib.hid (qN (B:=B) (a:=a) (fun k h1 h2=>by
     by_cases hk:k< m
     ·exact HNO.out k h1 hk
     ·unfold jK
      rw [decide_eq_false (by omega),Bool.false_and]))
    go_wp2_with fail;go_ret2;exact ⟨by rw [HRR.out,HN0.out];rfl,HBw.out⟩
  ·have h4' :¬(m:Int)≤4:=by omega
   have HN0:=Lib.hid (qN (B:=B) (a:=a) (fun k h1 h2=>HNO.out k h1 (by omega)));go_wp2_with fail;go_ret2;exact ⟨by rw [HRR.out,HN0.out];rfl,HBw.out⟩
theorem JN (c x:Int):ny c= [x]↔0≤c∧c< 128∧x=c:=by
 unfold ny pU
 repeat' split
 all_goals (simp only [List.cons.injEq,and_true,List.cons_ne_nil,and_false,false_iff,reduceCtorEq])
 all_goals omega
theorem JE (c x y:Int):ny c= [x,y]↔128≤c∧c< 2048∧x=192+c / 64∧y=128+c % 64:=by
 unfold ny pU
 repeat' split
 all_goals (simp only [List.cons.injEq,and_true,List.cons_ne_nil,and_false,false_iff,reduceCtorEq])
 all_goals omega
theorem JI (c x y z:Int):ny c= [x,y,z]↔2048≤c∧c< 65536∧(c< 55296∨57343< c)∧x=224+c / 4096∧y=128+c / 64 % 64∧z=128+c % 64:=by
 unfold ny pU
 repeat' split
 all_goals (simp only [List.cons.injEq,and_true,List.cons_ne_nil,and_false,false_iff,reduceCtorEq])
 all_goals omega
theorem JF (c x y z v:Int):ny c= [x,y,z,v]↔65536≤c∧c≤1114111∧x=240+c / 262144∧y=128+c / 4096 % 64∧z=128+c / 64 % 64∧v=128+c % 64:=by
 unfold ny pU
 repeat' split
 all_goals (simp only [List.cons.injEq,and_true,List.cons_ne_nil,and_false,false_iff,reduceCtorEq])
 all_goals omega
theorem Gg {B l:List Int} {a:Nat} (hl:B.drop a=l) (h0:0< l.length) (n:Nat):jK B a n=(decide (n≤l.length) && decide (ny (iT (l.take n))=l.take n)):=by
 have h1:l.length=B.length - a:=by rw [←hl,List.length_drop]
 unfold jK;rw [hl];congr 1;exact decide_eq_decide.2 (by omega)
theorem Gd {B l:List Int} {a:Nat} (hB:∀x∈B,0≤x∧x≤255) (hl:B.drop a=l) {k:Nat} {n:Nat} (h:l[k]? =some (n:Int)):((strOfNums B).get! (a+k)).toNat=n∧n≤255:=by
 rw [←hl,List.getElem?_drop]at h;obtain ⟨hlt,he⟩:=List.getElem?_eq_some_iff.1 h;have hb:=hB _ (List.getElem_mem hlt);rw [he]at hb
 have h2:(strOfNums B).get! (a+k)=UInt8.ofNat n:=by
  show (strOfNums B).data[a+k]! =_
  unfold strOfNums;simp [getElem!_def,h]
 rw [h2];refine ⟨?_,by omega⟩;simp;omega
theorem Iy {B l:List Int} {a:Nat} (hB:∀x∈B,0≤x∧x≤255) (hl:B.drop a=l):((strOfNums B).extract a (a+3)).toList=(l.take 3).map (fun n=>UInt8.ofNat n.toNat):=by
 rw [ByteArray.toList_eq,ByteArray.data_extract,Array.toList_extract,strOfNums_data,List.extract_eq_take_drop,←List.map_drop,hl,List.map_take,show a+3 - a=3 by omega]
def uK (B:List Int) (a:Nat) (d:Nat×Nat):Prop:=
 (gu (strOfNums B) a d.1=true→iQ B a=((d.1:Int),((a+d.2:Nat):Int)))∧(gu (strOfNums B) a d.1=false→iQ B a=(-1,0))
theorem Aa {B l:List Int} {a:Nat} (hB:∀x∈B,0≤x∧x≤255) (ha:a< B.length) (hl:B.drop a=l) (c:Int):
  gu (strOfNums B) a c=(decide (c≠65533) ||decide (l.take 3= [239,191,189])):=by
 unfold gu;have hll:l.length=B.length - a:=by rw [←hl,List.length_drop]
 by_cases hc:c=65533
 ·rw [if_pos hc,Iy hB hl,strOfNums_size];simp only [hc,ne_eq,not_true_eq_false,decide_false,Bool.false_or];by_cases h3:a+3≤B.length
  ·rw [if_pos h3];have hbl:∀x∈l,0≤x∧x≤255:=fun x hx=>hB x (List.mem_of_mem_drop (hl ▸ hx))
   match l,hll,hbl with
   |x::y::z::r,_,hbl=>
    have hx:=hbl x (by simp);have hy:=hbl y (by simp);have hz:=hbl z (by simp);simp only [List.take_succ_cons,List.take_zero,List.map_cons,List.map_nil];rw [Bool.eq_iff_iff];simp only [beq_iff_eq,List.cons.injEq,and_true,decide_eq_true_eq,←UInt8.toNat_inj,UInt8.toNat_ofNat'];have e1:(239:UInt8).toNat=239:=rfl;have e2:(191:UInt8).toNat=191:=rfl;have e3:(189:UInt8).toNat=189:=rfl;rw [e1,e2,e3];omega
   | [],h,_=>simp at h;omega
   | [_],h,_=>simp at h;omega
   | [_,_],h,_=>simp at h;omega
  ·rw [if_neg h3]
   have:¬l.take 3= [239,191,189]:=fun h=>by
    have:=congrArg List.length h;simp at this;omega
   simp [this]
 ·rw [if_neg hc];simp [hc]
def at0 (l:List Int) (k:Nat):Nat:=(l[k]?.getD 0).toNat
theorem iq {B l:List Int} {a:Nat} (hB:∀x∈B,0≤x∧x≤255) (hl:B.drop a=l) (k:Nat):at0 l k≤255∧((strOfNums B).get! (a+k)).toNat=at0 l k∧(k< l.length→l[k]? =some (at0 l k:Int))∧(l.length≤k→at0 l k=0):=by
 unfold at0;rcases Nat.lt_or_ge k l.length with h|h
 ·obtain ⟨v,hv⟩:∃v,l[k]? =some v:=⟨_,List.getElem?_eq_getElem h⟩;have hm:v∈B:=List.mem_of_mem_drop (hl ▸ List.mem_of_getElem? hv);have hb:=hB v hm;obtain ⟨n,rfl⟩:=Int.eq_ofNat_of_zero_le hb.1;have:=Gd hB hl hv;simp only [hv,Option.getD_some,Int.toNat_natCast];exact ⟨this.2,this.1,fun _=>trivial,fun h' =>by omega⟩
 ·have hv:l[k]? =none:=List.getElem?_eq_none h;simp only [hv,Option.getD_none];refine ⟨by decide, ?_,fun h' =>by omega,fun _=>rfl⟩;show ((strOfNums B).data[a+k]!).toNat=_
  have h2:(strOfNums B).data[a+k]? =none:=by
   have h3:l.length=B.length - a:=by rw [←hl,List.length_drop]
   refine Array.getElem?_eq_none ?_;have:(strOfNums B).data.size=B.length:=by simp [strOfNums]
   omega
  simp [getElem!_def,h2];rfl
def c2M (x y:Nat):Nat:=x % 32 * 64+y % 64
def c3M (x y z:Nat):Nat:=x % 16 * 4096+y % 64 * 64+z % 64
def c4M (x y z v:Nat):Nat:=x % 8 * 262144+y % 64 * 4096+z % 64 * 64+v % 64
def P2 (x y:Nat):Prop:=x / 32=6∧y / 64=2∧128≤c2M x y
def P3 (x y z:Nat):Prop:=x / 16=14∧y / 64=2∧z / 64=2∧2048≤c3M x y z∧(c3M x y z< 55296∨57343< c3M x y z)
def P4 (x y z v:Nat):Prop:=x / 8=30∧y / 64=2∧z / 64=2∧v / 64=2∧65536≤c4M x y z v∧c4M x y z v≤1114111
theorem I4 {B l:List Int} {a:Nat} (hB:∀x∈B,0≤x∧x≤255) (hl:B.drop a=l) (ha:a< B.length):
  (at0 l 0< 128→Utf8.decode (strOfNums B) a=(at0 l 0,1))∧
  (P2 (at0 l 0) (at0 l 1)→Utf8.decode (strOfNums B) a=(c2M (at0 l 0) (at0 l 1),2))∧
  (P3 (at0 l 0) (at0 l 1) (at0 l 2)→Utf8.decode (strOfNums B) a=(c3M (at0 l 0) (at0 l 1) (at0 l 2),3))∧
  (P4 (at0 l 0) (at0 l 1) (at0 l 2) (at0 l 3)→Utf8.decode (strOfNums B) a=(c4M (at0 l 0) (at0 l 1) (at0 l 2) (at0 l 3),4))∧
  (¬at0 l 0< 128→¬P2 (at0 l 0) (at0 l 1)→¬P3 (at0 l 0) (at0 l 1) (at0 l 2)→¬P4 (at0 l 0) (at0 l 1) (at0 l 2) (at0 l 3)→Utf8.decode (strOfNums B) a=(65533,1)):=by
 have h3:l.length=B.length - a:=by rw [←hl,List.length_drop]
 obtain ⟨b0,g0, -, -⟩:=iq hB hl 0
 have hc:∀k,(decide (a+k<(strOfNums B).size) && at0 l k / 64==2)=decide (at0 l k / 64=2):=fun k=>by
  obtain ⟨-, -, -,h⟩:=iq hB hl k;rw [strOfNums_size,Bool.eq_iff_iff];simp only [Bool.and_eq_true,decide_eq_true_eq,beq_iff_eq];refine ⟨fun h=>h.2,fun h' =>⟨?_,h'⟩⟩;rcases Nat.lt_or_ge k l.length with g|g
  ·omega
  ·rw [h g]at h';cases h'
 have hd:Utf8.decode (strOfNums B) a=(if at0 l 0< 128 then (at0 l 0,1)
   else if at0 l 0 / 32=6∧at0 l 1 / 64=2 then (if 128≤c2M (at0 l 0) (at0 l 1)then (c2M (at0 l 0) (at0 l 1),2)else (65533,1))
   else if at0 l 0 / 16=14∧at0 l 1 / 64=2∧at0 l 2 / 64=2 then (if 2048≤c3M (at0 l 0) (at0 l 1) (at0 l 2)∧(c3M (at0 l 0) (at0 l 1) (at0 l 2)< 55296∨57343< c3M (at0 l 0) (at0 l 1) (at0 l 2))then (c3M (at0 l 0) (at0 l 1) (at0 l 2),3)else (65533,1))
   else if at0 l 0 / 8=30∧at0 l 1 / 64=2∧at0 l 2 / 64=2∧at0 l 3 / 64=2 then (if 65536≤c4M (at0 l 0) (at0 l 1) (at0 l 2) (at0 l 3)∧c4M (at0 l 0) (at0 l 1) (at0 l 2) (at0 l 3)≤1114111 then (c4M (at0 l 0) (at0 l 1) (at0 l 2) (at0 l 3),4)else (65533,1))
   else (65533,1)):=by
  unfold Utf8.decode;dsimp only;simp only [(iq hB hl 0).2.1,(iq hB hl 1).2.1,(iq hB hl 2).2.1,(iq hB hl 3).2.1,hc]
  have hv3:∀n:Nat,n< 65536→(Utf8.valid n=true↔(n< 55296∨57343< n)):=fun n hn=>by
   simp [Utf8.valid];omega
  have hv4:∀n:Nat,65536≤n→(Utf8.valid n=true↔n≤1114111):=fun n hn=>by
   simp [Utf8.valid];omega
  have k3:c3M (at0 l 0) (at0 l 1) (at0 l 2)< 65536:=by unfold c3M;omega
  congr 1
  ·simp only [Bool.and_eq_true,decide_eq_true_eq,beq_iff_eq,and_assoc,ge_iff_le];congr 1;congr 1
   ·exact ite_congr (propext (and_congr_right fun _=>hv3 _ k3)) (fun _=>rfl) (fun _=>rfl)
   ·congr 1;exact ite_congr (propext (and_congr_right fun h=>hv4 _ h)) (fun _=>rfl) (fun _=>rfl)
 rw [hd];clear hd hc;unfold P2 P3 P4;generalize at0 l 0=x at *;generalize at0 l 1=y at *;generalize at0 l 2=z at *;generalize at0 l 3=v at *;refine ⟨fun h=>if_pos h,fun h=> ?_,fun h=> ?_,fun h=> ?_,fun h1 h2 h4 h5=> ?_⟩
 ·rw [if_neg (by omega),if_pos ⟨h.1,h.2.1⟩,if_pos h.2.2]
 ·rw [if_neg (by omega),if_neg (by omega),if_pos ⟨h.1,h.2.1,h.2.2.1⟩,if_pos ⟨h.2.2.2.1,h.2.2.2.2⟩]
 ·rw [if_neg (by omega),if_neg (by omega),if_neg (by omega),if_pos ⟨h.1,h.2.1,h.2.2.1,h.2.2.2.1⟩,if_pos ⟨h.2.2.2.2.1,h.2.2.2.2.2⟩]
 ·rw [if_neg h1]
  repeat' split
  all_goals first|rfl|(exfalso;first|exact h2 ⟨by omega,by omega,by omega⟩|exact h4 ⟨by omega,by omega,by omega,by omega,by omega⟩|exact h5 ⟨by omega,by omega,by omega,by omega,by omega,by omega⟩)
theorem take_at {l:List Int} (h:∀k,k< l.length→l[k]? =some (at0 l k:Int)):
  (1≤l.length→l.take 1= [(at0 l 0:Int)])∧(2≤l.length→l.take 2= [(at0 l 0:Int),(at0 l 1:Int)])∧
  (3≤l.length→l.take 3= [(at0 l 0:Int),(at0 l 1:Int),(at0 l 2:Int)])∧(4≤l.length→l.take 4= [(at0 l 0:Int),(at0 l 1:Int),(at0 l 2:Int),(at0 l 3:Int)]):=by
 match l,h with
 | [],_=>simp
 | [x],h=>
  have h0:=h 0 (by simp);simp only [List.getElem?_cons_zero,Option.some.injEq]at h0;simp [←h0]
 | [x,y],h=>
  have h0:=h 0 (by simp);have h1:=h 1 (by simp);simp only [List.getElem?_cons_zero,List.getElem?_cons_succ,Option.some.injEq]at h0 h1;simp [←h0,←h1]
 | [x,y,z],h=>
  have h0:=h 0 (by simp);have h1:=h 1 (by simp);have h2:=h 2 (by simp);simp only [List.getElem?_cons_zero,List.getElem?_cons_succ,Option.some.injEq]at h0 h1 h2;simp [←h0,←h1,←h2]
 |x::y::z::v::r,h=>
  have h0:=h 0 (by simp);have h1:=h 1 (by simp);have h2:=h 2 (by simp);have h3:=h 3 (by simp);simp only [List.getElem?_cons_zero,List.getElem?_cons_succ,Option.some.injEq]at h0 h1 h2 h3;simp [←h0,←h1,←h2,←h3]
theorem hits {B l:List Int} {a:Nat} (hB:∀x∈B,0≤x∧x≤255) (hl:B.drop a=l) (ha:a< B.length):
  (jK B a 1=true↔at0 l 0< 128)∧(jK B a 2=true↔P2 (at0 l 0) (at0 l 1))∧(jK B a 3=true↔P3 (at0 l 0) (at0 l 1) (at0 l 2))∧(jK B a 4=true↔P4 (at0 l 0) (at0 l 1) (at0 l 2) (at0 l 3)):=by
 have h3:l.length=B.length - a:=by rw [←hl,List.length_drop]
 have h0:0< l.length:=by omega
 obtain ⟨t1,t2,t3,t4⟩:=take_at (fun k=>(iq hB hl k).2.2.1);have b0:=(iq hB hl 0).1;have b1:=(iq hB hl 1).1;have b2:=(iq hB hl 2).1;have b3:=(iq hB hl 3).1;have z1:=(iq hB hl 1).2.2.2;have z2:=(iq hB hl 2).2.2.2;have z3:=(iq hB hl 3).2.2.2;simp only [Gg hl h0,Bool.and_eq_true,decide_eq_true_eq];generalize at0 l 0=x at *;generalize at0 l 1=y at *;generalize at0 l 2=z at *;generalize at0 l 3=v at *;generalize l.length=L at *;clear hB hl;unfold P2 P3 P4 c2M c3M c4M;refine ⟨?_, ?_, ?_, ?_⟩
 ·rw [t1 h0,JN];simp only [iT,eO,jC,List.length_nil];omega
 ·by_cases h:2≤L
  ·rw [t2 h,JE];simp only [iT,eO,jC,List.length_nil,List.length_cons,if_pos];omega
  ·have:=z1 (by omega);omega
 ·by_cases h:3≤L
  ·rw [t3 h,JI];simp only [iT,eO,jC,List.length_nil,List.length_cons,show (0+1+1+1=2)=False by simp,if_false,if_pos];omega
  ·have:=z2 (by omega);omega
 ·by_cases h:4≤L
  ·rw [t4 h,JF];simp only [iT,eO,jC,List.length_nil,List.length_cons,show (0+1+1+1+1=2)=False by simp,show (0+1+1+1+1=3)=False by simp,if_false,if_pos];omega
  ·have:=z3 (by omega);omega
theorem Cr {B:List Int} {a:Nat} (hB:∀x∈B,0≤x∧x≤255) (ha:a< B.length):uK B a (Utf8.decode (strOfNums B) a):=by
 obtain ⟨l,hl⟩:∃l,B.drop a=l:=⟨_,rfl⟩;have h3:l.length=B.length - a:=by rw [←hl,List.length_drop]
 have h0:0< l.length:=by omega
 obtain ⟨d1,d2,d3,d4,d5⟩:=I4 hB hl ha;obtain ⟨g1,g2,g3,g4⟩:=hits hB hl ha;obtain ⟨t1,t2,t3,t4⟩:=take_at (fun k=>(iq hB hl k).2.2.1);have z1:=(iq hB hl 1).2.2.2;have z2:=(iq hB hl 2).2.2.2;have z3:=(iq hB hl 3).2.2.2;have b0:=(iq hB hl 0).1;unfold uK iQ;simp only [Aa hB ha hl,hl];generalize at0 l 0=x at *;generalize at0 l 1=y at *;generalize at0 l 2=z at *;generalize at0 l 3=v at *;by_cases p1:x< 128
 ·rw [d1 p1,g1.2 p1,if_pos rfl,t1 h0];have:(x:Int)≠65533:=by omega
  simp [iT,eO,jC,this]
 ·have f1:jK B a 1=false:=Bool.eq_false_iff.2 (fun h=>p1 (g1.1 h));rw [f1];by_cases p2:P2 x y
  ·have hL:2≤l.length:=Nat.le_of_not_lt fun h=>by have:=z1 (by omega);unfold P2 at p2;omega
   have hc:(64 * ((x:Int) - 192)+y - 128)=(c2M x y:Nat):=by unfold P2 c2M at *;omega
   have hn:((c2M x y:Nat):Int)≠65533:=by unfold c2M;omega
   rw [d2 p2,g2.2 p2,if_neg (by decide),if_pos rfl,t2 hL];simp [iT,eO,jC,hc,hn]
  ·have f2:jK B a 2=false:=Bool.eq_false_iff.2 (fun h=>p2 (g2.1 h));rw [f2];by_cases p3:P3 x y z
   ·have hL:3≤l.length:=Nat.le_of_not_lt fun h=>by have:=z2 (by omega);unfold P3 at p3;omega
    have hc:(64 * (64 * ((x:Int) - 224)+y - 128)+z - 128)=(c3M x y z:Nat):=by unfold P3 c3M at *;omega
    have hr:(decide (((c3M x y z:Nat):Int)≠65533) ||decide (l.take 3= [239,191,189]))=true:=by
     rw [t3 hL];by_cases hq:((c3M x y z:Nat):Int)=65533
     ·have:(x:Int)=239∧(y:Int)=191∧(z:Int)=189:=by unfold P3 c3M at *;omega
      simp [this]
     ·simp [hq]
    rw [d3 p3,g3.2 p3,if_neg (by decide),if_neg (by decide),if_pos rfl];dsimp only;rw [hr,t3 hL];refine ⟨fun _=> ?_,fun h=>by cases h⟩;simp [iT,eO,jC,hc]
   ·have f3:jK B a 3=false:=Bool.eq_false_iff.2 (fun h=>p3 (g3.1 h));rw [f3];by_cases p4:P4 x y z v
    ·have hL:4≤l.length:=Nat.le_of_not_lt fun h=>by have:=z3 (by omega);unfold P4 at p4;omega
     have hc:(64 * (64 * (64 * ((x:Int) - 240)+y - 128)+z - 128)+v - 128)=(c4M x y z v:Nat):=by unfold P4 c4M at *;omega
     have hn:((c4M x y z v:Nat):Int)≠65533:=by unfold P4 at p4;omega
     rw [d4 p4,g4.2 p4,if_neg (by decide),if_neg (by decide),if_neg (by decide),if_pos rfl,t4 hL];simp [iT,eO,jC,hc,hn]
    ·have f4:jK B a 4=false:=Bool.eq_false_iff.2 (fun h=>p4 (g4.1 h));rw [d5 p1 p2 p3 p4,f4,if_neg (by decide),if_neg (by decide),if_neg (by decide),if_neg (by decide)]
     have hr:¬l.take 3= [239,191,189]:=fun h=>by
      have hL:3≤l.length:=by have:=congrArg List.length h;simp at this;omega
      rw [t3 hL]at h;simp only [List.cons.injEq,and_true]at h;apply p3;unfold P3 c3M;omega
     simp [hr]
theorem Ak {B:List Int} {a:Nat} (hB:∀x∈B,0≤x∧x≤255) (h:0≤(iQ B a).1):∃n,(iQ B a).2=((a+n:Nat):Int)∧1≤n∧a+n≤B.length:=by
 unfold iQ at *;have hh:∀k,jK B a k=true→a+k≤B.length:=fun k h=>by unfold jK at h;simp at h;exact h.1
 split
 next h1=>exact ⟨1,rfl,by omega,hh _ h1⟩
 split
 next h1=>exact ⟨2,rfl,by omega,hh _ h1⟩
 split
 next h1=>exact ⟨3,rfl,by omega,hh _ h1⟩
 split
 next h1=>exact ⟨4,rfl,by omega,hh _ h1⟩
 next h1 h2 h3 h4=>
  rw [if_neg h1,if_neg h2,if_neg h3,if_neg h4]at h;exact absurd h (by decide)
def nJ (B:List Int):Nat→Nat→Bool
 |0,_=>true
 |f+1,a=>if a< B.length then (if 0≤(iQ B a).1 then nJ B f (iQ B a).2.toNat else false)else true
theorem yT {B:List Int} (hB:∀x∈B,0≤x∧x≤255):∀(f a:Nat),nJ B f a=lI (strOfNums B) f a
 |0,_=>rfl
 |f+1,a=>by
  rw [nJ,lI,strOfNums_size];by_cases ha:a< B.length
  ·rw [if_pos ha,if_pos ha];have hL:=Cr hB ha;generalize Utf8.decode (strOfNums B) a=d at *;obtain ⟨c,wd⟩:=d;unfold uK at hL;dsimp only at hL ⊢
   cases hr:gu (strOfNums B) a c with
   |true=>
    rw [hL.1 hr,if_pos (by show (0:Int)≤(c:Int);omega)];simp only [Bool.true_and,Int.toNat_natCast];exact yT hB f _
   |false=>
    rw [hL.2 hr,if_neg (by decide)];simp
  ·rw [if_neg ha,if_neg ha]
end Go.Proofs.YtofaiocffifhfaaGreat
