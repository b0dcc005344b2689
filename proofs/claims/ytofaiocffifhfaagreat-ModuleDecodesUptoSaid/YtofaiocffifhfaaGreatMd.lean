/- trunnionlaw20.ModuleDecodes returns true and leaves its arguments as they were, for every input; condition: the arguments are together of bulk at most 1048576 (the given statement's own bound). -/
import Derived.Test.YtofaiocffifhfaaGreatMd11
import Derived.Deep.CondSized
set_option maxRecDepth 100000
set_option maxHeartbeats 8000000
set_option linter.unusedVariables false
set_option linter.unusedSimpArgs false
namespace Go.Proofs.YtofaiocffifhfaaGreat.moduleDecodesRow
open Go.ChangeShapes Go.WideShapes Go.ChangeAt Go.RowKit YtofaiocffifhfaaGreatB Go.Proofs.YtofaiocffifhfaaGreatW.PrintWords
open Go.ChangeMaps (open_string shut_string)
theorem own:ownKnob Tryz.prog.godebug=none:=by kernel_rfl
theorem laidOut:laidOutB Tryz.prog=true:=by kernel_rfl
theorem lifted (os:Os) (started:os.Started) (H:Type) (enc:TypeId×Value→H) (F:Stop.Interp):
  ReturnsInHanded {} Tryz.checked os 3 .any ((Rows.OpenSpec.upto Rows.moduleDecodesSpec).pre6 enc Tryz.prog Tryz.f3 Rows.moduleDecodesUptoRow.domain false) (((Rows.OpenSpec.upto Rows.moduleDecodesSpec).at F).post enc Tryz.prog Tryz.f3 false true false false):=by
 refine returnsInHanded_of_cond (C:=Tryz.checked) (s:=Rows.OpenSpec.upto Rows.moduleDecodesSpec) (k:=Rows.uptoSmall) rfl own started (by kernel_rfl) Tryz.func3
  (OpenSpec.witness (enc:=enc) (C:=Tryz.checked) (s:=Rows.OpenSpec.upto Rows.moduleDecodesSpec) (k:=Rows.uptoSmall) rfl false ⟨#[],#[.slice none 0 0, .bool false], []⟩ 8 (by kernel_rfl) (by kernel_rfl) (by kernel_rfl)
   (x:=([.nil, .lit (.bool false)], [], [])) (by kernel_rfl) rfl (by kernel_rfl)) ?_
 intro W base args ds gs before hval0 hW _ hk _;have hval:∀(j:Nat) t v,Tryz.f3.params[j]? =some t→args[j]? =some v→Value.okWide Tryz.prog W .any base t v:=hval0;have hW' :=hW;obtain ⟨p,q,hA0,hV,rfl,hfz,hnd⟩:=hW;have hA:DataW.TrodAll enc Tryz.prog W 0 (fun _=>true) true Tryz.f3.params.toList args.toList ds p:=hA0;rw [Tryz.params3]at hA hval;obtain ⟨v0,vs0,d0,ds0,p0,q0,hargs,rfl,rfl,h0,r0⟩:=trodAll_cons hA;obtain ⟨v1,vs1,d1,ds1,p1,q1,rfl,rfl,rfl,h1,r1⟩:=trodAll_cons r0;obtain ⟨rfl,rfl,rfl⟩:=trodAll_nil r1;obtain rfl:args=#[v0,v1]:=by cases args;simp_all
 obtain ⟨rfl,rfl⟩:=trodVars_none hV;have k0:=h0;have lt0:∀x∈p0,x.block< W.heap.size:=by obtain ⟨m,hm⟩:=k0;exact DataW.trod_lt m _ _ _ hm
 obtain ⟨fuel0,hf0⟩:=h0;obtain ⟨a0,ha0,hb0⟩:=(zV fuel0).opens enc W 0 _ _ fuel0 _ _ (by omega) hf0;have hb0' :_≤Rows.uptoBulk d0:=hb0;obtain ⟨A0,len0,cap0,rfl⟩:=okWide_slice Tryz.underlying22 (hval 0 22 v0 rfl rfl);have k1:=h1;have lt1:∀x∈p1,x.block< W.heap.size:=by obtain ⟨m,hm⟩:=k1;exact DataW.trod_lt m _ _ _ hm
 obtain ⟨fuel1,hf1⟩:=h1;obtain ⟨a1,ha1,hb1⟩:=(Gc fuel1).opens enc W 0 _ _ fuel1 _ _ (by omega) hf1;have hb1' :_≤Rows.uptoBulk d1:=hb1;obtain ⟨n1,rfl⟩:=okWide_bool Tryz.underlying4 (hval 1 4 v1 rfl rfl)
 have hbulk:Rows.uptoBulkAll [d0,d1]≤1048576:=by
  have:=of_decide_eq_true hk;simpa using this
 simp only [Rows.uptoBulkAll]at hbulk;clear hA0 hval0 hk;refine (nu W a0 a1 ha0 ha1 (by omega)).mono fun e W' ⟨he,bel⟩=> ?_
 subst he;exact ⟨_,rfl,_,_,_, [],_, [],hW',trodAll_mk1 (shut_bool Tryz.underlying4 _),(trodAll_cons_mk (Below.trod laidOut (by kernel_rfl) (of_decide_eq_true (by kernel_rfl)) k0 bel lt0) (trodAll_cons_mk (Below.trod laidOut (by kernel_rfl) (of_decide_eq_true (by kernel_rfl)) k1 bel lt1) trodAll_mk0)),rfl,bel.frame _,fun h=>by cases h⟩
theorem over:Rows.moduleDecodesUptoRow.holds Tryz.pinned (Rows.OpenSpec.upto Rows.moduleDecodesSpec):=
 OpenClaim.holds_of_cond 3 Tryz.f3 rfl rfl rfl rfl rfl rfl rfl ⟨rfl,rfl,rfl,rfl,rfl⟩ rfl rfl rfl rfl rfl (by kernel_rfl) Tryz.func3 (by kernel_rfl)
  (of_decide_eq_true (by kernel_rfl)) (by unfold Func.isWrapper;first|(rw [if_pos (by decide+kernel)];kernel_rfl)|(rw [if_neg (by decide+kernel)];exact ⟨rfl,rfl⟩))
  (fun os started H enc _ F=>lifted os started H enc F)
end Go.Proofs.YtofaiocffifhfaaGreat.moduleDecodesRow
namespace Go.Proofs.YtofaiocffifhfaaGreat
theorem moduleDecodes_holds:Rows.ModuleDecodesUptoSaid:=moduleDecodesRow.over
#print axioms moduleDecodes_holds
end Go.Proofs.YtofaiocffifhfaaGreat
