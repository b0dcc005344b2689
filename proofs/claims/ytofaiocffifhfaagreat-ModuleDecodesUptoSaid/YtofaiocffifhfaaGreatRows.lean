/-
  No cell of these rows narrows 'for every input' (looked for: loops, veiled, ifaces, maps, wideKeys, modest, calm, conditions, laid).
  DERIVED. THE GIVEN ROWS OF THIS SEAT. 4 by the template 'for every input the law returns true; each argument reads behind the call as it read before'; 0 by the template 'total and deterministic' (their statements: YtofaiocffifhfaaGreatTotals.lean).
  GIVEN WITH THE SEED: the statements are not yours to turn. If you find one false, say at which input.
  Laid BY PROGRAM, IN A SANDBOX (cutbox-rows.mjs): the forced cells as the released guide's own fill.sh prints them over the translation 9d63ed7e420ec31c… (all of the seat's roots in one cut). By AI agents, Wed Nov 11 2026. No macro, syntax, notation, axiom, sorry.
-/
import Derived.Test.YtofaiocffifhfaaGreatChecked
import GoSem.Claim
import GoSem.ClaimJoined
import GoSem.ClaimMapViews
import Derived.JoinedTies
import Derived.KernelRfl
namespace Go.Proofs.YtofaiocffifhfaaGreat
/- THE CELL 'sum', in the pinned program and in every row, IS THE sha256 OF THE DUMP (.gsa) THAT YtofaiocffifhfaaGreatProg.lean LOADS. Nothing in Lean hashes anything: it is a label: what it is worth is what the hold of that sum in a sandbox is worth. -/
noncomputable def Tryz.pinned : Pinned := { name := "ytofaiocffifhfaagreat", sum := "9d63ed7e420ec31cb661e8a6a6a8f6f3c93f570986bb8cb1f9cdb01ca9155b79", checked := Tryz.checked }
namespace Rows
def none {H : Type} : Left H := { results := [], args := [] }

/-- 'trunnionlaw20.ModuleDecodes': WHATEVER THE INPUT: true; the input reads as it did. -/
def moduleDecodesSpec : ChangeSpec := { name := "moduleDecodes", fn := fun _ => fun
  | [d1, d2] => { results := [.lit (.bool true)], args := [d1, d2] }
  | _ => none }
def moduleDecodesRow : OpenClaim := { program := "ytofaiocffifhfaagreat", sum := "9d63ed7e420ec31cb661e8a6a6a8f6f3c93f570986bb8cb1f9cdb01ca9155b79", func := "trunnion/trunnionlaw20.ModuleDecodes", spec := "moduleDecodes", unfollowed := true, recurses := true, apart := false }
def ModuleDecodesSaid : Prop := moduleDecodesRow.holds Tryz.pinned (OpenSpec.ofChange moduleDecodesSpec)

/-- ITS FALSE NEIGHBOUR: 'it returns false'. Refute it at one input. -/
def moduleDecodesWrong : ChangeSpec := { name := "moduleDecodes", fn := fun _ => fun
  | [d1, d2] => { results := [.lit (.bool false)], args := [d1, d2] }
  | _ => none }
def ModuleDecodesWrongFalsely : Prop := moduleDecodesRow.holds Tryz.pinned (OpenSpec.ofChange moduleDecodesWrong)

/-- 'trunnionlaw20.ModuleLocals': WHATEVER THE INPUT: true; the input reads as it did. -/
def moduleLocalsSpec : ChangeSpec := { name := "moduleLocals", fn := fun _ => fun
  | [d] => { results := [.lit (.bool true)], args := [d] }
  | _ => none }
def moduleLocalsRow : OpenClaim := { program := "ytofaiocffifhfaagreat", sum := "9d63ed7e420ec31cb661e8a6a6a8f6f3c93f570986bb8cb1f9cdb01ca9155b79", func := "trunnion/trunnionlaw20.ModuleLocals", spec := "moduleLocals", unfollowed := true, recurses := true, apart := false }
def ModuleLocalsSaid : Prop := moduleLocalsRow.holds Tryz.pinned (OpenSpec.ofChange moduleLocalsSpec)

/-- ITS FALSE NEIGHBOUR: 'it returns false'. Refute it at one input. -/
def moduleLocalsWrong : ChangeSpec := { name := "moduleLocals", fn := fun _ => fun
  | [d] => { results := [.lit (.bool false)], args := [d] }
  | _ => none }
def ModuleLocalsWrongFalsely : Prop := moduleLocalsRow.holds Tryz.pinned (OpenSpec.ofChange moduleLocalsWrong)

/-- 'trunnionlaw20.ModuleCustom': WHATEVER THE INPUT: true; the input reads as it did. -/
def moduleCustomSpec : ChangeSpec := { name := "moduleCustom", fn := fun _ => fun
  | [d1, d2, d3] => { results := [.lit (.bool true)], args := [d1, d2, d3] }
  | _ => none }
def moduleCustomRow : OpenClaim := { program := "ytofaiocffifhfaagreat", sum := "9d63ed7e420ec31cb661e8a6a6a8f6f3c93f570986bb8cb1f9cdb01ca9155b79", func := "trunnion/trunnionlaw20.ModuleCustom", spec := "moduleCustom", unfollowed := true, recurses := true, apart := false }
def ModuleCustomSaid : Prop := moduleCustomRow.holds Tryz.pinned (OpenSpec.ofChange moduleCustomSpec)

/-- ITS FALSE NEIGHBOUR: 'it returns false'. Refute it at one input. -/
def moduleCustomWrong : ChangeSpec := { name := "moduleCustom", fn := fun _ => fun
  | [d1, d2, d3] => { results := [.lit (.bool false)], args := [d1, d2, d3] }
  | _ => none }
def ModuleCustomWrongFalsely : Prop := moduleCustomRow.holds Tryz.pinned (OpenSpec.ofChange moduleCustomWrong)

/-- 'trunnionlaw20.ModuleCut': WHATEVER THE INPUT: true; the input reads as it did. -/
def moduleCutSpec : ChangeSpec := { name := "moduleCut", fn := fun _ => fun
  | [d1, d2, d3] => { results := [.lit (.bool true)], args := [d1, d2, d3] }
  | _ => none }
def moduleCutRow : OpenClaim := { program := "ytofaiocffifhfaagreat", sum := "9d63ed7e420ec31cb661e8a6a6a8f6f3c93f570986bb8cb1f9cdb01ca9155b79", func := "trunnion/trunnionlaw20.ModuleCut", spec := "moduleCut", unfollowed := true, recurses := true, apart := false }
def ModuleCutSaid : Prop := moduleCutRow.holds Tryz.pinned (OpenSpec.ofChange moduleCutSpec)

/-- ITS FALSE NEIGHBOUR: 'it returns false'. Refute it at one input. -/
def moduleCutWrong : ChangeSpec := { name := "moduleCut", fn := fun _ => fun
  | [d1, d2, d3] => { results := [.lit (.bool false)], args := [d1, d2, d3] }
  | _ => none }
def ModuleCutWrongFalsely : Prop := moduleCutRow.holds Tryz.pinned (OpenSpec.ofChange moduleCutWrong)

/- THE SECOND FORM. 'bulk': how many values and letters a reading holds, each counted each time it is reached (what is shared counts as often as it is met; a slice's spare places count too). A statement '..UptoSaid' is the law's where the arguments, and the package variables that the reading takes, are together of bulk at most 1048576: NARROWER than '..Said'. Prove '..Said' where nothing that the law and all that it calls make is longer than what came in: it says more and counts as full. Else prove '..UptoSaid'. A law counts once. -/
mutual
def uptoBulk {H : Type} : DataW H → Nat
  | .lit (.string bytes) => bytes.length + 1
  | .lit _ => 1
  | .nil => 1
  | .ptr d => uptoBulk d + 1
  | .slice elems spare => uptoBulkAll elems + uptoBulkAll spare + 1
  | .agg parts => uptoBulkAll parts + 1
  | .iface _ d => uptoBulk d + 1
  | .map entries => uptoBulkEntries entries + 1
  | .held _ => 1
def uptoBulkAll {H : Type} : List (DataW H) → Nat
  | [] => 0
  | d :: r => uptoBulk d + uptoBulkAll r
def uptoBulkEntries {H : Type} : List (Lit × DataW H) → Nat
  | [] => 0
  | x :: r => uptoBulkEntry x + uptoBulkEntries r
def uptoBulkEntry {H : Type} : Lit × DataW H → Nat
  | (.string bytes, d) => bytes.length + uptoBulk d + 1
  | (_, d) => uptoBulk d + 1
 end
def uptoSmall : (H : Type) → List (DataW H) → Bool := fun _ ds => decide (uptoBulkAll ds ≤ 1048576)
def OpenSpec.upto (s : _root_.Go.ChangeSpec) : _root_.Go.OpenSpec := { _root_.Go.OpenSpec.ofChange s with cond := some uptoSmall }

/-- 'trunnionlaw20.ModuleDecodes', WHERE WHAT IT READS IS OF BULK AT MOST 1048576: true; the input reads as it did. -/
def moduleDecodesUptoRow : OpenClaim := { program := "ytofaiocffifhfaagreat", sum := "9d63ed7e420ec31cb661e8a6a6a8f6f3c93f570986bb8cb1f9cdb01ca9155b79", func := "trunnion/trunnionlaw20.ModuleDecodes", spec := "moduleDecodes", unfollowed := true, recurses := true, apart := false, narrowed := true }
def ModuleDecodesUptoSaid : Prop := moduleDecodesUptoRow.holds Tryz.pinned (OpenSpec.upto moduleDecodesSpec)

/-- 'trunnionlaw20.ModuleLocals', WHERE WHAT IT READS IS OF BULK AT MOST 1048576: true; the input reads as it did. -/
def moduleLocalsUptoRow : OpenClaim := { program := "ytofaiocffifhfaagreat", sum := "9d63ed7e420ec31cb661e8a6a6a8f6f3c93f570986bb8cb1f9cdb01ca9155b79", func := "trunnion/trunnionlaw20.ModuleLocals", spec := "moduleLocals", unfollowed := true, recurses := true, apart := false, narrowed := true }
def ModuleLocalsUptoSaid : Prop := moduleLocalsUptoRow.holds Tryz.pinned (OpenSpec.upto moduleLocalsSpec)

/-- 'trunnionlaw20.ModuleCustom', WHERE WHAT IT READS IS OF BULK AT MOST 1048576: true; the input reads as it did. -/
def moduleCustomUptoRow : OpenClaim := { program := "ytofaiocffifhfaagreat", sum := "9d63ed7e420ec31cb661e8a6a6a8f6f3c93f570986bb8cb1f9cdb01ca9155b79", func := "trunnion/trunnionlaw20.ModuleCustom", spec := "moduleCustom", unfollowed := true, recurses := true, apart := false, narrowed := true }
def ModuleCustomUptoSaid : Prop := moduleCustomUptoRow.holds Tryz.pinned (OpenSpec.upto moduleCustomSpec)

/-- 'trunnionlaw20.ModuleCut', WHERE WHAT IT READS IS OF BULK AT MOST 1048576: true; the input reads as it did. -/
def moduleCutUptoRow : OpenClaim := { program := "ytofaiocffifhfaagreat", sum := "9d63ed7e420ec31cb661e8a6a6a8f6f3c93f570986bb8cb1f9cdb01ca9155b79", func := "trunnion/trunnionlaw20.ModuleCut", spec := "moduleCut", unfollowed := true, recurses := true, apart := false, narrowed := true }
def ModuleCutUptoSaid : Prop := moduleCutUptoRow.holds Tryz.pinned (OpenSpec.upto moduleCutSpec)

end Rows
end Go.Proofs.YtofaiocffifhfaaGreat
