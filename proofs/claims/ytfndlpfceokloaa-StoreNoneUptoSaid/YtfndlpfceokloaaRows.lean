/-
  NARROWER THAN 'FOR EVERY INPUT', by the rows' own cells (each row's printed sentence says how): CostTells: loops · CodeCounts: loops.
  DERIVED. THE GIVEN ROWS OF THIS SEAT. 11 by the template 'for every input the law returns true; each argument reads behind the call as it read before'; 0 by the template 'total and deterministic' (their statements: YtfndlpfceokloaaTotals.lean).
  GIVEN WITH THE SEED: the statements are not yours to turn. If you find one false, say at which input.
  Laid BY PROGRAM, IN A SANDBOX (cutbox-rows.mjs): the forced cells as the released guide's own fill.sh prints them over the translation df11dc42dfe3d022… (all of the seat's roots in one cut). By AI agents, Wed Nov 11 2026. No macro, syntax, notation, axiom, sorry.
-/
import Derived.Test.YtfndlpfceokloaaChecked
import GoSem.Claim
import GoSem.ClaimJoined
import GoSem.ClaimMapViews
import Derived.JoinedTies
import Derived.KernelRfl
namespace Go.Proofs.Ytfndlpfceokloaa
/- THE CELL 'sum', in the pinned program and in every row, IS THE sha256 OF THE DUMP (.gsa) THAT YtfndlpfceokloaaProg.lean LOADS. Nothing in Lean hashes anything: it is a label: what it is worth is what the hold of that sum in a sandbox is worth. -/
noncomputable def Try.pinned : Pinned := { name := "ytfndlpfceokloaa", sum := "df11dc42dfe3d022b3c1bfa76bb9c92128a22daeddcbd32788df545ca0003ecf", checked := Try.checked }
namespace Rows
def none {H : Type} : Left H := { results := [], args := [] }

/-- 'trunnionlaw26.CellsKeeps': WHATEVER THE INPUT: true; the input reads as it did. -/
def cellsKeepsSpec : ChangeSpec := { name := "cellsKeeps", fn := fun _ => fun
  | [d1, d2, d3] => { results := [.lit (.bool true)], args := [d1, d2, d3] }
  | _ => none }
def cellsKeepsRow : OpenClaim := { program := "ytfndlpfceokloaa", sum := "df11dc42dfe3d022b3c1bfa76bb9c92128a22daeddcbd32788df545ca0003ecf", func := "trunnion/trunnionlaw26.CellsKeeps", spec := "cellsKeeps", apart := false }
def CellsKeepsSaid : Prop := cellsKeepsRow.holds Try.pinned (OpenSpec.ofChange cellsKeepsSpec)

/-- ITS FALSE NEIGHBOUR: 'it returns false'. Refute it at one input. -/
def cellsKeepsWrong : ChangeSpec := { name := "cellsKeeps", fn := fun _ => fun
  | [d1, d2, d3] => { results := [.lit (.bool false)], args := [d1, d2, d3] }
  | _ => none }
def CellsKeepsWrongFalsely : Prop := cellsKeepsRow.holds Try.pinned (OpenSpec.ofChange cellsKeepsWrong)

/-- 'trunnionlaw26.CellsTables': WHATEVER THE INPUT: true; the input reads as it did. -/
def cellsTablesSpec : ChangeSpec := { name := "cellsTables", fn := fun _ => fun
  | [d1, d2] => { results := [.lit (.bool true)], args := [d1, d2] }
  | _ => none }
def cellsTablesRow : OpenClaim := { program := "ytfndlpfceokloaa", sum := "df11dc42dfe3d022b3c1bfa76bb9c92128a22daeddcbd32788df545ca0003ecf", func := "trunnion/trunnionlaw26.CellsTables", spec := "cellsTables", apart := false }
def CellsTablesSaid : Prop := cellsTablesRow.holds Try.pinned (OpenSpec.ofChange cellsTablesSpec)

/-- ITS FALSE NEIGHBOUR: 'it returns false'. Refute it at one input. -/
def cellsTablesWrong : ChangeSpec := { name := "cellsTables", fn := fun _ => fun
  | [d1, d2] => { results := [.lit (.bool false)], args := [d1, d2] }
  | _ => none }
def CellsTablesWrongFalsely : Prop := cellsTablesRow.holds Try.pinned (OpenSpec.ofChange cellsTablesWrong)

/-- 'trunnionlaw38.CostTells': WHATEVER THE INPUT: true; the input reads as it did. -/
def costTellsSpec : ChangeSpec := { name := "costTells", fn := fun _ => fun
  | [d] => { results := [.lit (.bool true)], args := [d] }
  | _ => none }
def costTellsRow : OpenClaim := { program := "ytfndlpfceokloaa", sum := "df11dc42dfe3d022b3c1bfa76bb9c92128a22daeddcbd32788df545ca0003ecf", func := "trunnion/trunnionlaw38.CostTells", spec := "costTells", unfollowed := true, recurses := true, loops := true, apart := false }
def CostTellsSaid : Prop := costTellsRow.holds Try.pinned (OpenSpec.ofChange costTellsSpec)

/-- ITS FALSE NEIGHBOUR: 'it returns false'. Refute it at one input. -/
def costTellsWrong : ChangeSpec := { name := "costTells", fn := fun _ => fun
  | [d] => { results := [.lit (.bool false)], args := [d] }
  | _ => none }
def CostTellsWrongFalsely : Prop := costTellsRow.holds Try.pinned (OpenSpec.ofChange costTellsWrong)

/-- 'trunnionlaw26.CellsNone': WHATEVER THE INPUT: true; the input reads as it did. -/
def cellsNoneSpec : ChangeSpec := { name := "cellsNone", fn := fun _ => fun
  | [d1, d2] => { results := [.lit (.bool true)], args := [d1, d2] }
  | _ => none }
def cellsNoneRow : OpenClaim := { program := "ytfndlpfceokloaa", sum := "df11dc42dfe3d022b3c1bfa76bb9c92128a22daeddcbd32788df545ca0003ecf", func := "trunnion/trunnionlaw26.CellsNone", spec := "cellsNone", apart := false }
def CellsNoneSaid : Prop := cellsNoneRow.holds Try.pinned (OpenSpec.ofChange cellsNoneSpec)

/-- ITS FALSE NEIGHBOUR: 'it returns false'. Refute it at one input. -/
def cellsNoneWrong : ChangeSpec := { name := "cellsNone", fn := fun _ => fun
  | [d1, d2] => { results := [.lit (.bool false)], args := [d1, d2] }
  | _ => none }
def CellsNoneWrongFalsely : Prop := cellsNoneRow.holds Try.pinned (OpenSpec.ofChange cellsNoneWrong)

/-- 'trunnionlaw26.CellsGlobals': WHATEVER THE INPUT: true; the input reads as it did. -/
def cellsGlobalsSpec : ChangeSpec := { name := "cellsGlobals", fn := fun _ => fun
  | [d1, d2, d3] => { results := [.lit (.bool true)], args := [d1, d2, d3] }
  | _ => none }
def cellsGlobalsRow : OpenClaim := { program := "ytfndlpfceokloaa", sum := "df11dc42dfe3d022b3c1bfa76bb9c92128a22daeddcbd32788df545ca0003ecf", func := "trunnion/trunnionlaw26.CellsGlobals", spec := "cellsGlobals", apart := false }
def CellsGlobalsSaid : Prop := cellsGlobalsRow.holds Try.pinned (OpenSpec.ofChange cellsGlobalsSpec)

/-- ITS FALSE NEIGHBOUR: 'it returns false'. Refute it at one input. -/
def cellsGlobalsWrong : ChangeSpec := { name := "cellsGlobals", fn := fun _ => fun
  | [d1, d2, d3] => { results := [.lit (.bool false)], args := [d1, d2, d3] }
  | _ => none }
def CellsGlobalsWrongFalsely : Prop := cellsGlobalsRow.holds Try.pinned (OpenSpec.ofChange cellsGlobalsWrong)

/-- 'trunnionlaw28.StoreOwn': WHATEVER THE INPUT: true; the input reads as it did. -/
def storeOwnSpec : ChangeSpec := { name := "storeOwn", fn := fun _ => fun
  | [d1, d2] => { results := [.lit (.bool true)], args := [d1, d2] }
  | _ => none }
def storeOwnRow : OpenClaim := { program := "ytfndlpfceokloaa", sum := "df11dc42dfe3d022b3c1bfa76bb9c92128a22daeddcbd32788df545ca0003ecf", func := "trunnion/trunnionlaw28.StoreOwn", spec := "storeOwn", apart := false }
def StoreOwnSaid : Prop := storeOwnRow.holds Try.pinned (OpenSpec.ofChange storeOwnSpec)

/-- ITS FALSE NEIGHBOUR: 'it returns false'. Refute it at one input. -/
def storeOwnWrong : ChangeSpec := { name := "storeOwn", fn := fun _ => fun
  | [d1, d2] => { results := [.lit (.bool false)], args := [d1, d2] }
  | _ => none }
def StoreOwnWrongFalsely : Prop := storeOwnRow.holds Try.pinned (OpenSpec.ofChange storeOwnWrong)

/-- 'trunnionlaw28.StoreNone': WHATEVER THE INPUT: true; the input reads as it did. -/
def storeNoneSpec : ChangeSpec := { name := "storeNone", fn := fun _ => fun
  | [d] => { results := [.lit (.bool true)], args := [d] }
  | _ => none }
def storeNoneRow : OpenClaim := { program := "ytfndlpfceokloaa", sum := "df11dc42dfe3d022b3c1bfa76bb9c92128a22daeddcbd32788df545ca0003ecf", func := "trunnion/trunnionlaw28.StoreNone", spec := "storeNone", unfollowed := true, recurses := true, apart := false }
def StoreNoneSaid : Prop := storeNoneRow.holds Try.pinned (OpenSpec.ofChange storeNoneSpec)

/-- ITS FALSE NEIGHBOUR: 'it returns false'. Refute it at one input. -/
def storeNoneWrong : ChangeSpec := { name := "storeNone", fn := fun _ => fun
  | [d] => { results := [.lit (.bool false)], args := [d] }
  | _ => none }
def StoreNoneWrongFalsely : Prop := storeNoneRow.holds Try.pinned (OpenSpec.ofChange storeNoneWrong)

/-- 'trunnionlaw19.CodeReads': WHATEVER THE INPUT: true; the input reads as it did. -/
def codeReadsSpec : ChangeSpec := { name := "codeReads", fn := fun _ => fun
  | [d1, d2] => { results := [.lit (.bool true)], args := [d1, d2] }
  | _ => none }
def codeReadsRow : OpenClaim := { program := "ytfndlpfceokloaa", sum := "df11dc42dfe3d022b3c1bfa76bb9c92128a22daeddcbd32788df545ca0003ecf", func := "trunnion/trunnionlaw19.CodeReads", spec := "codeReads", unfollowed := true, recurses := true, apart := false }
def CodeReadsSaid : Prop := codeReadsRow.holds Try.pinned (OpenSpec.ofChange codeReadsSpec)

/-- ITS FALSE NEIGHBOUR: 'it returns false'. Refute it at one input. -/
def codeReadsWrong : ChangeSpec := { name := "codeReads", fn := fun _ => fun
  | [d1, d2] => { results := [.lit (.bool false)], args := [d1, d2] }
  | _ => none }
def CodeReadsWrongFalsely : Prop := codeReadsRow.holds Try.pinned (OpenSpec.ofChange codeReadsWrong)

/-- 'trunnionlaw19.CodeCounts': WHATEVER THE INPUT: true; the input reads as it did. -/
def codeCountsSpec : ChangeSpec := { name := "codeCounts", fn := fun _ => fun
  | [d] => { results := [.lit (.bool true)], args := [d] }
  | _ => none }
def codeCountsRow : OpenClaim := { program := "ytfndlpfceokloaa", sum := "df11dc42dfe3d022b3c1bfa76bb9c92128a22daeddcbd32788df545ca0003ecf", func := "trunnion/trunnionlaw19.CodeCounts", spec := "codeCounts", unfollowed := true, recurses := true, loops := true, apart := false }
def CodeCountsSaid : Prop := codeCountsRow.holds Try.pinned (OpenSpec.ofChange codeCountsSpec)

/-- ITS FALSE NEIGHBOUR: 'it returns false'. Refute it at one input. -/
def codeCountsWrong : ChangeSpec := { name := "codeCounts", fn := fun _ => fun
  | [d] => { results := [.lit (.bool false)], args := [d] }
  | _ => none }
def CodeCountsWrongFalsely : Prop := codeCountsRow.holds Try.pinned (OpenSpec.ofChange codeCountsWrong)

/-- 'trunnionlaw19.CodeKeeps': WHATEVER THE INPUT: true; the input reads as it did. -/
def codeKeepsSpec : ChangeSpec := { name := "codeKeeps", fn := fun _ => fun
  | [d1, d2, d3] => { results := [.lit (.bool true)], args := [d1, d2, d3] }
  | _ => none }
def codeKeepsRow : OpenClaim := { program := "ytfndlpfceokloaa", sum := "df11dc42dfe3d022b3c1bfa76bb9c92128a22daeddcbd32788df545ca0003ecf", func := "trunnion/trunnionlaw19.CodeKeeps", spec := "codeKeeps", unfollowed := true, recurses := true, apart := false }
def CodeKeepsSaid : Prop := codeKeepsRow.holds Try.pinned (OpenSpec.ofChange codeKeepsSpec)

/-- ITS FALSE NEIGHBOUR: 'it returns false'. Refute it at one input. -/
def codeKeepsWrong : ChangeSpec := { name := "codeKeeps", fn := fun _ => fun
  | [d1, d2, d3] => { results := [.lit (.bool false)], args := [d1, d2, d3] }
  | _ => none }
def CodeKeepsWrongFalsely : Prop := codeKeepsRow.holds Try.pinned (OpenSpec.ofChange codeKeepsWrong)

/-- 'trunnionlaw19.CodeJoins': WHATEVER THE INPUT: true; the input reads as it did. -/
def codeJoinsSpec : ChangeSpec := { name := "codeJoins", fn := fun _ => fun
  | [d1, d2] => { results := [.lit (.bool true)], args := [d1, d2] }
  | _ => none }
def codeJoinsRow : OpenClaim := { program := "ytfndlpfceokloaa", sum := "df11dc42dfe3d022b3c1bfa76bb9c92128a22daeddcbd32788df545ca0003ecf", func := "trunnion/trunnionlaw19.CodeJoins", spec := "codeJoins", unfollowed := true, recurses := true, apart := false }
def CodeJoinsSaid : Prop := codeJoinsRow.holds Try.pinned (OpenSpec.ofChange codeJoinsSpec)

/-- ITS FALSE NEIGHBOUR: 'it returns false'. Refute it at one input. -/
def codeJoinsWrong : ChangeSpec := { name := "codeJoins", fn := fun _ => fun
  | [d1, d2] => { results := [.lit (.bool false)], args := [d1, d2] }
  | _ => none }
def CodeJoinsWrongFalsely : Prop := codeJoinsRow.holds Try.pinned (OpenSpec.ofChange codeJoinsWrong)

/- THE SECOND FORM. 'bulk': how many values and letters a reading holds, each counted each time it is reached (what is shared counts as often as it is met; a slice's spare places count too). A statement '..UptoSaid' is the law's where the arguments, and the package variables that the reading takes, are together of bulk at most 1048576: NARROWER than '..Said'. Prove '..Said' where nothing that the law and all that it calls make is longer than what came in: it says more and counts as full. Else prove '..UptoSaid'. A law counts once. -/
mutual
def uptoBulk {H : Type} : DataW H → Nat
  | .lit (.string bytes) => bytes.length + 1
  | .lit _ => 1
  | .nil => 1
  | .ptr d => uptoBulk d + 1
  | .slice elems spare => uptoBulkAll elems + uptoBulkAll spare + 1
  | .agg parts => uptoBulkAll parts + 1
  | .iface _ d => uptoBulk d + 1
  | .map entries => uptoBulkEntries entries + 1
  | .held _ => 1
def uptoBulkAll {H : Type} : List (DataW H) → Nat
  | [] => 0
  | d :: r => uptoBulk d + uptoBulkAll r
def uptoBulkEntries {H : Type} : List (Lit × DataW H) → Nat
  | [] => 0
  | x :: r => uptoBulkEntry x + uptoBulkEntries r
def uptoBulkEntry {H : Type} : Lit × DataW H → Nat
  | (.string bytes, d) => bytes.length + uptoBulk d + 1
  | (_, d) => uptoBulk d + 1
 end
def uptoSmall : (H : Type) → List (DataW H) → Bool := fun _ ds => decide (uptoBulkAll ds ≤ 1048576)
def OpenSpec.upto (s : _root_.Go.ChangeSpec) : _root_.Go.OpenSpec := { _root_.Go.OpenSpec.ofChange s with cond := some uptoSmall }

/-- 'trunnionlaw26.CellsKeeps', WHERE WHAT IT READS IS OF BULK AT MOST 1048576: true; the input reads as it did. -/
def cellsKeepsUptoRow : OpenClaim := { program := "ytfndlpfceokloaa", sum := "df11dc42dfe3d022b3c1bfa76bb9c92128a22daeddcbd32788df545ca0003ecf", func := "trunnion/trunnionlaw26.CellsKeeps", spec := "cellsKeeps", apart := false, narrowed := true }
def CellsKeepsUptoSaid : Prop := cellsKeepsUptoRow.holds Try.pinned (OpenSpec.upto cellsKeepsSpec)

/-- 'trunnionlaw26.CellsTables', WHERE WHAT IT READS IS OF BULK AT MOST 1048576: true; the input reads as it did. -/
def cellsTablesUptoRow : OpenClaim := { program := "ytfndlpfceokloaa", sum := "df11dc42dfe3d022b3c1bfa76bb9c92128a22daeddcbd32788df545ca0003ecf", func := "trunnion/trunnionlaw26.CellsTables", spec := "cellsTables", apart := false, narrowed := true }
def CellsTablesUptoSaid : Prop := cellsTablesUptoRow.holds Try.pinned (OpenSpec.upto cellsTablesSpec)

/-- 'trunnionlaw38.CostTells', WHERE WHAT IT READS IS OF BULK AT MOST 1048576: true; the input reads as it did. -/
def costTellsUptoRow : OpenClaim := { program := "ytfndlpfceokloaa", sum := "df11dc42dfe3d022b3c1bfa76bb9c92128a22daeddcbd32788df545ca0003ecf", func := "trunnion/trunnionlaw38.CostTells", spec := "costTells", unfollowed := true, recurses := true, loops := true, apart := false, narrowed := true }
def CostTellsUptoSaid : Prop := costTellsUptoRow.holds Try.pinned (OpenSpec.upto costTellsSpec)

/-- 'trunnionlaw26.CellsNone', WHERE WHAT IT READS IS OF BULK AT MOST 1048576: true; the input reads as it did. -/
def cellsNoneUptoRow : OpenClaim := { program := "ytfndlpfceokloaa", sum := "df11dc42dfe3d022b3c1bfa76bb9c92128a22daeddcbd32788df545ca0003ecf", func := "trunnion/trunnionlaw26.CellsNone", spec := "cellsNone", apart := false, narrowed := true }
def CellsNoneUptoSaid : Prop := cellsNoneUptoRow.holds Try.pinned (OpenSpec.upto cellsNoneSpec)

/-- 'trunnionlaw26.CellsGlobals', WHERE WHAT IT READS IS OF BULK AT MOST 1048576: true; the input reads as it did. -/
def cellsGlobalsUptoRow : OpenClaim := { program := "ytfndlpfceokloaa", sum := "df11dc42dfe3d022b3c1bfa76bb9c92128a22daeddcbd32788df545ca0003ecf", func := "trunnion/trunnionlaw26.CellsGlobals", spec := "cellsGlobals", apart := false, narrowed := true }
def CellsGlobalsUptoSaid : Prop := cellsGlobalsUptoRow.holds Try.pinned (OpenSpec.upto cellsGlobalsSpec)

/-- 'trunnionlaw28.StoreOwn', WHERE WHAT IT READS IS OF BULK AT MOST 1048576: true; the input reads as it did. -/
def storeOwnUptoRow : OpenClaim := { program := "ytfndlpfceokloaa", sum := "df11dc42dfe3d022b3c1bfa76bb9c92128a22daeddcbd32788df545ca0003ecf", func := "trunnion/trunnionlaw28.StoreOwn", spec := "storeOwn", apart := false, narrowed := true }
def StoreOwnUptoSaid : Prop := storeOwnUptoRow.holds Try.pinned (OpenSpec.upto storeOwnSpec)

/-- 'trunnionlaw28.StoreNone', WHERE WHAT IT READS IS OF BULK AT MOST 1048576: true; the input reads as it did. -/
def storeNoneUptoRow : OpenClaim := { program := "ytfndlpfceokloaa", sum := "df11dc42dfe3d022b3c1bfa76bb9c92128a22daeddcbd32788df545ca0003ecf", func := "trunnion/trunnionlaw28.StoreNone", spec := "storeNone", unfollowed := true, recurses := true, apart := false, narrowed := true }
def StoreNoneUptoSaid : Prop := storeNoneUptoRow.holds Try.pinned (OpenSpec.upto storeNoneSpec)

/-- 'trunnionlaw19.CodeReads', WHERE WHAT IT READS IS OF BULK AT MOST 1048576: true; the input reads as it did. -/
def codeReadsUptoRow : OpenClaim := { program := "ytfndlpfceokloaa", sum := "df11dc42dfe3d022b3c1bfa76bb9c92128a22daeddcbd32788df545ca0003ecf", func := "trunnion/trunnionlaw19.CodeReads", spec := "codeReads", unfollowed := true, recurses := true, apart := false, narrowed := true }
def CodeReadsUptoSaid : Prop := codeReadsUptoRow.holds Try.pinned (OpenSpec.upto codeReadsSpec)

/-- 'trunnionlaw19.CodeCounts', WHERE WHAT IT READS IS OF BULK AT MOST 1048576: true; the input reads as it did. -/
def codeCountsUptoRow : OpenClaim := { program := "ytfndlpfceokloaa", sum := "df11dc42dfe3d022b3c1bfa76bb9c92128a22daeddcbd32788df545ca0003ecf", func := "trunnion/trunnionlaw19.CodeCounts", spec := "codeCounts", unfollowed := true, recurses := true, loops := true, apart := false, narrowed := true }
def CodeCountsUptoSaid : Prop := codeCountsUptoRow.holds Try.pinned (OpenSpec.upto codeCountsSpec)

/-- 'trunnionlaw19.CodeKeeps', WHERE WHAT IT READS IS OF BULK AT MOST 1048576: true; the input reads as it did. -/
def codeKeepsUptoRow : OpenClaim := { program := "ytfndlpfceokloaa", sum := "df11dc42dfe3d022b3c1bfa76bb9c92128a22daeddcbd32788df545ca0003ecf", func := "trunnion/trunnionlaw19.CodeKeeps", spec := "codeKeeps", unfollowed := true, recurses := true, apart := false, narrowed := true }
def CodeKeepsUptoSaid : Prop := codeKeepsUptoRow.holds Try.pinned (OpenSpec.upto codeKeepsSpec)

/-- 'trunnionlaw19.CodeJoins', WHERE WHAT IT READS IS OF BULK AT MOST 1048576: true; the input reads as it did. -/
def codeJoinsUptoRow : OpenClaim := { program := "ytfndlpfceokloaa", sum := "df11dc42dfe3d022b3c1bfa76bb9c92128a22daeddcbd32788df545ca0003ecf", func := "trunnion/trunnionlaw19.CodeJoins", spec := "codeJoins", unfollowed := true, recurses := true, apart := false, narrowed := true }
def CodeJoinsUptoSaid : Prop := codeJoinsUptoRow.holds Try.pinned (OpenSpec.upto codeJoinsSpec)

end Rows
end Go.Proofs.Ytfndlpfceokloaa
