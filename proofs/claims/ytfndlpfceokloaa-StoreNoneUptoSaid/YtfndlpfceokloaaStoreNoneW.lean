/- Lemmas towards this claim's statement: what the functions named here come to, each under the conditions that it states itself. -/
import Derived.Test.YtfndlpfceokloaaStN6
import Derived.Test.YtfndlpfceokloaaStO
namespace Go.Proofs.Ytfndlpfceokloaa
open Go.RowKit YtfndlpfceokloaaB Go.Proofs.YtfndlpfceokloaaW.PrintWords
theorem storeNone_walk (W : World) (a : _) {cs : Array Value} (ha : kOpW.K W a (Value.agg cs).cells.toList) (hb : bOp28 a ≤ 1048576) :
    Calls Try.prog 9 #[.agg cs] W fun e W' => e = .returned (.bool true) ∧ Below W.heap.size W W' := by
  obtain ⟨o, h, ho⟩ := op28_open ha hb
  obtain rfl := agg_of h
  exact storeNone_any W o ho
end Go.Proofs.Ytfndlpfceokloaa
