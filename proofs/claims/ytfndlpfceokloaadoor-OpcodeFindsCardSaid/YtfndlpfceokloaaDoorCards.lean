/-
  DERIVED. GIVEN WITH THE SEED: THE CARDS: each row of YtfndlpfceokloaaDoorRows.lean that lists a variable, with what it lists TIED to the program's text (the seventh form; the later family's looks); each row that meets fmt, with fmt's text TOLD by the authors' own Lean function (tested against real Go, not proved from fmt's source: count such statements apart). THE CARD IS WHAT COUNTS. Prove the row's statement (the work); the ties are given (YtfndlpfceokloaaDoorTie.lean); close each card by the builder's one call (the guide's Derived/Test/ToyasCard.lean, 'card_holds'). Laid BY PROGRAM, IN A SANDBOX (cutbox-door.mjs). By AI agents, Wed Nov 11 2026. No macro, syntax, notation, axiom, sorry.
-/
import Derived.Test.YtfndlpfceokloaaDoorRows
import GoSem.ClaimSeven
namespace Go.Proofs.YtfndlpfceokloaaDoor
namespace Rows

/-- THE TIED CARD OF 'trunnionlaw18.OpcodeTells'. -/
def opcodeTellsCard : Claim7 := { stood := { row := opcodeTellsRow, standIns := [], harness := (true, "11237c0163c3b4948fa698d8424f49a2ac1c4700f7d217616fc1378eff5c03f4"), looks := false }, kinds := [], alts := [], laidByText := true, laidKinds := [.data, .pinned], laidTests := true, laidLooks := .later }
def OpcodeTellsCardSaid : Prop := Claim7.holds Tryd.pinned (.plain (OpenSpec.ofChange opcodeTellsSpec)) opcodeTellsCard

/-- THE TIED CARD OF 'trunnionlaw18.OpcodeKinds'. -/
def opcodeKindsCard : Claim7 := { stood := { row := opcodeKindsRow, standIns := [], harness := (true, "11237c0163c3b4948fa698d8424f49a2ac1c4700f7d217616fc1378eff5c03f4"), looks := false }, kinds := [], alts := [], laidByText := true, laidKinds := [.data, .pinned], laidTests := true, laidLooks := .later }
def OpcodeKindsCardSaid : Prop := Claim7.holds Tryd.pinned (.plain (OpenSpec.ofChange opcodeKindsSpec)) opcodeKindsCard

/-- THE TIED CARD OF 'trunnionlaw18.OpcodeFinds'. -/
def opcodeFindsCard : Claim7 := { stood := { row := opcodeFindsRow, standIns := [], harness := (true, "11237c0163c3b4948fa698d8424f49a2ac1c4700f7d217616fc1378eff5c03f4"), looks := false }, kinds := [], alts := [], laidByText := true, laidKinds := [.data, .pinned], laidTests := true, laidLooks := .later }
def OpcodeFindsCardSaid : Prop := Claim7.holds Tryd.pinned (.plain (OpenSpec.ofChange opcodeFindsSpec)) opcodeFindsCard

/-- THE SECOND FORM's CARD OF 'trunnionlaw18.OpcodeTells'. -/
def opcodeTellsUptoCard : Claim7 := { stood := { row := opcodeTellsUptoRow, standIns := [], harness := (true, "11237c0163c3b4948fa698d8424f49a2ac1c4700f7d217616fc1378eff5c03f4"), looks := false }, kinds := [], alts := [], laidByText := true, laidKinds := [.data, .pinned], laidTests := true, laidLooks := .later }
def OpcodeTellsUptoCardSaid : Prop := Claim7.holds Tryd.pinned (.plain (OpenSpec.upto opcodeTellsSpec)) opcodeTellsUptoCard

/-- THE SECOND FORM's CARD OF 'trunnionlaw18.OpcodeKinds'. -/
def opcodeKindsUptoCard : Claim7 := { stood := { row := opcodeKindsUptoRow, standIns := [], harness := (true, "11237c0163c3b4948fa698d8424f49a2ac1c4700f7d217616fc1378eff5c03f4"), looks := false }, kinds := [], alts := [], laidByText := true, laidKinds := [.data, .pinned], laidTests := true, laidLooks := .later }
def OpcodeKindsUptoCardSaid : Prop := Claim7.holds Tryd.pinned (.plain (OpenSpec.upto opcodeKindsSpec)) opcodeKindsUptoCard

/-- THE SECOND FORM's CARD OF 'trunnionlaw18.OpcodeFinds'. -/
def opcodeFindsUptoCard : Claim7 := { stood := { row := opcodeFindsUptoRow, standIns := [], harness := (true, "11237c0163c3b4948fa698d8424f49a2ac1c4700f7d217616fc1378eff5c03f4"), looks := false }, kinds := [], alts := [], laidByText := true, laidKinds := [.data, .pinned], laidTests := true, laidLooks := .later }
def OpcodeFindsUptoCardSaid : Prop := Claim7.holds Tryd.pinned (.plain (OpenSpec.upto opcodeFindsSpec)) opcodeFindsUptoCard
end Rows
end Go.Proofs.YtfndlpfceokloaaDoor
