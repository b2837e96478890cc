/-
  DERIVED. GIVEN WITH THE SEED: THE CARDS: each row of YtlaijeeeblcinaaDoorRows.lean that lists a variable, with what it lists TIED to the program's text (the seventh form; the later family's looks); each row that meets fmt, with fmt's text TOLD by the authors' own Lean function (tested against real Go, not proved from fmt's source: count such statements apart). THE CARD IS WHAT COUNTS. Prove the row's statement (the work); the ties are given (YtlaijeeeblcinaaDoorTie.lean); close each card by the builder's one call (the guide's Derived/Test/ToyasCard.lean, 'card_holds'). Laid BY PROGRAM, IN A SANDBOX (cutbox-door.mjs). By AI agents, Wed Nov 11 2026. No macro, syntax, notation, axiom, sorry.
-/
import Derived.Test.YtlaijeeeblcinaaDoorRows
import GoSem.ClaimSeven
namespace Go.Proofs.YtlaijeeeblcinaaDoor
namespace Rows

/-- THE TIED CARD OF 'cupellaw20.TargetEncodes'. -/
def targetEncodesCard : Claim7 := { stood := { row := targetEncodesRow, standIns := [], harness := (true, "bf4222c34dcd2dd5817e68d980566bad24dd9caffcc8ffece3bf14de2a76b292"), looks := true }, kinds := [], alts := [], laidByText := true, laidKinds := [.data, .data, .data, .sentinel, .sentinel, .data, .widerDeep], laidTests := true, laidLooks := .later }
def TargetEncodesCardSaid : Prop := Claim7.holds Tryd.pinned (.plain (OpenSpec.ofChange targetEncodesSpec)) targetEncodesCard

/-- THE TIED CARD OF 'cupellaw20.TargetDecodes'. -/
def targetDecodesCard : Claim7 := { stood := { row := targetDecodesRow, standIns := [], harness := (true, "bf4222c34dcd2dd5817e68d980566bad24dd9caffcc8ffece3bf14de2a76b292"), looks := true }, kinds := [], alts := [], laidByText := true, laidKinds := [.data, .data, .data, .sentinel, .sentinel, .data, .widerDeep], laidTests := true, laidLooks := .later }
def TargetDecodesCardSaid : Prop := Claim7.holds Tryd.pinned (.plain (OpenSpec.ofChange targetDecodesSpec)) targetDecodesCard

/-- THE TIED CARD OF 'cupellaw20.TargetReads'. -/
def targetReadsCard : Claim7 := { stood := { row := targetReadsRow, standIns := [], harness := (true, "bf4222c34dcd2dd5817e68d980566bad24dd9caffcc8ffece3bf14de2a76b292"), looks := true }, kinds := [], alts := [], laidByText := true, laidKinds := [.data, .data, .data, .sentinel, .sentinel, .data, .widerDeep], laidTests := true, laidLooks := .later }
def TargetReadsCardSaid : Prop := Claim7.holds Tryd.pinned (.plain (OpenSpec.ofChange targetReadsSpec)) targetReadsCard

/-- THE TIED CARD OF 'cupellaw20.TargetPrints'. -/
def targetPrintsCard : Claim7 := { stood := { row := targetPrintsRow, standIns := [], harness := (true, "bf4222c34dcd2dd5817e68d980566bad24dd9caffcc8ffece3bf14de2a76b292"), looks := true }, kinds := [], alts := [], laidByText := true, laidKinds := [.data, .data, .data, .sentinel, .sentinel, .data, .widerDeep], laidTests := true, laidLooks := .later }
def TargetPrintsCardSaid : Prop := Claim7.holds Tryd.pinned (.plain (OpenSpec.ofChange targetPrintsSpec)) targetPrintsCard

/-- THE TIED CARD OF 'cupellaw20.TargetBack'. -/
def targetBackCard : Claim7 := { stood := { row := targetBackRow, standIns := [], harness := (true, "bf4222c34dcd2dd5817e68d980566bad24dd9caffcc8ffece3bf14de2a76b292"), looks := true }, kinds := [], alts := [], laidByText := true, laidKinds := [.data, .data, .data, .sentinel, .sentinel, .data, .widerDeep], laidTests := true, laidLooks := .later }
def TargetBackCardSaid : Prop := Claim7.holds Tryd.pinned (.plain (OpenSpec.ofChange targetBackSpec)) targetBackCard

/-- THE TIED CARD OF 'cupellaw20.TargetCanon'. -/
def targetCanonCard : Claim7 := { stood := { row := targetCanonRow, standIns := [], harness := (true, "bf4222c34dcd2dd5817e68d980566bad24dd9caffcc8ffece3bf14de2a76b292"), looks := true }, kinds := [], alts := [], laidByText := true, laidKinds := [.data, .data, .data, .sentinel, .sentinel, .data, .widerDeep], laidTests := true, laidLooks := .later }
def TargetCanonCardSaid : Prop := Claim7.holds Tryd.pinned (.plain (OpenSpec.ofChange targetCanonSpec)) targetCanonCard

/-- THE SECOND FORM's CARD OF 'cupellaw20.TargetEncodes'. -/
def targetEncodesUptoCard : Claim7 := { stood := { row := targetEncodesUptoRow, standIns := [], harness := (true, "bf4222c34dcd2dd5817e68d980566bad24dd9caffcc8ffece3bf14de2a76b292"), looks := true }, kinds := [], alts := [], laidByText := true, laidKinds := [.data, .data, .data, .sentinel, .sentinel, .data, .widerDeep], laidTests := true, laidLooks := .later }
def TargetEncodesUptoCardSaid : Prop := Claim7.holds Tryd.pinned (.plain (OpenSpec.upto targetEncodesSpec)) targetEncodesUptoCard

/-- THE SECOND FORM's CARD OF 'cupellaw20.TargetDecodes'. -/
def targetDecodesUptoCard : Claim7 := { stood := { row := targetDecodesUptoRow, standIns := [], harness := (true, "bf4222c34dcd2dd5817e68d980566bad24dd9caffcc8ffece3bf14de2a76b292"), looks := true }, kinds := [], alts := [], laidByText := true, laidKinds := [.data, .data, .data, .sentinel, .sentinel, .data, .widerDeep], laidTests := true, laidLooks := .later }
def TargetDecodesUptoCardSaid : Prop := Claim7.holds Tryd.pinned (.plain (OpenSpec.upto targetDecodesSpec)) targetDecodesUptoCard

/-- THE SECOND FORM's CARD OF 'cupellaw20.TargetReads'. -/
def targetReadsUptoCard : Claim7 := { stood := { row := targetReadsUptoRow, standIns := [], harness := (true, "bf4222c34dcd2dd5817e68d980566bad24dd9caffcc8ffece3bf14de2a76b292"), looks := true }, kinds := [], alts := [], laidByText := true, laidKinds := [.data, .data, .data, .sentinel, .sentinel, .data, .widerDeep], laidTests := true, laidLooks := .later }
def TargetReadsUptoCardSaid : Prop := Claim7.holds Tryd.pinned (.plain (OpenSpec.upto targetReadsSpec)) targetReadsUptoCard

/-- THE SECOND FORM's CARD OF 'cupellaw20.TargetPrints'. -/
def targetPrintsUptoCard : Claim7 := { stood := { row := targetPrintsUptoRow, standIns := [], harness := (true, "bf4222c34dcd2dd5817e68d980566bad24dd9caffcc8ffece3bf14de2a76b292"), looks := true }, kinds := [], alts := [], laidByText := true, laidKinds := [.data, .data, .data, .sentinel, .sentinel, .data, .widerDeep], laidTests := true, laidLooks := .later }
def TargetPrintsUptoCardSaid : Prop := Claim7.holds Tryd.pinned (.plain (OpenSpec.upto targetPrintsSpec)) targetPrintsUptoCard

/-- THE SECOND FORM's CARD OF 'cupellaw20.TargetBack'. -/
def targetBackUptoCard : Claim7 := { stood := { row := targetBackUptoRow, standIns := [], harness := (true, "bf4222c34dcd2dd5817e68d980566bad24dd9caffcc8ffece3bf14de2a76b292"), looks := true }, kinds := [], alts := [], laidByText := true, laidKinds := [.data, .data, .data, .sentinel, .sentinel, .data, .widerDeep], laidTests := true, laidLooks := .later }
def TargetBackUptoCardSaid : Prop := Claim7.holds Tryd.pinned (.plain (OpenSpec.upto targetBackSpec)) targetBackUptoCard

/-- THE SECOND FORM's CARD OF 'cupellaw20.TargetCanon'. -/
def targetCanonUptoCard : Claim7 := { stood := { row := targetCanonUptoRow, standIns := [], harness := (true, "bf4222c34dcd2dd5817e68d980566bad24dd9caffcc8ffece3bf14de2a76b292"), looks := true }, kinds := [], alts := [], laidByText := true, laidKinds := [.data, .data, .data, .sentinel, .sentinel, .data, .widerDeep], laidTests := true, laidLooks := .later }
def TargetCanonUptoCardSaid : Prop := Claim7.holds Tryd.pinned (.plain (OpenSpec.upto targetCanonSpec)) targetCanonUptoCard
end Rows
end Go.Proofs.YtlaijeeeblcinaaDoor
