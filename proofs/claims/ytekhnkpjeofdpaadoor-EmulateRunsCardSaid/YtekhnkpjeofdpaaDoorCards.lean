/-
  DERIVED. GIVEN WITH THE SEED: THE CARDS: each row of YtekhnkpjeofdpaaDoorRows.lean that lists a variable, with what it lists TIED to the program's text (the seventh form; the later family's looks); each row that meets fmt, with fmt's text TOLD by the authors' own Lean function (tested against real Go, not proved from fmt's source: count such statements apart). THE CARD IS WHAT COUNTS. Prove the row's statement (the work); the ties are given (YtekhnkpjeofdpaaDoorTie.lean); close each card by the builder's one call (the guide's Derived/Test/ToyasCard.lean, 'card_holds'). Laid BY PROGRAM, IN A SANDBOX (cutbox-door.mjs). By AI agents, Wed Nov 11 2026. No macro, syntax, notation, axiom, sorry.
-/
import Derived.Test.YtekhnkpjeofdpaaDoorRows
import GoSem.ClaimSeven
namespace Go.Proofs.YtekhnkpjeofdpaaDoor
namespace Rows

/-- THE TIED CARD OF 'cupellaw23.EmulateRuns'. -/
def emulateRunsCard : Claim7 := { stood := { row := emulateRunsRow, standIns := [], harness := (true, "e5560d9b169924f27af22763cf9a988d338a0c218efbfc97de84bd4233040f7b"), looks := false }, kinds := [], alts := [], laidByText := true, laidKinds := [.data, .widerDeep], laidTests := true, laidLooks := .later }
def EmulateRunsCardSaid : Prop := Claim7.holds Tryd.pinned (.plain (OpenSpec.ofChange emulateRunsSpec)) emulateRunsCard

/-- THE TIED CARD OF 'cupellaw23.EmulateGoesOn'. -/
def emulateGoesOnCard : Claim7 := { stood := { row := emulateGoesOnRow, standIns := [], harness := (true, "e5560d9b169924f27af22763cf9a988d338a0c218efbfc97de84bd4233040f7b"), looks := false }, kinds := [], alts := [], laidByText := true, laidKinds := [.data, .widerDeep], laidTests := true, laidLooks := .later }
def EmulateGoesOnCardSaid : Prop := Claim7.holds Tryd.pinned (.plain (OpenSpec.ofChange emulateGoesOnSpec)) emulateGoesOnCard

/-- THE TIED CARD OF 'cupellaw23.EmulateSteps'. -/
def emulateStepsCard : Claim7 := { stood := { row := emulateStepsRow, standIns := [], harness := (true, "e5560d9b169924f27af22763cf9a988d338a0c218efbfc97de84bd4233040f7b"), looks := false }, kinds := [], alts := [], laidByText := true, laidKinds := [.data, .widerDeep], laidTests := true, laidLooks := .later }
def EmulateStepsCardSaid : Prop := Claim7.holds Tryd.pinned (.plain (OpenSpec.ofChange emulateStepsSpec)) emulateStepsCard

/-- THE TIED CARD OF 'cupellaw23.EmulateCopies'. -/
def emulateCopiesCard : Claim7 := { stood := { row := emulateCopiesRow, standIns := [], harness := (true, "e5560d9b169924f27af22763cf9a988d338a0c218efbfc97de84bd4233040f7b"), looks := false }, kinds := [], alts := [], laidByText := true, laidKinds := [.data, .widerDeep], laidTests := true, laidLooks := .later }
def EmulateCopiesCardSaid : Prop := Claim7.holds Tryd.pinned (.plain (OpenSpec.ofChange emulateCopiesSpec)) emulateCopiesCard

/-- THE TIED CARD OF 'cupellaw23.EmulateNone'. -/
def emulateNoneCard : Claim7 := { stood := { row := emulateNoneRow, standIns := [], harness := (true, "e5560d9b169924f27af22763cf9a988d338a0c218efbfc97de84bd4233040f7b"), looks := false }, kinds := [], alts := [], laidByText := true, laidKinds := [.data, .widerDeep], laidTests := true, laidLooks := .later }
def EmulateNoneCardSaid : Prop := Claim7.holds Tryd.pinned (.plain (OpenSpec.ofChange emulateNoneSpec)) emulateNoneCard

/-- THE SECOND FORM's CARD OF 'cupellaw23.EmulateRuns'. -/
def emulateRunsUptoCard : Claim7 := { stood := { row := emulateRunsUptoRow, standIns := [], harness := (true, "e5560d9b169924f27af22763cf9a988d338a0c218efbfc97de84bd4233040f7b"), looks := false }, kinds := [], alts := [], laidByText := true, laidKinds := [.data, .widerDeep], laidTests := true, laidLooks := .later }
def EmulateRunsUptoCardSaid : Prop := Claim7.holds Tryd.pinned (.plain (OpenSpec.upto emulateRunsSpec)) emulateRunsUptoCard

/-- THE SECOND FORM's CARD OF 'cupellaw23.EmulateGoesOn'. -/
def emulateGoesOnUptoCard : Claim7 := { stood := { row := emulateGoesOnUptoRow, standIns := [], harness := (true, "e5560d9b169924f27af22763cf9a988d338a0c218efbfc97de84bd4233040f7b"), looks := false }, kinds := [], alts := [], laidByText := true, laidKinds := [.data, .widerDeep], laidTests := true, laidLooks := .later }
def EmulateGoesOnUptoCardSaid : Prop := Claim7.holds Tryd.pinned (.plain (OpenSpec.upto emulateGoesOnSpec)) emulateGoesOnUptoCard

/-- THE SECOND FORM's CARD OF 'cupellaw23.EmulateSteps'. -/
def emulateStepsUptoCard : Claim7 := { stood := { row := emulateStepsUptoRow, standIns := [], harness := (true, "e5560d9b169924f27af22763cf9a988d338a0c218efbfc97de84bd4233040f7b"), looks := false }, kinds := [], alts := [], laidByText := true, laidKinds := [.data, .widerDeep], laidTests := true, laidLooks := .later }
def EmulateStepsUptoCardSaid : Prop := Claim7.holds Tryd.pinned (.plain (OpenSpec.upto emulateStepsSpec)) emulateStepsUptoCard

/-- THE SECOND FORM's CARD OF 'cupellaw23.EmulateCopies'. -/
def emulateCopiesUptoCard : Claim7 := { stood := { row := emulateCopiesUptoRow, standIns := [], harness := (true, "e5560d9b169924f27af22763cf9a988d338a0c218efbfc97de84bd4233040f7b"), looks := false }, kinds := [], alts := [], laidByText := true, laidKinds := [.data, .widerDeep], laidTests := true, laidLooks := .later }
def EmulateCopiesUptoCardSaid : Prop := Claim7.holds Tryd.pinned (.plain (OpenSpec.upto emulateCopiesSpec)) emulateCopiesUptoCard

/-- THE SECOND FORM's CARD OF 'cupellaw23.EmulateNone'. -/
def emulateNoneUptoCard : Claim7 := { stood := { row := emulateNoneUptoRow, standIns := [], harness := (true, "e5560d9b169924f27af22763cf9a988d338a0c218efbfc97de84bd4233040f7b"), looks := false }, kinds := [], alts := [], laidByText := true, laidKinds := [.data, .widerDeep], laidTests := true, laidLooks := .later }
def EmulateNoneUptoCardSaid : Prop := Claim7.holds Tryd.pinned (.plain (OpenSpec.upto emulateNoneSpec)) emulateNoneUptoCard
end Rows
end Go.Proofs.YtekhnkpjeofdpaaDoor
