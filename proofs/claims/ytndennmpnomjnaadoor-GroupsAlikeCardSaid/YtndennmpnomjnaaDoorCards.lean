/-
  DERIVED. GIVEN WITH THE SEED: THE CARDS: each row of YtndennmpnomjnaaDoorRows.lean that lists a variable, with what it lists TIED to the program's text (the seventh form; the later family's looks); each row that meets fmt, with fmt's text TOLD by the authors' own Lean function (tested against real Go, not proved from fmt's source: count such statements apart). THE CARD IS WHAT COUNTS. Prove the row's statement (the work); the ties are given (YtndennmpnomjnaaDoorTie.lean); close each card by the builder's one call (the guide's Derived/Test/ToyasCard.lean, 'card_holds'). Laid BY PROGRAM, IN A SANDBOX (cutbox-door.mjs). By AI agents, Wed Nov 11 2026. No macro, syntax, notation, axiom, sorry.
-/
import Derived.Test.YtndennmpnomjnaaDoorRows
import GoSem.ClaimSeven
namespace Go.Proofs.YtndennmpnomjnaaDoor
namespace Rows

/-- THE TIED CARD OF 'cupellaw35.GroupsKeys'. -/
def groupsKeysCard : Claim7 := { stood := { row := groupsKeysRow, standIns := [], harness := (true, "7fa6dad223a48031432617259ac50798f5a52da386c94199e874e9c198be69d8"), looks := false }, kinds := [], alts := [], laidByText := true, laidKinds := [.data, .data, .data, .data, .pinned], laidTests := true, laidLooks := .later }
def GroupsKeysCardSaid : Prop := Claim7.holds Tryd.pinned (.plain (OpenSpec.ofChange groupsKeysSpec)) groupsKeysCard

/-- THE TIED CARD OF 'cupellaw35.GroupsGroups'. -/
def groupsGroupsCard : Claim7 := { stood := { row := groupsGroupsRow, standIns := [], harness := (true, "7fa6dad223a48031432617259ac50798f5a52da386c94199e874e9c198be69d8"), looks := false }, kinds := [], alts := [], laidByText := true, laidKinds := [.data, .data, .data, .data, .pinned], laidTests := true, laidLooks := .later }
def GroupsGroupsCardSaid : Prop := Claim7.holds Tryd.pinned (.plain (OpenSpec.ofChange groupsGroupsSpec)) groupsGroupsCard

/-- THE TIED CARD OF 'cupellaw35.GroupsAny'. -/
def groupsAnyCard : Claim7 := { stood := { row := groupsAnyRow, standIns := [], harness := (true, "7fa6dad223a48031432617259ac50798f5a52da386c94199e874e9c198be69d8"), looks := false }, kinds := [], alts := [], laidByText := true, laidKinds := [.data, .data, .data, .data, .pinned], laidTests := true, laidLooks := .later }
def GroupsAnyCardSaid : Prop := Claim7.holds Tryd.pinned (.plain (OpenSpec.ofChange groupsAnySpec)) groupsAnyCard

/-- THE TIED CARD OF 'cupellaw35.GroupsPart'. -/
def groupsPartCard : Claim7 := { stood := { row := groupsPartRow, standIns := [], harness := (true, "7fa6dad223a48031432617259ac50798f5a52da386c94199e874e9c198be69d8"), looks := false }, kinds := [], alts := [], laidByText := true, laidKinds := [.data, .data, .data, .data, .pinned], laidTests := true, laidLooks := .later }
def GroupsPartCardSaid : Prop := Claim7.holds Tryd.pinned (.plain (OpenSpec.ofChange groupsPartSpec)) groupsPartCard

/-- THE TIED CARD OF 'cupellaw35.GroupsAlike'. -/
def groupsAlikeCard : Claim7 := { stood := { row := groupsAlikeRow, standIns := [], harness := (true, "7fa6dad223a48031432617259ac50798f5a52da386c94199e874e9c198be69d8"), looks := false }, kinds := [], alts := [], laidByText := true, laidKinds := [.data, .data, .data, .data, .pinned], laidTests := true, laidLooks := .later }
def GroupsAlikeCardSaid : Prop := Claim7.holds Tryd.pinned (.plain (OpenSpec.ofChange groupsAlikeSpec)) groupsAlikeCard

/-- THE SECOND FORM's CARD OF 'cupellaw35.GroupsKeys'. -/
def groupsKeysUptoCard : Claim7 := { stood := { row := groupsKeysUptoRow, standIns := [], harness := (true, "7fa6dad223a48031432617259ac50798f5a52da386c94199e874e9c198be69d8"), looks := false }, kinds := [], alts := [], laidByText := true, laidKinds := [.data, .data, .data, .data, .pinned], laidTests := true, laidLooks := .later }
def GroupsKeysUptoCardSaid : Prop := Claim7.holds Tryd.pinned (.plain (OpenSpec.upto groupsKeysSpec)) groupsKeysUptoCard

/-- THE SECOND FORM's CARD OF 'cupellaw35.GroupsGroups'. -/
def groupsGroupsUptoCard : Claim7 := { stood := { row := groupsGroupsUptoRow, standIns := [], harness := (true, "7fa6dad223a48031432617259ac50798f5a52da386c94199e874e9c198be69d8"), looks := false }, kinds := [], alts := [], laidByText := true, laidKinds := [.data, .data, .data, .data, .pinned], laidTests := true, laidLooks := .later }
def GroupsGroupsUptoCardSaid : Prop := Claim7.holds Tryd.pinned (.plain (OpenSpec.upto groupsGroupsSpec)) groupsGroupsUptoCard

/-- THE SECOND FORM's CARD OF 'cupellaw35.GroupsAny'. -/
def groupsAnyUptoCard : Claim7 := { stood := { row := groupsAnyUptoRow, standIns := [], harness := (true, "7fa6dad223a48031432617259ac50798f5a52da386c94199e874e9c198be69d8"), looks := false }, kinds := [], alts := [], laidByText := true, laidKinds := [.data, .data, .data, .data, .pinned], laidTests := true, laidLooks := .later }
def GroupsAnyUptoCardSaid : Prop := Claim7.holds Tryd.pinned (.plain (OpenSpec.upto groupsAnySpec)) groupsAnyUptoCard

/-- THE SECOND FORM's CARD OF 'cupellaw35.GroupsPart'. -/
def groupsPartUptoCard : Claim7 := { stood := { row := groupsPartUptoRow, standIns := [], harness := (true, "7fa6dad223a48031432617259ac50798f5a52da386c94199e874e9c198be69d8"), looks := false }, kinds := [], alts := [], laidByText := true, laidKinds := [.data, .data, .data, .data, .pinned], laidTests := true, laidLooks := .later }
def GroupsPartUptoCardSaid : Prop := Claim7.holds Tryd.pinned (.plain (OpenSpec.upto groupsPartSpec)) groupsPartUptoCard

/-- THE SECOND FORM's CARD OF 'cupellaw35.GroupsAlike'. -/
def groupsAlikeUptoCard : Claim7 := { stood := { row := groupsAlikeUptoRow, standIns := [], harness := (true, "7fa6dad223a48031432617259ac50798f5a52da386c94199e874e9c198be69d8"), looks := false }, kinds := [], alts := [], laidByText := true, laidKinds := [.data, .data, .data, .data, .pinned], laidTests := true, laidLooks := .later }
def GroupsAlikeUptoCardSaid : Prop := Claim7.holds Tryd.pinned (.plain (OpenSpec.upto groupsAlikeSpec)) groupsAlikeUptoCard
end Rows
end Go.Proofs.YtndennmpnomjnaaDoor
