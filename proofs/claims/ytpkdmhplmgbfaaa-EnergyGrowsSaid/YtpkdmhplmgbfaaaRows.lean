/-
  No cell of these rows narrows 'for every input' (looked for: loops, veiled, ifaces, maps, wideKeys, modest, calm, conditions, laid).
  DERIVED. THE GIVEN ROWS OF THIS SEAT. 6 by the template 'for every input the law returns true; each argument reads behind the call as it read before'; 0 by the template 'total and deterministic' (their statements: YtpkdmhplmgbfaaaTotals.lean).
  GIVEN WITH THE SEED: the statements are not yours to turn. If you find one false, say at which input.
  Laid BY PROGRAM, IN A SANDBOX (cutbox-rows.mjs): the forced cells as the released guide's own fill.sh prints them over the translation 25134ecccbc644ac… (all of the seat's roots in one cut). By AI agents, Wed Nov 11 2026. No macro, syntax, notation, axiom, sorry.
-/
import Derived.Test.YtpkdmhplmgbfaaaChecked
import GoSem.Claim
import GoSem.ClaimJoined
import GoSem.ClaimMapViews
import Derived.JoinedTies
import Derived.KernelRfl
namespace Go.Proofs.Ytpkdmhplmgbfaaa
/- THE CELL 'sum', in the pinned program and in every row, IS THE sha256 OF THE DUMP (.gsa) THAT YtpkdmhplmgbfaaaProg.lean LOADS. Nothing in Lean hashes anything: it is a label: what it is worth is what the hold of that sum in a sandbox is worth. -/
noncomputable def Try.pinned : Pinned := { name := "ytpkdmhplmgbfaaa", sum := "25134ecccbc644ac480099ed62b1ffdcb4c1de38b7d8764f344ff625fad9dc82", checked := Try.checked }
namespace Rows
def none {H : Type} : Left H := { results := [], args := [] }

/-- 'cupellaw34.EnergyEntries': WHATEVER THE INPUT: true; the input reads as it did. -/
def energyEntriesSpec : ChangeSpec := { name := "energyEntries", fn := fun _ => fun
  | [d] => { results := [.lit (.bool true)], args := [d] }
  | _ => none }
def energyEntriesRow : OpenClaim := { program := "ytpkdmhplmgbfaaa", sum := "25134ecccbc644ac480099ed62b1ffdcb4c1de38b7d8764f344ff625fad9dc82", func := "cupel/cupellaw34.EnergyEntries", spec := "energyEntries", unfollowed := true, recurses := true, apart := false }
def EnergyEntriesSaid : Prop := energyEntriesRow.holds Try.pinned (OpenSpec.ofChange energyEntriesSpec)

/-- ITS FALSE NEIGHBOUR: 'it returns false'. Refute it at one input. -/
def energyEntriesWrong : ChangeSpec := { name := "energyEntries", fn := fun _ => fun
  | [d] => { results := [.lit (.bool false)], args := [d] }
  | _ => none }
def EnergyEntriesWrongFalsely : Prop := energyEntriesRow.holds Try.pinned (OpenSpec.ofChange energyEntriesWrong)

/-- 'cupellaw34.EnergyChoices': WHATEVER THE INPUT: true; the input reads as it did. -/
def energyChoicesSpec : ChangeSpec := { name := "energyChoices", fn := fun _ => fun
  | [d1, d2] => { results := [.lit (.bool true)], args := [d1, d2] }
  | _ => none }
def energyChoicesRow : OpenClaim := { program := "ytpkdmhplmgbfaaa", sum := "25134ecccbc644ac480099ed62b1ffdcb4c1de38b7d8764f344ff625fad9dc82", func := "cupel/cupellaw34.EnergyChoices", spec := "energyChoices", unfollowed := true, recurses := true, apart := false }
def EnergyChoicesSaid : Prop := energyChoicesRow.holds Try.pinned (OpenSpec.ofChange energyChoicesSpec)

/-- ITS FALSE NEIGHBOUR: 'it returns false'. Refute it at one input. -/
def energyChoicesWrong : ChangeSpec := { name := "energyChoices", fn := fun _ => fun
  | [d1, d2] => { results := [.lit (.bool false)], args := [d1, d2] }
  | _ => none }
def EnergyChoicesWrongFalsely : Prop := energyChoicesRow.holds Try.pinned (OpenSpec.ofChange energyChoicesWrong)

/-- 'cupellaw34.EnergyShares': WHATEVER THE INPUT: true; the input reads as it did. -/
def energySharesSpec : ChangeSpec := { name := "energyShares", fn := fun _ => fun
  | [d1, d2] => { results := [.lit (.bool true)], args := [d1, d2] }
  | _ => none }
def energySharesRow : OpenClaim := { program := "ytpkdmhplmgbfaaa", sum := "25134ecccbc644ac480099ed62b1ffdcb4c1de38b7d8764f344ff625fad9dc82", func := "cupel/cupellaw34.EnergyShares", spec := "energyShares", unfollowed := true, recurses := true, apart := false }
def EnergySharesSaid : Prop := energySharesRow.holds Try.pinned (OpenSpec.ofChange energySharesSpec)

/-- ITS FALSE NEIGHBOUR: 'it returns false'. Refute it at one input. -/
def energySharesWrong : ChangeSpec := { name := "energyShares", fn := fun _ => fun
  | [d1, d2] => { results := [.lit (.bool false)], args := [d1, d2] }
  | _ => none }
def EnergySharesWrongFalsely : Prop := energySharesRow.holds Try.pinned (OpenSpec.ofChange energySharesWrong)

/-- 'cupellaw34.EnergyExact': WHATEVER THE INPUT: true; the input reads as it did. -/
def energyExactSpec : ChangeSpec := { name := "energyExact", fn := fun _ => fun
  | [d1, d2] => { results := [.lit (.bool true)], args := [d1, d2] }
  | _ => none }
def energyExactRow : OpenClaim := { program := "ytpkdmhplmgbfaaa", sum := "25134ecccbc644ac480099ed62b1ffdcb4c1de38b7d8764f344ff625fad9dc82", func := "cupel/cupellaw34.EnergyExact", spec := "energyExact", unfollowed := true, recurses := true, apart := false }
def EnergyExactSaid : Prop := energyExactRow.holds Try.pinned (OpenSpec.ofChange energyExactSpec)

/-- ITS FALSE NEIGHBOUR: 'it returns false'. Refute it at one input. -/
def energyExactWrong : ChangeSpec := { name := "energyExact", fn := fun _ => fun
  | [d1, d2] => { results := [.lit (.bool false)], args := [d1, d2] }
  | _ => none }
def EnergyExactWrongFalsely : Prop := energyExactRow.holds Try.pinned (OpenSpec.ofChange energyExactWrong)

/-- 'cupellaw34.EnergyParts': WHATEVER THE INPUT: true; the input reads as it did. -/
def energyPartsSpec : ChangeSpec := { name := "energyParts", fn := fun _ => fun
  | [d1, d2, d3] => { results := [.lit (.bool true)], args := [d1, d2, d3] }
  | _ => none }
def energyPartsRow : OpenClaim := { program := "ytpkdmhplmgbfaaa", sum := "25134ecccbc644ac480099ed62b1ffdcb4c1de38b7d8764f344ff625fad9dc82", func := "cupel/cupellaw34.EnergyParts", spec := "energyParts", unfollowed := true, recurses := true, apart := false }
def EnergyPartsSaid : Prop := energyPartsRow.holds Try.pinned (OpenSpec.ofChange energyPartsSpec)

/-- ITS FALSE NEIGHBOUR: 'it returns false'. Refute it at one input. -/
def energyPartsWrong : ChangeSpec := { name := "energyParts", fn := fun _ => fun
  | [d1, d2, d3] => { results := [.lit (.bool false)], args := [d1, d2, d3] }
  | _ => none }
def EnergyPartsWrongFalsely : Prop := energyPartsRow.holds Try.pinned (OpenSpec.ofChange energyPartsWrong)

/-- 'cupellaw34.EnergyGrows': WHATEVER THE INPUT: true; the input reads as it did. -/
def energyGrowsSpec : ChangeSpec := { name := "energyGrows", fn := fun _ => fun
  | [d1, d2] => { results := [.lit (.bool true)], args := [d1, d2] }
  | _ => none }
def energyGrowsRow : OpenClaim := { program := "ytpkdmhplmgbfaaa", sum := "25134ecccbc644ac480099ed62b1ffdcb4c1de38b7d8764f344ff625fad9dc82", func := "cupel/cupellaw34.EnergyGrows", spec := "energyGrows", unfollowed := true, recurses := true, apart := false }
def EnergyGrowsSaid : Prop := energyGrowsRow.holds Try.pinned (OpenSpec.ofChange energyGrowsSpec)

/-- ITS FALSE NEIGHBOUR: 'it returns false'. Refute it at one input. -/
def energyGrowsWrong : ChangeSpec := { name := "energyGrows", fn := fun _ => fun
  | [d1, d2] => { results := [.lit (.bool false)], args := [d1, d2] }
  | _ => none }
def EnergyGrowsWrongFalsely : Prop := energyGrowsRow.holds Try.pinned (OpenSpec.ofChange energyGrowsWrong)

/- THE SECOND FORM. 'bulk': how many values and letters a reading holds, each counted each time it is reached (what is shared counts as often as it is met; a slice's spare places count too). A statement '..UptoSaid' is the law's where the arguments, and the package variables that the reading takes, are together of bulk at most 1048576: NARROWER than '..Said'. Prove '..Said' where nothing that the law and all that it calls make is longer than what came in: it says more and counts as full. Else prove '..UptoSaid'. A law counts once. -/
mutual
def uptoBulk {H : Type} : DataW H → Nat
  | .lit (.string bytes) => bytes.length + 1
  | .lit _ => 1
  | .nil => 1
  | .ptr d => uptoBulk d + 1
  | .slice elems spare => uptoBulkAll elems + uptoBulkAll spare + 1
  | .agg parts => uptoBulkAll parts + 1
  | .iface _ d => uptoBulk d + 1
  | .map entries => uptoBulkEntries entries + 1
  | .held _ => 1
def uptoBulkAll {H : Type} : List (DataW H) → Nat
  | [] => 0
  | d :: r => uptoBulk d + uptoBulkAll r
def uptoBulkEntries {H : Type} : List (Lit × DataW H) → Nat
  | [] => 0
  | x :: r => uptoBulkEntry x + uptoBulkEntries r
def uptoBulkEntry {H : Type} : Lit × DataW H → Nat
  | (.string bytes, d) => bytes.length + uptoBulk d + 1
  | (_, d) => uptoBulk d + 1
 end
def uptoSmall : (H : Type) → List (DataW H) → Bool := fun _ ds => decide (uptoBulkAll ds ≤ 1048576)
def OpenSpec.upto (s : _root_.Go.ChangeSpec) : _root_.Go.OpenSpec := { _root_.Go.OpenSpec.ofChange s with cond := some uptoSmall }

/-- 'cupellaw34.EnergyEntries', WHERE WHAT IT READS IS OF BULK AT MOST 1048576: true; the input reads as it did. -/
def energyEntriesUptoRow : OpenClaim := { program := "ytpkdmhplmgbfaaa", sum := "25134ecccbc644ac480099ed62b1ffdcb4c1de38b7d8764f344ff625fad9dc82", func := "cupel/cupellaw34.EnergyEntries", spec := "energyEntries", unfollowed := true, recurses := true, apart := false, narrowed := true }
def EnergyEntriesUptoSaid : Prop := energyEntriesUptoRow.holds Try.pinned (OpenSpec.upto energyEntriesSpec)

/-- 'cupellaw34.EnergyChoices', WHERE WHAT IT READS IS OF BULK AT MOST 1048576: true; the input reads as it did. -/
def energyChoicesUptoRow : OpenClaim := { program := "ytpkdmhplmgbfaaa", sum := "25134ecccbc644ac480099ed62b1ffdcb4c1de38b7d8764f344ff625fad9dc82", func := "cupel/cupellaw34.EnergyChoices", spec := "energyChoices", unfollowed := true, recurses := true, apart := false, narrowed := true }
def EnergyChoicesUptoSaid : Prop := energyChoicesUptoRow.holds Try.pinned (OpenSpec.upto energyChoicesSpec)

/-- 'cupellaw34.EnergyShares', WHERE WHAT IT READS IS OF BULK AT MOST 1048576: true; the input reads as it did. -/
def energySharesUptoRow : OpenClaim := { program := "ytpkdmhplmgbfaaa", sum := "25134ecccbc644ac480099ed62b1ffdcb4c1de38b7d8764f344ff625fad9dc82", func := "cupel/cupellaw34.EnergyShares", spec := "energyShares", unfollowed := true, recurses := true, apart := false, narrowed := true }
def EnergySharesUptoSaid : Prop := energySharesUptoRow.holds Try.pinned (OpenSpec.upto energySharesSpec)

/-- 'cupellaw34.EnergyExact', WHERE WHAT IT READS IS OF BULK AT MOST 1048576: true; the input reads as it did. -/
def energyExactUptoRow : OpenClaim := { program := "ytpkdmhplmgbfaaa", sum := "25134ecccbc644ac480099ed62b1ffdcb4c1de38b7d8764f344ff625fad9dc82", func := "cupel/cupellaw34.EnergyExact", spec := "energyExact", unfollowed := true, recurses := true, apart := false, narrowed := true }
def EnergyExactUptoSaid : Prop := energyExactUptoRow.holds Try.pinned (OpenSpec.upto energyExactSpec)

/-- 'cupellaw34.EnergyParts', WHERE WHAT IT READS IS OF BULK AT MOST 1048576: true; the input reads as it did. -/
def energyPartsUptoRow : OpenClaim := { program := "ytpkdmhplmgbfaaa", sum := "25134ecccbc644ac480099ed62b1ffdcb4c1de38b7d8764f344ff625fad9dc82", func := "cupel/cupellaw34.EnergyParts", spec := "energyParts", unfollowed := true, recurses := true, apart := false, narrowed := true }
def EnergyPartsUptoSaid : Prop := energyPartsUptoRow.holds Try.pinned (OpenSpec.upto energyPartsSpec)

/-- 'cupellaw34.EnergyGrows', WHERE WHAT IT READS IS OF BULK AT MOST 1048576: true; the input reads as it did. -/
def energyGrowsUptoRow : OpenClaim := { program := "ytpkdmhplmgbfaaa", sum := "25134ecccbc644ac480099ed62b1ffdcb4c1de38b7d8764f344ff625fad9dc82", func := "cupel/cupellaw34.EnergyGrows", spec := "energyGrows", unfollowed := true, recurses := true, apart := false, narrowed := true }
def EnergyGrowsUptoSaid : Prop := energyGrowsUptoRow.holds Try.pinned (OpenSpec.upto energyGrowsSpec)

end Rows
end Go.Proofs.Ytpkdmhplmgbfaaa
