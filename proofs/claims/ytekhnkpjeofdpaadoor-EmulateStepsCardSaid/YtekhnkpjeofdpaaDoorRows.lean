/-
  NARROWER THAN 'FOR EVERY INPUT', by the rows' own cells (each row's printed sentence says how): EmulateRuns: laid · EmulateGoesOn: laid · EmulateSteps: laid · EmulateCopies: laid · EmulateNone: laid.
  DERIVED. THE GIVEN ROWS OF THIS SEAT. 5 by the template 'for every input the law returns true; each argument reads behind the call as it read before'; 0 by the template 'total and deterministic' (their statements: YtekhnkpjeofdpaaDoorTotals.lean).
  GIVEN WITH THE SEED: the statements are not yours to turn. If you find one false, say at which input.
  Laid BY PROGRAM, IN A SANDBOX (cutbox-rows.mjs): the forced cells as the released guide's own fill.sh prints them over the translation 28139fb8ab0d90d0… (all of the seat's roots in one cut). By AI agents, Wed Nov 11 2026. No macro, syntax, notation, axiom, sorry.
-/
import Derived.Test.YtekhnkpjeofdpaaDoorChecked
import GoSem.Claim
import GoSem.ClaimJoined
import GoSem.ClaimMapViews
import Derived.JoinedTies
import Derived.KernelRfl
namespace Go.Proofs.YtekhnkpjeofdpaaDoor
/- THE CELL 'sum', in the pinned program and in every row, IS THE sha256 OF THE DUMP (.gsa) THAT YtekhnkpjeofdpaaDoorProg.lean LOADS. Nothing in Lean hashes anything: it is a label: what it is worth is what the hold of that sum in a sandbox is worth. -/
noncomputable def Tryd.pinned : Pinned := { name := "ytekhnkpjeofdpaadoor", sum := "28139fb8ab0d90d0d47582a77c30f873d511c3703fbf39367c67a1393aa9c4ad", checked := Tryd.checked }
namespace Rows
def none {H : Type} : Left H := { results := [], args := [] }

/- WHAT THE LISTED PACKAGE-LEVEL VARIABLES READ AS WHEN THE CALL BEGINS. Each datum BY PROGRAM (the guide's laid-datum.mjs) off the statement by which the dump's own 'gosem.cut.vars' lays the variable. In a bare row this is a premise. The card (YtekhnkpjeofdpaaDoorCards.lean) ties it to the program's text. -/
def laid_cupel_target_table {H : Type} : DataW H := .agg [.agg [.lit (.int .i64 1), .lit (.string [109, 111, 118, 101]), .lit (.bool true), .lit (.bool true), .lit (.bool false), .lit (.int .i64 0)], .agg [.lit (.int .i64 2), .lit (.string [115, 101, 116]), .lit (.bool true), .lit (.bool false), .lit (.bool false), .lit (.int .i64 1)], .agg [.lit (.int .i64 3), .lit (.string [119, 105, 100, 101]), .lit (.bool true), .lit (.bool false), .lit (.bool false), .lit (.int .i64 2)], .agg [.lit (.int .i64 4), .lit (.string [108, 111, 97, 100]), .lit (.bool true), .lit (.bool true), .lit (.bool false), .lit (.int .i64 1)], .agg [.lit (.int .i64 5), .lit (.string [115, 116, 111, 114, 101]), .lit (.bool false), .lit (.bool true), .lit (.bool true), .lit (.int .i64 1)], .agg [.lit (.int .i64 6), .lit (.string [106, 117, 109, 112]), .lit (.bool false), .lit (.bool false), .lit (.bool false), .lit (.int .i64 3)], .agg [.lit (.int .i64 7), .lit (.string [122, 101, 114, 111]), .lit (.bool false), .lit (.bool true), .lit (.bool false), .lit (.int .i64 3)], .agg [.lit (.int .i64 8), .lit (.string [99, 104, 101, 99, 107]), .lit (.bool false), .lit (.bool true), .lit (.bool true), .lit (.int .i64 0)], .agg [.lit (.int .i64 9), .lit (.string [99, 104, 101, 99, 107, 105]), .lit (.bool false), .lit (.bool true), .lit (.bool false), .lit (.int .i64 1)], .agg [.lit (.int .i64 10), .lit (.string [112, 114, 105, 110, 116]), .lit (.bool false), .lit (.bool true), .lit (.bool false), .lit (.int .i64 0)], .agg [.lit (.int .i64 11), .lit (.string [99, 97, 108, 108]), .lit (.bool false), .lit (.bool false), .lit (.bool false), .lit (.int .i64 3)], .agg [.lit (.int .i64 12), .lit (.string [114, 101, 116, 117, 114, 110]), .lit (.bool false), .lit (.bool false), .lit (.bool false), .lit (.int .i64 0)], .agg [.lit (.int .i64 13), .lit (.string [116, 114, 97, 112]), .lit (.bool false), .lit (.bool false), .lit (.bool false), .lit (.int .i64 0)], .agg [.lit (.int .i64 14), .lit (.string [104, 97, 108, 116]), .lit (.bool false), .lit (.bool false), .lit (.bool false), .lit (.int .i64 0)]]
def laid_cupel_target_binary {H : Type} : DataW H := .agg [.lit (.string [97, 100, 100]), .lit (.string [115, 117, 98]), .lit (.string [109, 117, 108]), .lit (.string [100, 105, 118]), .lit (.string [114, 101, 109]), .lit (.string [97, 110, 100]), .lit (.string [111, 114]), .lit (.string [120, 111, 114]), .lit (.string [115, 104, 108]), .lit (.string [115, 104, 114]), .lit (.string [101, 113]), .lit (.string [110, 101]), .lit (.string [108, 116]), .lit (.string [108, 101])]

/-- 'cupellaw23.EmulateRuns': WHATEVER THE INPUT: true; the input reads as it did. -/
def emulateRunsSpec : ChangeSpec := { name := "emulateRuns", fn := fun _ => fun
  | [d1, d2] => { results := [.lit (.bool true)], args := [d1, d2] }
  | _ => none }
def emulateRunsRow : OpenClaim := { program := "ytekhnkpjeofdpaadoor", sum := "28139fb8ab0d90d0d47582a77c30f873d511c3703fbf39367c67a1393aa9c4ad", func := "cupel/cupellaw23.EmulateRuns", spec := "emulateRuns", unfollowed := true, recurses := true, named := ["cupel/target.table", "cupel/target.binary"], apart := false, laid := [("cupel/target.table", laid_cupel_target_table), ("cupel/target.binary", laid_cupel_target_binary)] }
def EmulateRunsSaid : Prop := emulateRunsRow.holds Tryd.pinned (OpenSpec.ofChange emulateRunsSpec)

/-- ITS FALSE NEIGHBOUR: 'it returns false'. Refute it at one input. -/
def emulateRunsWrong : ChangeSpec := { name := "emulateRuns", fn := fun _ => fun
  | [d1, d2] => { results := [.lit (.bool false)], args := [d1, d2] }
  | _ => none }
def EmulateRunsWrongFalsely : Prop := emulateRunsRow.holds Tryd.pinned (OpenSpec.ofChange emulateRunsWrong)

/-- 'cupellaw23.EmulateGoesOn': WHATEVER THE INPUT: true; the input reads as it did. -/
def emulateGoesOnSpec : ChangeSpec := { name := "emulateGoesOn", fn := fun _ => fun
  | [d1, d2, d3] => { results := [.lit (.bool true)], args := [d1, d2, d3] }
  | _ => none }
def emulateGoesOnRow : OpenClaim := { program := "ytekhnkpjeofdpaadoor", sum := "28139fb8ab0d90d0d47582a77c30f873d511c3703fbf39367c67a1393aa9c4ad", func := "cupel/cupellaw23.EmulateGoesOn", spec := "emulateGoesOn", unfollowed := true, recurses := true, named := ["cupel/target.table", "cupel/target.binary"], apart := false, laid := [("cupel/target.table", laid_cupel_target_table), ("cupel/target.binary", laid_cupel_target_binary)] }
def EmulateGoesOnSaid : Prop := emulateGoesOnRow.holds Tryd.pinned (OpenSpec.ofChange emulateGoesOnSpec)

/-- ITS FALSE NEIGHBOUR: 'it returns false'. Refute it at one input. -/
def emulateGoesOnWrong : ChangeSpec := { name := "emulateGoesOn", fn := fun _ => fun
  | [d1, d2, d3] => { results := [.lit (.bool false)], args := [d1, d2, d3] }
  | _ => none }
def EmulateGoesOnWrongFalsely : Prop := emulateGoesOnRow.holds Tryd.pinned (OpenSpec.ofChange emulateGoesOnWrong)

/-- 'cupellaw23.EmulateSteps': WHATEVER THE INPUT: true; the input reads as it did. -/
def emulateStepsSpec : ChangeSpec := { name := "emulateSteps", fn := fun _ => fun
  | [d1, d2, d3] => { results := [.lit (.bool true)], args := [d1, d2, d3] }
  | _ => none }
def emulateStepsRow : OpenClaim := { program := "ytekhnkpjeofdpaadoor", sum := "28139fb8ab0d90d0d47582a77c30f873d511c3703fbf39367c67a1393aa9c4ad", func := "cupel/cupellaw23.EmulateSteps", spec := "emulateSteps", unfollowed := true, recurses := true, named := ["cupel/target.table", "cupel/target.binary"], apart := false, laid := [("cupel/target.table", laid_cupel_target_table), ("cupel/target.binary", laid_cupel_target_binary)] }
def EmulateStepsSaid : Prop := emulateStepsRow.holds Tryd.pinned (OpenSpec.ofChange emulateStepsSpec)

/-- ITS FALSE NEIGHBOUR: 'it returns false'. Refute it at one input. -/
def emulateStepsWrong : ChangeSpec := { name := "emulateSteps", fn := fun _ => fun
  | [d1, d2, d3] => { results := [.lit (.bool false)], args := [d1, d2, d3] }
  | _ => none }
def EmulateStepsWrongFalsely : Prop := emulateStepsRow.holds Tryd.pinned (OpenSpec.ofChange emulateStepsWrong)

/-- 'cupellaw23.EmulateCopies': WHATEVER THE INPUT: true; the input reads as it did. -/
def emulateCopiesSpec : ChangeSpec := { name := "emulateCopies", fn := fun _ => fun
  | [d1, d2] => { results := [.lit (.bool true)], args := [d1, d2] }
  | _ => none }
def emulateCopiesRow : OpenClaim := { program := "ytekhnkpjeofdpaadoor", sum := "28139fb8ab0d90d0d47582a77c30f873d511c3703fbf39367c67a1393aa9c4ad", func := "cupel/cupellaw23.EmulateCopies", spec := "emulateCopies", unfollowed := true, recurses := true, named := ["cupel/target.table", "cupel/target.binary"], apart := false, laid := [("cupel/target.table", laid_cupel_target_table), ("cupel/target.binary", laid_cupel_target_binary)] }
def EmulateCopiesSaid : Prop := emulateCopiesRow.holds Tryd.pinned (OpenSpec.ofChange emulateCopiesSpec)

/-- ITS FALSE NEIGHBOUR: 'it returns false'. Refute it at one input. -/
def emulateCopiesWrong : ChangeSpec := { name := "emulateCopies", fn := fun _ => fun
  | [d1, d2] => { results := [.lit (.bool false)], args := [d1, d2] }
  | _ => none }
def EmulateCopiesWrongFalsely : Prop := emulateCopiesRow.holds Tryd.pinned (OpenSpec.ofChange emulateCopiesWrong)

/-- 'cupellaw23.EmulateNone': WHATEVER THE INPUT: true; the input reads as it did. -/
def emulateNoneSpec : ChangeSpec := { name := "emulateNone", fn := fun _ => fun
  | [d] => { results := [.lit (.bool true)], args := [d] }
  | _ => none }
def emulateNoneRow : OpenClaim := { program := "ytekhnkpjeofdpaadoor", sum := "28139fb8ab0d90d0d47582a77c30f873d511c3703fbf39367c67a1393aa9c4ad", func := "cupel/cupellaw23.EmulateNone", spec := "emulateNone", unfollowed := true, recurses := true, named := ["cupel/target.table", "cupel/target.binary"], apart := false, laid := [("cupel/target.table", laid_cupel_target_table), ("cupel/target.binary", laid_cupel_target_binary)] }
def EmulateNoneSaid : Prop := emulateNoneRow.holds Tryd.pinned (OpenSpec.ofChange emulateNoneSpec)

/-- ITS FALSE NEIGHBOUR: 'it returns false'. Refute it at one input. -/
def emulateNoneWrong : ChangeSpec := { name := "emulateNone", fn := fun _ => fun
  | [d] => { results := [.lit (.bool false)], args := [d] }
  | _ => none }
def EmulateNoneWrongFalsely : Prop := emulateNoneRow.holds Tryd.pinned (OpenSpec.ofChange emulateNoneWrong)

/- THE SECOND FORM. 'bulk': how many values and letters a reading holds, each counted each time it is reached (what is shared counts as often as it is met; a slice's spare places count too). A statement '..UptoSaid' is the law's where the arguments, and the package variables that the reading takes, are together of bulk at most 1048576: NARROWER than '..Said'. Prove '..Said' where nothing that the law and all that it calls make is longer than what came in: it says more and counts as full. Else prove '..UptoSaid'. A law counts once. -/
mutual
def uptoBulk {H : Type} : DataW H → Nat
  | .lit (.string bytes) => bytes.length + 1
  | .lit _ => 1
  | .nil => 1
  | .ptr d => uptoBulk d + 1
  | .slice elems spare => uptoBulkAll elems + uptoBulkAll spare + 1
  | .agg parts => uptoBulkAll parts + 1
  | .iface _ d => uptoBulk d + 1
  | .map entries => uptoBulkEntries entries + 1
  | .held _ => 1
def uptoBulkAll {H : Type} : List (DataW H) → Nat
  | [] => 0
  | d :: r => uptoBulk d + uptoBulkAll r
def uptoBulkEntries {H : Type} : List (Lit × DataW H) → Nat
  | [] => 0
  | x :: r => uptoBulkEntry x + uptoBulkEntries r
def uptoBulkEntry {H : Type} : Lit × DataW H → Nat
  | (.string bytes, d) => bytes.length + uptoBulk d + 1
  | (_, d) => uptoBulk d + 1
 end
def uptoSmall : (H : Type) → List (DataW H) → Bool := fun _ ds => decide (uptoBulkAll ds ≤ 1048576)
def OpenSpec.upto (s : _root_.Go.ChangeSpec) : _root_.Go.OpenSpec := { _root_.Go.OpenSpec.ofChange s with cond := some uptoSmall }

/-- 'cupellaw23.EmulateRuns', WHERE WHAT IT READS IS OF BULK AT MOST 1048576: true; the input reads as it did. -/
def emulateRunsUptoRow : OpenClaim := { program := "ytekhnkpjeofdpaadoor", sum := "28139fb8ab0d90d0d47582a77c30f873d511c3703fbf39367c67a1393aa9c4ad", func := "cupel/cupellaw23.EmulateRuns", spec := "emulateRuns", unfollowed := true, recurses := true, named := ["cupel/target.table", "cupel/target.binary"], apart := false, laid := [("cupel/target.table", laid_cupel_target_table), ("cupel/target.binary", laid_cupel_target_binary)], narrowed := true }
def EmulateRunsUptoSaid : Prop := emulateRunsUptoRow.holds Tryd.pinned (OpenSpec.upto emulateRunsSpec)

/-- 'cupellaw23.EmulateGoesOn', WHERE WHAT IT READS IS OF BULK AT MOST 1048576: true; the input reads as it did. -/
def emulateGoesOnUptoRow : OpenClaim := { program := "ytekhnkpjeofdpaadoor", sum := "28139fb8ab0d90d0d47582a77c30f873d511c3703fbf39367c67a1393aa9c4ad", func := "cupel/cupellaw23.EmulateGoesOn", spec := "emulateGoesOn", unfollowed := true, recurses := true, named := ["cupel/target.table", "cupel/target.binary"], apart := false, laid := [("cupel/target.table", laid_cupel_target_table), ("cupel/target.binary", laid_cupel_target_binary)], narrowed := true }
def EmulateGoesOnUptoSaid : Prop := emulateGoesOnUptoRow.holds Tryd.pinned (OpenSpec.upto emulateGoesOnSpec)

/-- 'cupellaw23.EmulateSteps', WHERE WHAT IT READS IS OF BULK AT MOST 1048576: true; the input reads as it did. -/
def emulateStepsUptoRow : OpenClaim := { program := "ytekhnkpjeofdpaadoor", sum := "28139fb8ab0d90d0d47582a77c30f873d511c3703fbf39367c67a1393aa9c4ad", func := "cupel/cupellaw23.EmulateSteps", spec := "emulateSteps", unfollowed := true, recurses := true, named := ["cupel/target.table", "cupel/target.binary"], apart := false, laid := [("cupel/target.table", laid_cupel_target_table), ("cupel/target.binary", laid_cupel_target_binary)], narrowed := true }
def EmulateStepsUptoSaid : Prop := emulateStepsUptoRow.holds Tryd.pinned (OpenSpec.upto emulateStepsSpec)

/-- 'cupellaw23.EmulateCopies', WHERE WHAT IT READS IS OF BULK AT MOST 1048576: true; the input reads as it did. -/
def emulateCopiesUptoRow : OpenClaim := { program := "ytekhnkpjeofdpaadoor", sum := "28139fb8ab0d90d0d47582a77c30f873d511c3703fbf39367c67a1393aa9c4ad", func := "cupel/cupellaw23.EmulateCopies", spec := "emulateCopies", unfollowed := true, recurses := true, named := ["cupel/target.table", "cupel/target.binary"], apart := false, laid := [("cupel/target.table", laid_cupel_target_table), ("cupel/target.binary", laid_cupel_target_binary)], narrowed := true }
def EmulateCopiesUptoSaid : Prop := emulateCopiesUptoRow.holds Tryd.pinned (OpenSpec.upto emulateCopiesSpec)

/-- 'cupellaw23.EmulateNone', WHERE WHAT IT READS IS OF BULK AT MOST 1048576: true; the input reads as it did. -/
def emulateNoneUptoRow : OpenClaim := { program := "ytekhnkpjeofdpaadoor", sum := "28139fb8ab0d90d0d47582a77c30f873d511c3703fbf39367c67a1393aa9c4ad", func := "cupel/cupellaw23.EmulateNone", spec := "emulateNone", unfollowed := true, recurses := true, named := ["cupel/target.table", "cupel/target.binary"], apart := false, laid := [("cupel/target.table", laid_cupel_target_table), ("cupel/target.binary", laid_cupel_target_binary)], narrowed := true }
def EmulateNoneUptoSaid : Prop := emulateNoneUptoRow.holds Tryd.pinned (OpenSpec.upto emulateNoneSpec)

end Rows
end Go.Proofs.YtekhnkpjeofdpaaDoor
