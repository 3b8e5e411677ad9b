/-
  No cell of these rows narrows 'for every input' (looked for: loops, veiled, ifaces, maps, wideKeys, modest, calm, conditions, laid).
  DERIVED. THE GIVEN ROWS OF THIS SEAT. 7 by the template 'for every input the law returns true; each argument reads behind the call as it read before'; 0 by the template 'total and deterministic' (their statements: YtojahopdcnamjaaTotals.lean).
  GIVEN WITH THE SEED: the statements are not yours to turn. If you find one false, say at which input.
  Laid BY PROGRAM, IN A SANDBOX (cutbox-rows.mjs): the forced cells as the released guide's own fill.sh prints them over the translation 3fedf70b92a2e810… (all of the seat's roots in one cut). By AI agents, Wed Nov 11 2026. No macro, syntax, notation, axiom, sorry.
-/
import Derived.Test.YtojahopdcnamjaaChecked
import GoSem.Claim
import GoSem.ClaimJoined
import GoSem.ClaimMapViews
import Derived.JoinedTies
import Derived.KernelRfl
namespace Go.Proofs.Ytojahopdcnamjaa
/- THE CELL 'sum', in the pinned program and in every row, IS THE sha256 OF THE DUMP (.gsa) THAT YtojahopdcnamjaaProg.lean LOADS. Nothing in Lean hashes anything: it is a label: what it is worth is what the hold of that sum in a sandbox is worth. -/
noncomputable def Try.pinned : Pinned := { name := "ytojahopdcnamjaa", sum := "3fedf70b92a2e81095912d5abea4a4b52881a7b931567664006993201e34e0d5", checked := Try.checked }
namespace Rows
def none {H : Type} : Left H := { results := [], args := [] }

/-- 'tumblelaw20.RowMixes': WHATEVER THE INPUT: true; the input reads as it did. -/
def rowMixesSpec : ChangeSpec := { name := "rowMixes", fn := fun _ => fun
  | [d1, d2, d3, d4] => { results := [.lit (.bool true)], args := [d1, d2, d3, d4] }
  | _ => none }
def rowMixesRow : OpenClaim := { program := "ytojahopdcnamjaa", sum := "3fedf70b92a2e81095912d5abea4a4b52881a7b931567664006993201e34e0d5", func := "tumble/tumblelaw20.RowMixes", spec := "rowMixes", inPlace := ["math.Float64frombits", "math.sqrt", "math.Float64bits"], unfollowed := true, recurses := true, apart := false }
def RowMixesSaid : Prop := rowMixesRow.holds Try.pinned (OpenSpec.ofChange rowMixesSpec)

/-- ITS FALSE NEIGHBOUR: 'it returns false'. Refute it at one input. -/
def rowMixesWrong : ChangeSpec := { name := "rowMixes", fn := fun _ => fun
  | [d1, d2, d3, d4] => { results := [.lit (.bool false)], args := [d1, d2, d3, d4] }
  | _ => none }
def RowMixesWrongFalsely : Prop := rowMixesRow.holds Try.pinned (OpenSpec.ofChange rowMixesWrong)

/-- 'tumblelaw20.RowSolved': WHATEVER THE INPUT: true; the input reads as it did. -/
def rowSolvedSpec : ChangeSpec := { name := "rowSolved", fn := fun _ => fun
  | [d1, d2, d3] => { results := [.lit (.bool true)], args := [d1, d2, d3] }
  | _ => none }
def rowSolvedRow : OpenClaim := { program := "ytojahopdcnamjaa", sum := "3fedf70b92a2e81095912d5abea4a4b52881a7b931567664006993201e34e0d5", func := "tumble/tumblelaw20.RowSolved", spec := "rowSolved", inPlace := ["math.Float64frombits", "math.sqrt", "math.Float64bits"], unfollowed := true, recurses := true, apart := false }
def RowSolvedSaid : Prop := rowSolvedRow.holds Try.pinned (OpenSpec.ofChange rowSolvedSpec)

/-- ITS FALSE NEIGHBOUR: 'it returns false'. Refute it at one input. -/
def rowSolvedWrong : ChangeSpec := { name := "rowSolved", fn := fun _ => fun
  | [d1, d2, d3] => { results := [.lit (.bool false)], args := [d1, d2, d3] }
  | _ => none }
def RowSolvedWrongFalsely : Prop := rowSolvedRow.holds Try.pinned (OpenSpec.ofChange rowSolvedWrong)

/-- 'tumblelaw20.RowEnergy': WHATEVER THE INPUT: true; the input reads as it did. -/
def rowEnergySpec : ChangeSpec := { name := "rowEnergy", fn := fun _ => fun
  | [d1, d2, d3] => { results := [.lit (.bool true)], args := [d1, d2, d3] }
  | _ => none }
def rowEnergyRow : OpenClaim := { program := "ytojahopdcnamjaa", sum := "3fedf70b92a2e81095912d5abea4a4b52881a7b931567664006993201e34e0d5", func := "tumble/tumblelaw20.RowEnergy", spec := "rowEnergy", inPlace := ["math.Float64frombits", "math.sqrt", "math.Float64bits"], unfollowed := true, recurses := true, apart := false }
def RowEnergySaid : Prop := rowEnergyRow.holds Try.pinned (OpenSpec.ofChange rowEnergySpec)

/-- ITS FALSE NEIGHBOUR: 'it returns false'. Refute it at one input. -/
def rowEnergyWrong : ChangeSpec := { name := "rowEnergy", fn := fun _ => fun
  | [d1, d2, d3] => { results := [.lit (.bool false)], args := [d1, d2, d3] }
  | _ => none }
def RowEnergyWrongFalsely : Prop := rowEnergyRow.holds Try.pinned (OpenSpec.ofChange rowEnergyWrong)

/-- 'tumblelaw20.RowOnes': WHATEVER THE INPUT: true; the input reads as it did. -/
def rowOnesSpec : ChangeSpec := { name := "rowOnes", fn := fun _ => fun
  | [d1, d2, d3, d4, d5] => { results := [.lit (.bool true)], args := [d1, d2, d3, d4, d5] }
  | _ => none }
def rowOnesRow : OpenClaim := { program := "ytojahopdcnamjaa", sum := "3fedf70b92a2e81095912d5abea4a4b52881a7b931567664006993201e34e0d5", func := "tumble/tumblelaw20.RowOnes", spec := "rowOnes", inPlace := ["math.Float64frombits", "math.sqrt", "math.Float64bits"], unfollowed := true, recurses := true, apart := false }
def RowOnesSaid : Prop := rowOnesRow.holds Try.pinned (OpenSpec.ofChange rowOnesSpec)

/-- ITS FALSE NEIGHBOUR: 'it returns false'. Refute it at one input. -/
def rowOnesWrong : ChangeSpec := { name := "rowOnes", fn := fun _ => fun
  | [d1, d2, d3, d4, d5] => { results := [.lit (.bool false)], args := [d1, d2, d3, d4, d5] }
  | _ => none }
def RowOnesWrongFalsely : Prop := rowOnesRow.holds Try.pinned (OpenSpec.ofChange rowOnesWrong)

/-- 'tumblelaw20.RowBack': WHATEVER THE INPUT: true; the input reads as it did. -/
def rowBackSpec : ChangeSpec := { name := "rowBack", fn := fun _ => fun
  | [d1, d2, d3] => { results := [.lit (.bool true)], args := [d1, d2, d3] }
  | _ => none }
def rowBackRow : OpenClaim := { program := "ytojahopdcnamjaa", sum := "3fedf70b92a2e81095912d5abea4a4b52881a7b931567664006993201e34e0d5", func := "tumble/tumblelaw20.RowBack", spec := "rowBack", inPlace := ["math.Float64frombits", "math.sqrt", "math.Float64bits"], unfollowed := true, recurses := true, apart := false }
def RowBackSaid : Prop := rowBackRow.holds Try.pinned (OpenSpec.ofChange rowBackSpec)

/-- ITS FALSE NEIGHBOUR: 'it returns false'. Refute it at one input. -/
def rowBackWrong : ChangeSpec := { name := "rowBack", fn := fun _ => fun
  | [d1, d2, d3] => { results := [.lit (.bool false)], args := [d1, d2, d3] }
  | _ => none }
def RowBackWrongFalsely : Prop := rowBackRow.holds Try.pinned (OpenSpec.ofChange rowBackWrong)

/-- 'tumblelaw20.RowScaled': WHATEVER THE INPUT: true; the input reads as it did. -/
def rowScaledSpec : ChangeSpec := { name := "rowScaled", fn := fun _ => fun
  | [d1, d2, d3, d4] => { results := [.lit (.bool true)], args := [d1, d2, d3, d4] }
  | _ => none }
def rowScaledRow : OpenClaim := { program := "ytojahopdcnamjaa", sum := "3fedf70b92a2e81095912d5abea4a4b52881a7b931567664006993201e34e0d5", func := "tumble/tumblelaw20.RowScaled", spec := "rowScaled", inPlace := ["math.Float64frombits", "math.sqrt", "math.Float64bits"], unfollowed := true, recurses := true, apart := false }
def RowScaledSaid : Prop := rowScaledRow.holds Try.pinned (OpenSpec.ofChange rowScaledSpec)

/-- ITS FALSE NEIGHBOUR: 'it returns false'. Refute it at one input. -/
def rowScaledWrong : ChangeSpec := { name := "rowScaled", fn := fun _ => fun
  | [d1, d2, d3, d4] => { results := [.lit (.bool false)], args := [d1, d2, d3, d4] }
  | _ => none }
def RowScaledWrongFalsely : Prop := rowScaledRow.holds Try.pinned (OpenSpec.ofChange rowScaledWrong)

/-- 'tumblelaw20.RowKeeps': WHATEVER THE INPUT: true; the input reads as it did. -/
def rowKeepsSpec : ChangeSpec := { name := "rowKeeps", fn := fun _ => fun
  | [d1, d2] => { results := [.lit (.bool true)], args := [d1, d2] }
  | _ => none }
def rowKeepsRow : OpenClaim := { program := "ytojahopdcnamjaa", sum := "3fedf70b92a2e81095912d5abea4a4b52881a7b931567664006993201e34e0d5", func := "tumble/tumblelaw20.RowKeeps", spec := "rowKeeps", inPlace := ["math.Float64frombits", "math.sqrt", "math.Float64bits"], unfollowed := true, recurses := true, apart := false }
def RowKeepsSaid : Prop := rowKeepsRow.holds Try.pinned (OpenSpec.ofChange rowKeepsSpec)

/-- ITS FALSE NEIGHBOUR: 'it returns false'. Refute it at one input. -/
def rowKeepsWrong : ChangeSpec := { name := "rowKeeps", fn := fun _ => fun
  | [d1, d2] => { results := [.lit (.bool false)], args := [d1, d2] }
  | _ => none }
def RowKeepsWrongFalsely : Prop := rowKeepsRow.holds Try.pinned (OpenSpec.ofChange rowKeepsWrong)

/- THE SECOND FORM. 'bulk': how many values and letters a reading holds, each counted each time it is reached (what is shared counts as often as it is met; a slice's spare places count too). A statement '..UptoSaid' is the law's where the arguments, and the package variables that the reading takes, are together of bulk at most 1048576: NARROWER than '..Said'. Prove '..Said' where nothing that the law and all that it calls make is longer than what came in: it says more and counts as full. Else prove '..UptoSaid'. A law counts once. -/
mutual
def uptoBulk {H : Type} : DataW H → Nat
  | .lit (.string bytes) => bytes.length + 1
  | .lit _ => 1
  | .nil => 1
  | .ptr d => uptoBulk d + 1
  | .slice elems spare => uptoBulkAll elems + uptoBulkAll spare + 1
  | .agg parts => uptoBulkAll parts + 1
  | .iface _ d => uptoBulk d + 1
  | .map entries => uptoBulkEntries entries + 1
  | .held _ => 1
def uptoBulkAll {H : Type} : List (DataW H) → Nat
  | [] => 0
  | d :: r => uptoBulk d + uptoBulkAll r
def uptoBulkEntries {H : Type} : List (Lit × DataW H) → Nat
  | [] => 0
  | x :: r => uptoBulkEntry x + uptoBulkEntries r
def uptoBulkEntry {H : Type} : Lit × DataW H → Nat
  | (.string bytes, d) => bytes.length + uptoBulk d + 1
  | (_, d) => uptoBulk d + 1
 end
def uptoSmall : (H : Type) → List (DataW H) → Bool := fun _ ds => decide (uptoBulkAll ds ≤ 1048576)
def OpenSpec.upto (s : _root_.Go.ChangeSpec) : _root_.Go.OpenSpec := { _root_.Go.OpenSpec.ofChange s with cond := some uptoSmall }

/-- 'tumblelaw20.RowMixes', WHERE WHAT IT READS IS OF BULK AT MOST 1048576: true; the input reads as it did. -/
def rowMixesUptoRow : OpenClaim := { program := "ytojahopdcnamjaa", sum := "3fedf70b92a2e81095912d5abea4a4b52881a7b931567664006993201e34e0d5", func := "tumble/tumblelaw20.RowMixes", spec := "rowMixes", inPlace := ["math.Float64frombits", "math.sqrt", "math.Float64bits"], unfollowed := true, recurses := true, apart := false, narrowed := true }
def RowMixesUptoSaid : Prop := rowMixesUptoRow.holds Try.pinned (OpenSpec.upto rowMixesSpec)

/-- 'tumblelaw20.RowSolved', WHERE WHAT IT READS IS OF BULK AT MOST 1048576: true; the input reads as it did. -/
def rowSolvedUptoRow : OpenClaim := { program := "ytojahopdcnamjaa", sum := "3fedf70b92a2e81095912d5abea4a4b52881a7b931567664006993201e34e0d5", func := "tumble/tumblelaw20.RowSolved", spec := "rowSolved", inPlace := ["math.Float64frombits", "math.sqrt", "math.Float64bits"], unfollowed := true, recurses := true, apart := false, narrowed := true }
def RowSolvedUptoSaid : Prop := rowSolvedUptoRow.holds Try.pinned (OpenSpec.upto rowSolvedSpec)

/-- 'tumblelaw20.RowEnergy', WHERE WHAT IT READS IS OF BULK AT MOST 1048576: true; the input reads as it did. -/
def rowEnergyUptoRow : OpenClaim := { program := "ytojahopdcnamjaa", sum := "3fedf70b92a2e81095912d5abea4a4b52881a7b931567664006993201e34e0d5", func := "tumble/tumblelaw20.RowEnergy", spec := "rowEnergy", inPlace := ["math.Float64frombits", "math.sqrt", "math.Float64bits"], unfollowed := true, recurses := true, apart := false, narrowed := true }
def RowEnergyUptoSaid : Prop := rowEnergyUptoRow.holds Try.pinned (OpenSpec.upto rowEnergySpec)

/-- 'tumblelaw20.RowOnes', WHERE WHAT IT READS IS OF BULK AT MOST 1048576: true; the input reads as it did. -/
def rowOnesUptoRow : OpenClaim := { program := "ytojahopdcnamjaa", sum := "3fedf70b92a2e81095912d5abea4a4b52881a7b931567664006993201e34e0d5", func := "tumble/tumblelaw20.RowOnes", spec := "rowOnes", inPlace := ["math.Float64frombits", "math.sqrt", "math.Float64bits"], unfollowed := true, recurses := true, apart := false, narrowed := true }
def RowOnesUptoSaid : Prop := rowOnesUptoRow.holds Try.pinned (OpenSpec.upto rowOnesSpec)

/-- 'tumblelaw20.RowBack', WHERE WHAT IT READS IS OF BULK AT MOST 1048576: true; the input reads as it did. -/
def rowBackUptoRow : OpenClaim := { program := "ytojahopdcnamjaa", sum := "3fedf70b92a2e81095912d5abea4a4b52881a7b931567664006993201e34e0d5", func := "tumble/tumblelaw20.RowBack", spec := "rowBack", inPlace := ["math.Float64frombits", "math.sqrt", "math.Float64bits"], unfollowed := true, recurses := true, apart := false, narrowed := true }
def RowBackUptoSaid : Prop := rowBackUptoRow.holds Try.pinned (OpenSpec.upto rowBackSpec)

/-- 'tumblelaw20.RowScaled', WHERE WHAT IT READS IS OF BULK AT MOST 1048576: true; the input reads as it did. -/
def rowScaledUptoRow : OpenClaim := { program := "ytojahopdcnamjaa", sum := "3fedf70b92a2e81095912d5abea4a4b52881a7b931567664006993201e34e0d5", func := "tumble/tumblelaw20.RowScaled", spec := "rowScaled", inPlace := ["math.Float64frombits", "math.sqrt", "math.Float64bits"], unfollowed := true, recurses := true, apart := false, narrowed := true }
def RowScaledUptoSaid : Prop := rowScaledUptoRow.holds Try.pinned (OpenSpec.upto rowScaledSpec)

/-- 'tumblelaw20.RowKeeps', WHERE WHAT IT READS IS OF BULK AT MOST 1048576: true; the input reads as it did. -/
def rowKeepsUptoRow : OpenClaim := { program := "ytojahopdcnamjaa", sum := "3fedf70b92a2e81095912d5abea4a4b52881a7b931567664006993201e34e0d5", func := "tumble/tumblelaw20.RowKeeps", spec := "rowKeeps", inPlace := ["math.Float64frombits", "math.sqrt", "math.Float64bits"], unfollowed := true, recurses := true, apart := false, narrowed := true }
def RowKeepsUptoSaid : Prop := rowKeepsUptoRow.holds Try.pinned (OpenSpec.upto rowKeepsSpec)

end Rows
end Go.Proofs.Ytojahopdcnamjaa
