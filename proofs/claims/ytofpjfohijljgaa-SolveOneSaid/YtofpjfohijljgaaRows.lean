/-
  No cell of these rows narrows 'for every input' (looked for: loops, veiled, ifaces, maps, wideKeys, modest, calm, conditions, laid).
  DERIVED. THE GIVEN ROWS OF THIS SEAT. 5 by the template 'for every input the law returns true; each argument reads behind the call as it read before'; 0 by the template 'total and deterministic' (their statements: YtofpjfohijljgaaTotals.lean).
  GIVEN WITH THE SEED: the statements are not yours to turn. If you find one false, say at which input.
  Laid BY PROGRAM, IN A SANDBOX (cutbox-rows.mjs): the forced cells as the released guide's own fill.sh prints them over the translation 1fdc64bd3191a1b7… (all of the seat's roots in one cut). By AI agents, Wed Nov 11 2026. No macro, syntax, notation, axiom, sorry.
-/
import Derived.Test.YtofpjfohijljgaaChecked
import GoSem.Claim
import GoSem.ClaimJoined
import GoSem.ClaimMapViews
import Derived.JoinedTies
import Derived.KernelRfl
namespace Go.Proofs.Ytofpjfohijljgaa
/- THE CELL 'sum', in the pinned program and in every row, IS THE sha256 OF THE DUMP (.gsa) THAT YtofpjfohijljgaaProg.lean LOADS. Nothing in Lean hashes anything: it is a label: what it is worth is what the hold of that sum in a sandbox is worth. -/
noncomputable def Try.pinned : Pinned := { name := "ytofpjfohijljgaa", sum := "1fdc64bd3191a1b7fe26f4f2bd35f1b495f6d296d6bdaf0e95e078474c830656", checked := Try.checked }
namespace Rows
def none {H : Type} : Left H := { results := [], args := [] }

/-- 'tumblelaw21.SolveAll': WHATEVER THE INPUT: true; the input reads as it did. -/
def solveAllSpec : ChangeSpec := { name := "solveAll", fn := fun _ => fun
  | [d1, d2, d3] => { results := [.lit (.bool true)], args := [d1, d2, d3] }
  | _ => none }
def solveAllRow : OpenClaim := { program := "ytofpjfohijljgaa", sum := "1fdc64bd3191a1b7fe26f4f2bd35f1b495f6d296d6bdaf0e95e078474c830656", func := "tumble/tumblelaw21.SolveAll", spec := "solveAll", inPlace := ["math.Float64frombits", "math.Float64bits"], unfollowed := true, recurses := true, apart := false }
def SolveAllSaid : Prop := solveAllRow.holds Try.pinned (OpenSpec.ofChange solveAllSpec)

/-- ITS FALSE NEIGHBOUR: 'it returns false'. Refute it at one input. -/
def solveAllWrong : ChangeSpec := { name := "solveAll", fn := fun _ => fun
  | [d1, d2, d3] => { results := [.lit (.bool false)], args := [d1, d2, d3] }
  | _ => none }
def SolveAllWrongFalsely : Prop := solveAllRow.holds Try.pinned (OpenSpec.ofChange solveAllWrong)

/-- 'tumblelaw21.SolveParts': WHATEVER THE INPUT: true; the input reads as it did. -/
def solvePartsSpec : ChangeSpec := { name := "solveParts", fn := fun _ => fun
  | [d1, d2, d3, d4] => { results := [.lit (.bool true)], args := [d1, d2, d3, d4] }
  | _ => none }
def solvePartsRow : OpenClaim := { program := "ytofpjfohijljgaa", sum := "1fdc64bd3191a1b7fe26f4f2bd35f1b495f6d296d6bdaf0e95e078474c830656", func := "tumble/tumblelaw21.SolveParts", spec := "solveParts", inPlace := ["math.Float64frombits", "math.Float64bits"], unfollowed := true, recurses := true, apart := false }
def SolvePartsSaid : Prop := solvePartsRow.holds Try.pinned (OpenSpec.ofChange solvePartsSpec)

/-- ITS FALSE NEIGHBOUR: 'it returns false'. Refute it at one input. -/
def solvePartsWrong : ChangeSpec := { name := "solveParts", fn := fun _ => fun
  | [d1, d2, d3, d4] => { results := [.lit (.bool false)], args := [d1, d2, d3, d4] }
  | _ => none }
def SolvePartsWrongFalsely : Prop := solvePartsRow.holds Try.pinned (OpenSpec.ofChange solvePartsWrong)

/-- 'tumblelaw21.SolveApart': WHATEVER THE INPUT: true; the input reads as it did. -/
def solveApartSpec : ChangeSpec := { name := "solveApart", fn := fun _ => fun
  | [d1, d2, d3, d4] => { results := [.lit (.bool true)], args := [d1, d2, d3, d4] }
  | _ => none }
def solveApartRow : OpenClaim := { program := "ytofpjfohijljgaa", sum := "1fdc64bd3191a1b7fe26f4f2bd35f1b495f6d296d6bdaf0e95e078474c830656", func := "tumble/tumblelaw21.SolveApart", spec := "solveApart", inPlace := ["math.Float64frombits", "math.Float64bits"], unfollowed := true, recurses := true, apart := false }
def SolveApartSaid : Prop := solveApartRow.holds Try.pinned (OpenSpec.ofChange solveApartSpec)

/-- ITS FALSE NEIGHBOUR: 'it returns false'. Refute it at one input. -/
def solveApartWrong : ChangeSpec := { name := "solveApart", fn := fun _ => fun
  | [d1, d2, d3, d4] => { results := [.lit (.bool false)], args := [d1, d2, d3, d4] }
  | _ => none }
def SolveApartWrongFalsely : Prop := solveApartRow.holds Try.pinned (OpenSpec.ofChange solveApartWrong)

/-- 'tumblelaw21.SolveOnly': WHATEVER THE INPUT: true; the input reads as it did. -/
def solveOnlySpec : ChangeSpec := { name := "solveOnly", fn := fun _ => fun
  | [d1, d2, d3, d4] => { results := [.lit (.bool true)], args := [d1, d2, d3, d4] }
  | _ => none }
def solveOnlyRow : OpenClaim := { program := "ytofpjfohijljgaa", sum := "1fdc64bd3191a1b7fe26f4f2bd35f1b495f6d296d6bdaf0e95e078474c830656", func := "tumble/tumblelaw21.SolveOnly", spec := "solveOnly", inPlace := ["math.Float64frombits", "math.Float64bits"], unfollowed := true, recurses := true, apart := false }
def SolveOnlySaid : Prop := solveOnlyRow.holds Try.pinned (OpenSpec.ofChange solveOnlySpec)

/-- ITS FALSE NEIGHBOUR: 'it returns false'. Refute it at one input. -/
def solveOnlyWrong : ChangeSpec := { name := "solveOnly", fn := fun _ => fun
  | [d1, d2, d3, d4] => { results := [.lit (.bool false)], args := [d1, d2, d3, d4] }
  | _ => none }
def SolveOnlyWrongFalsely : Prop := solveOnlyRow.holds Try.pinned (OpenSpec.ofChange solveOnlyWrong)

/-- 'tumblelaw21.SolveOne': WHATEVER THE INPUT: true; the input reads as it did. -/
def solveOneSpec : ChangeSpec := { name := "solveOne", fn := fun _ => fun
  | [d1, d2, d3] => { results := [.lit (.bool true)], args := [d1, d2, d3] }
  | _ => none }
def solveOneRow : OpenClaim := { program := "ytofpjfohijljgaa", sum := "1fdc64bd3191a1b7fe26f4f2bd35f1b495f6d296d6bdaf0e95e078474c830656", func := "tumble/tumblelaw21.SolveOne", spec := "solveOne", inPlace := ["math.Float64frombits", "math.Float64bits"], unfollowed := true, recurses := true, apart := false }
def SolveOneSaid : Prop := solveOneRow.holds Try.pinned (OpenSpec.ofChange solveOneSpec)

/-- ITS FALSE NEIGHBOUR: 'it returns false'. Refute it at one input. -/
def solveOneWrong : ChangeSpec := { name := "solveOne", fn := fun _ => fun
  | [d1, d2, d3] => { results := [.lit (.bool false)], args := [d1, d2, d3] }
  | _ => none }
def SolveOneWrongFalsely : Prop := solveOneRow.holds Try.pinned (OpenSpec.ofChange solveOneWrong)

/- THE SECOND FORM. 'bulk': how many values and letters a reading holds, each counted each time it is reached (what is shared counts as often as it is met; a slice's spare places count too). A statement '..UptoSaid' is the law's where the arguments, and the package variables that the reading takes, are together of bulk at most 1048576: NARROWER than '..Said'. Prove '..Said' where nothing that the law and all that it calls make is longer than what came in: it says more and counts as full. Else prove '..UptoSaid'. A law counts once. -/
mutual
def uptoBulk {H : Type} : DataW H → Nat
  | .lit (.string bytes) => bytes.length + 1
  | .lit _ => 1
  | .nil => 1
  | .ptr d => uptoBulk d + 1
  | .slice elems spare => uptoBulkAll elems + uptoBulkAll spare + 1
  | .agg parts => uptoBulkAll parts + 1
  | .iface _ d => uptoBulk d + 1
  | .map entries => uptoBulkEntries entries + 1
  | .held _ => 1
def uptoBulkAll {H : Type} : List (DataW H) → Nat
  | [] => 0
  | d :: r => uptoBulk d + uptoBulkAll r
def uptoBulkEntries {H : Type} : List (Lit × DataW H) → Nat
  | [] => 0
  | x :: r => uptoBulkEntry x + uptoBulkEntries r
def uptoBulkEntry {H : Type} : Lit × DataW H → Nat
  | (.string bytes, d) => bytes.length + uptoBulk d + 1
  | (_, d) => uptoBulk d + 1
 end
def uptoSmall : (H : Type) → List (DataW H) → Bool := fun _ ds => decide (uptoBulkAll ds ≤ 1048576)
def OpenSpec.upto (s : _root_.Go.ChangeSpec) : _root_.Go.OpenSpec := { _root_.Go.OpenSpec.ofChange s with cond := some uptoSmall }

/-- 'tumblelaw21.SolveAll', WHERE WHAT IT READS IS OF BULK AT MOST 1048576: true; the input reads as it did. -/
def solveAllUptoRow : OpenClaim := { program := "ytofpjfohijljgaa", sum := "1fdc64bd3191a1b7fe26f4f2bd35f1b495f6d296d6bdaf0e95e078474c830656", func := "tumble/tumblelaw21.SolveAll", spec := "solveAll", inPlace := ["math.Float64frombits", "math.Float64bits"], unfollowed := true, recurses := true, apart := false, narrowed := true }
def SolveAllUptoSaid : Prop := solveAllUptoRow.holds Try.pinned (OpenSpec.upto solveAllSpec)

/-- 'tumblelaw21.SolveParts', WHERE WHAT IT READS IS OF BULK AT MOST 1048576: true; the input reads as it did. -/
def solvePartsUptoRow : OpenClaim := { program := "ytofpjfohijljgaa", sum := "1fdc64bd3191a1b7fe26f4f2bd35f1b495f6d296d6bdaf0e95e078474c830656", func := "tumble/tumblelaw21.SolveParts", spec := "solveParts", inPlace := ["math.Float64frombits", "math.Float64bits"], unfollowed := true, recurses := true, apart := false, narrowed := true }
def SolvePartsUptoSaid : Prop := solvePartsUptoRow.holds Try.pinned (OpenSpec.upto solvePartsSpec)

/-- 'tumblelaw21.SolveApart', WHERE WHAT IT READS IS OF BULK AT MOST 1048576: true; the input reads as it did. -/
def solveApartUptoRow : OpenClaim := { program := "ytofpjfohijljgaa", sum := "1fdc64bd3191a1b7fe26f4f2bd35f1b495f6d296d6bdaf0e95e078474c830656", func := "tumble/tumblelaw21.SolveApart", spec := "solveApart", inPlace := ["math.Float64frombits", "math.Float64bits"], unfollowed := true, recurses := true, apart := false, narrowed := true }
def SolveApartUptoSaid : Prop := solveApartUptoRow.holds Try.pinned (OpenSpec.upto solveApartSpec)

/-- 'tumblelaw21.SolveOnly', WHERE WHAT IT READS IS OF BULK AT MOST 1048576: true; the input reads as it did. -/
def solveOnlyUptoRow : OpenClaim := { program := "ytofpjfohijljgaa", sum := "1fdc64bd3191a1b7fe26f4f2bd35f1b495f6d296d6bdaf0e95e078474c830656", func := "tumble/tumblelaw21.SolveOnly", spec := "solveOnly", inPlace := ["math.Float64frombits", "math.Float64bits"], unfollowed := true, recurses := true, apart := false, narrowed := true }
def SolveOnlyUptoSaid : Prop := solveOnlyUptoRow.holds Try.pinned (OpenSpec.upto solveOnlySpec)

/-- 'tumblelaw21.SolveOne', WHERE WHAT IT READS IS OF BULK AT MOST 1048576: true; the input reads as it did. -/
def solveOneUptoRow : OpenClaim := { program := "ytofpjfohijljgaa", sum := "1fdc64bd3191a1b7fe26f4f2bd35f1b495f6d296d6bdaf0e95e078474c830656", func := "tumble/tumblelaw21.SolveOne", spec := "solveOne", inPlace := ["math.Float64frombits", "math.Float64bits"], unfollowed := true, recurses := true, apart := false, narrowed := true }
def SolveOneUptoSaid : Prop := solveOneUptoRow.holds Try.pinned (OpenSpec.upto solveOneSpec)

end Rows
end Go.Proofs.Ytofpjfohijljgaa
