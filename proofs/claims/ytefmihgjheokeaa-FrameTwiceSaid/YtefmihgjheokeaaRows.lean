/-
  No cell of these rows narrows 'for every input' (looked for: loops, veiled, ifaces, maps, wideKeys, modest, calm, conditions, laid).
  DERIVED. THE GIVEN ROWS OF THIS SEAT. 6 by the template 'for every input the law returns true; each argument reads behind the call as it read before'; 0 by the template 'total and deterministic' (their statements: YtefmihgjheokeaaTotals.lean).
  GIVEN WITH THE SEED: the statements are not yours to turn. If you find one false, say at which input.
  Laid BY PROGRAM, IN A SANDBOX (cutbox-rows.mjs): the forced cells as the released guide's own fill.sh prints them over the translation 0cf19a42d4042dba… (all of the seat's roots in one cut). By AI agents, Wed Nov 11 2026. No macro, syntax, notation, axiom, sorry.
-/
import Derived.Test.YtefmihgjheokeaaChecked
import GoSem.Claim
import GoSem.ClaimJoined
import GoSem.ClaimMapViews
import Derived.JoinedTies
import Derived.KernelRfl
namespace Go.Proofs.Ytefmihgjheokeaa
/- THE CELL 'sum', in the pinned program and in every row, IS THE sha256 OF THE DUMP (.gsa) THAT YtefmihgjheokeaaProg.lean LOADS. Nothing in Lean hashes anything: it is a label: what it is worth is what the hold of that sum in a sandbox is worth. -/
noncomputable def Try.pinned : Pinned := { name := "ytefmihgjheokeaa", sum := "0cf19a42d4042dba295c2562c146f6ae86b9f9dc8cb803ecf4688a8f81e8a662", checked := Try.checked }
namespace Rows
def none {H : Type} : Left H := { results := [], args := [] }

/-- 'tumblelaw04.FrameThens': WHATEVER THE INPUT: true; the input reads as it did. -/
def frameThensSpec : ChangeSpec := { name := "frameThens", fn := fun _ => fun
  | [d1, d2] => { results := [.lit (.bool true)], args := [d1, d2] }
  | _ => none }
def frameThensRow : OpenClaim := { program := "ytefmihgjheokeaa", sum := "0cf19a42d4042dba295c2562c146f6ae86b9f9dc8cb803ecf4688a8f81e8a662", func := "tumble/tumblelaw04.FrameThens", spec := "frameThens", inPlace := ["math.Float64frombits", "math.Float64bits"], unfollowed := true, recurses := true, apart := false }
def FrameThensSaid : Prop := frameThensRow.holds Try.pinned (OpenSpec.ofChange frameThensSpec)

/-- ITS FALSE NEIGHBOUR: 'it returns false'. Refute it at one input. -/
def frameThensWrong : ChangeSpec := { name := "frameThens", fn := fun _ => fun
  | [d1, d2] => { results := [.lit (.bool false)], args := [d1, d2] }
  | _ => none }
def FrameThensWrongFalsely : Prop := frameThensRow.holds Try.pinned (OpenSpec.ofChange frameThensWrong)

/-- 'tumblelaw04.FramePlaces': WHATEVER THE INPUT: true; the input reads as it did. -/
def framePlacesSpec : ChangeSpec := { name := "framePlaces", fn := fun _ => fun
  | [d1, d2, d3] => { results := [.lit (.bool true)], args := [d1, d2, d3] }
  | _ => none }
def framePlacesRow : OpenClaim := { program := "ytefmihgjheokeaa", sum := "0cf19a42d4042dba295c2562c146f6ae86b9f9dc8cb803ecf4688a8f81e8a662", func := "tumble/tumblelaw04.FramePlaces", spec := "framePlaces", inPlace := ["math.Float64frombits", "math.Float64bits"], unfollowed := true, recurses := true, apart := false }
def FramePlacesSaid : Prop := framePlacesRow.holds Try.pinned (OpenSpec.ofChange framePlacesSpec)

/-- ITS FALSE NEIGHBOUR: 'it returns false'. Refute it at one input. -/
def framePlacesWrong : ChangeSpec := { name := "framePlaces", fn := fun _ => fun
  | [d1, d2, d3] => { results := [.lit (.bool false)], args := [d1, d2, d3] }
  | _ => none }
def FramePlacesWrongFalsely : Prop := framePlacesRow.holds Try.pinned (OpenSpec.ofChange framePlacesWrong)

/-- 'tumblelaw04.FrameMoves': WHATEVER THE INPUT: true; the input reads as it did. -/
def frameMovesSpec : ChangeSpec := { name := "frameMoves", fn := fun _ => fun
  | [d1, d2, d3, d4] => { results := [.lit (.bool true)], args := [d1, d2, d3, d4] }
  | _ => none }
def frameMovesRow : OpenClaim := { program := "ytefmihgjheokeaa", sum := "0cf19a42d4042dba295c2562c146f6ae86b9f9dc8cb803ecf4688a8f81e8a662", func := "tumble/tumblelaw04.FrameMoves", spec := "frameMoves", inPlace := ["math.Float64frombits", "math.Float64bits", "math.sqrt"], apart := false }
def FrameMovesSaid : Prop := frameMovesRow.holds Try.pinned (OpenSpec.ofChange frameMovesSpec)

/-- ITS FALSE NEIGHBOUR: 'it returns false'. Refute it at one input. -/
def frameMovesWrong : ChangeSpec := { name := "frameMoves", fn := fun _ => fun
  | [d1, d2, d3, d4] => { results := [.lit (.bool false)], args := [d1, d2, d3, d4] }
  | _ => none }
def FrameMovesWrongFalsely : Prop := frameMovesRow.holds Try.pinned (OpenSpec.ofChange frameMovesWrong)

/-- 'tumblelaw04.FrameBack': WHATEVER THE INPUT: true; the input reads as it did. -/
def frameBackSpec : ChangeSpec := { name := "frameBack", fn := fun _ => fun
  | [d1, d2] => { results := [.lit (.bool true)], args := [d1, d2] }
  | _ => none }
def frameBackRow : OpenClaim := { program := "ytefmihgjheokeaa", sum := "0cf19a42d4042dba295c2562c146f6ae86b9f9dc8cb803ecf4688a8f81e8a662", func := "tumble/tumblelaw04.FrameBack", spec := "frameBack", inPlace := ["math.Float64bits", "math.Float64frombits", "math.sqrt"], unfollowed := true, recurses := true, apart := false }
def FrameBackSaid : Prop := frameBackRow.holds Try.pinned (OpenSpec.ofChange frameBackSpec)

/-- ITS FALSE NEIGHBOUR: 'it returns false'. Refute it at one input. -/
def frameBackWrong : ChangeSpec := { name := "frameBack", fn := fun _ => fun
  | [d1, d2] => { results := [.lit (.bool false)], args := [d1, d2] }
  | _ => none }
def FrameBackWrongFalsely : Prop := frameBackRow.holds Try.pinned (OpenSpec.ofChange frameBackWrong)

/-- 'tumblelaw04.FrameTwice': WHATEVER THE INPUT: true; the input reads as it did. -/
def frameTwiceSpec : ChangeSpec := { name := "frameTwice", fn := fun _ => fun
  | [d1, d2, d3, d4] => { results := [.lit (.bool true)], args := [d1, d2, d3, d4] }
  | _ => none }
def frameTwiceRow : OpenClaim := { program := "ytefmihgjheokeaa", sum := "0cf19a42d4042dba295c2562c146f6ae86b9f9dc8cb803ecf4688a8f81e8a662", func := "tumble/tumblelaw04.FrameTwice", spec := "frameTwice", inPlace := ["math.Float64bits", "math.Float64frombits", "math.sqrt"], unfollowed := true, recurses := true, apart := false }
def FrameTwiceSaid : Prop := frameTwiceRow.holds Try.pinned (OpenSpec.ofChange frameTwiceSpec)

/-- ITS FALSE NEIGHBOUR: 'it returns false'. Refute it at one input. -/
def frameTwiceWrong : ChangeSpec := { name := "frameTwice", fn := fun _ => fun
  | [d1, d2, d3, d4] => { results := [.lit (.bool false)], args := [d1, d2, d3, d4] }
  | _ => none }
def FrameTwiceWrongFalsely : Prop := frameTwiceRow.holds Try.pinned (OpenSpec.ofChange frameTwiceWrong)

/-- 'tumblelaw04.FrameNames': WHATEVER THE INPUT: true; the input reads as it did. -/
def frameNamesSpec : ChangeSpec := { name := "frameNames", fn := fun _ => fun
  | [] => { results := [.lit (.bool true)], args := [] }
  | _ => none }
def frameNamesRow : OpenClaim := { program := "ytefmihgjheokeaa", sum := "0cf19a42d4042dba295c2562c146f6ae86b9f9dc8cb803ecf4688a8f81e8a662", func := "tumble/tumblelaw04.FrameNames", spec := "frameNames", inPlace := ["math.Float64frombits", "math.Float64bits", "math.sqrt"], unfollowed := true, recurses := true, apart := false }
def FrameNamesSaid : Prop := frameNamesRow.holds Try.pinned (OpenSpec.ofChange frameNamesSpec)

/-- ITS FALSE NEIGHBOUR: 'it returns false'. Refute it at one input. -/
def frameNamesWrong : ChangeSpec := { name := "frameNames", fn := fun _ => fun
  | [] => { results := [.lit (.bool false)], args := [] }
  | _ => none }
def FrameNamesWrongFalsely : Prop := frameNamesRow.holds Try.pinned (OpenSpec.ofChange frameNamesWrong)

/- THE SECOND FORM. 'bulk': how many values and letters a reading holds, each counted each time it is reached (what is shared counts as often as it is met; a slice's spare places count too). A statement '..UptoSaid' is the law's where the arguments, and the package variables that the reading takes, are together of bulk at most 1048576: NARROWER than '..Said'. Prove '..Said' where nothing that the law and all that it calls make is longer than what came in: it says more and counts as full. Else prove '..UptoSaid'. A law counts once. -/
mutual
def uptoBulk {H : Type} : DataW H → Nat
  | .lit (.string bytes) => bytes.length + 1
  | .lit _ => 1
  | .nil => 1
  | .ptr d => uptoBulk d + 1
  | .slice elems spare => uptoBulkAll elems + uptoBulkAll spare + 1
  | .agg parts => uptoBulkAll parts + 1
  | .iface _ d => uptoBulk d + 1
  | .map entries => uptoBulkEntries entries + 1
  | .held _ => 1
def uptoBulkAll {H : Type} : List (DataW H) → Nat
  | [] => 0
  | d :: r => uptoBulk d + uptoBulkAll r
def uptoBulkEntries {H : Type} : List (Lit × DataW H) → Nat
  | [] => 0
  | x :: r => uptoBulkEntry x + uptoBulkEntries r
def uptoBulkEntry {H : Type} : Lit × DataW H → Nat
  | (.string bytes, d) => bytes.length + uptoBulk d + 1
  | (_, d) => uptoBulk d + 1
 end
def uptoSmall : (H : Type) → List (DataW H) → Bool := fun _ ds => decide (uptoBulkAll ds ≤ 1048576)
def OpenSpec.upto (s : _root_.Go.ChangeSpec) : _root_.Go.OpenSpec := { _root_.Go.OpenSpec.ofChange s with cond := some uptoSmall }

/-- 'tumblelaw04.FrameThens', WHERE WHAT IT READS IS OF BULK AT MOST 1048576: true; the input reads as it did. -/
def frameThensUptoRow : OpenClaim := { program := "ytefmihgjheokeaa", sum := "0cf19a42d4042dba295c2562c146f6ae86b9f9dc8cb803ecf4688a8f81e8a662", func := "tumble/tumblelaw04.FrameThens", spec := "frameThens", inPlace := ["math.Float64frombits", "math.Float64bits"], unfollowed := true, recurses := true, apart := false, narrowed := true }
def FrameThensUptoSaid : Prop := frameThensUptoRow.holds Try.pinned (OpenSpec.upto frameThensSpec)

/-- 'tumblelaw04.FramePlaces', WHERE WHAT IT READS IS OF BULK AT MOST 1048576: true; the input reads as it did. -/
def framePlacesUptoRow : OpenClaim := { program := "ytefmihgjheokeaa", sum := "0cf19a42d4042dba295c2562c146f6ae86b9f9dc8cb803ecf4688a8f81e8a662", func := "tumble/tumblelaw04.FramePlaces", spec := "framePlaces", inPlace := ["math.Float64frombits", "math.Float64bits"], unfollowed := true, recurses := true, apart := false, narrowed := true }
def FramePlacesUptoSaid : Prop := framePlacesUptoRow.holds Try.pinned (OpenSpec.upto framePlacesSpec)

/-- 'tumblelaw04.FrameMoves', WHERE WHAT IT READS IS OF BULK AT MOST 1048576: true; the input reads as it did. -/
def frameMovesUptoRow : OpenClaim := { program := "ytefmihgjheokeaa", sum := "0cf19a42d4042dba295c2562c146f6ae86b9f9dc8cb803ecf4688a8f81e8a662", func := "tumble/tumblelaw04.FrameMoves", spec := "frameMoves", inPlace := ["math.Float64frombits", "math.Float64bits", "math.sqrt"], apart := false, narrowed := true }
def FrameMovesUptoSaid : Prop := frameMovesUptoRow.holds Try.pinned (OpenSpec.upto frameMovesSpec)

/-- 'tumblelaw04.FrameBack', WHERE WHAT IT READS IS OF BULK AT MOST 1048576: true; the input reads as it did. -/
def frameBackUptoRow : OpenClaim := { program := "ytefmihgjheokeaa", sum := "0cf19a42d4042dba295c2562c146f6ae86b9f9dc8cb803ecf4688a8f81e8a662", func := "tumble/tumblelaw04.FrameBack", spec := "frameBack", inPlace := ["math.Float64bits", "math.Float64frombits", "math.sqrt"], unfollowed := true, recurses := true, apart := false, narrowed := true }
def FrameBackUptoSaid : Prop := frameBackUptoRow.holds Try.pinned (OpenSpec.upto frameBackSpec)

/-- 'tumblelaw04.FrameTwice', WHERE WHAT IT READS IS OF BULK AT MOST 1048576: true; the input reads as it did. -/
def frameTwiceUptoRow : OpenClaim := { program := "ytefmihgjheokeaa", sum := "0cf19a42d4042dba295c2562c146f6ae86b9f9dc8cb803ecf4688a8f81e8a662", func := "tumble/tumblelaw04.FrameTwice", spec := "frameTwice", inPlace := ["math.Float64bits", "math.Float64frombits", "math.sqrt"], unfollowed := true, recurses := true, apart := false, narrowed := true }
def FrameTwiceUptoSaid : Prop := frameTwiceUptoRow.holds Try.pinned (OpenSpec.upto frameTwiceSpec)

/-- 'tumblelaw04.FrameNames', WHERE WHAT IT READS IS OF BULK AT MOST 1048576: true; the input reads as it did. -/
def frameNamesUptoRow : OpenClaim := { program := "ytefmihgjheokeaa", sum := "0cf19a42d4042dba295c2562c146f6ae86b9f9dc8cb803ecf4688a8f81e8a662", func := "tumble/tumblelaw04.FrameNames", spec := "frameNames", inPlace := ["math.Float64frombits", "math.Float64bits", "math.sqrt"], unfollowed := true, recurses := true, apart := false, narrowed := true }
def FrameNamesUptoSaid : Prop := frameNamesUptoRow.holds Try.pinned (OpenSpec.upto frameNamesSpec)

end Rows
end Go.Proofs.Ytefmihgjheokeaa
