/-
  No cell of these rows narrows 'for every input' (looked for: loops, veiled, ifaces, maps, wideKeys, modest, calm, conditions, laid).
  DERIVED. THE GIVEN ROWS OF THIS SEAT. 7 by the template 'for every input the law returns true; each argument reads behind the call as it read before'; 0 by the template 'total and deterministic' (their statements: YtbbopbelaamlaaaTotals.lean).
  GIVEN WITH THE SEED: the statements are not yours to turn. If you find one false, say at which input.
  Laid BY PROGRAM, IN A SANDBOX (cutbox-rows.mjs): the forced cells as the released guide's own fill.sh prints them over the translation 570f5f50e04bf4b6… (all of the seat's roots in one cut). By AI agents, Wed Nov 11 2026. No macro, syntax, notation, axiom, sorry.
-/
import Derived.Test.YtbbopbelaamlaaaChecked
import GoSem.Claim
import GoSem.ClaimJoined
import GoSem.ClaimMapViews
import Derived.JoinedTies
import Derived.KernelRfl
namespace Go.Proofs.Ytbbopbelaamlaaa
/- THE CELL 'sum', in the pinned program and in every row, IS THE sha256 OF THE DUMP (.gsa) THAT YtbbopbelaamlaaaProg.lean LOADS. Nothing in Lean hashes anything: it is a label: what it is worth is what the hold of that sum in a sandbox is worth. -/
noncomputable def Try.pinned : Pinned := { name := "ytbbopbelaamlaaa", sum := "570f5f50e04bf4b64e50b2e7d1bc5b7ccf15b14115c0394eafd29e5a1d86aa17", checked := Try.checked }
namespace Rows
def none {H : Type} : Left H := { results := [], args := [] }

/-- 'tumblelaw05.BoxRay': WHATEVER THE INPUT: true; the input reads as it did. -/
def boxRaySpec : ChangeSpec := { name := "boxRay", fn := fun _ => fun
  | [d1, d2, d3] => { results := [.lit (.bool true)], args := [d1, d2, d3] }
  | _ => none }
def boxRayRow : OpenClaim := { program := "ytbbopbelaamlaaa", sum := "570f5f50e04bf4b64e50b2e7d1bc5b7ccf15b14115c0394eafd29e5a1d86aa17", func := "tumble/tumblelaw05.BoxRay", spec := "boxRay", inPlace := ["math.Float64frombits", "math.Float64bits"], unfollowed := true, recurses := true, apart := false }
def BoxRaySaid : Prop := boxRayRow.holds Try.pinned (OpenSpec.ofChange boxRaySpec)

/-- ITS FALSE NEIGHBOUR: 'it returns false'. Refute it at one input. -/
def boxRayWrong : ChangeSpec := { name := "boxRay", fn := fun _ => fun
  | [d1, d2, d3] => { results := [.lit (.bool false)], args := [d1, d2, d3] }
  | _ => none }
def BoxRayWrongFalsely : Prop := boxRayRow.holds Try.pinned (OpenSpec.ofChange boxRayWrong)

/-- 'tumblelaw05.BoxSets': WHATEVER THE INPUT: true; the input reads as it did. -/
def boxSetsSpec : ChangeSpec := { name := "boxSets", fn := fun _ => fun
  | [d1, d2, d3] => { results := [.lit (.bool true)], args := [d1, d2, d3] }
  | _ => none }
def boxSetsRow : OpenClaim := { program := "ytbbopbelaamlaaa", sum := "570f5f50e04bf4b64e50b2e7d1bc5b7ccf15b14115c0394eafd29e5a1d86aa17", func := "tumble/tumblelaw05.BoxSets", spec := "boxSets", inPlace := ["math.Float64frombits", "math.Float64bits"], unfollowed := true, recurses := true, apart := false }
def BoxSetsSaid : Prop := boxSetsRow.holds Try.pinned (OpenSpec.ofChange boxSetsSpec)

/-- ITS FALSE NEIGHBOUR: 'it returns false'. Refute it at one input. -/
def boxSetsWrong : ChangeSpec := { name := "boxSets", fn := fun _ => fun
  | [d1, d2, d3] => { results := [.lit (.bool false)], args := [d1, d2, d3] }
  | _ => none }
def BoxSetsWrongFalsely : Prop := boxSetsRow.holds Try.pinned (OpenSpec.ofChange boxSetsWrong)

/-- 'tumblelaw05.BoxPairs': WHATEVER THE INPUT: true; the input reads as it did. -/
def boxPairsSpec : ChangeSpec := { name := "boxPairs", fn := fun _ => fun
  | [d1, d2, d3, d4] => { results := [.lit (.bool true)], args := [d1, d2, d3, d4] }
  | _ => none }
def boxPairsRow : OpenClaim := { program := "ytbbopbelaamlaaa", sum := "570f5f50e04bf4b64e50b2e7d1bc5b7ccf15b14115c0394eafd29e5a1d86aa17", func := "tumble/tumblelaw05.BoxPairs", spec := "boxPairs", inPlace := ["math.Float64frombits", "math.Float64bits"], unfollowed := true, recurses := true, apart := false }
def BoxPairsSaid : Prop := boxPairsRow.holds Try.pinned (OpenSpec.ofChange boxPairsSpec)

/-- ITS FALSE NEIGHBOUR: 'it returns false'. Refute it at one input. -/
def boxPairsWrong : ChangeSpec := { name := "boxPairs", fn := fun _ => fun
  | [d1, d2, d3, d4] => { results := [.lit (.bool false)], args := [d1, d2, d3, d4] }
  | _ => none }
def BoxPairsWrongFalsely : Prop := boxPairsRow.holds Try.pinned (OpenSpec.ofChange boxPairsWrong)

/-- 'tumblelaw05.BoxOf': WHATEVER THE INPUT: true; the input reads as it did. -/
def boxOfSpec : ChangeSpec := { name := "boxOf", fn := fun _ => fun
  | [d] => { results := [.lit (.bool true)], args := [d] }
  | _ => none }
def boxOfRow : OpenClaim := { program := "ytbbopbelaamlaaa", sum := "570f5f50e04bf4b64e50b2e7d1bc5b7ccf15b14115c0394eafd29e5a1d86aa17", func := "tumble/tumblelaw05.BoxOf", spec := "boxOf", inPlace := ["math.Float64frombits", "math.Float64bits"], unfollowed := true, recurses := true, apart := false }
def BoxOfSaid : Prop := boxOfRow.holds Try.pinned (OpenSpec.ofChange boxOfSpec)

/-- ITS FALSE NEIGHBOUR: 'it returns false'. Refute it at one input. -/
def boxOfWrong : ChangeSpec := { name := "boxOf", fn := fun _ => fun
  | [d] => { results := [.lit (.bool false)], args := [d] }
  | _ => none }
def BoxOfWrongFalsely : Prop := boxOfRow.holds Try.pinned (OpenSpec.ofChange boxOfWrong)

/-- 'tumblelaw05.BoxLeast': WHATEVER THE INPUT: true; the input reads as it did. -/
def boxLeastSpec : ChangeSpec := { name := "boxLeast", fn := fun _ => fun
  | [d1, d2] => { results := [.lit (.bool true)], args := [d1, d2] }
  | _ => none }
def boxLeastRow : OpenClaim := { program := "ytbbopbelaamlaaa", sum := "570f5f50e04bf4b64e50b2e7d1bc5b7ccf15b14115c0394eafd29e5a1d86aa17", func := "tumble/tumblelaw05.BoxLeast", spec := "boxLeast", inPlace := ["math.Float64frombits", "math.Float64bits"], unfollowed := true, recurses := true, apart := false }
def BoxLeastSaid : Prop := boxLeastRow.holds Try.pinned (OpenSpec.ofChange boxLeastSpec)

/-- ITS FALSE NEIGHBOUR: 'it returns false'. Refute it at one input. -/
def boxLeastWrong : ChangeSpec := { name := "boxLeast", fn := fun _ => fun
  | [d1, d2] => { results := [.lit (.bool false)], args := [d1, d2] }
  | _ => none }
def BoxLeastWrongFalsely : Prop := boxLeastRow.holds Try.pinned (OpenSpec.ofChange boxLeastWrong)

/-- 'tumblelaw05.BoxEnters': WHATEVER THE INPUT: true; the input reads as it did. -/
def boxEntersSpec : ChangeSpec := { name := "boxEnters", fn := fun _ => fun
  | [d1, d2, d3] => { results := [.lit (.bool true)], args := [d1, d2, d3] }
  | _ => none }
def boxEntersRow : OpenClaim := { program := "ytbbopbelaamlaaa", sum := "570f5f50e04bf4b64e50b2e7d1bc5b7ccf15b14115c0394eafd29e5a1d86aa17", func := "tumble/tumblelaw05.BoxEnters", spec := "boxEnters", inPlace := ["math.Float64frombits", "math.Float64bits"], unfollowed := true, recurses := true, apart := false }
def BoxEntersSaid : Prop := boxEntersRow.holds Try.pinned (OpenSpec.ofChange boxEntersSpec)

/-- ITS FALSE NEIGHBOUR: 'it returns false'. Refute it at one input. -/
def boxEntersWrong : ChangeSpec := { name := "boxEnters", fn := fun _ => fun
  | [d1, d2, d3] => { results := [.lit (.bool false)], args := [d1, d2, d3] }
  | _ => none }
def BoxEntersWrongFalsely : Prop := boxEntersRow.holds Try.pinned (OpenSpec.ofChange boxEntersWrong)

/-- 'tumblelaw05.BoxScaled': WHATEVER THE INPUT: true; the input reads as it did. -/
def boxScaledSpec : ChangeSpec := { name := "boxScaled", fn := fun _ => fun
  | [d1, d2, d3, d4, d5] => { results := [.lit (.bool true)], args := [d1, d2, d3, d4, d5] }
  | _ => none }
def boxScaledRow : OpenClaim := { program := "ytbbopbelaamlaaa", sum := "570f5f50e04bf4b64e50b2e7d1bc5b7ccf15b14115c0394eafd29e5a1d86aa17", func := "tumble/tumblelaw05.BoxScaled", spec := "boxScaled", inPlace := ["math.Float64frombits", "math.Float64bits"], unfollowed := true, recurses := true, apart := false }
def BoxScaledSaid : Prop := boxScaledRow.holds Try.pinned (OpenSpec.ofChange boxScaledSpec)

/-- ITS FALSE NEIGHBOUR: 'it returns false'. Refute it at one input. -/
def boxScaledWrong : ChangeSpec := { name := "boxScaled", fn := fun _ => fun
  | [d1, d2, d3, d4, d5] => { results := [.lit (.bool false)], args := [d1, d2, d3, d4, d5] }
  | _ => none }
def BoxScaledWrongFalsely : Prop := boxScaledRow.holds Try.pinned (OpenSpec.ofChange boxScaledWrong)

/- THE SECOND FORM. 'bulk': how many values and letters a reading holds, each counted each time it is reached (what is shared counts as often as it is met; a slice's spare places count too). A statement '..UptoSaid' is the law's where the arguments, and the package variables that the reading takes, are together of bulk at most 1048576: NARROWER than '..Said'. Prove '..Said' where nothing that the law and all that it calls make is longer than what came in: it says more and counts as full. Else prove '..UptoSaid'. A law counts once. -/
mutual
def uptoBulk {H : Type} : DataW H → Nat
  | .lit (.string bytes) => bytes.length + 1
  | .lit _ => 1
  | .nil => 1
  | .ptr d => uptoBulk d + 1
  | .slice elems spare => uptoBulkAll elems + uptoBulkAll spare + 1
  | .agg parts => uptoBulkAll parts + 1
  | .iface _ d => uptoBulk d + 1
  | .map entries => uptoBulkEntries entries + 1
  | .held _ => 1
def uptoBulkAll {H : Type} : List (DataW H) → Nat
  | [] => 0
  | d :: r => uptoBulk d + uptoBulkAll r
def uptoBulkEntries {H : Type} : List (Lit × DataW H) → Nat
  | [] => 0
  | x :: r => uptoBulkEntry x + uptoBulkEntries r
def uptoBulkEntry {H : Type} : Lit × DataW H → Nat
  | (.string bytes, d) => bytes.length + uptoBulk d + 1
  | (_, d) => uptoBulk d + 1
 end
def uptoSmall : (H : Type) → List (DataW H) → Bool := fun _ ds => decide (uptoBulkAll ds ≤ 1048576)
def OpenSpec.upto (s : _root_.Go.ChangeSpec) : _root_.Go.OpenSpec := { _root_.Go.OpenSpec.ofChange s with cond := some uptoSmall }

/-- 'tumblelaw05.BoxRay', WHERE WHAT IT READS IS OF BULK AT MOST 1048576: true; the input reads as it did. -/
def boxRayUptoRow : OpenClaim := { program := "ytbbopbelaamlaaa", sum := "570f5f50e04bf4b64e50b2e7d1bc5b7ccf15b14115c0394eafd29e5a1d86aa17", func := "tumble/tumblelaw05.BoxRay", spec := "boxRay", inPlace := ["math.Float64frombits", "math.Float64bits"], unfollowed := true, recurses := true, apart := false, narrowed := true }
def BoxRayUptoSaid : Prop := boxRayUptoRow.holds Try.pinned (OpenSpec.upto boxRaySpec)

/-- 'tumblelaw05.BoxSets', WHERE WHAT IT READS IS OF BULK AT MOST 1048576: true; the input reads as it did. -/
def boxSetsUptoRow : OpenClaim := { program := "ytbbopbelaamlaaa", sum := "570f5f50e04bf4b64e50b2e7d1bc5b7ccf15b14115c0394eafd29e5a1d86aa17", func := "tumble/tumblelaw05.BoxSets", spec := "boxSets", inPlace := ["math.Float64frombits", "math.Float64bits"], unfollowed := true, recurses := true, apart := false, narrowed := true }
def BoxSetsUptoSaid : Prop := boxSetsUptoRow.holds Try.pinned (OpenSpec.upto boxSetsSpec)

/-- 'tumblelaw05.BoxPairs', WHERE WHAT IT READS IS OF BULK AT MOST 1048576: true; the input reads as it did. -/
def boxPairsUptoRow : OpenClaim := { program := "ytbbopbelaamlaaa", sum := "570f5f50e04bf4b64e50b2e7d1bc5b7ccf15b14115c0394eafd29e5a1d86aa17", func := "tumble/tumblelaw05.BoxPairs", spec := "boxPairs", inPlace := ["math.Float64frombits", "math.Float64bits"], unfollowed := true, recurses := true, apart := false, narrowed := true }
def BoxPairsUptoSaid : Prop := boxPairsUptoRow.holds Try.pinned (OpenSpec.upto boxPairsSpec)

/-- 'tumblelaw05.BoxOf', WHERE WHAT IT READS IS OF BULK AT MOST 1048576: true; the input reads as it did. -/
def boxOfUptoRow : OpenClaim := { program := "ytbbopbelaamlaaa", sum := "570f5f50e04bf4b64e50b2e7d1bc5b7ccf15b14115c0394eafd29e5a1d86aa17", func := "tumble/tumblelaw05.BoxOf", spec := "boxOf", inPlace := ["math.Float64frombits", "math.Float64bits"], unfollowed := true, recurses := true, apart := false, narrowed := true }
def BoxOfUptoSaid : Prop := boxOfUptoRow.holds Try.pinned (OpenSpec.upto boxOfSpec)

/-- 'tumblelaw05.BoxLeast', WHERE WHAT IT READS IS OF BULK AT MOST 1048576: true; the input reads as it did. -/
def boxLeastUptoRow : OpenClaim := { program := "ytbbopbelaamlaaa", sum := "570f5f50e04bf4b64e50b2e7d1bc5b7ccf15b14115c0394eafd29e5a1d86aa17", func := "tumble/tumblelaw05.BoxLeast", spec := "boxLeast", inPlace := ["math.Float64frombits", "math.Float64bits"], unfollowed := true, recurses := true, apart := false, narrowed := true }
def BoxLeastUptoSaid : Prop := boxLeastUptoRow.holds Try.pinned (OpenSpec.upto boxLeastSpec)

/-- 'tumblelaw05.BoxEnters', WHERE WHAT IT READS IS OF BULK AT MOST 1048576: true; the input reads as it did. -/
def boxEntersUptoRow : OpenClaim := { program := "ytbbopbelaamlaaa", sum := "570f5f50e04bf4b64e50b2e7d1bc5b7ccf15b14115c0394eafd29e5a1d86aa17", func := "tumble/tumblelaw05.BoxEnters", spec := "boxEnters", inPlace := ["math.Float64frombits", "math.Float64bits"], unfollowed := true, recurses := true, apart := false, narrowed := true }
def BoxEntersUptoSaid : Prop := boxEntersUptoRow.holds Try.pinned (OpenSpec.upto boxEntersSpec)

/-- 'tumblelaw05.BoxScaled', WHERE WHAT IT READS IS OF BULK AT MOST 1048576: true; the input reads as it did. -/
def boxScaledUptoRow : OpenClaim := { program := "ytbbopbelaamlaaa", sum := "570f5f50e04bf4b64e50b2e7d1bc5b7ccf15b14115c0394eafd29e5a1d86aa17", func := "tumble/tumblelaw05.BoxScaled", spec := "boxScaled", inPlace := ["math.Float64frombits", "math.Float64bits"], unfollowed := true, recurses := true, apart := false, narrowed := true }
def BoxScaledUptoSaid : Prop := boxScaledUptoRow.holds Try.pinned (OpenSpec.upto boxScaledSpec)

end Rows
end Go.Proofs.Ytbbopbelaamlaaa
