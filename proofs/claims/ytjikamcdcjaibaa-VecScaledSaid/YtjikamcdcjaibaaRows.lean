/-
  No cell of these rows narrows 'for every input' (looked for: loops, veiled, ifaces, maps, wideKeys, modest, calm, conditions, laid).
  DERIVED. THE GIVEN ROWS OF THIS SEAT. 7 by the template 'for every input the law returns true; each argument reads behind the call as it read before'; 0 by the template 'total and deterministic' (their statements: YtjikamcdcjaibaaTotals.lean).
  GIVEN WITH THE SEED: the statements are not yours to turn. If you find one false, say at which input.
  Laid BY PROGRAM, IN A SANDBOX (cutbox-rows.mjs): the forced cells as the released guide's own fill.sh prints them over the translation 36b30a5dfd7f1b82… (all of the seat's roots in one cut). By AI agents, Wed Nov 11 2026. No macro, syntax, notation, axiom, sorry.
-/
import Derived.Test.YtjikamcdcjaibaaChecked
import GoSem.Claim
import GoSem.ClaimJoined
import GoSem.ClaimMapViews
import Derived.JoinedTies
import Derived.KernelRfl
namespace Go.Proofs.Ytjikamcdcjaibaa
/- THE CELL 'sum', in the pinned program and in every row, IS THE sha256 OF THE DUMP (.gsa) THAT YtjikamcdcjaibaaProg.lean LOADS. Nothing in Lean hashes anything: it is a label: what it is worth is what the hold of that sum in a sandbox is worth. -/
noncomputable def Try.pinned : Pinned := { name := "ytjikamcdcjaibaa", sum := "36b30a5dfd7f1b82ac27c1b0211ab0e0ba2a42bc854de7b509fecfb321e7433f", checked := Try.checked }
namespace Rows
def none {H : Type} : Left H := { results := [], args := [] }

/-- 'tumblelaw02.VecProducts': WHATEVER THE INPUT: true; the input reads as it did. -/
def vecProductsSpec : ChangeSpec := { name := "vecProducts", fn := fun _ => fun
  | [d1, d2] => { results := [.lit (.bool true)], args := [d1, d2] }
  | _ => none }
def vecProductsRow : OpenClaim := { program := "ytjikamcdcjaibaa", sum := "36b30a5dfd7f1b82ac27c1b0211ab0e0ba2a42bc854de7b509fecfb321e7433f", func := "tumble/tumblelaw02.VecProducts", spec := "vecProducts", inPlace := ["math.sqrt", "math.Float64bits", "math.Float64frombits"], apart := false }
def VecProductsSaid : Prop := vecProductsRow.holds Try.pinned (OpenSpec.ofChange vecProductsSpec)

/-- ITS FALSE NEIGHBOUR: 'it returns false'. Refute it at one input. -/
def vecProductsWrong : ChangeSpec := { name := "vecProducts", fn := fun _ => fun
  | [d1, d2] => { results := [.lit (.bool false)], args := [d1, d2] }
  | _ => none }
def VecProductsWrongFalsely : Prop := vecProductsRow.holds Try.pinned (OpenSpec.ofChange vecProductsWrong)

/-- 'tumblelaw02.VecCompared': WHATEVER THE INPUT: true; the input reads as it did. -/
def vecComparedSpec : ChangeSpec := { name := "vecCompared", fn := fun _ => fun
  | [d1, d2, d3] => { results := [.lit (.bool true)], args := [d1, d2, d3] }
  | _ => none }
def vecComparedRow : OpenClaim := { program := "ytjikamcdcjaibaa", sum := "36b30a5dfd7f1b82ac27c1b0211ab0e0ba2a42bc854de7b509fecfb321e7433f", func := "tumble/tumblelaw02.VecCompared", spec := "vecCompared", inPlace := ["math.sqrt", "math.Float64bits", "math.Float64frombits"], apart := false }
def VecComparedSaid : Prop := vecComparedRow.holds Try.pinned (OpenSpec.ofChange vecComparedSpec)

/-- ITS FALSE NEIGHBOUR: 'it returns false'. Refute it at one input. -/
def vecComparedWrong : ChangeSpec := { name := "vecCompared", fn := fun _ => fun
  | [d1, d2, d3] => { results := [.lit (.bool false)], args := [d1, d2, d3] }
  | _ => none }
def VecComparedWrongFalsely : Prop := vecComparedRow.holds Try.pinned (OpenSpec.ofChange vecComparedWrong)

/-- 'tumblelaw02.VecLong': WHATEVER THE INPUT: true; the input reads as it did. -/
def vecLongSpec : ChangeSpec := { name := "vecLong", fn := fun _ => fun
  | [d] => { results := [.lit (.bool true)], args := [d] }
  | _ => none }
def vecLongRow : OpenClaim := { program := "ytjikamcdcjaibaa", sum := "36b30a5dfd7f1b82ac27c1b0211ab0e0ba2a42bc854de7b509fecfb321e7433f", func := "tumble/tumblelaw02.VecLong", spec := "vecLong", inPlace := ["math.sqrt", "math.Float64bits", "math.Float64frombits"], apart := false }
def VecLongSaid : Prop := vecLongRow.holds Try.pinned (OpenSpec.ofChange vecLongSpec)

/-- ITS FALSE NEIGHBOUR: 'it returns false'. Refute it at one input. -/
def vecLongWrong : ChangeSpec := { name := "vecLong", fn := fun _ => fun
  | [d] => { results := [.lit (.bool false)], args := [d] }
  | _ => none }
def VecLongWrongFalsely : Prop := vecLongRow.holds Try.pinned (OpenSpec.ofChange vecLongWrong)

/-- 'tumblelaw02.VecParts': WHATEVER THE INPUT: true; the input reads as it did. -/
def vecPartsSpec : ChangeSpec := { name := "vecParts", fn := fun _ => fun
  | [d1, d2, d3] => { results := [.lit (.bool true)], args := [d1, d2, d3] }
  | _ => none }
def vecPartsRow : OpenClaim := { program := "ytjikamcdcjaibaa", sum := "36b30a5dfd7f1b82ac27c1b0211ab0e0ba2a42bc854de7b509fecfb321e7433f", func := "tumble/tumblelaw02.VecParts", spec := "vecParts", inPlace := ["math.sqrt", "math.Float64bits", "math.Float64frombits"], apart := false }
def VecPartsSaid : Prop := vecPartsRow.holds Try.pinned (OpenSpec.ofChange vecPartsSpec)

/-- ITS FALSE NEIGHBOUR: 'it returns false'. Refute it at one input. -/
def vecPartsWrong : ChangeSpec := { name := "vecParts", fn := fun _ => fun
  | [d1, d2, d3] => { results := [.lit (.bool false)], args := [d1, d2, d3] }
  | _ => none }
def VecPartsWrongFalsely : Prop := vecPartsRow.holds Try.pinned (OpenSpec.ofChange vecPartsWrong)

/-- 'tumblelaw02.VecTurned': WHATEVER THE INPUT: true; the input reads as it did. -/
def vecTurnedSpec : ChangeSpec := { name := "vecTurned", fn := fun _ => fun
  | [d1, d2] => { results := [.lit (.bool true)], args := [d1, d2] }
  | _ => none }
def vecTurnedRow : OpenClaim := { program := "ytjikamcdcjaibaa", sum := "36b30a5dfd7f1b82ac27c1b0211ab0e0ba2a42bc854de7b509fecfb321e7433f", func := "tumble/tumblelaw02.VecTurned", spec := "vecTurned", inPlace := ["math.sqrt", "math.Float64bits", "math.Float64frombits"], apart := false }
def VecTurnedSaid : Prop := vecTurnedRow.holds Try.pinned (OpenSpec.ofChange vecTurnedSpec)

/-- ITS FALSE NEIGHBOUR: 'it returns false'. Refute it at one input. -/
def vecTurnedWrong : ChangeSpec := { name := "vecTurned", fn := fun _ => fun
  | [d1, d2] => { results := [.lit (.bool false)], args := [d1, d2] }
  | _ => none }
def VecTurnedWrongFalsely : Prop := vecTurnedRow.holds Try.pinned (OpenSpec.ofChange vecTurnedWrong)

/-- 'tumblelaw02.VecRound': WHATEVER THE INPUT: true; the input reads as it did. -/
def vecRoundSpec : ChangeSpec := { name := "vecRound", fn := fun _ => fun
  | [d1, d2] => { results := [.lit (.bool true)], args := [d1, d2] }
  | _ => none }
def vecRoundRow : OpenClaim := { program := "ytjikamcdcjaibaa", sum := "36b30a5dfd7f1b82ac27c1b0211ab0e0ba2a42bc854de7b509fecfb321e7433f", func := "tumble/tumblelaw02.VecRound", spec := "vecRound", inPlace := ["math.sqrt", "math.Float64bits", "math.Float64frombits"], apart := false }
def VecRoundSaid : Prop := vecRoundRow.holds Try.pinned (OpenSpec.ofChange vecRoundSpec)

/-- ITS FALSE NEIGHBOUR: 'it returns false'. Refute it at one input. -/
def vecRoundWrong : ChangeSpec := { name := "vecRound", fn := fun _ => fun
  | [d1, d2] => { results := [.lit (.bool false)], args := [d1, d2] }
  | _ => none }
def VecRoundWrongFalsely : Prop := vecRoundRow.holds Try.pinned (OpenSpec.ofChange vecRoundWrong)

/-- 'tumblelaw02.VecScaled': WHATEVER THE INPUT: true; the input reads as it did. -/
def vecScaledSpec : ChangeSpec := { name := "vecScaled", fn := fun _ => fun
  | [d1, d2, d3] => { results := [.lit (.bool true)], args := [d1, d2, d3] }
  | _ => none }
def vecScaledRow : OpenClaim := { program := "ytjikamcdcjaibaa", sum := "36b30a5dfd7f1b82ac27c1b0211ab0e0ba2a42bc854de7b509fecfb321e7433f", func := "tumble/tumblelaw02.VecScaled", spec := "vecScaled", inPlace := ["math.sqrt", "math.Float64bits", "math.Float64frombits"], apart := false }
def VecScaledSaid : Prop := vecScaledRow.holds Try.pinned (OpenSpec.ofChange vecScaledSpec)

/-- ITS FALSE NEIGHBOUR: 'it returns false'. Refute it at one input. -/
def vecScaledWrong : ChangeSpec := { name := "vecScaled", fn := fun _ => fun
  | [d1, d2, d3] => { results := [.lit (.bool false)], args := [d1, d2, d3] }
  | _ => none }
def VecScaledWrongFalsely : Prop := vecScaledRow.holds Try.pinned (OpenSpec.ofChange vecScaledWrong)

/- THE SECOND FORM. 'bulk': how many values and letters a reading holds, each counted each time it is reached (what is shared counts as often as it is met; a slice's spare places count too). A statement '..UptoSaid' is the law's where the arguments, and the package variables that the reading takes, are together of bulk at most 1048576: NARROWER than '..Said'. Prove '..Said' where nothing that the law and all that it calls make is longer than what came in: it says more and counts as full. Else prove '..UptoSaid'. A law counts once. -/
mutual
def uptoBulk {H : Type} : DataW H → Nat
  | .lit (.string bytes) => bytes.length + 1
  | .lit _ => 1
  | .nil => 1
  | .ptr d => uptoBulk d + 1
  | .slice elems spare => uptoBulkAll elems + uptoBulkAll spare + 1
  | .agg parts => uptoBulkAll parts + 1
  | .iface _ d => uptoBulk d + 1
  | .map entries => uptoBulkEntries entries + 1
  | .held _ => 1
def uptoBulkAll {H : Type} : List (DataW H) → Nat
  | [] => 0
  | d :: r => uptoBulk d + uptoBulkAll r
def uptoBulkEntries {H : Type} : List (Lit × DataW H) → Nat
  | [] => 0
  | x :: r => uptoBulkEntry x + uptoBulkEntries r
def uptoBulkEntry {H : Type} : Lit × DataW H → Nat
  | (.string bytes, d) => bytes.length + uptoBulk d + 1
  | (_, d) => uptoBulk d + 1
 end
def uptoSmall : (H : Type) → List (DataW H) → Bool := fun _ ds => decide (uptoBulkAll ds ≤ 1048576)
def OpenSpec.upto (s : _root_.Go.ChangeSpec) : _root_.Go.OpenSpec := { _root_.Go.OpenSpec.ofChange s with cond := some uptoSmall }

/-- 'tumblelaw02.VecProducts', WHERE WHAT IT READS IS OF BULK AT MOST 1048576: true; the input reads as it did. -/
def vecProductsUptoRow : OpenClaim := { program := "ytjikamcdcjaibaa", sum := "36b30a5dfd7f1b82ac27c1b0211ab0e0ba2a42bc854de7b509fecfb321e7433f", func := "tumble/tumblelaw02.VecProducts", spec := "vecProducts", inPlace := ["math.sqrt", "math.Float64bits", "math.Float64frombits"], apart := false, narrowed := true }
def VecProductsUptoSaid : Prop := vecProductsUptoRow.holds Try.pinned (OpenSpec.upto vecProductsSpec)

/-- 'tumblelaw02.VecCompared', WHERE WHAT IT READS IS OF BULK AT MOST 1048576: true; the input reads as it did. -/
def vecComparedUptoRow : OpenClaim := { program := "ytjikamcdcjaibaa", sum := "36b30a5dfd7f1b82ac27c1b0211ab0e0ba2a42bc854de7b509fecfb321e7433f", func := "tumble/tumblelaw02.VecCompared", spec := "vecCompared", inPlace := ["math.sqrt", "math.Float64bits", "math.Float64frombits"], apart := false, narrowed := true }
def VecComparedUptoSaid : Prop := vecComparedUptoRow.holds Try.pinned (OpenSpec.upto vecComparedSpec)

/-- 'tumblelaw02.VecLong', WHERE WHAT IT READS IS OF BULK AT MOST 1048576: true; the input reads as it did. -/
def vecLongUptoRow : OpenClaim := { program := "ytjikamcdcjaibaa", sum := "36b30a5dfd7f1b82ac27c1b0211ab0e0ba2a42bc854de7b509fecfb321e7433f", func := "tumble/tumblelaw02.VecLong", spec := "vecLong", inPlace := ["math.sqrt", "math.Float64bits", "math.Float64frombits"], apart := false, narrowed := true }
def VecLongUptoSaid : Prop := vecLongUptoRow.holds Try.pinned (OpenSpec.upto vecLongSpec)

/-- 'tumblelaw02.VecParts', WHERE WHAT IT READS IS OF BULK AT MOST 1048576: true; the input reads as it did. -/
def vecPartsUptoRow : OpenClaim := { program := "ytjikamcdcjaibaa", sum := "36b30a5dfd7f1b82ac27c1b0211ab0e0ba2a42bc854de7b509fecfb321e7433f", func := "tumble/tumblelaw02.VecParts", spec := "vecParts", inPlace := ["math.sqrt", "math.Float64bits", "math.Float64frombits"], apart := false, narrowed := true }
def VecPartsUptoSaid : Prop := vecPartsUptoRow.holds Try.pinned (OpenSpec.upto vecPartsSpec)

/-- 'tumblelaw02.VecTurned', WHERE WHAT IT READS IS OF BULK AT MOST 1048576: true; the input reads as it did. -/
def vecTurnedUptoRow : OpenClaim := { program := "ytjikamcdcjaibaa", sum := "36b30a5dfd7f1b82ac27c1b0211ab0e0ba2a42bc854de7b509fecfb321e7433f", func := "tumble/tumblelaw02.VecTurned", spec := "vecTurned", inPlace := ["math.sqrt", "math.Float64bits", "math.Float64frombits"], apart := false, narrowed := true }
def VecTurnedUptoSaid : Prop := vecTurnedUptoRow.holds Try.pinned (OpenSpec.upto vecTurnedSpec)

/-- 'tumblelaw02.VecRound', WHERE WHAT IT READS IS OF BULK AT MOST 1048576: true; the input reads as it did. -/
def vecRoundUptoRow : OpenClaim := { program := "ytjikamcdcjaibaa", sum := "36b30a5dfd7f1b82ac27c1b0211ab0e0ba2a42bc854de7b509fecfb321e7433f", func := "tumble/tumblelaw02.VecRound", spec := "vecRound", inPlace := ["math.sqrt", "math.Float64bits", "math.Float64frombits"], apart := false, narrowed := true }
def VecRoundUptoSaid : Prop := vecRoundUptoRow.holds Try.pinned (OpenSpec.upto vecRoundSpec)

/-- 'tumblelaw02.VecScaled', WHERE WHAT IT READS IS OF BULK AT MOST 1048576: true; the input reads as it did. -/
def vecScaledUptoRow : OpenClaim := { program := "ytjikamcdcjaibaa", sum := "36b30a5dfd7f1b82ac27c1b0211ab0e0ba2a42bc854de7b509fecfb321e7433f", func := "tumble/tumblelaw02.VecScaled", spec := "vecScaled", inPlace := ["math.sqrt", "math.Float64bits", "math.Float64frombits"], apart := false, narrowed := true }
def VecScaledUptoSaid : Prop := vecScaledUptoRow.holds Try.pinned (OpenSpec.upto vecScaledSpec)

end Rows
end Go.Proofs.Ytjikamcdcjaibaa
