/-
  No cell of these rows narrows 'for every input' (looked for: loops, veiled, ifaces, maps, wideKeys, modest, calm, conditions, laid).
  DERIVED. THE GIVEN ROWS OF THIS SEAT. 6 by the template 'for every input the law returns true; each argument reads behind the call as it read before'; 0 by the template 'total and deterministic' (their statements: YthaalobnckdjoaaTotals.lean).
  GIVEN WITH THE SEED: the statements are not yours to turn. If you find one false, say at which input.
  Laid BY PROGRAM, IN A SANDBOX (cutbox-rows.mjs): the forced cells as the released guide's own fill.sh prints them over the translation 045f52fc704cab32… (all of the seat's roots in one cut). By AI agents, Wed Nov 11 2026. No macro, syntax, notation, axiom, sorry.
-/
import Derived.Test.YthaalobnckdjoaaChecked
import GoSem.Claim
import GoSem.ClaimJoined
import GoSem.ClaimMapViews
import Derived.JoinedTies
import Derived.KernelRfl
namespace Go.Proofs.Ythaalobnckdjoaa
/- THE CELL 'sum', in the pinned program and in every row, IS THE sha256 OF THE DUMP (.gsa) THAT YthaalobnckdjoaaProg.lean LOADS. Nothing in Lean hashes anything: it is a label: what it is worth is what the hold of that sum in a sandbox is worth. -/
noncomputable def Try.pinned : Pinned := { name := "ythaalobnckdjoaa", sum := "045f52fc704cab3234c190f0269f9fba32387acdec0dfd04ff7ac486c1af6696", checked := Try.checked }
namespace Rows
def none {H : Type} : Left H := { results := [], args := [] }

/-- 'tumblelaw03.TurnQuarter': WHATEVER THE INPUT: true; the input reads as it did. -/
def turnQuarterSpec : ChangeSpec := { name := "turnQuarter", fn := fun _ => fun
  | [d1, d2] => { results := [.lit (.bool true)], args := [d1, d2] }
  | _ => none }
def turnQuarterRow : OpenClaim := { program := "ythaalobnckdjoaa", sum := "045f52fc704cab3234c190f0269f9fba32387acdec0dfd04ff7ac486c1af6696", func := "tumble/tumblelaw03.TurnQuarter", spec := "turnQuarter", inPlace := ["math.sqrt", "math.Float64bits", "math.Float64frombits"], apart := false }
def TurnQuarterSaid : Prop := turnQuarterRow.holds Try.pinned (OpenSpec.ofChange turnQuarterSpec)

/-- ITS FALSE NEIGHBOUR: 'it returns false'. Refute it at one input. -/
def turnQuarterWrong : ChangeSpec := { name := "turnQuarter", fn := fun _ => fun
  | [d1, d2] => { results := [.lit (.bool false)], args := [d1, d2] }
  | _ => none }
def TurnQuarterWrongFalsely : Prop := turnQuarterRow.holds Try.pinned (OpenSpec.ofChange turnQuarterWrong)

/-- 'tumblelaw03.TurnWay': WHATEVER THE INPUT: true; the input reads as it did. -/
def turnWaySpec : ChangeSpec := { name := "turnWay", fn := fun _ => fun
  | [d1, d2] => { results := [.lit (.bool true)], args := [d1, d2] }
  | _ => none }
def turnWayRow : OpenClaim := { program := "ythaalobnckdjoaa", sum := "045f52fc704cab3234c190f0269f9fba32387acdec0dfd04ff7ac486c1af6696", func := "tumble/tumblelaw03.TurnWay", spec := "turnWay", inPlace := ["math.sqrt", "math.Float64bits", "math.Float64frombits"], apart := false }
def TurnWaySaid : Prop := turnWayRow.holds Try.pinned (OpenSpec.ofChange turnWaySpec)

/-- ITS FALSE NEIGHBOUR: 'it returns false'. Refute it at one input. -/
def turnWayWrong : ChangeSpec := { name := "turnWay", fn := fun _ => fun
  | [d1, d2] => { results := [.lit (.bool false)], args := [d1, d2] }
  | _ => none }
def TurnWayWrongFalsely : Prop := turnWayRow.holds Try.pinned (OpenSpec.ofChange turnWayWrong)

/-- 'tumblelaw03.TurnLong': WHATEVER THE INPUT: true; the input reads as it did. -/
def turnLongSpec : ChangeSpec := { name := "turnLong", fn := fun _ => fun
  | [d1, d2, d3] => { results := [.lit (.bool true)], args := [d1, d2, d3] }
  | _ => none }
def turnLongRow : OpenClaim := { program := "ythaalobnckdjoaa", sum := "045f52fc704cab3234c190f0269f9fba32387acdec0dfd04ff7ac486c1af6696", func := "tumble/tumblelaw03.TurnLong", spec := "turnLong", inPlace := ["math.sqrt", "math.Float64bits", "math.Float64frombits"], apart := false }
def TurnLongSaid : Prop := turnLongRow.holds Try.pinned (OpenSpec.ofChange turnLongSpec)

/-- ITS FALSE NEIGHBOUR: 'it returns false'. Refute it at one input. -/
def turnLongWrong : ChangeSpec := { name := "turnLong", fn := fun _ => fun
  | [d1, d2, d3] => { results := [.lit (.bool false)], args := [d1, d2, d3] }
  | _ => none }
def TurnLongWrongFalsely : Prop := turnLongRow.holds Try.pinned (OpenSpec.ofChange turnLongWrong)

/-- 'tumblelaw03.TurnBack': WHATEVER THE INPUT: true; the input reads as it did. -/
def turnBackSpec : ChangeSpec := { name := "turnBack", fn := fun _ => fun
  | [d1, d2, d3] => { results := [.lit (.bool true)], args := [d1, d2, d3] }
  | _ => none }
def turnBackRow : OpenClaim := { program := "ythaalobnckdjoaa", sum := "045f52fc704cab3234c190f0269f9fba32387acdec0dfd04ff7ac486c1af6696", func := "tumble/tumblelaw03.TurnBack", spec := "turnBack", inPlace := ["math.sqrt", "math.Float64bits", "math.Float64frombits"], apart := false }
def TurnBackSaid : Prop := turnBackRow.holds Try.pinned (OpenSpec.ofChange turnBackSpec)

/-- ITS FALSE NEIGHBOUR: 'it returns false'. Refute it at one input. -/
def turnBackWrong : ChangeSpec := { name := "turnBack", fn := fun _ => fun
  | [d1, d2, d3] => { results := [.lit (.bool false)], args := [d1, d2, d3] }
  | _ => none }
def TurnBackWrongFalsely : Prop := turnBackRow.holds Try.pinned (OpenSpec.ofChange turnBackWrong)

/-- 'tumblelaw03.TurnRow': WHATEVER THE INPUT: true; the input reads as it did. -/
def turnRowSpec : ChangeSpec := { name := "turnRow", fn := fun _ => fun
  | [d1, d2, d3] => { results := [.lit (.bool true)], args := [d1, d2, d3] }
  | _ => none }
def turnRowRow : OpenClaim := { program := "ythaalobnckdjoaa", sum := "045f52fc704cab3234c190f0269f9fba32387acdec0dfd04ff7ac486c1af6696", func := "tumble/tumblelaw03.TurnRow", spec := "turnRow", inPlace := ["math.sqrt", "math.Float64bits", "math.Float64frombits"], apart := false }
def TurnRowSaid : Prop := turnRowRow.holds Try.pinned (OpenSpec.ofChange turnRowSpec)

/-- ITS FALSE NEIGHBOUR: 'it returns false'. Refute it at one input. -/
def turnRowWrong : ChangeSpec := { name := "turnRow", fn := fun _ => fun
  | [d1, d2, d3] => { results := [.lit (.bool false)], args := [d1, d2, d3] }
  | _ => none }
def TurnRowWrongFalsely : Prop := turnRowRow.holds Try.pinned (OpenSpec.ofChange turnRowWrong)

/-- 'tumblelaw03.TurnTwo': WHATEVER THE INPUT: true; the input reads as it did. -/
def turnTwoSpec : ChangeSpec := { name := "turnTwo", fn := fun _ => fun
  | [d1, d2] => { results := [.lit (.bool true)], args := [d1, d2] }
  | _ => none }
def turnTwoRow : OpenClaim := { program := "ythaalobnckdjoaa", sum := "045f52fc704cab3234c190f0269f9fba32387acdec0dfd04ff7ac486c1af6696", func := "tumble/tumblelaw03.TurnTwo", spec := "turnTwo", inPlace := ["math.sqrt", "math.Float64bits", "math.Float64frombits"], apart := false }
def TurnTwoSaid : Prop := turnTwoRow.holds Try.pinned (OpenSpec.ofChange turnTwoSpec)

/-- ITS FALSE NEIGHBOUR: 'it returns false'. Refute it at one input. -/
def turnTwoWrong : ChangeSpec := { name := "turnTwo", fn := fun _ => fun
  | [d1, d2] => { results := [.lit (.bool false)], args := [d1, d2] }
  | _ => none }
def TurnTwoWrongFalsely : Prop := turnTwoRow.holds Try.pinned (OpenSpec.ofChange turnTwoWrong)

/- THE SECOND FORM. 'bulk': how many values and letters a reading holds, each counted each time it is reached (what is shared counts as often as it is met; a slice's spare places count too). A statement '..UptoSaid' is the law's where the arguments, and the package variables that the reading takes, are together of bulk at most 1048576: NARROWER than '..Said'. Prove '..Said' where nothing that the law and all that it calls make is longer than what came in: it says more and counts as full. Else prove '..UptoSaid'. A law counts once. -/
mutual
def uptoBulk {H : Type} : DataW H → Nat
  | .lit (.string bytes) => bytes.length + 1
  | .lit _ => 1
  | .nil => 1
  | .ptr d => uptoBulk d + 1
  | .slice elems spare => uptoBulkAll elems + uptoBulkAll spare + 1
  | .agg parts => uptoBulkAll parts + 1
  | .iface _ d => uptoBulk d + 1
  | .map entries => uptoBulkEntries entries + 1
  | .held _ => 1
def uptoBulkAll {H : Type} : List (DataW H) → Nat
  | [] => 0
  | d :: r => uptoBulk d + uptoBulkAll r
def uptoBulkEntries {H : Type} : List (Lit × DataW H) → Nat
  | [] => 0
  | x :: r => uptoBulkEntry x + uptoBulkEntries r
def uptoBulkEntry {H : Type} : Lit × DataW H → Nat
  | (.string bytes, d) => bytes.length + uptoBulk d + 1
  | (_, d) => uptoBulk d + 1
 end
def uptoSmall : (H : Type) → List (DataW H) → Bool := fun _ ds => decide (uptoBulkAll ds ≤ 1048576)
def OpenSpec.upto (s : _root_.Go.ChangeSpec) : _root_.Go.OpenSpec := { _root_.Go.OpenSpec.ofChange s with cond := some uptoSmall }

/-- 'tumblelaw03.TurnQuarter', WHERE WHAT IT READS IS OF BULK AT MOST 1048576: true; the input reads as it did. -/
def turnQuarterUptoRow : OpenClaim := { program := "ythaalobnckdjoaa", sum := "045f52fc704cab3234c190f0269f9fba32387acdec0dfd04ff7ac486c1af6696", func := "tumble/tumblelaw03.TurnQuarter", spec := "turnQuarter", inPlace := ["math.sqrt", "math.Float64bits", "math.Float64frombits"], apart := false, narrowed := true }
def TurnQuarterUptoSaid : Prop := turnQuarterUptoRow.holds Try.pinned (OpenSpec.upto turnQuarterSpec)

/-- 'tumblelaw03.TurnWay', WHERE WHAT IT READS IS OF BULK AT MOST 1048576: true; the input reads as it did. -/
def turnWayUptoRow : OpenClaim := { program := "ythaalobnckdjoaa", sum := "045f52fc704cab3234c190f0269f9fba32387acdec0dfd04ff7ac486c1af6696", func := "tumble/tumblelaw03.TurnWay", spec := "turnWay", inPlace := ["math.sqrt", "math.Float64bits", "math.Float64frombits"], apart := false, narrowed := true }
def TurnWayUptoSaid : Prop := turnWayUptoRow.holds Try.pinned (OpenSpec.upto turnWaySpec)

/-- 'tumblelaw03.TurnLong', WHERE WHAT IT READS IS OF BULK AT MOST 1048576: true; the input reads as it did. -/
def turnLongUptoRow : OpenClaim := { program := "ythaalobnckdjoaa", sum := "045f52fc704cab3234c190f0269f9fba32387acdec0dfd04ff7ac486c1af6696", func := "tumble/tumblelaw03.TurnLong", spec := "turnLong", inPlace := ["math.sqrt", "math.Float64bits", "math.Float64frombits"], apart := false, narrowed := true }
def TurnLongUptoSaid : Prop := turnLongUptoRow.holds Try.pinned (OpenSpec.upto turnLongSpec)

/-- 'tumblelaw03.TurnBack', WHERE WHAT IT READS IS OF BULK AT MOST 1048576: true; the input reads as it did. -/
def turnBackUptoRow : OpenClaim := { program := "ythaalobnckdjoaa", sum := "045f52fc704cab3234c190f0269f9fba32387acdec0dfd04ff7ac486c1af6696", func := "tumble/tumblelaw03.TurnBack", spec := "turnBack", inPlace := ["math.sqrt", "math.Float64bits", "math.Float64frombits"], apart := false, narrowed := true }
def TurnBackUptoSaid : Prop := turnBackUptoRow.holds Try.pinned (OpenSpec.upto turnBackSpec)

/-- 'tumblelaw03.TurnRow', WHERE WHAT IT READS IS OF BULK AT MOST 1048576: true; the input reads as it did. -/
def turnRowUptoRow : OpenClaim := { program := "ythaalobnckdjoaa", sum := "045f52fc704cab3234c190f0269f9fba32387acdec0dfd04ff7ac486c1af6696", func := "tumble/tumblelaw03.TurnRow", spec := "turnRow", inPlace := ["math.sqrt", "math.Float64bits", "math.Float64frombits"], apart := false, narrowed := true }
def TurnRowUptoSaid : Prop := turnRowUptoRow.holds Try.pinned (OpenSpec.upto turnRowSpec)

/-- 'tumblelaw03.TurnTwo', WHERE WHAT IT READS IS OF BULK AT MOST 1048576: true; the input reads as it did. -/
def turnTwoUptoRow : OpenClaim := { program := "ythaalobnckdjoaa", sum := "045f52fc704cab3234c190f0269f9fba32387acdec0dfd04ff7ac486c1af6696", func := "tumble/tumblelaw03.TurnTwo", spec := "turnTwo", inPlace := ["math.sqrt", "math.Float64bits", "math.Float64frombits"], apart := false, narrowed := true }
def TurnTwoUptoSaid : Prop := turnTwoUptoRow.holds Try.pinned (OpenSpec.upto turnTwoSpec)

end Rows
end Go.Proofs.Ythaalobnckdjoaa
