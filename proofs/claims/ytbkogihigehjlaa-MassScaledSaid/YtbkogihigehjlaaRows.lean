/-
  No cell of these rows narrows 'for every input' (looked for: loops, veiled, ifaces, maps, wideKeys, modest, calm, conditions, laid).
  DERIVED. THE GIVEN ROWS OF THIS SEAT. 6 by the template 'for every input the law returns true; each argument reads behind the call as it read before'; 0 by the template 'total and deterministic' (their statements: YtbkogihigehjlaaTotals.lean).
  GIVEN WITH THE SEED: the statements are not yours to turn. If you find one false, say at which input.
  Laid BY PROGRAM, IN A SANDBOX (cutbox-rows.mjs): the forced cells as the released guide's own fill.sh prints them over the translation c1e4adf03a4b1294… (all of the seat's roots in one cut). By AI agents, Wed Nov 11 2026. No macro, syntax, notation, axiom, sorry.
-/
import Derived.Test.YtbkogihigehjlaaChecked
import GoSem.Claim
import GoSem.ClaimJoined
import GoSem.ClaimMapViews
import Derived.JoinedTies
import Derived.KernelRfl
namespace Go.Proofs.Ytbkogihigehjlaa
/- THE CELL 'sum', in the pinned program and in every row, IS THE sha256 OF THE DUMP (.gsa) THAT YtbkogihigehjlaaProg.lean LOADS. Nothing in Lean hashes anything: it is a label: what it is worth is what the hold of that sum in a sandbox is worth. -/
noncomputable def Try.pinned : Pinned := { name := "ytbkogihigehjlaa", sum := "c1e4adf03a4b1294011be729ae8116831fb81defef3741153198e9c5bfd37989", checked := Try.checked }
namespace Rows
def none {H : Type} : Left H := { results := [], args := [] }

/-- 'tumblelaw08.MassJoins': WHATEVER THE INPUT: true; the input reads as it did. -/
def massJoinsSpec : ChangeSpec := { name := "massJoins", fn := fun _ => fun
  | [d] => { results := [.lit (.bool true)], args := [d] }
  | _ => none }
def massJoinsRow : OpenClaim := { program := "ytbkogihigehjlaa", sum := "c1e4adf03a4b1294011be729ae8116831fb81defef3741153198e9c5bfd37989", func := "tumble/tumblelaw08.MassJoins", spec := "massJoins", inPlace := ["math.sqrt", "math.Float64frombits", "math.Float64bits"], unfollowed := true, recurses := true, apart := false }
def MassJoinsSaid : Prop := massJoinsRow.holds Try.pinned (OpenSpec.ofChange massJoinsSpec)

/-- ITS FALSE NEIGHBOUR: 'it returns false'. Refute it at one input. -/
def massJoinsWrong : ChangeSpec := { name := "massJoins", fn := fun _ => fun
  | [d] => { results := [.lit (.bool false)], args := [d] }
  | _ => none }
def MassJoinsWrongFalsely : Prop := massJoinsRow.holds Try.pinned (OpenSpec.ofChange massJoinsWrong)

/-- 'tumblelaw08.MassOnes': WHATEVER THE INPUT: true; the input reads as it did. -/
def massOnesSpec : ChangeSpec := { name := "massOnes", fn := fun _ => fun
  | [d1, d2] => { results := [.lit (.bool true)], args := [d1, d2] }
  | _ => none }
def massOnesRow : OpenClaim := { program := "ytbkogihigehjlaa", sum := "c1e4adf03a4b1294011be729ae8116831fb81defef3741153198e9c5bfd37989", func := "tumble/tumblelaw08.MassOnes", spec := "massOnes", inPlace := ["math.sqrt", "math.Float64frombits", "math.Float64bits"], unfollowed := true, recurses := true, apart := false }
def MassOnesSaid : Prop := massOnesRow.holds Try.pinned (OpenSpec.ofChange massOnesSpec)

/-- ITS FALSE NEIGHBOUR: 'it returns false'. Refute it at one input. -/
def massOnesWrong : ChangeSpec := { name := "massOnes", fn := fun _ => fun
  | [d1, d2] => { results := [.lit (.bool false)], args := [d1, d2] }
  | _ => none }
def MassOnesWrongFalsely : Prop := massOnesRow.holds Try.pinned (OpenSpec.ofChange massOnesWrong)

/-- 'tumblelaw08.MassCut': WHATEVER THE INPUT: true; the input reads as it did. -/
def massCutSpec : ChangeSpec := { name := "massCut", fn := fun _ => fun
  | [d1, d2] => { results := [.lit (.bool true)], args := [d1, d2] }
  | _ => none }
def massCutRow : OpenClaim := { program := "ytbkogihigehjlaa", sum := "c1e4adf03a4b1294011be729ae8116831fb81defef3741153198e9c5bfd37989", func := "tumble/tumblelaw08.MassCut", spec := "massCut", inPlace := ["math.sqrt", "math.Float64frombits", "math.Float64bits"], unfollowed := true, recurses := true, apart := false }
def MassCutSaid : Prop := massCutRow.holds Try.pinned (OpenSpec.ofChange massCutSpec)

/-- ITS FALSE NEIGHBOUR: 'it returns false'. Refute it at one input. -/
def massCutWrong : ChangeSpec := { name := "massCut", fn := fun _ => fun
  | [d1, d2] => { results := [.lit (.bool false)], args := [d1, d2] }
  | _ => none }
def MassCutWrongFalsely : Prop := massCutRow.holds Try.pinned (OpenSpec.ofChange massCutWrong)

/-- 'tumblelaw08.MassAbout': WHATEVER THE INPUT: true; the input reads as it did. -/
def massAboutSpec : ChangeSpec := { name := "massAbout", fn := fun _ => fun
  | [d1, d2] => { results := [.lit (.bool true)], args := [d1, d2] }
  | _ => none }
def massAboutRow : OpenClaim := { program := "ytbkogihigehjlaa", sum := "c1e4adf03a4b1294011be729ae8116831fb81defef3741153198e9c5bfd37989", func := "tumble/tumblelaw08.MassAbout", spec := "massAbout", inPlace := ["math.sqrt", "math.Float64frombits", "math.Float64bits"], unfollowed := true, recurses := true, apart := false }
def MassAboutSaid : Prop := massAboutRow.holds Try.pinned (OpenSpec.ofChange massAboutSpec)

/-- ITS FALSE NEIGHBOUR: 'it returns false'. Refute it at one input. -/
def massAboutWrong : ChangeSpec := { name := "massAbout", fn := fun _ => fun
  | [d1, d2] => { results := [.lit (.bool false)], args := [d1, d2] }
  | _ => none }
def MassAboutWrongFalsely : Prop := massAboutRow.holds Try.pinned (OpenSpec.ofChange massAboutWrong)

/-- 'tumblelaw08.MassNames': WHATEVER THE INPUT: true; the input reads as it did. -/
def massNamesSpec : ChangeSpec := { name := "massNames", fn := fun _ => fun
  | [] => { results := [.lit (.bool true)], args := [] }
  | _ => none }
def massNamesRow : OpenClaim := { program := "ytbkogihigehjlaa", sum := "c1e4adf03a4b1294011be729ae8116831fb81defef3741153198e9c5bfd37989", func := "tumble/tumblelaw08.MassNames", spec := "massNames", inPlace := ["math.sqrt", "math.Float64frombits"], unfollowed := true, recurses := true, apart := false }
def MassNamesSaid : Prop := massNamesRow.holds Try.pinned (OpenSpec.ofChange massNamesSpec)

/-- ITS FALSE NEIGHBOUR: 'it returns false'. Refute it at one input. -/
def massNamesWrong : ChangeSpec := { name := "massNames", fn := fun _ => fun
  | [] => { results := [.lit (.bool false)], args := [] }
  | _ => none }
def MassNamesWrongFalsely : Prop := massNamesRow.holds Try.pinned (OpenSpec.ofChange massNamesWrong)

/-- 'tumblelaw08.MassScaled': WHATEVER THE INPUT: true; the input reads as it did. -/
def massScaledSpec : ChangeSpec := { name := "massScaled", fn := fun _ => fun
  | [d1, d2, d3, d4] => { results := [.lit (.bool true)], args := [d1, d2, d3, d4] }
  | _ => none }
def massScaledRow : OpenClaim := { program := "ytbkogihigehjlaa", sum := "c1e4adf03a4b1294011be729ae8116831fb81defef3741153198e9c5bfd37989", func := "tumble/tumblelaw08.MassScaled", spec := "massScaled", inPlace := ["math.sqrt", "math.Float64frombits", "math.Float64bits"], unfollowed := true, recurses := true, apart := false }
def MassScaledSaid : Prop := massScaledRow.holds Try.pinned (OpenSpec.ofChange massScaledSpec)

/-- ITS FALSE NEIGHBOUR: 'it returns false'. Refute it at one input. -/
def massScaledWrong : ChangeSpec := { name := "massScaled", fn := fun _ => fun
  | [d1, d2, d3, d4] => { results := [.lit (.bool false)], args := [d1, d2, d3, d4] }
  | _ => none }
def MassScaledWrongFalsely : Prop := massScaledRow.holds Try.pinned (OpenSpec.ofChange massScaledWrong)

/- THE SECOND FORM. 'bulk': how many values and letters a reading holds, each counted each time it is reached (what is shared counts as often as it is met; a slice's spare places count too). A statement '..UptoSaid' is the law's where the arguments, and the package variables that the reading takes, are together of bulk at most 1048576: NARROWER than '..Said'. Prove '..Said' where nothing that the law and all that it calls make is longer than what came in: it says more and counts as full. Else prove '..UptoSaid'. A law counts once. -/
mutual
def uptoBulk {H : Type} : DataW H → Nat
  | .lit (.string bytes) => bytes.length + 1
  | .lit _ => 1
  | .nil => 1
  | .ptr d => uptoBulk d + 1
  | .slice elems spare => uptoBulkAll elems + uptoBulkAll spare + 1
  | .agg parts => uptoBulkAll parts + 1
  | .iface _ d => uptoBulk d + 1
  | .map entries => uptoBulkEntries entries + 1
  | .held _ => 1
def uptoBulkAll {H : Type} : List (DataW H) → Nat
  | [] => 0
  | d :: r => uptoBulk d + uptoBulkAll r
def uptoBulkEntries {H : Type} : List (Lit × DataW H) → Nat
  | [] => 0
  | x :: r => uptoBulkEntry x + uptoBulkEntries r
def uptoBulkEntry {H : Type} : Lit × DataW H → Nat
  | (.string bytes, d) => bytes.length + uptoBulk d + 1
  | (_, d) => uptoBulk d + 1
 end
def uptoSmall : (H : Type) → List (DataW H) → Bool := fun _ ds => decide (uptoBulkAll ds ≤ 1048576)
def OpenSpec.upto (s : _root_.Go.ChangeSpec) : _root_.Go.OpenSpec := { _root_.Go.OpenSpec.ofChange s with cond := some uptoSmall }

/-- 'tumblelaw08.MassJoins', WHERE WHAT IT READS IS OF BULK AT MOST 1048576: true; the input reads as it did. -/
def massJoinsUptoRow : OpenClaim := { program := "ytbkogihigehjlaa", sum := "c1e4adf03a4b1294011be729ae8116831fb81defef3741153198e9c5bfd37989", func := "tumble/tumblelaw08.MassJoins", spec := "massJoins", inPlace := ["math.sqrt", "math.Float64frombits", "math.Float64bits"], unfollowed := true, recurses := true, apart := false, narrowed := true }
def MassJoinsUptoSaid : Prop := massJoinsUptoRow.holds Try.pinned (OpenSpec.upto massJoinsSpec)

/-- 'tumblelaw08.MassOnes', WHERE WHAT IT READS IS OF BULK AT MOST 1048576: true; the input reads as it did. -/
def massOnesUptoRow : OpenClaim := { program := "ytbkogihigehjlaa", sum := "c1e4adf03a4b1294011be729ae8116831fb81defef3741153198e9c5bfd37989", func := "tumble/tumblelaw08.MassOnes", spec := "massOnes", inPlace := ["math.sqrt", "math.Float64frombits", "math.Float64bits"], unfollowed := true, recurses := true, apart := false, narrowed := true }
def MassOnesUptoSaid : Prop := massOnesUptoRow.holds Try.pinned (OpenSpec.upto massOnesSpec)

/-- 'tumblelaw08.MassCut', WHERE WHAT IT READS IS OF BULK AT MOST 1048576: true; the input reads as it did. -/
def massCutUptoRow : OpenClaim := { program := "ytbkogihigehjlaa", sum := "c1e4adf03a4b1294011be729ae8116831fb81defef3741153198e9c5bfd37989", func := "tumble/tumblelaw08.MassCut", spec := "massCut", inPlace := ["math.sqrt", "math.Float64frombits", "math.Float64bits"], unfollowed := true, recurses := true, apart := false, narrowed := true }
def MassCutUptoSaid : Prop := massCutUptoRow.holds Try.pinned (OpenSpec.upto massCutSpec)

/-- 'tumblelaw08.MassAbout', WHERE WHAT IT READS IS OF BULK AT MOST 1048576: true; the input reads as it did. -/
def massAboutUptoRow : OpenClaim := { program := "ytbkogihigehjlaa", sum := "c1e4adf03a4b1294011be729ae8116831fb81defef3741153198e9c5bfd37989", func := "tumble/tumblelaw08.MassAbout", spec := "massAbout", inPlace := ["math.sqrt", "math.Float64frombits", "math.Float64bits"], unfollowed := true, recurses := true, apart := false, narrowed := true }
def MassAboutUptoSaid : Prop := massAboutUptoRow.holds Try.pinned (OpenSpec.upto massAboutSpec)

/-- 'tumblelaw08.MassNames', WHERE WHAT IT READS IS OF BULK AT MOST 1048576: true; the input reads as it did. -/
def massNamesUptoRow : OpenClaim := { program := "ytbkogihigehjlaa", sum := "c1e4adf03a4b1294011be729ae8116831fb81defef3741153198e9c5bfd37989", func := "tumble/tumblelaw08.MassNames", spec := "massNames", inPlace := ["math.sqrt", "math.Float64frombits"], unfollowed := true, recurses := true, apart := false, narrowed := true }
def MassNamesUptoSaid : Prop := massNamesUptoRow.holds Try.pinned (OpenSpec.upto massNamesSpec)

/-- 'tumblelaw08.MassScaled', WHERE WHAT IT READS IS OF BULK AT MOST 1048576: true; the input reads as it did. -/
def massScaledUptoRow : OpenClaim := { program := "ytbkogihigehjlaa", sum := "c1e4adf03a4b1294011be729ae8116831fb81defef3741153198e9c5bfd37989", func := "tumble/tumblelaw08.MassScaled", spec := "massScaled", inPlace := ["math.sqrt", "math.Float64frombits", "math.Float64bits"], unfollowed := true, recurses := true, apart := false, narrowed := true }
def MassScaledUptoSaid : Prop := massScaledUptoRow.holds Try.pinned (OpenSpec.upto massScaledSpec)

end Rows
end Go.Proofs.Ytbkogihigehjlaa
