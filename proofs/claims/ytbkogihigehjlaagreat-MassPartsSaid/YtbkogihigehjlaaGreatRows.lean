/-
  No cell of these rows narrows 'for every input' (looked for: loops, veiled, ifaces, maps, wideKeys, modest, calm, conditions, laid).
  DERIVED. THE GIVEN ROWS OF THIS SEAT. 2 by the template 'for every input the law returns true; each argument reads behind the call as it read before'; 0 by the template 'total and deterministic' (their statements: YtbkogihigehjlaaGreatTotals.lean).
  GIVEN WITH THE SEED: the statements are not yours to turn. If you find one false, say at which input.
  Laid BY PROGRAM, IN A SANDBOX (cutbox-rows.mjs): the forced cells as the released guide's own fill.sh prints them over the translation 4c930c842c0a8dc5… (all of the seat's roots in one cut). By AI agents, Wed Nov 11 2026. No macro, syntax, notation, axiom, sorry.
-/
import Derived.Test.YtbkogihigehjlaaGreatChecked
import GoSem.Claim
import GoSem.ClaimJoined
import GoSem.ClaimMapViews
import Derived.JoinedTies
import Derived.KernelRfl
namespace Go.Proofs.YtbkogihigehjlaaGreat
/- THE CELL 'sum', in the pinned program and in every row, IS THE sha256 OF THE DUMP (.gsa) THAT YtbkogihigehjlaaGreatProg.lean LOADS. Nothing in Lean hashes anything: it is a label: what it is worth is what the hold of that sum in a sandbox is worth. -/
noncomputable def Tryz.pinned : Pinned := { name := "ytbkogihigehjlaagreat", sum := "4c930c842c0a8dc545e81630d4da5c8538dc1a145d4cf67300a9e511d0570ccb", checked := Tryz.checked }
namespace Rows
def none {H : Type} : Left H := { results := [], args := [] }

/-- 'tumblelaw08.MassOfs': WHATEVER THE INPUT: true; the input reads as it did. -/
def massOfsSpec : ChangeSpec := { name := "massOfs", fn := fun _ => fun
  | [d1, d2] => { results := [.lit (.bool true)], args := [d1, d2] }
  | _ => none }
def massOfsRow : OpenClaim := { program := "ytbkogihigehjlaagreat", sum := "4c930c842c0a8dc545e81630d4da5c8538dc1a145d4cf67300a9e511d0570ccb", func := "tumble/tumblelaw08.MassOfs", spec := "massOfs", inPlace := ["math.sqrt", "math.Float64frombits", "math.Float64bits"], unfollowed := true, recurses := true, apart := false }
def MassOfsSaid : Prop := massOfsRow.holds Tryz.pinned (OpenSpec.ofChange massOfsSpec)

/-- ITS FALSE NEIGHBOUR: 'it returns false'. Refute it at one input. -/
def massOfsWrong : ChangeSpec := { name := "massOfs", fn := fun _ => fun
  | [d1, d2] => { results := [.lit (.bool false)], args := [d1, d2] }
  | _ => none }
def MassOfsWrongFalsely : Prop := massOfsRow.holds Tryz.pinned (OpenSpec.ofChange massOfsWrong)

/-- 'tumblelaw08.MassParts': WHATEVER THE INPUT: true; the input reads as it did. -/
def massPartsSpec : ChangeSpec := { name := "massParts", fn := fun _ => fun
  | [d] => { results := [.lit (.bool true)], args := [d] }
  | _ => none }
def massPartsRow : OpenClaim := { program := "ytbkogihigehjlaagreat", sum := "4c930c842c0a8dc545e81630d4da5c8538dc1a145d4cf67300a9e511d0570ccb", func := "tumble/tumblelaw08.MassParts", spec := "massParts", inPlace := ["math.sqrt", "math.Float64frombits", "math.Float64bits"], unfollowed := true, recurses := true, apart := false }
def MassPartsSaid : Prop := massPartsRow.holds Tryz.pinned (OpenSpec.ofChange massPartsSpec)

/-- ITS FALSE NEIGHBOUR: 'it returns false'. Refute it at one input. -/
def massPartsWrong : ChangeSpec := { name := "massParts", fn := fun _ => fun
  | [d] => { results := [.lit (.bool false)], args := [d] }
  | _ => none }
def MassPartsWrongFalsely : Prop := massPartsRow.holds Tryz.pinned (OpenSpec.ofChange massPartsWrong)

/- THE SECOND FORM. 'bulk': how many values and letters a reading holds, each counted each time it is reached (what is shared counts as often as it is met; a slice's spare places count too). A statement '..UptoSaid' is the law's where the arguments, and the package variables that the reading takes, are together of bulk at most 1048576: NARROWER than '..Said'. Prove '..Said' where nothing that the law and all that it calls make is longer than what came in: it says more and counts as full. Else prove '..UptoSaid'. A law counts once. -/
mutual
def uptoBulk {H : Type} : DataW H → Nat
  | .lit (.string bytes) => bytes.length + 1
  | .lit _ => 1
  | .nil => 1
  | .ptr d => uptoBulk d + 1
  | .slice elems spare => uptoBulkAll elems + uptoBulkAll spare + 1
  | .agg parts => uptoBulkAll parts + 1
  | .iface _ d => uptoBulk d + 1
  | .map entries => uptoBulkEntries entries + 1
  | .held _ => 1
def uptoBulkAll {H : Type} : List (DataW H) → Nat
  | [] => 0
  | d :: r => uptoBulk d + uptoBulkAll r
def uptoBulkEntries {H : Type} : List (Lit × DataW H) → Nat
  | [] => 0
  | x :: r => uptoBulkEntry x + uptoBulkEntries r
def uptoBulkEntry {H : Type} : Lit × DataW H → Nat
  | (.string bytes, d) => bytes.length + uptoBulk d + 1
  | (_, d) => uptoBulk d + 1
 end
def uptoSmall : (H : Type) → List (DataW H) → Bool := fun _ ds => decide (uptoBulkAll ds ≤ 1048576)
def OpenSpec.upto (s : _root_.Go.ChangeSpec) : _root_.Go.OpenSpec := { _root_.Go.OpenSpec.ofChange s with cond := some uptoSmall }

/-- 'tumblelaw08.MassOfs', WHERE WHAT IT READS IS OF BULK AT MOST 1048576: true; the input reads as it did. -/
def massOfsUptoRow : OpenClaim := { program := "ytbkogihigehjlaagreat", sum := "4c930c842c0a8dc545e81630d4da5c8538dc1a145d4cf67300a9e511d0570ccb", func := "tumble/tumblelaw08.MassOfs", spec := "massOfs", inPlace := ["math.sqrt", "math.Float64frombits", "math.Float64bits"], unfollowed := true, recurses := true, apart := false, narrowed := true }
def MassOfsUptoSaid : Prop := massOfsUptoRow.holds Tryz.pinned (OpenSpec.upto massOfsSpec)

/-- 'tumblelaw08.MassParts', WHERE WHAT IT READS IS OF BULK AT MOST 1048576: true; the input reads as it did. -/
def massPartsUptoRow : OpenClaim := { program := "ytbkogihigehjlaagreat", sum := "4c930c842c0a8dc545e81630d4da5c8538dc1a145d4cf67300a9e511d0570ccb", func := "tumble/tumblelaw08.MassParts", spec := "massParts", inPlace := ["math.sqrt", "math.Float64frombits", "math.Float64bits"], unfollowed := true, recurses := true, apart := false, narrowed := true }
def MassPartsUptoSaid : Prop := massPartsUptoRow.holds Tryz.pinned (OpenSpec.upto massPartsSpec)

end Rows
end Go.Proofs.YtbkogihigehjlaaGreat
