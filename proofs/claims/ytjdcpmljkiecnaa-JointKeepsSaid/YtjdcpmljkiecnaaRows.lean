/-
  No cell of these rows narrows 'for every input' (looked for: loops, veiled, ifaces, maps, wideKeys, modest, calm, conditions, laid).
  DERIVED. THE GIVEN ROWS OF THIS SEAT. 2 by the template 'for every input the law returns true; each argument reads behind the call as it read before'; 0 by the template 'total and deterministic' (their statements: YtjdcpmljkiecnaaTotals.lean).
  GIVEN WITH THE SEED: the statements are not yours to turn. If you find one false, say at which input.
  Laid BY PROGRAM, IN A SANDBOX (cutbox-rows.mjs): the forced cells as the released guide's own fill.sh prints them over the translation 6b5afa4aed8f4124… (all of the seat's roots in one cut). By AI agents, Wed Nov 11 2026. No macro, syntax, notation, axiom, sorry.
-/
import Derived.Test.YtjdcpmljkiecnaaChecked
import GoSem.Claim
import GoSem.ClaimJoined
import GoSem.ClaimMapViews
import Derived.JoinedTies
import Derived.KernelRfl
namespace Go.Proofs.Ytjdcpmljkiecnaa
/- THE CELL 'sum', in the pinned program and in every row, IS THE sha256 OF THE DUMP (.gsa) THAT YtjdcpmljkiecnaaProg.lean LOADS. Nothing in Lean hashes anything: it is a label: what it is worth is what the hold of that sum in a sandbox is worth. -/
noncomputable def Try.pinned : Pinned := { name := "ytjdcpmljkiecnaa", sum := "6b5afa4aed8f41248a5481c7052db3fb5bc708bd0cdd94d89c78fbd3a1b638e1", checked := Try.checked }
namespace Rows
def none {H : Type} : Left H := { results := [], args := [] }

/-- 'tumblelaw19.JointChecks': WHATEVER THE INPUT: true; the input reads as it did. -/
def jointChecksSpec : ChangeSpec := { name := "jointChecks", fn := fun _ => fun
  | [d] => { results := [.lit (.bool true)], args := [d] }
  | _ => none }
def jointChecksRow : OpenClaim := { program := "ytjdcpmljkiecnaa", sum := "6b5afa4aed8f41248a5481c7052db3fb5bc708bd0cdd94d89c78fbd3a1b638e1", func := "tumble/tumblelaw19.JointChecks", spec := "jointChecks", inPlace := ["math.Float64bits", "math.Float64frombits"], apart := false }
def JointChecksSaid : Prop := jointChecksRow.holds Try.pinned (OpenSpec.ofChange jointChecksSpec)

/-- ITS FALSE NEIGHBOUR: 'it returns false'. Refute it at one input. -/
def jointChecksWrong : ChangeSpec := { name := "jointChecks", fn := fun _ => fun
  | [d] => { results := [.lit (.bool false)], args := [d] }
  | _ => none }
def JointChecksWrongFalsely : Prop := jointChecksRow.holds Try.pinned (OpenSpec.ofChange jointChecksWrong)

/-- 'tumblelaw19.JointKeeps': WHATEVER THE INPUT: true; the input reads as it did. -/
def jointKeepsSpec : ChangeSpec := { name := "jointKeeps", fn := fun _ => fun
  | [d1, d2] => { results := [.lit (.bool true)], args := [d1, d2] }
  | _ => none }
def jointKeepsRow : OpenClaim := { program := "ytjdcpmljkiecnaa", sum := "6b5afa4aed8f41248a5481c7052db3fb5bc708bd0cdd94d89c78fbd3a1b638e1", func := "tumble/tumblelaw19.JointKeeps", spec := "jointKeeps", inPlace := ["math.Float64bits", "math.Float64frombits"], apart := false }
def JointKeepsSaid : Prop := jointKeepsRow.holds Try.pinned (OpenSpec.ofChange jointKeepsSpec)

/-- ITS FALSE NEIGHBOUR: 'it returns false'. Refute it at one input. -/
def jointKeepsWrong : ChangeSpec := { name := "jointKeeps", fn := fun _ => fun
  | [d1, d2] => { results := [.lit (.bool false)], args := [d1, d2] }
  | _ => none }
def JointKeepsWrongFalsely : Prop := jointKeepsRow.holds Try.pinned (OpenSpec.ofChange jointKeepsWrong)

/- THE SECOND FORM. 'bulk': how many values and letters a reading holds, each counted each time it is reached (what is shared counts as often as it is met; a slice's spare places count too). A statement '..UptoSaid' is the law's where the arguments, and the package variables that the reading takes, are together of bulk at most 1048576: NARROWER than '..Said'. Prove '..Said' where nothing that the law and all that it calls make is longer than what came in: it says more and counts as full. Else prove '..UptoSaid'. A law counts once. -/
mutual
def uptoBulk {H : Type} : DataW H → Nat
  | .lit (.string bytes) => bytes.length + 1
  | .lit _ => 1
  | .nil => 1
  | .ptr d => uptoBulk d + 1
  | .slice elems spare => uptoBulkAll elems + uptoBulkAll spare + 1
  | .agg parts => uptoBulkAll parts + 1
  | .iface _ d => uptoBulk d + 1
  | .map entries => uptoBulkEntries entries + 1
  | .held _ => 1
def uptoBulkAll {H : Type} : List (DataW H) → Nat
  | [] => 0
  | d :: r => uptoBulk d + uptoBulkAll r
def uptoBulkEntries {H : Type} : List (Lit × DataW H) → Nat
  | [] => 0
  | x :: r => uptoBulkEntry x + uptoBulkEntries r
def uptoBulkEntry {H : Type} : Lit × DataW H → Nat
  | (.string bytes, d) => bytes.length + uptoBulk d + 1
  | (_, d) => uptoBulk d + 1
 end
def uptoSmall : (H : Type) → List (DataW H) → Bool := fun _ ds => decide (uptoBulkAll ds ≤ 1048576)
def OpenSpec.upto (s : _root_.Go.ChangeSpec) : _root_.Go.OpenSpec := { _root_.Go.OpenSpec.ofChange s with cond := some uptoSmall }

/-- 'tumblelaw19.JointChecks', WHERE WHAT IT READS IS OF BULK AT MOST 1048576: true; the input reads as it did. -/
def jointChecksUptoRow : OpenClaim := { program := "ytjdcpmljkiecnaa", sum := "6b5afa4aed8f41248a5481c7052db3fb5bc708bd0cdd94d89c78fbd3a1b638e1", func := "tumble/tumblelaw19.JointChecks", spec := "jointChecks", inPlace := ["math.Float64bits", "math.Float64frombits"], apart := false, narrowed := true }
def JointChecksUptoSaid : Prop := jointChecksUptoRow.holds Try.pinned (OpenSpec.upto jointChecksSpec)

/-- 'tumblelaw19.JointKeeps', WHERE WHAT IT READS IS OF BULK AT MOST 1048576: true; the input reads as it did. -/
def jointKeepsUptoRow : OpenClaim := { program := "ytjdcpmljkiecnaa", sum := "6b5afa4aed8f41248a5481c7052db3fb5bc708bd0cdd94d89c78fbd3a1b638e1", func := "tumble/tumblelaw19.JointKeeps", spec := "jointKeeps", inPlace := ["math.Float64bits", "math.Float64frombits"], apart := false, narrowed := true }
def JointKeepsUptoSaid : Prop := jointKeepsUptoRow.holds Try.pinned (OpenSpec.upto jointKeepsSpec)

end Rows
end Go.Proofs.Ytjdcpmljkiecnaa
