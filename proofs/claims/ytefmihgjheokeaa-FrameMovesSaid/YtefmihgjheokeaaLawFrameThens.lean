/- FrameThens: the program's formulas for a frame in a frame are the document's own. -/
import Derived.Test.YtefmihgjheokeaaLawCommon
namespace Go.Proofs.Ytefmihgjheokeaa
open Go.Sim
theorem same_frame (a b c d : Nat) : s_ref04_Same_0 a b c d a b c d = true := by
  simp only [s_ref04_Same_0, s_ref04_SameVec_0, s_ref04_SameTurn_0, same_self, Bool.and_self]
theorem law_FrameThens (a0 a1 a2 a3 b0 b1 b2 b3 : Nat)
    (h0 : a0 < 18446744073709551616) (h1 : a1 < 18446744073709551616) (h2 : a2 < 18446744073709551616) (h3 : a3 < 18446744073709551616)
    (k0 : b0 < 18446744073709551616) (k1 : b1 < 18446744073709551616) (k2 : b2 < 18446744073709551616) (k3 : b3 < 18446744073709551616) :
    T_law04_FrameThens a0 a1 a2 a3 b0 b1 b2 b3 = some (.bool true, []) := by
  unfold T_law04_FrameThens
  refine bif_true (u64ok_of h0) (bif_true (u64ok_of h1) (bif_true (u64ok_of h2) (bif_true (u64ok_of h3) ?_)))
  refine bif_true (u64ok_of k0) (bif_true (u64ok_of k1) (bif_true (u64ok_of k2) (bif_true (u64ok_of k3) ?_)))
  repeat' first
    | rfl
    | refine bif_true ?_ ?_
    | exact same_frame ..
end Go.Proofs.Ytefmihgjheokeaa
