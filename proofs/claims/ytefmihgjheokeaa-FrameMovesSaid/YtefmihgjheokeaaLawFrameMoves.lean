/- FrameMoves: the frame after any time is the document's. -/
import Derived.Test.YtefmihgjheokeaaLawFrameThens
import Derived.Test.YtefmihgjheokeaaLawChecks
set_option linter.unusedVariables false
namespace Go.Proofs.Ytefmihgjheokeaa
open Go.Sim
theorem unit0 (r i : Nat) : s_turn_Unit_0 r i = s_ref03_Unit_0 r i := by unfold s_turn_Unit_0 s_ref03_Unit_0; rw [check_eq]; rfl
theorem unit1 (r i : Nat) : s_turn_Unit_1 r i = s_ref03_Unit_1 r i := by unfold s_turn_Unit_1 s_ref03_Unit_1; rw [check_eq]; rfl
theorem unit2 (r i : Nat) : s_turn_Unit_2 r i = s_ref03_Unit_2 r i := by unfold s_turn_Unit_2 s_ref03_Unit_2; rw [check_eq]; rfl
theorem law_FrameMoves (a0 a1 a2 a3 b0 b1 s t : Nat)
    (h0 : a0 < 18446744073709551616) (h1 : a1 < 18446744073709551616) (h2 : a2 < 18446744073709551616) (h3 : a3 < 18446744073709551616)
    (k0 : b0 < 18446744073709551616) (k1 : b1 < 18446744073709551616) (k2 : s < 18446744073709551616) (k3 : t < 18446744073709551616) :
    T_law04_FrameMoves a0 a1 a2 a3 b0 b1 s t = some (.bool true, []) := by
  have m2 : ∀ x0 x1 x2 x3 y0 y1 z w, s_frame_Move_2 x0 x1 x2 x3 y0 y1 z w = s_ref04_Move_2 x0 x1 x2 x3 y0 y1 z w := by
    intro x0 x1 x2 x3 y0 y1 z w; unfold s_frame_Move_2; rw [unit2, unit0]; rfl
  have m3 : ∀ x0 x1 x2 x3 y0 y1 z w, s_frame_Move_3 x0 x1 x2 x3 y0 y1 z w = s_ref04_Move_3 x0 x1 x2 x3 y0 y1 z w := by
    intro x0 x1 x2 x3 y0 y1 z w; unfold s_frame_Move_3; rw [unit2, unit1]; rfl
  unfold T_law04_FrameMoves
  rw [m2, m3]
  simp only [u64ok_of h0, u64ok_of h1, u64ok_of h2, u64ok_of h3, u64ok_of k0, u64ok_of k1, u64ok_of k2, u64ok_of k3, cond_true]
  have e := same_frame
  refine Eq.trans (b := endP (AV.bool true) []) (congrArg (fun b => endP (AV.bool b) []) (same_frame ..)) rfl
end Go.Proofs.Ytefmihgjheokeaa
