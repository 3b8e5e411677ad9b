/-
  JointChecks: for every input the Go function returns true, and each argument reads behind the call as it read before. No condition.
-/
import Derived.Test.YtjdcpmljkiecnaaRows
import Derived.WalkKit
import Derived.ProofKit
import Derived.OpenShut
import Derived.ShutString
import Derived.ChangeOld
import Derived.Below
import Derived.Carry
import Derived.Test.YtjdcpmljkiecnaaSimRow
import Derived.Test.YtjdcpmljkiecnaaLawJointChecks
namespace Go.Proofs.Ytjdcpmljkiecnaa.jointChecks
open Go.ChangeShapes Go.WideShapes Go.ChangeAt Go.RowKit
open Go.Sim
set_option linter.unusedVariables false

theorem own : ownKnob Try.prog.godebug = none := by kernel_rfl
theorem laidOut : laidOutB Try.prog = true := by kernel_rfl

theorem walk (v0 : Value) (w : World) (base : Nat) (h0 : Value.okWide Try.prog w .any base 30 v0) :
    Calls Try.prog 3 #[v0] w fun e w' => e = .returned (.bool true) ∧ Below w.heap.size w w' := by
  obtain ⟨cs0, rfl, c0⟩ := open_agg (ts := [5, 22, 22, 22, 22, 25, 25, 25, 25, 25, 25, 25, 25, 4, 25, 25, 4, 25, 25, 25, 25, 25]) Try.underlying30 rfl (by kernel_rfl) (by kernel_rfl) h0
  simp only [CellsOk] at c0
  obtain ⟨y0_0, z0_0, e0_0, k0_0, y0_1, z0_1, e0_1, k0_1, y0_2, z0_2, e0_2, k0_2, y0_3, z0_3, e0_3, k0_3, y0_4, z0_4, e0_4, k0_4, y0_5, z0_5, e0_5, k0_5, y0_6, z0_6, e0_6, k0_6, y0_7, z0_7, e0_7, k0_7, y0_8, z0_8, e0_8, k0_8, y0_9, z0_9, e0_9, k0_9, y0_10, z0_10, e0_10, k0_10, y0_11, z0_11, e0_11, k0_11, y0_12, z0_12, e0_12, k0_12, y0_13, z0_13, e0_13, k0_13, y0_14, z0_14, e0_14, k0_14, y0_15, z0_15, e0_15, k0_15, y0_16, z0_16, e0_16, k0_16, y0_17, z0_17, e0_17, k0_17, y0_18, z0_18, e0_18, k0_18, y0_19, z0_19, e0_19, k0_19, y0_20, z0_20, e0_20, k0_20, y0_21, z0_21, e0_21, k0_21, e0_22⟩ := c0
  subst e0_22
  subst e0_21
  subst e0_20
  subst e0_19
  subst e0_18
  subst e0_17
  subst e0_16
  subst e0_15
  subst e0_14
  subst e0_13
  subst e0_12
  subst e0_11
  subst e0_10
  subst e0_9
  subst e0_8
  subst e0_7
  subst e0_6
  subst e0_5
  subst e0_4
  subst e0_3
  subst e0_2
  subst e0_1
  obtain ⟨a0_0, rfl, b0_0⟩ := cell_nat Try.underlying5 rfl k0_0
  obtain ⟨a0_1, rfl, b0_1⟩ := cell_nat Try.underlying22 rfl k0_1
  obtain ⟨a0_2, rfl, b0_2⟩ := cell_nat Try.underlying22 rfl k0_2
  obtain ⟨a0_3, rfl, b0_3⟩ := cell_nat Try.underlying22 rfl k0_3
  obtain ⟨a0_4, rfl, b0_4⟩ := cell_nat Try.underlying22 rfl k0_4
  obtain ⟨a0_5, rfl, b0_5⟩ := cell_float Try.underlying25 k0_5
  obtain ⟨a0_6, rfl, b0_6⟩ := cell_float Try.underlying25 k0_6
  obtain ⟨a0_7, rfl, b0_7⟩ := cell_float Try.underlying25 k0_7
  obtain ⟨a0_8, rfl, b0_8⟩ := cell_float Try.underlying25 k0_8
  obtain ⟨a0_9, rfl, b0_9⟩ := cell_float Try.underlying25 k0_9
  obtain ⟨a0_10, rfl, b0_10⟩ := cell_float Try.underlying25 k0_10
  obtain ⟨a0_11, rfl, b0_11⟩ := cell_float Try.underlying25 k0_11
  obtain ⟨a0_12, rfl, b0_12⟩ := cell_float Try.underlying25 k0_12
  obtain ⟨a0_13, rfl⟩ := cell_bool Try.underlying4 k0_13
  obtain ⟨a0_14, rfl, b0_14⟩ := cell_float Try.underlying25 k0_14
  obtain ⟨a0_15, rfl, b0_15⟩ := cell_float Try.underlying25 k0_15
  obtain ⟨a0_16, rfl⟩ := cell_bool Try.underlying4 k0_16
  obtain ⟨a0_17, rfl, b0_17⟩ := cell_float Try.underlying25 k0_17
  obtain ⟨a0_18, rfl, b0_18⟩ := cell_float Try.underlying25 k0_18
  obtain ⟨a0_19, rfl, b0_19⟩ := cell_float Try.underlying25 k0_19
  obtain ⟨a0_20, rfl, b0_20⟩ := cell_float Try.underlying25 k0_20
  obtain ⟨a0_21, rfl, b0_21⟩ := cell_float Try.underlying25 k0_21
  exact law_callsM (N := 64) menv14_ok Try.func3 (args := [.agg [.int .u8 (Int.ofNat a0_0), .int .u32 (Int.ofNat a0_1), .int .u32 (Int.ofNat a0_2), .int .u32 (Int.ofNat a0_3), .int .u32 (Int.ofNat a0_4), .float (cn a0_5), .float (cn a0_6), .float (cn a0_7), .float (cn a0_8), .float (cn a0_9), .float (cn a0_10), .float (cn a0_11), .float (cn a0_12), .bool a0_13, .float (cn a0_14), .float (cn a0_15), .bool a0_16, .float (cn a0_17), .float (cn a0_18), .float (cn a0_19), .float (cn a0_20), .float (cn a0_21)]]) (tree_law19_JointChecks a0_0 a0_1 a0_2 a0_3 a0_4 (cn a0_5) (cn a0_6) (cn a0_7) (cn a0_8) (cn a0_9) (cn a0_10) (cn a0_11) (cn a0_12) a0_13 (cn a0_14) (cn a0_15) a0_16 (cn a0_17) (cn a0_18) (cn a0_19) (cn a0_20) (cn a0_21)) rfl (law_JointChecks a0_0 a0_1 a0_2 a0_3 a0_4 (cn a0_5) (cn a0_6) (cn a0_7) (cn a0_8) (cn a0_9) (cn a0_10) (cn a0_11) (cn a0_12) a0_13 (cn a0_14) (cn a0_15) a0_16 (cn a0_17) (cn a0_18) (cn a0_19) (cn a0_20) (cn a0_21) b0_0 b0_1 b0_2 b0_3 b0_4 (CF.cn b0_5) (CF.cn b0_6) (CF.cn b0_7) (CF.cn b0_8) (CF.cn b0_9) (CF.cn b0_10) (CF.cn b0_11) (CF.cn b0_12) (CF.cn b0_14) (CF.cn b0_15) (CF.cn b0_17) (CF.cn b0_18) (CF.cn b0_19) (CF.cn b0_20) (CF.cn b0_21)) rfl (VRels.cons (rel_agg e0_0 (VRels.cons (rel_int _ _) (VRels.cons (rel_int _ _) (VRels.cons (rel_int _ _) (VRels.cons (rel_int _ _) (VRels.cons (rel_int _ _) (VRels.cons (rel_float b0_5) (VRels.cons (rel_float b0_6) (VRels.cons (rel_float b0_7) (VRels.cons (rel_float b0_8) (VRels.cons (rel_float b0_9) (VRels.cons (rel_float b0_10) (VRels.cons (rel_float b0_11) (VRels.cons (rel_float b0_12) (VRels.cons (rel_bool _) (VRels.cons (rel_float b0_14) (VRels.cons (rel_float b0_15) (VRels.cons (rel_bool _) (VRels.cons (rel_float b0_17) (VRels.cons (rel_float b0_18) (VRels.cons (rel_float b0_19) (VRels.cons (rel_float b0_20) (VRels.cons (rel_float b0_21) VRels.nil))))))))))))))))))))))) VRels.nil) w

set_option maxRecDepth 100000 in
theorem lifted (os : Os) (started : os.Started) (H : Type) (enc : TypeId × Value → H) :
    ReturnsInHanded {} Try.checked os 3 .any (Rows.jointChecksSpec.pre6 enc Try.prog Try.f3 Rows.jointChecksRow.domain false) (Rows.jointChecksSpec.post enc Try.prog Try.f3 false true false false) := by
  refine returnsInHanded_of_change (C := Try.checked) own started (by kernel_rfl) Try.func3
    (ChangeSpec.witness6 (enc := enc) (C := Try.checked) false ⟨#[], #[.agg #[.int .u8 0, .int .u32 0, .int .u32 0, .int .u32 0, .int .u32 0, .float .f64 0, .float .f64 0, .float .f64 0, .float .f64 0, .float .f64 0, .float .f64 0, .float .f64 0, .float .f64 0, .bool false, .float .f64 0, .float .f64 0, .bool false, .float .f64 0, .float .f64 0, .float .f64 0, .float .f64 0, .float .f64 0]], []⟩ 8 (by kernel_rfl) (by kernel_rfl) (by kernel_rfl) (by kernel_rfl)) ?_
  intro W base args ds gs before hval0 hW hcnd _
  have hval : ∀ (j : Nat) t v, Try.f3.params[j]? = some t → args[j]? = some v → Value.okWide Try.prog W .any base t v := hval0
  have hW' := hW
  obtain ⟨p, q, hA0, hV, rfl, hfz, hnd⟩ := hW
  have hA : DataW.TrodAll enc Try.prog W 0 (fun _ => true) true Try.f3.params.toList args.toList ds p := hA0
  rw [Try.params3] at hA hval
  obtain ⟨v0, vs0, d0, ds0, p0, q0, hargs, rfl, rfl, h0, r0⟩ := trodAll_cons hA
  obtain ⟨rfl, rfl, rfl⟩ := trodAll_nil r0
  obtain rfl : args = #[v0] := by cases args; simp_all
  obtain ⟨rfl, rfl⟩ := trodVars_none hV
  have lt0 : ∀ x ∈ p0, x.block < W.heap.size := by obtain ⟨m, hm⟩ := h0; exact DataW.trod_lt m _ _ _ hm
  clear hA0 hval0
  refine (walk v0 W base (hval 0 30 v0 rfl rfl)).mono fun e W' ⟨he, bel⟩ => ?_
  subst he
  exact ⟨_, rfl, _, _, _, [], _, [], hW', trodAll_mk1 (shut_bool Try.underlying4 _), (trodAll_cons_mk (Below.trod laidOut (by kernel_rfl) (of_decide_eq_true (by kernel_rfl)) h0 bel lt0) trodAll_mk0), rfl, bel.frame _, fun h => by cases h⟩

theorem over : Rows.jointChecksRow.holds Try.pinned (OpenSpec.ofChange Rows.jointChecksSpec) :=
  OpenClaim.holds_of_wide 3 Try.f3 rfl rfl rfl rfl rfl rfl rfl ⟨rfl, rfl, rfl, rfl, rfl⟩ rfl rfl rfl rfl rfl (by kernel_rfl) Try.func3 (by kernel_rfl)
    (of_decide_eq_true (by kernel_rfl)) (by unfold Func.isWrapper; first | (rw [if_pos (by decide +kernel)]; kernel_rfl) | (rw [if_neg (by decide +kernel)]; exact ⟨rfl, rfl⟩))
    (fun os started H enc _ => lifted os started H enc)
end Go.Proofs.Ytjdcpmljkiecnaa.jointChecks
namespace Go.Proofs.Ytjdcpmljkiecnaa
theorem jointChecks_proved : Rows.JointChecksSaid := jointChecks.over
end Go.Proofs.Ytjdcpmljkiecnaa
