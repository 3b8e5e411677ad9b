/-
  RowScaled: for every input the Go function returns true, and each argument reads behind the call as it read before. No condition.
-/
import Derived.Test.YtojahopdcnamjaaRows
import Derived.WalkKit
import Derived.ProofKit
import Derived.OpenShut
import Derived.ShutString
import Derived.ChangeOld
import Derived.Below
import Derived.Carry
import Derived.Test.YtojahopdcnamjaaSimRow
import Derived.Test.YtojahopdcnamjaaLawRowScaled
namespace Go.Proofs.Ytojahopdcnamjaa.rowScaled
open Go.ChangeShapes Go.WideShapes Go.ChangeAt Go.RowKit
open Go.Sim
set_option linter.unusedVariables false

theorem own : ownKnob Try.prog.godebug = none := by kernel_rfl
theorem laidOut : laidOutB Try.prog = true := by kernel_rfl

set_option maxRecDepth 100000 in
theorem walk (v0 : Value) (v1 : Value) (v2 : Value) (v3 : Value) (w : World) (base : Nat) (h0 : Value.okWide Try.prog w .any base 37 v0) (h1 : Value.okWide Try.prog w .any base 39 v1) (h2 : Value.okWide Try.prog w .any base 39 v2) (h3 : Value.okWide Try.prog w .any base 3 v3) :
    Calls Try.prog 8 #[v0, v1, v2, v3] w fun e w' => e = .returned (.bool true) ∧ Below w.heap.size w w' := by
  obtain ⟨cs0, rfl, c0⟩ := open_agg (ts := [3, 3, 22, 22, 22, 22, 22, 22, 22, 22, 22, 22, 3, 22]) Try.underlying37 rfl (by kernel_rfl) (by kernel_rfl) h0
  simp only [CellsOk] at c0
  obtain ⟨y0_0, z0_0, e0_0, k0_0, y0_1, z0_1, e0_1, k0_1, y0_2, z0_2, e0_2, k0_2, y0_3, z0_3, e0_3, k0_3, y0_4, z0_4, e0_4, k0_4, y0_5, z0_5, e0_5, k0_5, y0_6, z0_6, e0_6, k0_6, y0_7, z0_7, e0_7, k0_7, y0_8, z0_8, e0_8, k0_8, y0_9, z0_9, e0_9, k0_9, y0_10, z0_10, e0_10, k0_10, y0_11, z0_11, e0_11, k0_11, y0_12, z0_12, e0_12, k0_12, y0_13, z0_13, e0_13, k0_13, e0_14⟩ := c0
  subst e0_14
  subst e0_13
  subst e0_12
  subst e0_11
  subst e0_10
  subst e0_9
  subst e0_8
  subst e0_7
  subst e0_6
  subst e0_5
  subst e0_4
  subst e0_3
  subst e0_2
  subst e0_1
  obtain ⟨a0_0, rfl, b0_0⟩ := cell_int Try.underlying3 k0_0
  obtain ⟨a0_1, rfl, b0_1⟩ := cell_int Try.underlying3 k0_1
  obtain ⟨a0_2, rfl, b0_2⟩ := cell_float Try.underlying22 k0_2
  obtain ⟨a0_3, rfl, b0_3⟩ := cell_float Try.underlying22 k0_3
  obtain ⟨a0_4, rfl, b0_4⟩ := cell_float Try.underlying22 k0_4
  obtain ⟨a0_5, rfl, b0_5⟩ := cell_float Try.underlying22 k0_5
  obtain ⟨a0_6, rfl, b0_6⟩ := cell_float Try.underlying22 k0_6
  obtain ⟨a0_7, rfl, b0_7⟩ := cell_float Try.underlying22 k0_7
  obtain ⟨a0_8, rfl, b0_8⟩ := cell_float Try.underlying22 k0_8
  obtain ⟨a0_9, rfl, b0_9⟩ := cell_float Try.underlying22 k0_9
  obtain ⟨a0_10, rfl, b0_10⟩ := cell_float Try.underlying22 k0_10
  obtain ⟨a0_11, rfl, b0_11⟩ := cell_float Try.underlying22 k0_11
  obtain ⟨a0_12, rfl, b0_12⟩ := cell_int Try.underlying3 k0_12
  obtain ⟨a0_13, rfl, b0_13⟩ := cell_float Try.underlying22 k0_13
  obtain ⟨cs1, rfl, c1⟩ := open_agg (ts := [22, 22, 22, 22, 22]) Try.underlying39 rfl (by kernel_rfl) (by kernel_rfl) h1
  simp only [CellsOk] at c1
  obtain ⟨y1_0, z1_0, e1_0, k1_0, y1_1, z1_1, e1_1, k1_1, y1_2, z1_2, e1_2, k1_2, y1_3, z1_3, e1_3, k1_3, y1_4, z1_4, e1_4, k1_4, e1_5⟩ := c1
  subst e1_5
  subst e1_4
  subst e1_3
  subst e1_2
  subst e1_1
  obtain ⟨a1_0, rfl, b1_0⟩ := cell_float Try.underlying22 k1_0
  obtain ⟨a1_1, rfl, b1_1⟩ := cell_float Try.underlying22 k1_1
  obtain ⟨a1_2, rfl, b1_2⟩ := cell_float Try.underlying22 k1_2
  obtain ⟨a1_3, rfl, b1_3⟩ := cell_float Try.underlying22 k1_3
  obtain ⟨a1_4, rfl, b1_4⟩ := cell_float Try.underlying22 k1_4
  obtain ⟨cs2, rfl, c2⟩ := open_agg (ts := [22, 22, 22, 22, 22]) Try.underlying39 rfl (by kernel_rfl) (by kernel_rfl) h2
  simp only [CellsOk] at c2
  obtain ⟨y2_0, z2_0, e2_0, k2_0, y2_1, z2_1, e2_1, k2_1, y2_2, z2_2, e2_2, k2_2, y2_3, z2_3, e2_3, k2_3, y2_4, z2_4, e2_4, k2_4, e2_5⟩ := c2
  subst e2_5
  subst e2_4
  subst e2_3
  subst e2_2
  subst e2_1
  obtain ⟨a2_0, rfl, b2_0⟩ := cell_float Try.underlying22 k2_0
  obtain ⟨a2_1, rfl, b2_1⟩ := cell_float Try.underlying22 k2_1
  obtain ⟨a2_2, rfl, b2_2⟩ := cell_float Try.underlying22 k2_2
  obtain ⟨a2_3, rfl, b2_3⟩ := cell_float Try.underlying22 k2_3
  obtain ⟨a2_4, rfl, b2_4⟩ := cell_float Try.underlying22 k2_4
  have k3_0 := val_cell Try.underlying3 rfl h3
  obtain ⟨a3_0, rfl, b3_0⟩ := cell_int Try.underlying3 k3_0
  exact law_callsM (N := 64) menv40_ok Try.func8 (args := [.agg [.int .i64 a0_0, .int .i64 a0_1, .float (cn a0_2), .float (cn a0_3), .float (cn a0_4), .float (cn a0_5), .float (cn a0_6), .float (cn a0_7), .float (cn a0_8), .float (cn a0_9), .float (cn a0_10), .float (cn a0_11), .int .i64 a0_12, .float (cn a0_13)], .agg [.float (cn a1_0), .float (cn a1_1), .float (cn a1_2), .float (cn a1_3), .float (cn a1_4)], .agg [.float (cn a2_0), .float (cn a2_1), .float (cn a2_2), .float (cn a2_3), .float (cn a2_4)], .int .i64 a3_0]) (tree_law20_RowScaled a0_0 a0_1 (cn a0_2) (cn a0_3) (cn a0_4) (cn a0_5) (cn a0_6) (cn a0_7) (cn a0_8) (cn a0_9) (cn a0_10) (cn a0_11) a0_12 (cn a0_13) (cn a1_0) (cn a1_1) (cn a1_2) (cn a1_3) (cn a1_4) (cn a2_0) (cn a2_1) (cn a2_2) (cn a2_3) (cn a2_4) a3_0) (ob_RowScaled a0_0 a0_1 (cn a0_2) (cn a0_3) (cn a0_4) (cn a0_5) (cn a0_6) (cn a0_7) (cn a0_8) (cn a0_9) (cn a0_10) (cn a0_11) a0_12 (cn a0_13) (cn a1_0) (cn a1_1) (cn a1_2) (cn a1_3) (cn a1_4) (cn a2_0) (cn a2_1) (cn a2_2) (cn a2_3) (cn a2_4) a3_0 b0_0 b0_1 (CF.cn b0_2) (CF.cn b0_3) (CF.cn b0_4) (CF.cn b0_5) (CF.cn b0_6) (CF.cn b0_7) (CF.cn b0_8) (CF.cn b0_9) (CF.cn b0_10) (CF.cn b0_11) b0_12 (CF.cn b0_13) (CF.cn b1_0) (CF.cn b1_1) (CF.cn b1_2) (CF.cn b1_3) (CF.cn b1_4) (CF.cn b2_0) (CF.cn b2_1) (CF.cn b2_2) (CF.cn b2_3) (CF.cn b2_4) b3_0) (law_RowScaled a0_0 a0_1 (cn a0_2) (cn a0_3) (cn a0_4) (cn a0_5) (cn a0_6) (cn a0_7) (cn a0_8) (cn a0_9) (cn a0_10) (cn a0_11) a0_12 (cn a0_13) (cn a1_0) (cn a1_1) (cn a1_2) (cn a1_3) (cn a1_4) (cn a2_0) (cn a2_1) (cn a2_2) (cn a2_3) (cn a2_4) a3_0 b0_0 b0_1 (CF.cn b0_2) (CF.cn b0_3) (CF.cn b0_4) (CF.cn b0_5) (CF.cn b0_6) (CF.cn b0_7) (CF.cn b0_8) (CF.cn b0_9) (CF.cn b0_10) (CF.cn b0_11) b0_12 (CF.cn b0_13) (CF.cn b1_0) (CF.cn b1_1) (CF.cn b1_2) (CF.cn b1_3) (CF.cn b1_4) (CF.cn b2_0) (CF.cn b2_1) (CF.cn b2_2) (CF.cn b2_3) (CF.cn b2_4) b3_0) rfl (VRels.cons (rel_agg e0_0 (VRels.cons (rel_int _ _) (VRels.cons (rel_int _ _) (VRels.cons (rel_float b0_2) (VRels.cons (rel_float b0_3) (VRels.cons (rel_float b0_4) (VRels.cons (rel_float b0_5) (VRels.cons (rel_float b0_6) (VRels.cons (rel_float b0_7) (VRels.cons (rel_float b0_8) (VRels.cons (rel_float b0_9) (VRels.cons (rel_float b0_10) (VRels.cons (rel_float b0_11) (VRels.cons (rel_int _ _) (VRels.cons (rel_float b0_13) VRels.nil))))))))))))))) (VRels.cons (rel_agg e1_0 (VRels.cons (rel_float b1_0) (VRels.cons (rel_float b1_1) (VRels.cons (rel_float b1_2) (VRels.cons (rel_float b1_3) (VRels.cons (rel_float b1_4) VRels.nil)))))) (VRels.cons (rel_agg e2_0 (VRels.cons (rel_float b2_0) (VRels.cons (rel_float b2_1) (VRels.cons (rel_float b2_2) (VRels.cons (rel_float b2_3) (VRels.cons (rel_float b2_4) VRels.nil)))))) (VRels.cons (rel_int _ _) VRels.nil)))) w

set_option maxRecDepth 100000 in
theorem lifted (os : Os) (started : os.Started) (H : Type) (enc : TypeId × Value → H) :
    ReturnsInHanded {} Try.checked os 8 .any (Rows.rowScaledSpec.pre6 enc Try.prog Try.f8 Rows.rowScaledRow.domain false) (Rows.rowScaledSpec.post enc Try.prog Try.f8 false true false false) := by
  refine returnsInHanded_of_change (C := Try.checked) own started (by kernel_rfl) Try.func8
    (ChangeSpec.witness6 (enc := enc) (C := Try.checked) false ⟨#[], #[.agg #[.int .i64 0, .int .i64 0, .float .f64 0, .float .f64 0, .float .f64 0, .float .f64 0, .float .f64 0, .float .f64 0, .float .f64 0, .float .f64 0, .float .f64 0, .float .f64 0, .int .i64 0, .float .f64 0], .agg #[.float .f64 0, .float .f64 0, .float .f64 0, .float .f64 0, .float .f64 0], .agg #[.float .f64 0, .float .f64 0, .float .f64 0, .float .f64 0, .float .f64 0], .int .i64 0], []⟩ 8 (by kernel_rfl) (by kernel_rfl) (by kernel_rfl) (by kernel_rfl)) ?_
  intro W base args ds gs before hval0 hW hcnd _
  have hval : ∀ (j : Nat) t v, Try.f8.params[j]? = some t → args[j]? = some v → Value.okWide Try.prog W .any base t v := hval0
  have hW' := hW
  obtain ⟨p, q, hA0, hV, rfl, hfz, hnd⟩ := hW
  have hA : DataW.TrodAll enc Try.prog W 0 (fun _ => true) true Try.f8.params.toList args.toList ds p := hA0
  rw [Try.params8] at hA hval
  obtain ⟨v0, vs0, d0, ds0, p0, q0, hargs, rfl, rfl, h0, r0⟩ := trodAll_cons hA
  obtain ⟨v1, vs1, d1, ds1, p1, q1, rfl, rfl, rfl, h1, r1⟩ := trodAll_cons r0
  obtain ⟨v2, vs2, d2, ds2, p2, q2, rfl, rfl, rfl, h2, r2⟩ := trodAll_cons r1
  obtain ⟨v3, vs3, d3, ds3, p3, q3, rfl, rfl, rfl, h3, r3⟩ := trodAll_cons r2
  obtain ⟨rfl, rfl, rfl⟩ := trodAll_nil r3
  obtain rfl : args = #[v0, v1, v2, v3] := by cases args; simp_all
  obtain ⟨rfl, rfl⟩ := trodVars_none hV
  have lt0 : ∀ x ∈ p0, x.block < W.heap.size := by obtain ⟨m, hm⟩ := h0; exact DataW.trod_lt m _ _ _ hm
  have lt1 : ∀ x ∈ p1, x.block < W.heap.size := by obtain ⟨m, hm⟩ := h1; exact DataW.trod_lt m _ _ _ hm
  have lt2 : ∀ x ∈ p2, x.block < W.heap.size := by obtain ⟨m, hm⟩ := h2; exact DataW.trod_lt m _ _ _ hm
  have lt3 : ∀ x ∈ p3, x.block < W.heap.size := by obtain ⟨m, hm⟩ := h3; exact DataW.trod_lt m _ _ _ hm
  clear hA0 hval0
  refine (walk v0 v1 v2 v3 W base (hval 0 37 v0 rfl rfl) (hval 1 39 v1 rfl rfl) (hval 2 39 v2 rfl rfl) (hval 3 3 v3 rfl rfl)).mono fun e W' ⟨he, bel⟩ => ?_
  subst he
  exact ⟨_, rfl, _, _, _, [], _, [], hW', trodAll_mk1 (shut_bool Try.underlying4 _), (trodAll_cons_mk (Below.trod laidOut (by kernel_rfl) (of_decide_eq_true (by kernel_rfl)) h0 bel lt0) (trodAll_cons_mk (Below.trod laidOut (by kernel_rfl) (of_decide_eq_true (by kernel_rfl)) h1 bel lt1) (trodAll_cons_mk (Below.trod laidOut (by kernel_rfl) (of_decide_eq_true (by kernel_rfl)) h2 bel lt2) (trodAll_cons_mk (Below.trod laidOut (by kernel_rfl) (of_decide_eq_true (by kernel_rfl)) h3 bel lt3) trodAll_mk0)))), rfl, bel.frame _, fun h => by cases h⟩

theorem over : Rows.rowScaledRow.holds Try.pinned (OpenSpec.ofChange Rows.rowScaledSpec) :=
  OpenClaim.holds_of_wide 8 Try.f8 rfl rfl rfl rfl rfl rfl rfl ⟨rfl, rfl, rfl, rfl, rfl⟩ rfl rfl rfl rfl rfl (by kernel_rfl) Try.func8 (by kernel_rfl)
    (of_decide_eq_true (by kernel_rfl)) (by unfold Func.isWrapper; first | (rw [if_pos (by decide +kernel)]; kernel_rfl) | (rw [if_neg (by decide +kernel)]; exact ⟨rfl, rfl⟩))
    (fun os started H enc _ => lifted os started H enc)
end Go.Proofs.Ytojahopdcnamjaa.rowScaled
namespace Go.Proofs.Ytojahopdcnamjaa
theorem rowScaled_proved : Rows.RowScaledSaid := rowScaled.over
end Go.Proofs.Ytojahopdcnamjaa
