/-
  BoxEnters: for every input the Go function returns true, and each argument reads behind the call as it read before. No condition.
-/
import Derived.Test.YtbbopbelaamlaaaRows
import Derived.WalkKit
import Derived.ProofKit
import Derived.OpenShut
import Derived.ShutString
import Derived.ChangeOld
import Derived.Below
import Derived.Carry
import Derived.Test.YtbbopbelaamlaaaSimRow
import Derived.Test.YtbbopbelaamlaaaLawBoxEnters
namespace Go.Proofs.Ytbbopbelaamlaaa.boxEnters
open Go.ChangeShapes Go.WideShapes Go.ChangeAt Go.RowKit
open Go.Sim
set_option linter.unusedVariables false

theorem own : ownKnob Try.prog.godebug = none := by kernel_rfl
theorem laidOut : laidOutB Try.prog = true := by kernel_rfl

set_option maxRecDepth 100000 in
theorem walk (v0 : Value) (v1 : Value) (v2 : Value) (w : World) (base : Nat) (h0 : Value.okWide Try.prog w .any base 26 v0) (h1 : Value.okWide Try.prog w .any base 24 v1) (h2 : Value.okWide Try.prog w .any base 24 v2) :
    Calls Try.prog 8 #[v0, v1, v2] w fun e w' => e = .returned (.bool true) ∧ Below w.heap.size w w' := by
  obtain ⟨cs0, rfl, c0⟩ := open_agg (ts := [22, 22, 22, 22]) Try.underlying26 rfl (by kernel_rfl) (by kernel_rfl) h0
  simp only [CellsOk] at c0
  obtain ⟨y0_0, z0_0, e0_0, k0_0, y0_1, z0_1, e0_1, k0_1, y0_2, z0_2, e0_2, k0_2, y0_3, z0_3, e0_3, k0_3, e0_4⟩ := c0
  subst e0_4
  subst e0_3
  subst e0_2
  subst e0_1
  obtain ⟨a0_0, rfl, b0_0⟩ := cell_float Try.underlying22 k0_0
  obtain ⟨a0_1, rfl, b0_1⟩ := cell_float Try.underlying22 k0_1
  obtain ⟨a0_2, rfl, b0_2⟩ := cell_float Try.underlying22 k0_2
  obtain ⟨a0_3, rfl, b0_3⟩ := cell_float Try.underlying22 k0_3
  obtain ⟨cs1, rfl, c1⟩ := open_agg (ts := [22, 22]) Try.underlying24 rfl (by kernel_rfl) (by kernel_rfl) h1
  simp only [CellsOk] at c1
  obtain ⟨y1_0, z1_0, e1_0, k1_0, y1_1, z1_1, e1_1, k1_1, e1_2⟩ := c1
  subst e1_2
  subst e1_1
  obtain ⟨a1_0, rfl, b1_0⟩ := cell_float Try.underlying22 k1_0
  obtain ⟨a1_1, rfl, b1_1⟩ := cell_float Try.underlying22 k1_1
  obtain ⟨cs2, rfl, c2⟩ := open_agg (ts := [22, 22]) Try.underlying24 rfl (by kernel_rfl) (by kernel_rfl) h2
  simp only [CellsOk] at c2
  obtain ⟨y2_0, z2_0, e2_0, k2_0, y2_1, z2_1, e2_1, k2_1, e2_2⟩ := c2
  subst e2_2
  subst e2_1
  obtain ⟨a2_0, rfl, b2_0⟩ := cell_float Try.underlying22 k2_0
  obtain ⟨a2_1, rfl, b2_1⟩ := cell_float Try.underlying22 k2_1
  exact law_callsM (N := 96) menv35_ok Try.func8 (args := [.agg [.float (cn a0_0), .float (cn a0_1), .float (cn a0_2), .float (cn a0_3)], .agg [.float (cn a1_0), .float (cn a1_1)], .agg [.float (cn a2_0), .float (cn a2_1)]]) (tree_law05_BoxEnters (cn a0_0) (cn a0_1) (cn a0_2) (cn a0_3) (cn a1_0) (cn a1_1) (cn a2_0) (cn a2_1)) rfl (law_BoxEnters (cn a0_0) (cn a0_1) (cn a0_2) (cn a0_3) (cn a1_0) (cn a1_1) (cn a2_0) (cn a2_1) (CF.cn b0_0) (CF.cn b0_1) (CF.cn b0_2) (CF.cn b0_3) (CF.cn b1_0) (CF.cn b1_1) (CF.cn b2_0) (CF.cn b2_1)) rfl (VRels.cons (rel_agg e0_0 (VRels.cons (rel_float b0_0) (VRels.cons (rel_float b0_1) (VRels.cons (rel_float b0_2) (VRels.cons (rel_float b0_3) VRels.nil))))) (VRels.cons (rel_agg e1_0 (VRels.cons (rel_float b1_0) (VRels.cons (rel_float b1_1) VRels.nil))) (VRels.cons (rel_agg e2_0 (VRels.cons (rel_float b2_0) (VRels.cons (rel_float b2_1) VRels.nil))) VRels.nil))) w

set_option maxRecDepth 100000 in
theorem lifted (os : Os) (started : os.Started) (H : Type) (enc : TypeId × Value → H) :
    ReturnsInHanded {} Try.checked os 8 .any (Rows.boxEntersSpec.pre6 enc Try.prog Try.f8 Rows.boxEntersRow.domain false) (Rows.boxEntersSpec.post enc Try.prog Try.f8 false true false false) := by
  refine returnsInHanded_of_change (C := Try.checked) own started (by kernel_rfl) Try.func8
    (ChangeSpec.witness6 (enc := enc) (C := Try.checked) false ⟨#[], #[.agg #[.float .f64 0, .float .f64 0, .float .f64 0, .float .f64 0], .agg #[.float .f64 0, .float .f64 0], .agg #[.float .f64 0, .float .f64 0]], []⟩ 8 (by kernel_rfl) (by kernel_rfl) (by kernel_rfl) (by kernel_rfl)) ?_
  intro W base args ds gs before hval0 hW hcnd _
  have hval : ∀ (j : Nat) t v, Try.f8.params[j]? = some t → args[j]? = some v → Value.okWide Try.prog W .any base t v := hval0
  have hW' := hW
  obtain ⟨p, q, hA0, hV, rfl, hfz, hnd⟩ := hW
  have hA : DataW.TrodAll enc Try.prog W 0 (fun _ => true) true Try.f8.params.toList args.toList ds p := hA0
  rw [Try.params8] at hA hval
  obtain ⟨v0, vs0, d0, ds0, p0, q0, hargs, rfl, rfl, h0, r0⟩ := trodAll_cons hA
  obtain ⟨v1, vs1, d1, ds1, p1, q1, rfl, rfl, rfl, h1, r1⟩ := trodAll_cons r0
  obtain ⟨v2, vs2, d2, ds2, p2, q2, rfl, rfl, rfl, h2, r2⟩ := trodAll_cons r1
  obtain ⟨rfl, rfl, rfl⟩ := trodAll_nil r2
  obtain rfl : args = #[v0, v1, v2] := by cases args; simp_all
  obtain ⟨rfl, rfl⟩ := trodVars_none hV
  have lt0 : ∀ x ∈ p0, x.block < W.heap.size := by obtain ⟨m, hm⟩ := h0; exact DataW.trod_lt m _ _ _ hm
  have lt1 : ∀ x ∈ p1, x.block < W.heap.size := by obtain ⟨m, hm⟩ := h1; exact DataW.trod_lt m _ _ _ hm
  have lt2 : ∀ x ∈ p2, x.block < W.heap.size := by obtain ⟨m, hm⟩ := h2; exact DataW.trod_lt m _ _ _ hm
  clear hA0 hval0
  refine (walk v0 v1 v2 W base (hval 0 26 v0 rfl rfl) (hval 1 24 v1 rfl rfl) (hval 2 24 v2 rfl rfl)).mono fun e W' ⟨he, bel⟩ => ?_
  subst he
  exact ⟨_, rfl, _, _, _, [], _, [], hW', trodAll_mk1 (shut_bool Try.underlying4 _), (trodAll_cons_mk (Below.trod laidOut (by kernel_rfl) (of_decide_eq_true (by kernel_rfl)) h0 bel lt0) (trodAll_cons_mk (Below.trod laidOut (by kernel_rfl) (of_decide_eq_true (by kernel_rfl)) h1 bel lt1) (trodAll_cons_mk (Below.trod laidOut (by kernel_rfl) (of_decide_eq_true (by kernel_rfl)) h2 bel lt2) trodAll_mk0))), rfl, bel.frame _, fun h => by cases h⟩

theorem over : Rows.boxEntersRow.holds Try.pinned (OpenSpec.ofChange Rows.boxEntersSpec) :=
  OpenClaim.holds_of_wide 8 Try.f8 rfl rfl rfl rfl rfl rfl rfl ⟨rfl, rfl, rfl, rfl, rfl⟩ rfl rfl rfl rfl rfl (by kernel_rfl) Try.func8 (by kernel_rfl)
    (of_decide_eq_true (by kernel_rfl)) (by unfold Func.isWrapper; first | (rw [if_pos (by decide +kernel)]; kernel_rfl) | (rw [if_neg (by decide +kernel)]; exact ⟨rfl, rfl⟩))
    (fun os started H enc _ => lifted os started H enc)
end Go.Proofs.Ytbbopbelaamlaaa.boxEnters
namespace Go.Proofs.Ytbbopbelaamlaaa
theorem boxEnters_proved : Rows.BoxEntersSaid := boxEnters.over
end Go.Proofs.Ytbbopbelaamlaaa
