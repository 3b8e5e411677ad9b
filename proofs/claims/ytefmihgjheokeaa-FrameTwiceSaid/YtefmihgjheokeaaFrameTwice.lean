/-
  FrameTwice: for every input the Go function returns true, and each argument reads behind the call as it read before. No condition.
-/
import Derived.Test.YtefmihgjheokeaaRows
import Derived.WalkKit
import Derived.ProofKit
import Derived.OpenShut
import Derived.ShutString
import Derived.ChangeOld
import Derived.Below
import Derived.Carry
import Derived.Test.YtefmihgjheokeaaSimRow
import Derived.Test.YtefmihgjheokeaaLawFrameTwice
namespace Go.Proofs.Ytefmihgjheokeaa.frameTwice
open Go.ChangeShapes Go.WideShapes Go.ChangeAt Go.RowKit
open Go.Sim
set_option linter.unusedVariables false

theorem own : ownKnob Try.prog.godebug = none := by kernel_rfl
theorem laidOut : laidOutB Try.prog = true := by kernel_rfl

set_option maxRecDepth 100000 in
theorem walk (v0 : Value) (v1 : Value) (v2 : Value) (v3 : Value) (w : World) (base : Nat) (h0 : Value.okWide Try.prog w .any base 24 v0) (h1 : Value.okWide Try.prog w .any base 37 v1) (h2 : Value.okWide Try.prog w .any base 22 v2) (h3 : Value.okWide Try.prog w .any base 22 v3) :
    Calls Try.prog 7 #[v0, v1, v2, v3] w fun e w' => e = .returned (.bool true) ∧ Below w.heap.size w w' := by
  obtain ⟨cs0, rfl, c0⟩ := open_agg (ts := [22, 22, 22, 22]) Try.underlying24 rfl (by kernel_rfl) (by kernel_rfl) h0
  simp only [CellsOk] at c0
  obtain ⟨y0_0, z0_0, e0_0, k0_0, y0_1, z0_1, e0_1, k0_1, y0_2, z0_2, e0_2, k0_2, y0_3, z0_3, e0_3, k0_3, e0_4⟩ := c0
  subst e0_4
  subst e0_3
  subst e0_2
  subst e0_1
  obtain ⟨a0_0, rfl, b0_0⟩ := cell_u64 Try.underlying22 k0_0
  obtain ⟨a0_1, rfl, b0_1⟩ := cell_u64 Try.underlying22 k0_1
  obtain ⟨a0_2, rfl, b0_2⟩ := cell_u64 Try.underlying22 k0_2
  obtain ⟨a0_3, rfl, b0_3⟩ := cell_u64 Try.underlying22 k0_3
  obtain ⟨cs1, rfl, c1⟩ := open_agg (ts := [22, 22]) Try.underlying37 rfl (by kernel_rfl) (by kernel_rfl) h1
  simp only [CellsOk] at c1
  obtain ⟨y1_0, z1_0, e1_0, k1_0, y1_1, z1_1, e1_1, k1_1, e1_2⟩ := c1
  subst e1_2
  subst e1_1
  obtain ⟨a1_0, rfl, b1_0⟩ := cell_u64 Try.underlying22 k1_0
  obtain ⟨a1_1, rfl, b1_1⟩ := cell_u64 Try.underlying22 k1_1
  have k2_0 := val_cell Try.underlying22 rfl h2
  obtain ⟨a2_0, rfl, b2_0⟩ := cell_u64 Try.underlying22 k2_0
  have k3_0 := val_cell Try.underlying22 rfl h3
  obtain ⟨a3_0, rfl, b3_0⟩ := cell_u64 Try.underlying22 k3_0
  exact law_callsM (N := 64) menv33_ok Try.func7 (args := [.agg [.int .u64 (Int.ofNat a0_0), .int .u64 (Int.ofNat a0_1), .int .u64 (Int.ofNat a0_2), .int .u64 (Int.ofNat a0_3)], .agg [.int .u64 (Int.ofNat a1_0), .int .u64 (Int.ofNat a1_1)], .int .u64 (Int.ofNat a2_0), .int .u64 (Int.ofNat a3_0)]) (tree_law04_FrameTwice a0_0 a0_1 a0_2 a0_3 a1_0 a1_1 a2_0 a3_0) (ob_FrameTwice a0_0 a0_1 a0_2 a0_3 a1_0 a1_1 a2_0 a3_0 b0_0 b0_1 b0_2 b0_3 b1_0 b1_1 b2_0 b3_0) (law_FrameTwice a0_0 a0_1 a0_2 a0_3 a1_0 a1_1 a2_0 a3_0 b0_0 b0_1 b0_2 b0_3 b1_0 b1_1 b2_0 b3_0) rfl (VRels.cons (rel_agg e0_0 (VRels.cons (rel_int _ _) (VRels.cons (rel_int _ _) (VRels.cons (rel_int _ _) (VRels.cons (rel_int _ _) VRels.nil))))) (VRels.cons (rel_agg e1_0 (VRels.cons (rel_int _ _) (VRels.cons (rel_int _ _) VRels.nil))) (VRels.cons (rel_int _ _) (VRels.cons (rel_int _ _) VRels.nil)))) w

set_option maxRecDepth 100000 in
theorem lifted (os : Os) (started : os.Started) (H : Type) (enc : TypeId × Value → H) :
    ReturnsInHanded {} Try.checked os 7 .any (Rows.frameTwiceSpec.pre6 enc Try.prog Try.f7 Rows.frameTwiceRow.domain false) (Rows.frameTwiceSpec.post enc Try.prog Try.f7 false true false false) := by
  refine returnsInHanded_of_change (C := Try.checked) own started (by kernel_rfl) Try.func7
    (ChangeSpec.witness6 (enc := enc) (C := Try.checked) false ⟨#[], #[.agg #[.int .u64 0, .int .u64 0, .int .u64 0, .int .u64 0], .agg #[.int .u64 0, .int .u64 0], .int .u64 0, .int .u64 0], []⟩ 8 (by kernel_rfl) (by kernel_rfl) (by kernel_rfl) (by kernel_rfl)) ?_
  intro W base args ds gs before hval0 hW hcnd _
  have hval : ∀ (j : Nat) t v, Try.f7.params[j]? = some t → args[j]? = some v → Value.okWide Try.prog W .any base t v := hval0
  have hW' := hW
  obtain ⟨p, q, hA0, hV, rfl, hfz, hnd⟩ := hW
  have hA : DataW.TrodAll enc Try.prog W 0 (fun _ => true) true Try.f7.params.toList args.toList ds p := hA0
  rw [Try.params7] at hA hval
  obtain ⟨v0, vs0, d0, ds0, p0, q0, hargs, rfl, rfl, h0, r0⟩ := trodAll_cons hA
  obtain ⟨v1, vs1, d1, ds1, p1, q1, rfl, rfl, rfl, h1, r1⟩ := trodAll_cons r0
  obtain ⟨v2, vs2, d2, ds2, p2, q2, rfl, rfl, rfl, h2, r2⟩ := trodAll_cons r1
  obtain ⟨v3, vs3, d3, ds3, p3, q3, rfl, rfl, rfl, h3, r3⟩ := trodAll_cons r2
  obtain ⟨rfl, rfl, rfl⟩ := trodAll_nil r3
  obtain rfl : args = #[v0, v1, v2, v3] := by cases args; simp_all
  obtain ⟨rfl, rfl⟩ := trodVars_none hV
  have lt0 : ∀ x ∈ p0, x.block < W.heap.size := by obtain ⟨m, hm⟩ := h0; exact DataW.trod_lt m _ _ _ hm
  have lt1 : ∀ x ∈ p1, x.block < W.heap.size := by obtain ⟨m, hm⟩ := h1; exact DataW.trod_lt m _ _ _ hm
  have lt2 : ∀ x ∈ p2, x.block < W.heap.size := by obtain ⟨m, hm⟩ := h2; exact DataW.trod_lt m _ _ _ hm
  have lt3 : ∀ x ∈ p3, x.block < W.heap.size := by obtain ⟨m, hm⟩ := h3; exact DataW.trod_lt m _ _ _ hm
  clear hA0 hval0
  refine (walk v0 v1 v2 v3 W base (hval 0 24 v0 rfl rfl) (hval 1 37 v1 rfl rfl) (hval 2 22 v2 rfl rfl) (hval 3 22 v3 rfl rfl)).mono fun e W' ⟨he, bel⟩ => ?_
  subst he
  exact ⟨_, rfl, _, _, _, [], _, [], hW', trodAll_mk1 (shut_bool Try.underlying4 _), (trodAll_cons_mk (Below.trod laidOut (by kernel_rfl) (of_decide_eq_true (by kernel_rfl)) h0 bel lt0) (trodAll_cons_mk (Below.trod laidOut (by kernel_rfl) (of_decide_eq_true (by kernel_rfl)) h1 bel lt1) (trodAll_cons_mk (Below.trod laidOut (by kernel_rfl) (of_decide_eq_true (by kernel_rfl)) h2 bel lt2) (trodAll_cons_mk (Below.trod laidOut (by kernel_rfl) (of_decide_eq_true (by kernel_rfl)) h3 bel lt3) trodAll_mk0)))), rfl, bel.frame _, fun h => by cases h⟩

theorem over : Rows.frameTwiceRow.holds Try.pinned (OpenSpec.ofChange Rows.frameTwiceSpec) :=
  OpenClaim.holds_of_wide 7 Try.f7 rfl rfl rfl rfl rfl rfl rfl ⟨rfl, rfl, rfl, rfl, rfl⟩ rfl rfl rfl rfl rfl (by kernel_rfl) Try.func7 (by kernel_rfl)
    (of_decide_eq_true (by kernel_rfl)) (by unfold Func.isWrapper; first | (rw [if_pos (by decide +kernel)]; kernel_rfl) | (rw [if_neg (by decide +kernel)]; exact ⟨rfl, rfl⟩))
    (fun os started H enc _ => lifted os started H enc)
end Go.Proofs.Ytefmihgjheokeaa.frameTwice
namespace Go.Proofs.Ytefmihgjheokeaa
theorem frameTwice_proved : Rows.FrameTwiceSaid := frameTwice.over
end Go.Proofs.Ytefmihgjheokeaa
