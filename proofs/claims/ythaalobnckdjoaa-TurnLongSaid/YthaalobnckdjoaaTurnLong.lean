/-
  TurnLong: for every input the Go function returns true, and each argument reads behind the call as it read before. No condition.
-/
import Derived.Test.YthaalobnckdjoaaRows
import Derived.WalkKit
import Derived.ProofKit
import Derived.OpenShut
import Derived.ShutString
import Derived.ChangeOld
import Derived.Below
import Derived.Carry
import Derived.Test.YthaalobnckdjoaaSimRow
import Derived.Test.YthaalobnckdjoaaLawTurnLong
namespace Go.Proofs.Ythaalobnckdjoaa.turnLong
open Go.ChangeShapes Go.WideShapes Go.ChangeAt Go.RowKit
open Go.Sim
set_option linter.unusedVariables false

theorem own : ownKnob Try.prog.godebug = none := by kernel_rfl
theorem laidOut : laidOutB Try.prog = true := by kernel_rfl

set_option maxRecDepth 100000 in
theorem walk (v0 : Value) (v1 : Value) (v2 : Value) (w : World) (base : Nat) (h0 : Value.okWide Try.prog w .any base 22 v0) (h1 : Value.okWide Try.prog w .any base 24 v1) (h2 : Value.okWide Try.prog w .any base 24 v2) :
    Calls Try.prog 5 #[v0, v1, v2] w fun e w' => e = .returned (.bool true) ∧ Below w.heap.size w w' := by
  have k0_0 := val_cell Try.underlying22 rfl h0
  obtain ⟨a0_0, rfl, b0_0⟩ := cell_u64 Try.underlying22 k0_0
  obtain ⟨cs1, rfl, c1⟩ := open_agg (ts := [22, 22]) Try.underlying24 rfl (by kernel_rfl) (by kernel_rfl) h1
  simp only [CellsOk] at c1
  obtain ⟨y1_0, z1_0, e1_0, k1_0, y1_1, z1_1, e1_1, k1_1, e1_2⟩ := c1
  subst e1_2
  subst e1_1
  obtain ⟨a1_0, rfl, b1_0⟩ := cell_u64 Try.underlying22 k1_0
  obtain ⟨a1_1, rfl, b1_1⟩ := cell_u64 Try.underlying22 k1_1
  obtain ⟨cs2, rfl, c2⟩ := open_agg (ts := [22, 22]) Try.underlying24 rfl (by kernel_rfl) (by kernel_rfl) h2
  simp only [CellsOk] at c2
  obtain ⟨y2_0, z2_0, e2_0, k2_0, y2_1, z2_1, e2_1, k2_1, e2_2⟩ := c2
  subst e2_2
  subst e2_1
  obtain ⟨a2_0, rfl, b2_0⟩ := cell_u64 Try.underlying22 k2_0
  obtain ⟨a2_1, rfl, b2_1⟩ := cell_u64 Try.underlying22 k2_1
  exact law_callsM (N := 64) menv17_ok Try.func5 (args := [.int .u64 (Int.ofNat a0_0), .agg [.int .u64 (Int.ofNat a1_0), .int .u64 (Int.ofNat a1_1)], .agg [.int .u64 (Int.ofNat a2_0), .int .u64 (Int.ofNat a2_1)]]) (tree_law03_TurnLong a0_0 a1_0 a1_1 a2_0 a2_1) (ob_TurnLong a0_0 a1_0 a1_1 a2_0 a2_1 b0_0 b1_0 b1_1 b2_0 b2_1) (law_TurnLong a0_0 a1_0 a1_1 a2_0 a2_1 b0_0 b1_0 b1_1 b2_0 b2_1) rfl (VRels.cons (rel_int _ _) (VRels.cons (rel_agg e1_0 (VRels.cons (rel_int _ _) (VRels.cons (rel_int _ _) VRels.nil))) (VRels.cons (rel_agg e2_0 (VRels.cons (rel_int _ _) (VRels.cons (rel_int _ _) VRels.nil))) VRels.nil))) w

set_option maxRecDepth 100000 in
theorem lifted (os : Os) (started : os.Started) (H : Type) (enc : TypeId × Value → H) :
    ReturnsInHanded {} Try.checked os 5 .any (Rows.turnLongSpec.pre6 enc Try.prog Try.f5 Rows.turnLongRow.domain false) (Rows.turnLongSpec.post enc Try.prog Try.f5 false true false false) := by
  refine returnsInHanded_of_change (C := Try.checked) own started (by kernel_rfl) Try.func5
    (ChangeSpec.witness6 (enc := enc) (C := Try.checked) false ⟨#[], #[.int .u64 0, .agg #[.int .u64 0, .int .u64 0], .agg #[.int .u64 0, .int .u64 0]], []⟩ 8 (by kernel_rfl) (by kernel_rfl) (by kernel_rfl) (by kernel_rfl)) ?_
  intro W base args ds gs before hval0 hW hcnd _
  have hval : ∀ (j : Nat) t v, Try.f5.params[j]? = some t → args[j]? = some v → Value.okWide Try.prog W .any base t v := hval0
  have hW' := hW
  obtain ⟨p, q, hA0, hV, rfl, hfz, hnd⟩ := hW
  have hA : DataW.TrodAll enc Try.prog W 0 (fun _ => true) true Try.f5.params.toList args.toList ds p := hA0
  rw [Try.params5] at hA hval
  obtain ⟨v0, vs0, d0, ds0, p0, q0, hargs, rfl, rfl, h0, r0⟩ := trodAll_cons hA
  obtain ⟨v1, vs1, d1, ds1, p1, q1, rfl, rfl, rfl, h1, r1⟩ := trodAll_cons r0
  obtain ⟨v2, vs2, d2, ds2, p2, q2, rfl, rfl, rfl, h2, r2⟩ := trodAll_cons r1
  obtain ⟨rfl, rfl, rfl⟩ := trodAll_nil r2
  obtain rfl : args = #[v0, v1, v2] := by cases args; simp_all
  obtain ⟨rfl, rfl⟩ := trodVars_none hV
  have lt0 : ∀ x ∈ p0, x.block < W.heap.size := by obtain ⟨m, hm⟩ := h0; exact DataW.trod_lt m _ _ _ hm
  have lt1 : ∀ x ∈ p1, x.block < W.heap.size := by obtain ⟨m, hm⟩ := h1; exact DataW.trod_lt m _ _ _ hm
  have lt2 : ∀ x ∈ p2, x.block < W.heap.size := by obtain ⟨m, hm⟩ := h2; exact DataW.trod_lt m _ _ _ hm
  clear hA0 hval0
  refine (walk v0 v1 v2 W base (hval 0 22 v0 rfl rfl) (hval 1 24 v1 rfl rfl) (hval 2 24 v2 rfl rfl)).mono fun e W' ⟨he, bel⟩ => ?_
  subst he
  exact ⟨_, rfl, _, _, _, [], _, [], hW', trodAll_mk1 (shut_bool Try.underlying4 _), (trodAll_cons_mk (Below.trod laidOut (by kernel_rfl) (of_decide_eq_true (by kernel_rfl)) h0 bel lt0) (trodAll_cons_mk (Below.trod laidOut (by kernel_rfl) (of_decide_eq_true (by kernel_rfl)) h1 bel lt1) (trodAll_cons_mk (Below.trod laidOut (by kernel_rfl) (of_decide_eq_true (by kernel_rfl)) h2 bel lt2) trodAll_mk0))), rfl, bel.frame _, fun h => by cases h⟩

theorem over : Rows.turnLongRow.holds Try.pinned (OpenSpec.ofChange Rows.turnLongSpec) :=
  OpenClaim.holds_of_wide 5 Try.f5 rfl rfl rfl rfl rfl rfl rfl ⟨rfl, rfl, rfl, rfl, rfl⟩ rfl rfl rfl rfl rfl (by kernel_rfl) Try.func5 (by kernel_rfl)
    (of_decide_eq_true (by kernel_rfl)) (by unfold Func.isWrapper; first | (rw [if_pos (by decide +kernel)]; kernel_rfl) | (rw [if_neg (by decide +kernel)]; exact ⟨rfl, rfl⟩))
    (fun os started H enc _ => lifted os started H enc)
end Go.Proofs.Ythaalobnckdjoaa.turnLong
namespace Go.Proofs.Ythaalobnckdjoaa
theorem turnLong_proved : Rows.TurnLongSaid := turnLong.over
end Go.Proofs.Ythaalobnckdjoaa
