/-
  MassOnes: for every input the Go function returns true, and each argument reads behind the call as it read before. No condition.
-/
import Derived.Test.YtbkogihigehjlaaRows
import Derived.WalkKit
import Derived.ProofKit
import Derived.SizedLaws
import Derived.OpenShut
import Derived.ShutString
import Derived.ChangeOld
import Derived.Below
import Derived.Carry
import Derived.Test.YtbkogihigehjlaaLRow
import Derived.Test.YtbkogihigehjlaaLawMassOnes
namespace Go.Proofs.Ytbkogihigehjlaa.massOnes
open Go.ChangeShapes Go.WideShapes Go.ChangeAt Go.RowKit
open Go.Lst
set_option linter.unusedVariables false

theorem own : ownKnob Try.prog.godebug = none := by kernel_rfl
theorem laidOut : laidOutB Try.prog = true := by kernel_rfl

set_option maxRecDepth 100000 in
theorem walk (W : World) (cs0 : Array Value) (cs1 : Array Value) (r0 : VRel false (still W) (AV.agg (absKs W ([.f, .f, .f, .f] : List Kd) fun j => cs0.toList.getD j undef)) (.agg cs0)) (g0 : GoodAs ([.f, .f, .f, .f] : List Kd) (absKs W ([.f, .f, .f, .f] : List Kd) fun j => cs0.toList.getD j undef) 0) (r1 : VRel false (still W) (AV.agg (absKs W ([.f, .f] : List Kd) fun j => cs1.toList.getD j undef)) (.agg cs1)) (g1 : GoodAs ([.f, .f] : List Kd) (absKs W ([.f, .f] : List Kd) fun j => cs1.toList.getD j undef) 0) :
    Calls Try.prog 4 #[(.agg cs0), (.agg cs1)] W fun e w' => e = .returned (.bool true) ∧ Below W.heap.size W w' := by
  have e : [AV.agg (absKs W ([.f, .f, .f, .f] : List Kd) fun j => cs0.toList.getD j undef), AV.agg (absKs W ([.f, .f] : List Kd) fun j => cs1.toList.getD j undef)] = [AV.agg [AV.float ((flO (atL (absKs W ([.f, .f, .f, .f] : List Kd) fun j => cs0.toList.getD j undef) 0))), AV.float ((flO (atL (absKs W ([.f, .f, .f, .f] : List Kd) fun j => cs0.toList.getD j undef) 1))), AV.float ((flO (atL (absKs W ([.f, .f, .f, .f] : List Kd) fun j => cs0.toList.getD j undef) 2))), AV.float ((flO (atL (absKs W ([.f, .f, .f, .f] : List Kd) fun j => cs0.toList.getD j undef) 3)))], AV.agg [AV.float ((flO (atL (absKs W ([.f, .f] : List Kd) fun j => cs1.toList.getD j undef) 0))), AV.float ((flO (atL (absKs W ([.f, .f] : List Kd) fun j => cs1.toList.getD j undef) 1)))]] := by kernel_rfl
  have hr : VRels false (still W) [AV.agg [AV.float ((flO (atL (absKs W ([.f, .f, .f, .f] : List Kd) fun j => cs0.toList.getD j undef) 0))), AV.float ((flO (atL (absKs W ([.f, .f, .f, .f] : List Kd) fun j => cs0.toList.getD j undef) 1))), AV.float ((flO (atL (absKs W ([.f, .f, .f, .f] : List Kd) fun j => cs0.toList.getD j undef) 2))), AV.float ((flO (atL (absKs W ([.f, .f, .f, .f] : List Kd) fun j => cs0.toList.getD j undef) 3)))], AV.agg [AV.float ((flO (atL (absKs W ([.f, .f] : List Kd) fun j => cs1.toList.getD j undef) 0))), AV.float ((flO (atL (absKs W ([.f, .f] : List Kd) fun j => cs1.toList.getD j undef) 1)))]] [(.agg cs0), (.agg cs1)] := by rw [← e]; exact (VRels.cons r0 (VRels.cons r1 VRels.nil))
  exact law_callsM (N := 96) menv70_ok Try.func4 ann_law08_MassOnes (tree_law08_MassOnes (flO (atL (absKs W ([.f, .f, .f, .f] : List Kd) fun j => cs0.toList.getD j undef) 0)) (flO (atL (absKs W ([.f, .f, .f, .f] : List Kd) fun j => cs0.toList.getD j undef) 1)) (flO (atL (absKs W ([.f, .f, .f, .f] : List Kd) fun j => cs0.toList.getD j undef) 2)) (flO (atL (absKs W ([.f, .f, .f, .f] : List Kd) fun j => cs0.toList.getD j undef) 3)) (flO (atL (absKs W ([.f, .f] : List Kd) fun j => cs1.toList.getD j undef) 0)) (flO (atL (absKs W ([.f, .f] : List Kd) fun j => cs1.toList.getD j undef) 1))) (by first | rfl | (unfold O_law08_MassOnes; simp)) (law_MassOnes (flO (atL (absKs W ([.f, .f, .f, .f] : List Kd) fun j => cs0.toList.getD j undef) 0)) (flO (atL (absKs W ([.f, .f, .f, .f] : List Kd) fun j => cs0.toList.getD j undef) 1)) (flO (atL (absKs W ([.f, .f, .f, .f] : List Kd) fun j => cs0.toList.getD j undef) 2)) (flO (atL (absKs W ([.f, .f, .f, .f] : List Kd) fun j => cs0.toList.getD j undef) 3)) (flO (atL (absKs W ([.f, .f] : List Kd) fun j => cs1.toList.getD j undef) 0)) (flO (atL (absKs W ([.f, .f] : List Kd) fun j => cs1.toList.getD j undef) 1)) g0 g1) W hr

set_option maxRecDepth 100000 in
theorem lifted (os : Os) (started : os.Started) (H : Type) (enc : TypeId × Value → H) :
    ReturnsInHanded {} Try.checked os 4 .any (Rows.massOnesSpec.pre6 enc Try.prog Try.f4 Rows.massOnesRow.domain false) (Rows.massOnesSpec.post enc Try.prog Try.f4 false true false false) := by
  refine returnsInHanded_of_change_sized (C := Try.checked) own started (by kernel_rfl) Try.func4
    (ChangeSpec.witness6 (enc := enc) (C := Try.checked) false ⟨#[], #[.agg #[.float .f64 0, .float .f64 0, .float .f64 0, .float .f64 0], .agg #[.float .f64 0, .float .f64 0]], []⟩ 8 (by kernel_rfl) (by kernel_rfl) (by kernel_rfl) (by kernel_rfl)) ?_
  intro W base args ds gs before hval0 hW _ hsz0 _
  have hsz : (DataW.weightsEach Try.prog (Try.f4.params.toList ++ Rows.massOnesSpec.plain.varTypes Try.prog) (ds ++ gs)).all (· ≤ reachBytes) = true := hsz0
  have hval : ∀ (j : Nat) t v, Try.f4.params[j]? = some t → args[j]? = some v → Value.okWide Try.prog W .any base t v := hval0
  have hW' := hW
  obtain ⟨p, q, hA0, hV, rfl, hfz, hnd⟩ := hW
  have hA : DataW.TrodAll enc Try.prog W 0 (fun _ => true) true Try.f4.params.toList args.toList ds p := hA0
  rw [Try.params4] at hA hval hsz
  obtain ⟨v0, vs0, d0, ds0, p0, q0, hargs, rfl, rfl, h0, r0⟩ := trodAll_cons hA
  obtain ⟨v1, vs1, d1, ds1, p1, q1, rfl, rfl, rfl, h1, r1⟩ := trodAll_cons r0
  obtain ⟨rfl, rfl, rfl⟩ := trodAll_nil r1
  obtain rfl : args = #[v0, v1] := by cases args; simp_all
  obtain ⟨rfl, rfl⟩ := trodVars_none hV
  have lt0 : ∀ x ∈ p0, x.block < W.heap.size := by obtain ⟨m, hm⟩ := h0; exact DataW.trod_lt m _ _ _ hm
  have f0 : Fits Try.prog 28 d0 := fits_of hsz (j := 0) rfl rfl
  have lt1 : ∀ x ∈ p1, x.block < W.heap.size := by obtain ⟨m, hm⟩ := h1; exact DataW.trod_lt m _ _ _ hm
  have f1 : Fits Try.prog 26 d1 := fits_of hsz (j := 1) rfl rfl
  obtain ⟨cs0, rfl⟩ := val_agg Try.underlying28 (hval 0 28 v0 rfl rfl)
  obtain ⟨cs1, rfl⟩ := val_agg Try.underlying26 (hval 1 26 v1 rfl rfl)
  obtain ⟨a0, b0⟩ := arg_agg (ks := [.f, .f, .f, .f]) (by kernel_rfl) h0 f0
  obtain ⟨a1, b1⟩ := arg_agg (ks := [.f, .f]) (by kernel_rfl) h1 f1
  clear hA0 hval0
  refine (walk W cs0 cs1 a0 b0 a1 b1).mono fun e W' ⟨he, bel⟩ => ?_
  subst he
  exact ⟨_, rfl, _, _, _, [], _, [], hW', trodAll_mk1 (shut_bool Try.underlying4 _), (trodAll_cons_mk (Below.trod laidOut (by kernel_rfl) (of_decide_eq_true (by kernel_rfl)) h0 bel lt0) (trodAll_cons_mk (Below.trod laidOut (by kernel_rfl) (of_decide_eq_true (by kernel_rfl)) h1 bel lt1) trodAll_mk0)), rfl, bel.frame _, fun h => by cases h⟩

theorem over : Rows.massOnesRow.holds Try.pinned (OpenSpec.ofChange Rows.massOnesSpec) :=
  OpenClaim.holds_of_wide 4 Try.f4 rfl rfl rfl rfl rfl rfl rfl ⟨rfl, rfl, rfl, rfl, rfl⟩ rfl rfl rfl rfl rfl (by kernel_rfl) Try.func4 (by kernel_rfl)
    (of_decide_eq_true (by kernel_rfl)) (by unfold Func.isWrapper; first | (rw [if_pos (by decide +kernel)]; kernel_rfl) | (rw [if_neg (by decide +kernel)]; exact ⟨rfl, rfl⟩))
    (fun os started H enc _ => lifted os started H enc)
end Go.Proofs.Ytbkogihigehjlaa.massOnes
namespace Go.Proofs.Ytbkogihigehjlaa
theorem massOnes_proved : Rows.MassOnesSaid := massOnes.over
end Go.Proofs.Ytbkogihigehjlaa
