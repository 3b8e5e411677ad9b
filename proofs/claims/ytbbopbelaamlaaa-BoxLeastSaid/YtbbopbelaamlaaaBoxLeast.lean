/-
  BoxLeast: for every input the Go function returns true, and each argument reads behind the call as it read before. No condition.
-/
import Derived.Test.YtbbopbelaamlaaaRows
import Derived.WalkKit
import Derived.ProofKit
import Derived.SizedLaws
import Derived.OpenShut
import Derived.ShutString
import Derived.ChangeOld
import Derived.Below
import Derived.Carry
import Derived.Test.YtbbopbelaamlaaaLRow
import Derived.Test.YtbbopbelaamlaaaLawBoxLeast
namespace Go.Proofs.Ytbbopbelaamlaaa.boxLeast
open Go.ChangeShapes Go.WideShapes Go.ChangeAt Go.RowKit
open Go.Lst
set_option linter.unusedVariables false

theorem own : ownKnob Try.prog.godebug = none := by kernel_rfl
theorem laidOut : laidOutB Try.prog = true := by kernel_rfl

set_option maxRecDepth 100000 in
theorem walk (W : World) (v0 : Value) (v1 : Value) (r0 : VRel false (still W) ((absK W (.sl 16 [.f, .f] : Kd) v0)) v0) (g0 : GoodA (.sl 16 [.f, .f] : Kd) (absK W (.sl 16 [.f, .f] : Kd) v0)) (r1 : VRel false (still W) ((absK W (.i .i64 : Kd) v1)) v1) (g1 : GoodA (.i .i64 : Kd) (absK W (.i .i64 : Kd) v1)) :
    Calls Try.prog 7 #[v0, v1] W fun e w' => e = .returned (.bool true) ∧ Below W.heap.size W w' := by
  have e : [(absK W (.sl 16 [.f, .f] : Kd) v0), (absK W (.i .i64 : Kd) v1)] = [AV.view ((lnO (absK W (.sl 16 [.f, .f] : Kd) v0))) 2 (fun (i0 : Nat) => [AV.float ((fun (i0 : Nat) => flO (atL (vwO (absK W (.sl 16 [.f, .f] : Kd) v0) i0) 0)) i0), AV.float ((fun (i0 : Nat) => flO (atL (vwO (absK W (.sl 16 [.f, .f] : Kd) v0) i0) 1)) i0)]), AV.int .i64 ((inO (absK W (.i .i64 : Kd) v1)))] := by kernel_rfl
  have hr : VRels false (still W) [AV.view ((lnO (absK W (.sl 16 [.f, .f] : Kd) v0))) 2 (fun (i0 : Nat) => [AV.float ((fun (i0 : Nat) => flO (atL (vwO (absK W (.sl 16 [.f, .f] : Kd) v0) i0) 0)) i0), AV.float ((fun (i0 : Nat) => flO (atL (vwO (absK W (.sl 16 [.f, .f] : Kd) v0) i0) 1)) i0)]), AV.int .i64 ((inO (absK W (.i .i64 : Kd) v1)))] [v0, v1] := by rw [← e]; exact (VRels.cons r0 (VRels.cons r1 VRels.nil))
  exact law_callsM (N := 96) menv42_ok Try.func7 ann_law05_BoxLeast (tree_law05_BoxLeast (lnO (absK W (.sl 16 [.f, .f] : Kd) v0)) (fun (i0 : Nat) => flO (atL (vwO (absK W (.sl 16 [.f, .f] : Kd) v0) i0) 0)) (fun (i0 : Nat) => flO (atL (vwO (absK W (.sl 16 [.f, .f] : Kd) v0) i0) 1)) (inO (absK W (.i .i64 : Kd) v1))) (ob_law_BoxLeast (lnO (absK W (.sl 16 [.f, .f] : Kd) v0)) (fun (i0 : Nat) => flO (atL (vwO (absK W (.sl 16 [.f, .f] : Kd) v0) i0) 0)) (fun (i0 : Nat) => flO (atL (vwO (absK W (.sl 16 [.f, .f] : Kd) v0) i0) 1)) (inO (absK W (.i .i64 : Kd) v1)) g0 g1) (law_BoxLeast (lnO (absK W (.sl 16 [.f, .f] : Kd) v0)) (fun (i0 : Nat) => flO (atL (vwO (absK W (.sl 16 [.f, .f] : Kd) v0) i0) 0)) (fun (i0 : Nat) => flO (atL (vwO (absK W (.sl 16 [.f, .f] : Kd) v0) i0) 1)) (inO (absK W (.i .i64 : Kd) v1)) g0 g1) W hr

set_option maxRecDepth 100000 in
theorem lifted (os : Os) (started : os.Started) (H : Type) (enc : TypeId × Value → H) :
    ReturnsInHanded {} Try.checked os 7 .any (Rows.boxLeastSpec.pre6 enc Try.prog Try.f7 Rows.boxLeastRow.domain false) (Rows.boxLeastSpec.post enc Try.prog Try.f7 false true false false) := by
  refine returnsInHanded_of_change_sized (C := Try.checked) own started (by kernel_rfl) Try.func7
    (ChangeSpec.witness6 (enc := enc) (C := Try.checked) false ⟨#[], #[.slice none 0 0, .int .i64 0], []⟩ 8 (by kernel_rfl) (by kernel_rfl) (by kernel_rfl) (by kernel_rfl)) ?_
  intro W base args ds gs before hval0 hW _ hsz0 _
  have hsz : (DataW.weightsEach Try.prog (Try.f7.params.toList ++ Rows.boxLeastSpec.plain.varTypes Try.prog) (ds ++ gs)).all (· ≤ reachBytes) = true := hsz0
  have hval : ∀ (j : Nat) t v, Try.f7.params[j]? = some t → args[j]? = some v → Value.okWide Try.prog W .any base t v := hval0
  have hW' := hW
  obtain ⟨p, q, hA0, hV, rfl, hfz, hnd⟩ := hW
  have hA : DataW.TrodAll enc Try.prog W 0 (fun _ => true) true Try.f7.params.toList args.toList ds p := hA0
  rw [Try.params7] at hA hval hsz
  obtain ⟨v0, vs0, d0, ds0, p0, q0, hargs, rfl, rfl, h0, r0⟩ := trodAll_cons hA
  obtain ⟨v1, vs1, d1, ds1, p1, q1, rfl, rfl, rfl, h1, r1⟩ := trodAll_cons r0
  obtain ⟨rfl, rfl, rfl⟩ := trodAll_nil r1
  obtain rfl : args = #[v0, v1] := by cases args; simp_all
  obtain ⟨rfl, rfl⟩ := trodVars_none hV
  have lt0 : ∀ x ∈ p0, x.block < W.heap.size := by obtain ⟨m, hm⟩ := h0; exact DataW.trod_lt m _ _ _ hm
  have f0 : Fits Try.prog 44 d0 := fits_of hsz (j := 0) rfl rfl
  have lt1 : ∀ x ∈ p1, x.block < W.heap.size := by obtain ⟨m, hm⟩ := h1; exact DataW.trod_lt m _ _ _ hm
  have f1 : Fits Try.prog 3 d1 := fits_of hsz (j := 1) rfl rfl
  have o0 := val_one Try.underlying44 rfl (hval 0 44 v0 rfl rfl)
  have o1 := val_one Try.underlying3 rfl (hval 1 3 v1 rfl rfl)
  obtain ⟨a0, b0⟩ := arg_one (k := .sl 16 [.f, .f]) (by kernel_rfl) o0 h0 f0
  obtain ⟨a1, b1⟩ := arg_one (k := .i .i64) (by kernel_rfl) o1 h1 f1
  clear hA0 hval0
  refine (walk W v0 v1 a0 b0 a1 b1).mono fun e W' ⟨he, bel⟩ => ?_
  subst he
  exact ⟨_, rfl, _, _, _, [], _, [], hW', trodAll_mk1 (shut_bool Try.underlying4 _), (trodAll_cons_mk (Below.trod laidOut (by kernel_rfl) (of_decide_eq_true (by kernel_rfl)) h0 bel lt0) (trodAll_cons_mk (Below.trod laidOut (by kernel_rfl) (of_decide_eq_true (by kernel_rfl)) h1 bel lt1) trodAll_mk0)), rfl, bel.frame _, fun h => by cases h⟩

theorem over : Rows.boxLeastRow.holds Try.pinned (OpenSpec.ofChange Rows.boxLeastSpec) :=
  OpenClaim.holds_of_wide 7 Try.f7 rfl rfl rfl rfl rfl rfl rfl ⟨rfl, rfl, rfl, rfl, rfl⟩ rfl rfl rfl rfl rfl (by kernel_rfl) Try.func7 (by kernel_rfl)
    (of_decide_eq_true (by kernel_rfl)) (by unfold Func.isWrapper; first | (rw [if_pos (by decide +kernel)]; kernel_rfl) | (rw [if_neg (by decide +kernel)]; exact ⟨rfl, rfl⟩))
    (fun os started H enc _ => lifted os started H enc)
end Go.Proofs.Ytbbopbelaamlaaa.boxLeast
namespace Go.Proofs.Ytbbopbelaamlaaa
theorem boxLeast_proved : Rows.BoxLeastSaid := boxLeast.over
end Go.Proofs.Ytbbopbelaamlaaa
