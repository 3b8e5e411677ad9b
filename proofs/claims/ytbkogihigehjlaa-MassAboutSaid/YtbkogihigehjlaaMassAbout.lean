/-
  MassAbout: for every input the Go function returns true, and each argument reads behind the call as it read before. No condition.
-/
import Derived.Test.YtbkogihigehjlaaRows
import Derived.WalkKit
import Derived.ProofKit
import Derived.SizedLaws
import Derived.OpenShut
import Derived.ShutString
import Derived.ChangeOld
import Derived.Below
import Derived.Carry
import Derived.Test.YtbkogihigehjlaaLRow
import Derived.Test.YtbkogihigehjlaaLawMassAbout
namespace Go.Proofs.Ytbkogihigehjlaa.massAbout
open Go.ChangeShapes Go.WideShapes Go.ChangeAt Go.RowKit
open Go.Lst
set_option linter.unusedVariables false

theorem own : ownKnob Try.prog.godebug = none := by kernel_rfl
theorem laidOut : laidOutB Try.prog = true := by kernel_rfl

set_option maxRecDepth 100000 in
theorem walk (W : World) (v0 : Value) (cs1 : Array Value) (r0 : VRel false (still W) ((absK W (.sl 32 [.f, .f, .f, .f] : Kd) v0)) v0) (g0 : GoodA (.sl 32 [.f, .f, .f, .f] : Kd) (absK W (.sl 32 [.f, .f, .f, .f] : Kd) v0)) (r1 : VRel false (still W) (AV.agg (absKs W ([.f, .f] : List Kd) fun j => cs1.toList.getD j undef)) (.agg cs1)) (g1 : GoodAs ([.f, .f] : List Kd) (absKs W ([.f, .f] : List Kd) fun j => cs1.toList.getD j undef) 0) :
    Calls Try.prog 6 #[v0, (.agg cs1)] W fun e w' => e = .returned (.bool true) ∧ Below W.heap.size W w' := by
  have e : [(absK W (.sl 32 [.f, .f, .f, .f] : Kd) v0), AV.agg (absKs W ([.f, .f] : List Kd) fun j => cs1.toList.getD j undef)] = [AV.view ((lnO (absK W (.sl 32 [.f, .f, .f, .f] : Kd) v0))) 4 (fun (i0 : Nat) => [AV.float ((fun (i0 : Nat) => flO (atL (vwO (absK W (.sl 32 [.f, .f, .f, .f] : Kd) v0) i0) 0)) i0), AV.float ((fun (i0 : Nat) => flO (atL (vwO (absK W (.sl 32 [.f, .f, .f, .f] : Kd) v0) i0) 1)) i0), AV.float ((fun (i0 : Nat) => flO (atL (vwO (absK W (.sl 32 [.f, .f, .f, .f] : Kd) v0) i0) 2)) i0), AV.float ((fun (i0 : Nat) => flO (atL (vwO (absK W (.sl 32 [.f, .f, .f, .f] : Kd) v0) i0) 3)) i0)]), AV.agg [AV.float ((flO (atL (absKs W ([.f, .f] : List Kd) fun j => cs1.toList.getD j undef) 0))), AV.float ((flO (atL (absKs W ([.f, .f] : List Kd) fun j => cs1.toList.getD j undef) 1)))]] := by kernel_rfl
  have hr : VRels false (still W) [AV.view ((lnO (absK W (.sl 32 [.f, .f, .f, .f] : Kd) v0))) 4 (fun (i0 : Nat) => [AV.float ((fun (i0 : Nat) => flO (atL (vwO (absK W (.sl 32 [.f, .f, .f, .f] : Kd) v0) i0) 0)) i0), AV.float ((fun (i0 : Nat) => flO (atL (vwO (absK W (.sl 32 [.f, .f, .f, .f] : Kd) v0) i0) 1)) i0), AV.float ((fun (i0 : Nat) => flO (atL (vwO (absK W (.sl 32 [.f, .f, .f, .f] : Kd) v0) i0) 2)) i0), AV.float ((fun (i0 : Nat) => flO (atL (vwO (absK W (.sl 32 [.f, .f, .f, .f] : Kd) v0) i0) 3)) i0)]), AV.agg [AV.float ((flO (atL (absKs W ([.f, .f] : List Kd) fun j => cs1.toList.getD j undef) 0))), AV.float ((flO (atL (absKs W ([.f, .f] : List Kd) fun j => cs1.toList.getD j undef) 1)))]] [v0, (.agg cs1)] := by rw [← e]; exact (VRels.cons r0 (VRels.cons r1 VRels.nil))
  exact law_callsM (N := 96) menv72_ok Try.func6 ann_law08_MassAbout (tree_law08_MassAbout (lnO (absK W (.sl 32 [.f, .f, .f, .f] : Kd) v0)) (fun (i0 : Nat) => flO (atL (vwO (absK W (.sl 32 [.f, .f, .f, .f] : Kd) v0) i0) 0)) (fun (i0 : Nat) => flO (atL (vwO (absK W (.sl 32 [.f, .f, .f, .f] : Kd) v0) i0) 1)) (fun (i0 : Nat) => flO (atL (vwO (absK W (.sl 32 [.f, .f, .f, .f] : Kd) v0) i0) 2)) (fun (i0 : Nat) => flO (atL (vwO (absK W (.sl 32 [.f, .f, .f, .f] : Kd) v0) i0) 3)) (flO (atL (absKs W ([.f, .f] : List Kd) fun j => cs1.toList.getD j undef) 0)) (flO (atL (absKs W ([.f, .f] : List Kd) fun j => cs1.toList.getD j undef) 1))) (ob_law_MassAbout (lnO (absK W (.sl 32 [.f, .f, .f, .f] : Kd) v0)) (fun (i0 : Nat) => flO (atL (vwO (absK W (.sl 32 [.f, .f, .f, .f] : Kd) v0) i0) 0)) (fun (i0 : Nat) => flO (atL (vwO (absK W (.sl 32 [.f, .f, .f, .f] : Kd) v0) i0) 1)) (fun (i0 : Nat) => flO (atL (vwO (absK W (.sl 32 [.f, .f, .f, .f] : Kd) v0) i0) 2)) (fun (i0 : Nat) => flO (atL (vwO (absK W (.sl 32 [.f, .f, .f, .f] : Kd) v0) i0) 3)) (flO (atL (absKs W ([.f, .f] : List Kd) fun j => cs1.toList.getD j undef) 0)) (flO (atL (absKs W ([.f, .f] : List Kd) fun j => cs1.toList.getD j undef) 1)) g0 g1) (law_MassAbout (lnO (absK W (.sl 32 [.f, .f, .f, .f] : Kd) v0)) (fun (i0 : Nat) => flO (atL (vwO (absK W (.sl 32 [.f, .f, .f, .f] : Kd) v0) i0) 0)) (fun (i0 : Nat) => flO (atL (vwO (absK W (.sl 32 [.f, .f, .f, .f] : Kd) v0) i0) 1)) (fun (i0 : Nat) => flO (atL (vwO (absK W (.sl 32 [.f, .f, .f, .f] : Kd) v0) i0) 2)) (fun (i0 : Nat) => flO (atL (vwO (absK W (.sl 32 [.f, .f, .f, .f] : Kd) v0) i0) 3)) (flO (atL (absKs W ([.f, .f] : List Kd) fun j => cs1.toList.getD j undef) 0)) (flO (atL (absKs W ([.f, .f] : List Kd) fun j => cs1.toList.getD j undef) 1)) g0 g1) W hr

set_option maxRecDepth 100000 in
theorem lifted (os : Os) (started : os.Started) (H : Type) (enc : TypeId × Value → H) :
    ReturnsInHanded {} Try.checked os 6 .any (Rows.massAboutSpec.pre6 enc Try.prog Try.f6 Rows.massAboutRow.domain false) (Rows.massAboutSpec.post enc Try.prog Try.f6 false true false false) := by
  refine returnsInHanded_of_change_sized (C := Try.checked) own started (by kernel_rfl) Try.func6
    (ChangeSpec.witness6 (enc := enc) (C := Try.checked) false ⟨#[], #[.slice none 0 0, .agg #[.float .f64 0, .float .f64 0]], []⟩ 8 (by kernel_rfl) (by kernel_rfl) (by kernel_rfl) (by kernel_rfl)) ?_
  intro W base args ds gs before hval0 hW _ hsz0 _
  have hsz : (DataW.weightsEach Try.prog (Try.f6.params.toList ++ Rows.massAboutSpec.plain.varTypes Try.prog) (ds ++ gs)).all (· ≤ reachBytes) = true := hsz0
  have hval : ∀ (j : Nat) t v, Try.f6.params[j]? = some t → args[j]? = some v → Value.okWide Try.prog W .any base t v := hval0
  have hW' := hW
  obtain ⟨p, q, hA0, hV, rfl, hfz, hnd⟩ := hW
  have hA : DataW.TrodAll enc Try.prog W 0 (fun _ => true) true Try.f6.params.toList args.toList ds p := hA0
  rw [Try.params6] at hA hval hsz
  obtain ⟨v0, vs0, d0, ds0, p0, q0, hargs, rfl, rfl, h0, r0⟩ := trodAll_cons hA
  obtain ⟨v1, vs1, d1, ds1, p1, q1, rfl, rfl, rfl, h1, r1⟩ := trodAll_cons r0
  obtain ⟨rfl, rfl, rfl⟩ := trodAll_nil r1
  obtain rfl : args = #[v0, v1] := by cases args; simp_all
  obtain ⟨rfl, rfl⟩ := trodVars_none hV
  have lt0 : ∀ x ∈ p0, x.block < W.heap.size := by obtain ⟨m, hm⟩ := h0; exact DataW.trod_lt m _ _ _ hm
  have f0 : Fits Try.prog 22 d0 := fits_of hsz (j := 0) rfl rfl
  have lt1 : ∀ x ∈ p1, x.block < W.heap.size := by obtain ⟨m, hm⟩ := h1; exact DataW.trod_lt m _ _ _ hm
  have f1 : Fits Try.prog 26 d1 := fits_of hsz (j := 1) rfl rfl
  have o0 := val_one Try.underlying22 rfl (hval 0 22 v0 rfl rfl)
  obtain ⟨cs1, rfl⟩ := val_agg Try.underlying26 (hval 1 26 v1 rfl rfl)
  obtain ⟨a0, b0⟩ := arg_one (k := .sl 32 [.f, .f, .f, .f]) (by kernel_rfl) o0 h0 f0
  obtain ⟨a1, b1⟩ := arg_agg (ks := [.f, .f]) (by kernel_rfl) h1 f1
  clear hA0 hval0
  refine (walk W v0 cs1 a0 b0 a1 b1).mono fun e W' ⟨he, bel⟩ => ?_
  subst he
  exact ⟨_, rfl, _, _, _, [], _, [], hW', trodAll_mk1 (shut_bool Try.underlying4 _), (trodAll_cons_mk (Below.trod laidOut (by kernel_rfl) (of_decide_eq_true (by kernel_rfl)) h0 bel lt0) (trodAll_cons_mk (Below.trod laidOut (by kernel_rfl) (of_decide_eq_true (by kernel_rfl)) h1 bel lt1) trodAll_mk0)), rfl, bel.frame _, fun h => by cases h⟩

theorem over : Rows.massAboutRow.holds Try.pinned (OpenSpec.ofChange Rows.massAboutSpec) :=
  OpenClaim.holds_of_wide 6 Try.f6 rfl rfl rfl rfl rfl rfl rfl ⟨rfl, rfl, rfl, rfl, rfl⟩ rfl rfl rfl rfl rfl (by kernel_rfl) Try.func6 (by kernel_rfl)
    (of_decide_eq_true (by kernel_rfl)) (by unfold Func.isWrapper; first | (rw [if_pos (by decide +kernel)]; kernel_rfl) | (rw [if_neg (by decide +kernel)]; exact ⟨rfl, rfl⟩))
    (fun os started H enc _ => lifted os started H enc)
end Go.Proofs.Ytbkogihigehjlaa.massAbout
namespace Go.Proofs.Ytbkogihigehjlaa
theorem massAbout_proved : Rows.MassAboutSaid := massAbout.over
end Go.Proofs.Ytbkogihigehjlaa
