/-
  MassScaled: for every input the Go function returns true, and each argument reads behind the call as it read before. No condition.
-/
import Derived.Test.YtbkogihigehjlaaRows
import Derived.WalkKit
import Derived.ProofKit
import Derived.SizedLaws
import Derived.OpenShut
import Derived.ShutString
import Derived.ChangeOld
import Derived.Below
import Derived.Carry
import Derived.Test.YtbkogihigehjlaaLRow
import Derived.Test.YtbkogihigehjlaaLawMassScaledC
namespace Go.Proofs.Ytbkogihigehjlaa.massScaled
open Go.ChangeShapes Go.WideShapes Go.ChangeAt Go.RowKit
open Go.Lst
set_option linter.unusedVariables false

theorem own : ownKnob Try.prog.godebug = none := by kernel_rfl
theorem laidOut : laidOutB Try.prog = true := by kernel_rfl

set_option maxRecDepth 100000 in
theorem walk (W : World) (cs0 : Array Value) (v1 : Value) (v2 : Value) (v3 : Value) (r0 : VRel false (still W) (AV.agg (absKs W ([.i .u8, .f, .sl 16 [.f, .f]] : List Kd) fun j => cs0.toList.getD j undef)) (.agg cs0)) (g0 : GoodAs ([.i .u8, .f, .sl 16 [.f, .f]] : List Kd) (absKs W ([.i .u8, .f, .sl 16 [.f, .f]] : List Kd) fun j => cs0.toList.getD j undef) 0) (r1 : VRel false (still W) ((absK W (.f : Kd) v1)) v1) (g1 : GoodA (.f : Kd) (absK W (.f : Kd) v1)) (r2 : VRel false (still W) ((absK W (.i .i64 : Kd) v2)) v2) (g2 : GoodA (.i .i64 : Kd) (absK W (.i .i64 : Kd) v2)) (r3 : VRel false (still W) ((absK W (.i .i64 : Kd) v3)) v3) (g3 : GoodA (.i .i64 : Kd) (absK W (.i .i64 : Kd) v3)) :
    Calls Try.prog 8 #[(.agg cs0), v1, v2, v3] W fun e w' => e = .returned (.bool true) ∧ Below W.heap.size W w' := by
  have e : [AV.agg (absKs W ([.i .u8, .f, .sl 16 [.f, .f]] : List Kd) fun j => cs0.toList.getD j undef), (absK W (.f : Kd) v1), (absK W (.i .i64 : Kd) v2), (absK W (.i .i64 : Kd) v3)] = [AV.agg [AV.int .u8 ((inO (atL (absKs W ([.i .u8, .f, .sl 16 [.f, .f]] : List Kd) fun j => cs0.toList.getD j undef) 0))), AV.float ((flO (atL (absKs W ([.i .u8, .f, .sl 16 [.f, .f]] : List Kd) fun j => cs0.toList.getD j undef) 1))), AV.view ((lnO (atL (absKs W ([.i .u8, .f, .sl 16 [.f, .f]] : List Kd) fun j => cs0.toList.getD j undef) 2))) 2 (fun (i0 : Nat) => [AV.float ((fun (i0 : Nat) => flO (atL (vwO (atL (absKs W ([.i .u8, .f, .sl 16 [.f, .f]] : List Kd) fun j => cs0.toList.getD j undef) 2) i0) 0)) i0), AV.float ((fun (i0 : Nat) => flO (atL (vwO (atL (absKs W ([.i .u8, .f, .sl 16 [.f, .f]] : List Kd) fun j => cs0.toList.getD j undef) 2) i0) 1)) i0)])], AV.float ((flO (absK W (.f : Kd) v1))), AV.int .i64 ((inO (absK W (.i .i64 : Kd) v2))), AV.int .i64 ((inO (absK W (.i .i64 : Kd) v3)))] := by kernel_rfl
  have hr : VRels false (still W) [AV.agg [AV.int .u8 ((inO (atL (absKs W ([.i .u8, .f, .sl 16 [.f, .f]] : List Kd) fun j => cs0.toList.getD j undef) 0))), AV.float ((flO (atL (absKs W ([.i .u8, .f, .sl 16 [.f, .f]] : List Kd) fun j => cs0.toList.getD j undef) 1))), AV.view ((lnO (atL (absKs W ([.i .u8, .f, .sl 16 [.f, .f]] : List Kd) fun j => cs0.toList.getD j undef) 2))) 2 (fun (i0 : Nat) => [AV.float ((fun (i0 : Nat) => flO (atL (vwO (atL (absKs W ([.i .u8, .f, .sl 16 [.f, .f]] : List Kd) fun j => cs0.toList.getD j undef) 2) i0) 0)) i0), AV.float ((fun (i0 : Nat) => flO (atL (vwO (atL (absKs W ([.i .u8, .f, .sl 16 [.f, .f]] : List Kd) fun j => cs0.toList.getD j undef) 2) i0) 1)) i0)])], AV.float ((flO (absK W (.f : Kd) v1))), AV.int .i64 ((inO (absK W (.i .i64 : Kd) v2))), AV.int .i64 ((inO (absK W (.i .i64 : Kd) v3)))] [(.agg cs0), v1, v2, v3] := by rw [← e]; exact (VRels.cons r0 (VRels.cons r1 (VRels.cons r2 (VRels.cons r3 VRels.nil))))
  exact law_callsM (N := 96) menv87_ok Try.func8 ann_law08_MassScaled (tree_law08_MassScaled (inO (atL (absKs W ([.i .u8, .f, .sl 16 [.f, .f]] : List Kd) fun j => cs0.toList.getD j undef) 0)) (flO (atL (absKs W ([.i .u8, .f, .sl 16 [.f, .f]] : List Kd) fun j => cs0.toList.getD j undef) 1)) (lnO (atL (absKs W ([.i .u8, .f, .sl 16 [.f, .f]] : List Kd) fun j => cs0.toList.getD j undef) 2)) (fun (i0 : Nat) => flO (atL (vwO (atL (absKs W ([.i .u8, .f, .sl 16 [.f, .f]] : List Kd) fun j => cs0.toList.getD j undef) 2) i0) 0)) (fun (i0 : Nat) => flO (atL (vwO (atL (absKs W ([.i .u8, .f, .sl 16 [.f, .f]] : List Kd) fun j => cs0.toList.getD j undef) 2) i0) 1)) (flO (absK W (.f : Kd) v1)) (inO (absK W (.i .i64 : Kd) v2)) (inO (absK W (.i .i64 : Kd) v3))) (ob_law_MassScaled (inO (atL (absKs W ([.i .u8, .f, .sl 16 [.f, .f]] : List Kd) fun j => cs0.toList.getD j undef) 0)) (flO (atL (absKs W ([.i .u8, .f, .sl 16 [.f, .f]] : List Kd) fun j => cs0.toList.getD j undef) 1)) (lnO (atL (absKs W ([.i .u8, .f, .sl 16 [.f, .f]] : List Kd) fun j => cs0.toList.getD j undef) 2)) (fun (i0 : Nat) => flO (atL (vwO (atL (absKs W ([.i .u8, .f, .sl 16 [.f, .f]] : List Kd) fun j => cs0.toList.getD j undef) 2) i0) 0)) (fun (i0 : Nat) => flO (atL (vwO (atL (absKs W ([.i .u8, .f, .sl 16 [.f, .f]] : List Kd) fun j => cs0.toList.getD j undef) 2) i0) 1)) (flO (absK W (.f : Kd) v1)) (inO (absK W (.i .i64 : Kd) v2)) (inO (absK W (.i .i64 : Kd) v3)) g0 g1 g2 g3) (law_MassScaled (inO (atL (absKs W ([.i .u8, .f, .sl 16 [.f, .f]] : List Kd) fun j => cs0.toList.getD j undef) 0)) (flO (atL (absKs W ([.i .u8, .f, .sl 16 [.f, .f]] : List Kd) fun j => cs0.toList.getD j undef) 1)) (lnO (atL (absKs W ([.i .u8, .f, .sl 16 [.f, .f]] : List Kd) fun j => cs0.toList.getD j undef) 2)) (fun (i0 : Nat) => flO (atL (vwO (atL (absKs W ([.i .u8, .f, .sl 16 [.f, .f]] : List Kd) fun j => cs0.toList.getD j undef) 2) i0) 0)) (fun (i0 : Nat) => flO (atL (vwO (atL (absKs W ([.i .u8, .f, .sl 16 [.f, .f]] : List Kd) fun j => cs0.toList.getD j undef) 2) i0) 1)) (flO (absK W (.f : Kd) v1)) (inO (absK W (.i .i64 : Kd) v2)) (inO (absK W (.i .i64 : Kd) v3)) g0 g1 g2 g3) W hr

set_option maxRecDepth 100000 in
theorem lifted (os : Os) (started : os.Started) (H : Type) (enc : TypeId × Value → H) :
    ReturnsInHanded {} Try.checked os 8 .any (Rows.massScaledSpec.pre6 enc Try.prog Try.f8 Rows.massScaledRow.domain false) (Rows.massScaledSpec.post enc Try.prog Try.f8 false true false false) := by
  refine returnsInHanded_of_change_sized (C := Try.checked) own started (by kernel_rfl) Try.func8
    (ChangeSpec.witness6 (enc := enc) (C := Try.checked) false ⟨#[], #[.agg #[.int .u8 0, .float .f64 0, .slice none 0 0], .float .f64 0, .int .i64 0, .int .i64 0], []⟩ 8 (by kernel_rfl) (by kernel_rfl) (by kernel_rfl) (by kernel_rfl)) ?_
  intro W base args ds gs before hval0 hW _ hsz0 _
  have hsz : (DataW.weightsEach Try.prog (Try.f8.params.toList ++ Rows.massScaledSpec.plain.varTypes Try.prog) (ds ++ gs)).all (· ≤ reachBytes) = true := hsz0
  have hval : ∀ (j : Nat) t v, Try.f8.params[j]? = some t → args[j]? = some v → Value.okWide Try.prog W .any base t v := hval0
  have hW' := hW
  obtain ⟨p, q, hA0, hV, rfl, hfz, hnd⟩ := hW
  have hA : DataW.TrodAll enc Try.prog W 0 (fun _ => true) true Try.f8.params.toList args.toList ds p := hA0
  rw [Try.params8] at hA hval hsz
  obtain ⟨v0, vs0, d0, ds0, p0, q0, hargs, rfl, rfl, h0, r0⟩ := trodAll_cons hA
  obtain ⟨v1, vs1, d1, ds1, p1, q1, rfl, rfl, rfl, h1, r1⟩ := trodAll_cons r0
  obtain ⟨v2, vs2, d2, ds2, p2, q2, rfl, rfl, rfl, h2, r2⟩ := trodAll_cons r1
  obtain ⟨v3, vs3, d3, ds3, p3, q3, rfl, rfl, rfl, h3, r3⟩ := trodAll_cons r2
  obtain ⟨rfl, rfl, rfl⟩ := trodAll_nil r3
  obtain rfl : args = #[v0, v1, v2, v3] := by cases args; simp_all
  obtain ⟨rfl, rfl⟩ := trodVars_none hV
  have lt0 : ∀ x ∈ p0, x.block < W.heap.size := by obtain ⟨m, hm⟩ := h0; exact DataW.trod_lt m _ _ _ hm
  have f0 : Fits Try.prog 47 d0 := fits_of hsz (j := 0) rfl rfl
  have lt1 : ∀ x ∈ p1, x.block < W.heap.size := by obtain ⟨m, hm⟩ := h1; exact DataW.trod_lt m _ _ _ hm
  have f1 : Fits Try.prog 24 d1 := fits_of hsz (j := 1) rfl rfl
  have lt2 : ∀ x ∈ p2, x.block < W.heap.size := by obtain ⟨m, hm⟩ := h2; exact DataW.trod_lt m _ _ _ hm
  have f2 : Fits Try.prog 3 d2 := fits_of hsz (j := 2) rfl rfl
  have lt3 : ∀ x ∈ p3, x.block < W.heap.size := by obtain ⟨m, hm⟩ := h3; exact DataW.trod_lt m _ _ _ hm
  have f3 : Fits Try.prog 3 d3 := fits_of hsz (j := 3) rfl rfl
  obtain ⟨cs0, rfl⟩ := val_agg Try.underlying47 (hval 0 47 v0 rfl rfl)
  have o1 := val_one Try.underlying24 rfl (hval 1 24 v1 rfl rfl)
  have o2 := val_one Try.underlying3 rfl (hval 2 3 v2 rfl rfl)
  have o3 := val_one Try.underlying3 rfl (hval 3 3 v3 rfl rfl)
  obtain ⟨a0, b0⟩ := arg_agg (ks := [.i .u8, .f, .sl 16 [.f, .f]]) (by kernel_rfl) h0 f0
  obtain ⟨a1, b1⟩ := arg_one (k := .f) (by kernel_rfl) o1 h1 f1
  obtain ⟨a2, b2⟩ := arg_one (k := .i .i64) (by kernel_rfl) o2 h2 f2
  obtain ⟨a3, b3⟩ := arg_one (k := .i .i64) (by kernel_rfl) o3 h3 f3
  clear hA0 hval0
  refine (walk W cs0 v1 v2 v3 a0 b0 a1 b1 a2 b2 a3 b3).mono fun e W' ⟨he, bel⟩ => ?_
  subst he
  exact ⟨_, rfl, _, _, _, [], _, [], hW', trodAll_mk1 (shut_bool Try.underlying4 _), (trodAll_cons_mk (Below.trod laidOut (by kernel_rfl) (of_decide_eq_true (by kernel_rfl)) h0 bel lt0) (trodAll_cons_mk (Below.trod laidOut (by kernel_rfl) (of_decide_eq_true (by kernel_rfl)) h1 bel lt1) (trodAll_cons_mk (Below.trod laidOut (by kernel_rfl) (of_decide_eq_true (by kernel_rfl)) h2 bel lt2) (trodAll_cons_mk (Below.trod laidOut (by kernel_rfl) (of_decide_eq_true (by kernel_rfl)) h3 bel lt3) trodAll_mk0)))), rfl, bel.frame _, fun h => by cases h⟩

theorem over : Rows.massScaledRow.holds Try.pinned (OpenSpec.ofChange Rows.massScaledSpec) :=
  OpenClaim.holds_of_wide 8 Try.f8 rfl rfl rfl rfl rfl rfl rfl ⟨rfl, rfl, rfl, rfl, rfl⟩ rfl rfl rfl rfl rfl (by kernel_rfl) Try.func8 (by kernel_rfl)
    (of_decide_eq_true (by kernel_rfl)) (by unfold Func.isWrapper; first | (rw [if_pos (by decide +kernel)]; kernel_rfl) | (rw [if_neg (by decide +kernel)]; exact ⟨rfl, rfl⟩))
    (fun os started H enc _ => lifted os started H enc)
end Go.Proofs.Ytbkogihigehjlaa.massScaled
namespace Go.Proofs.Ytbkogihigehjlaa
theorem massScaled_proved : Rows.MassScaledSaid := massScaled.over
end Go.Proofs.Ytbkogihigehjlaa
