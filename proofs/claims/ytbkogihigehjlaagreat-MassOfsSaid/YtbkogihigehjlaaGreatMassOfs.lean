/-
  MassOfs: for every input the Go function returns true, and each argument reads behind the call as it read before. No condition.
-/
import Derived.Test.YtbkogihigehjlaaGreatRows
import Derived.WalkKit
import Derived.ProofKit
import Derived.SizedLaws
import Derived.OpenShut
import Derived.ShutString
import Derived.ChangeOld
import Derived.Below
import Derived.Carry
import Derived.Test.YtbkogihigehjlaaGreatLRow
import Derived.Test.YtbkogihigehjlaaGreatLawMassOfsC
namespace Go.Proofs.YtbkogihigehjlaaGreat.massOfs
open Go.ChangeShapes Go.WideShapes Go.ChangeAt Go.RowKit
open Go.Lst
set_option linter.unusedVariables false

theorem own : ownKnob Tryz.prog.godebug = none := by kernel_rfl
theorem laidOut : laidOutB Tryz.prog = true := by kernel_rfl

set_option maxRecDepth 100000 in
theorem walk (W : World) (cs0 : Array Value) (v1 : Value) (r0 : VRel false (still W) (AV.agg (absKs W ([.i .u8, .f, .sl 16 [.f, .f]] : List Kd) fun j => cs0.toList.getD j undef)) (.agg cs0)) (g0 : GoodAs ([.i .u8, .f, .sl 16 [.f, .f]] : List Kd) (absKs W ([.i .u8, .f, .sl 16 [.f, .f]] : List Kd) fun j => cs0.toList.getD j undef) 0) (r1 : VRel false (still W) ((absK W (.f : Kd) v1)) v1) (g1 : GoodA (.f : Kd) (absK W (.f : Kd) v1)) :
    Calls Tryz.prog 3 #[(.agg cs0), v1] W fun e w' => e = .returned (.bool true) ∧ Below W.heap.size W w' := by
  have e : [AV.agg (absKs W ([.i .u8, .f, .sl 16 [.f, .f]] : List Kd) fun j => cs0.toList.getD j undef), (absK W (.f : Kd) v1)] = [AV.agg [AV.int .u8 ((inO (atL (absKs W ([.i .u8, .f, .sl 16 [.f, .f]] : List Kd) fun j => cs0.toList.getD j undef) 0))), AV.float ((flO (atL (absKs W ([.i .u8, .f, .sl 16 [.f, .f]] : List Kd) fun j => cs0.toList.getD j undef) 1))), AV.view ((lnO (atL (absKs W ([.i .u8, .f, .sl 16 [.f, .f]] : List Kd) fun j => cs0.toList.getD j undef) 2))) 2 (fun (i0 : Nat) => [AV.float ((fun (i0 : Nat) => flO (atL (vwO (atL (absKs W ([.i .u8, .f, .sl 16 [.f, .f]] : List Kd) fun j => cs0.toList.getD j undef) 2) i0) 0)) i0), AV.float ((fun (i0 : Nat) => flO (atL (vwO (atL (absKs W ([.i .u8, .f, .sl 16 [.f, .f]] : List Kd) fun j => cs0.toList.getD j undef) 2) i0) 1)) i0)])], AV.float ((flO (absK W (.f : Kd) v1)))] := by kernel_rfl
  have hr : VRels false (still W) [AV.agg [AV.int .u8 ((inO (atL (absKs W ([.i .u8, .f, .sl 16 [.f, .f]] : List Kd) fun j => cs0.toList.getD j undef) 0))), AV.float ((flO (atL (absKs W ([.i .u8, .f, .sl 16 [.f, .f]] : List Kd) fun j => cs0.toList.getD j undef) 1))), AV.view ((lnO (atL (absKs W ([.i .u8, .f, .sl 16 [.f, .f]] : List Kd) fun j => cs0.toList.getD j undef) 2))) 2 (fun (i0 : Nat) => [AV.float ((fun (i0 : Nat) => flO (atL (vwO (atL (absKs W ([.i .u8, .f, .sl 16 [.f, .f]] : List Kd) fun j => cs0.toList.getD j undef) 2) i0) 0)) i0), AV.float ((fun (i0 : Nat) => flO (atL (vwO (atL (absKs W ([.i .u8, .f, .sl 16 [.f, .f]] : List Kd) fun j => cs0.toList.getD j undef) 2) i0) 1)) i0)])], AV.float ((flO (absK W (.f : Kd) v1)))] [(.agg cs0), v1] := by rw [← e]; exact (VRels.cons r0 (VRels.cons r1 VRels.nil))
  exact law_callsM (N := 96) menv122_ok Tryz.func3 ann_law08_MassOfs (tree_law08_MassOfs (inO (atL (absKs W ([.i .u8, .f, .sl 16 [.f, .f]] : List Kd) fun j => cs0.toList.getD j undef) 0)) (flO (atL (absKs W ([.i .u8, .f, .sl 16 [.f, .f]] : List Kd) fun j => cs0.toList.getD j undef) 1)) (lnO (atL (absKs W ([.i .u8, .f, .sl 16 [.f, .f]] : List Kd) fun j => cs0.toList.getD j undef) 2)) (fun (i0 : Nat) => flO (atL (vwO (atL (absKs W ([.i .u8, .f, .sl 16 [.f, .f]] : List Kd) fun j => cs0.toList.getD j undef) 2) i0) 0)) (fun (i0 : Nat) => flO (atL (vwO (atL (absKs W ([.i .u8, .f, .sl 16 [.f, .f]] : List Kd) fun j => cs0.toList.getD j undef) 2) i0) 1)) (flO (absK W (.f : Kd) v1))) (ob_law_MassOfs (inO (atL (absKs W ([.i .u8, .f, .sl 16 [.f, .f]] : List Kd) fun j => cs0.toList.getD j undef) 0)) (flO (atL (absKs W ([.i .u8, .f, .sl 16 [.f, .f]] : List Kd) fun j => cs0.toList.getD j undef) 1)) (lnO (atL (absKs W ([.i .u8, .f, .sl 16 [.f, .f]] : List Kd) fun j => cs0.toList.getD j undef) 2)) (fun (i0 : Nat) => flO (atL (vwO (atL (absKs W ([.i .u8, .f, .sl 16 [.f, .f]] : List Kd) fun j => cs0.toList.getD j undef) 2) i0) 0)) (fun (i0 : Nat) => flO (atL (vwO (atL (absKs W ([.i .u8, .f, .sl 16 [.f, .f]] : List Kd) fun j => cs0.toList.getD j undef) 2) i0) 1)) (flO (absK W (.f : Kd) v1)) g0 g1) (law_MassOfs (inO (atL (absKs W ([.i .u8, .f, .sl 16 [.f, .f]] : List Kd) fun j => cs0.toList.getD j undef) 0)) (flO (atL (absKs W ([.i .u8, .f, .sl 16 [.f, .f]] : List Kd) fun j => cs0.toList.getD j undef) 1)) (lnO (atL (absKs W ([.i .u8, .f, .sl 16 [.f, .f]] : List Kd) fun j => cs0.toList.getD j undef) 2)) (fun (i0 : Nat) => flO (atL (vwO (atL (absKs W ([.i .u8, .f, .sl 16 [.f, .f]] : List Kd) fun j => cs0.toList.getD j undef) 2) i0) 0)) (fun (i0 : Nat) => flO (atL (vwO (atL (absKs W ([.i .u8, .f, .sl 16 [.f, .f]] : List Kd) fun j => cs0.toList.getD j undef) 2) i0) 1)) (flO (absK W (.f : Kd) v1)) g0 g1) W hr

set_option maxRecDepth 100000 in
theorem lifted (os : Os) (started : os.Started) (H : Type) (enc : TypeId × Value → H) :
    ReturnsInHanded {} Tryz.checked os 3 .any (Rows.massOfsSpec.pre6 enc Tryz.prog Tryz.f3 Rows.massOfsRow.domain false) (Rows.massOfsSpec.post enc Tryz.prog Tryz.f3 false true false false) := by
  refine returnsInHanded_of_change_sized (C := Tryz.checked) own started (by kernel_rfl) Tryz.func3
    (ChangeSpec.witness6 (enc := enc) (C := Tryz.checked) false ⟨#[], #[.agg #[.int .u8 0, .float .f64 0, .slice none 0 0], .float .f64 0], []⟩ 8 (by kernel_rfl) (by kernel_rfl) (by kernel_rfl) (by kernel_rfl)) ?_
  intro W base args ds gs before hval0 hW _ hsz0 _
  have hsz : (DataW.weightsEach Tryz.prog (Tryz.f3.params.toList ++ Rows.massOfsSpec.plain.varTypes Tryz.prog) (ds ++ gs)).all (· ≤ reachBytes) = true := hsz0
  have hval : ∀ (j : Nat) t v, Tryz.f3.params[j]? = some t → args[j]? = some v → Value.okWide Tryz.prog W .any base t v := hval0
  have hW' := hW
  obtain ⟨p, q, hA0, hV, rfl, hfz, hnd⟩ := hW
  have hA : DataW.TrodAll enc Tryz.prog W 0 (fun _ => true) true Tryz.f3.params.toList args.toList ds p := hA0
  rw [Tryz.params3] at hA hval hsz
  obtain ⟨v0, vs0, d0, ds0, p0, q0, hargs, rfl, rfl, h0, r0⟩ := trodAll_cons hA
  obtain ⟨v1, vs1, d1, ds1, p1, q1, rfl, rfl, rfl, h1, r1⟩ := trodAll_cons r0
  obtain ⟨rfl, rfl, rfl⟩ := trodAll_nil r1
  obtain rfl : args = #[v0, v1] := by cases args; simp_all
  obtain ⟨rfl, rfl⟩ := trodVars_none hV
  have lt0 : ∀ x ∈ p0, x.block < W.heap.size := by obtain ⟨m, hm⟩ := h0; exact DataW.trod_lt m _ _ _ hm
  have f0 : Fits Tryz.prog 25 d0 := fits_of hsz (j := 0) rfl rfl
  have lt1 : ∀ x ∈ p1, x.block < W.heap.size := by obtain ⟨m, hm⟩ := h1; exact DataW.trod_lt m _ _ _ hm
  have f1 : Fits Tryz.prog 22 d1 := fits_of hsz (j := 1) rfl rfl
  obtain ⟨cs0, rfl⟩ := val_agg Tryz.underlying25 (hval 0 25 v0 rfl rfl)
  have o1 := val_one Tryz.underlying22 rfl (hval 1 22 v1 rfl rfl)
  obtain ⟨a0, b0⟩ := arg_agg (ks := [.i .u8, .f, .sl 16 [.f, .f]]) (by kernel_rfl) h0 f0
  obtain ⟨a1, b1⟩ := arg_one (k := .f) (by kernel_rfl) o1 h1 f1
  clear hA0 hval0
  refine (walk W cs0 v1 a0 b0 a1 b1).mono fun e W' ⟨he, bel⟩ => ?_
  subst he
  exact ⟨_, rfl, _, _, _, [], _, [], hW', trodAll_mk1 (shut_bool Tryz.underlying4 _), (trodAll_cons_mk (Below.trod laidOut (by kernel_rfl) (of_decide_eq_true (by kernel_rfl)) h0 bel lt0) (trodAll_cons_mk (Below.trod laidOut (by kernel_rfl) (of_decide_eq_true (by kernel_rfl)) h1 bel lt1) trodAll_mk0)), rfl, bel.frame _, fun h => by cases h⟩

theorem over : Rows.massOfsRow.holds Tryz.pinned (OpenSpec.ofChange Rows.massOfsSpec) :=
  OpenClaim.holds_of_wide 3 Tryz.f3 rfl rfl rfl rfl rfl rfl rfl ⟨rfl, rfl, rfl, rfl, rfl⟩ rfl rfl rfl rfl rfl (by kernel_rfl) Tryz.func3 (by kernel_rfl)
    (of_decide_eq_true (by kernel_rfl)) (by unfold Func.isWrapper; first | (rw [if_pos (by decide +kernel)]; kernel_rfl) | (rw [if_neg (by decide +kernel)]; exact ⟨rfl, rfl⟩))
    (fun os started H enc _ => lifted os started H enc)
end Go.Proofs.YtbkogihigehjlaaGreat.massOfs
namespace Go.Proofs.YtbkogihigehjlaaGreat
theorem massOfs_proved : Rows.MassOfsSaid := massOfs.over
end Go.Proofs.YtbkogihigehjlaaGreat
