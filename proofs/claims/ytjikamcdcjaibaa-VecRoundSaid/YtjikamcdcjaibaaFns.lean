/- The contracts of the functions that these laws reach, printed by a program of this work: each says what the Go function gives, up to which NaN. -/
import Derived.Test.YtjikamcdcjaibaaProg
import Derived.KernelRfl
import Derived.Test.YtjikamcdcjaibaaSimExact
set_option linter.unusedVariables false
set_option linter.unusedSimpArgs false
namespace Go.Proofs.Ytjikamcdcjaibaa
open Go.Sim
noncomputable def xs : List (FuncId × XF) := [(65, xF false .sqrt), (63, xF false .tobits), (62, xF false .frombits)]
noncomputable def xxs : List (FuncId × XF) := [(65, xF true .sqrt), (63, xF true .tobits), (62, xF true .frombits)]
noncomputable def xenv : Env := mkEnv xxs [] []
theorem xxs_ok : All (XOk Try.prog true) xxs := All.cons (x_ok (f := 65) .sqrt fun args w => run_callFunc_extern Try.func65 (by kernel_rfl) (by kernel_rfl) (by kernel_rfl) (by kernel_rfl) args w)
  (All.cons (x_ok (f := 63) .tobits fun args w => run_callFunc_extern Try.func63 (by kernel_rfl) (by kernel_rfl) (by kernel_rfl) (by kernel_rfl) args w)
  (All.cons (x_ok (f := 62) .frombits fun args w => run_callFunc_extern Try.func62 (by kernel_rfl) (by kernel_rfl) (by kernel_rfl) (by kernel_rfl) args w)
  (All.nil)))
theorem xenv_ok : xenv.Ok Try.prog true := mkEnv_ok xxs_ok All.nil All.nil
theorem xs_ok : All (XOk Try.prog false) xs := All.cons (x_ok (f := 65) .sqrt fun args w => run_callFunc_extern Try.func65 (by kernel_rfl) (by kernel_rfl) (by kernel_rfl) (by kernel_rfl) args w)
  (All.cons (x_ok (f := 63) .tobits fun args w => run_callFunc_extern Try.func63 (by kernel_rfl) (by kernel_rfl) (by kernel_rfl) (by kernel_rfl) args w)
  (All.cons (x_ok (f := 62) .frombits fun args w => run_callFunc_extern Try.func62 (by kernel_rfl) (by kernel_rfl) (by kernel_rfl) (by kernel_rfl) args w)
  (All.nil)))
noncomputable def rs0 : List (FuncId × RF) := []
noncomputable def ws0 : List (FuncId × WF) := []
noncomputable def env0 : Env := mkEnv xs rs0 ws0
theorem rs0_ok : All (ROk Try.prog false) rs0 := All.nil
theorem ws0_ok : All (WOk Try.prog false) ws0 := All.nil
theorem env0_ok : env0.Ok Try.prog false := mkEnv_ok xs_ok rs0_ok ws0_ok
-- tumble/vec.Dot
noncomputable def s_vec_Dot_0 (a0_0 : Nat) (a0_1 : Nat) (a1_0 : Nat) (a1_1 : Nat) : Nat := fadd (fmul a0_0 a1_0) (fmul a0_1 a1_1)
noncomputable def S_vec_Dot : List AV → Option AV
  | [AV.agg [.float a0_0, .float a0_1], AV.agg [.float a1_0, .float a1_1]] => some (AV.float (s_vec_Dot_0 a0_0 a0_1 a1_0 a1_1))
  | _ => none
theorem t_vec_Dot : ROk Try.prog false (12, pureF S_vec_Dot) := ROk.pure (N := 64) env0_ok Try.func12 Try.call12 fun args v h => by
  unfold S_vec_Dot at h
  split at h
  · rename_i a0_0 a0_1 a1_0 a1_1
    cases h
    exact ⟨rfl, rfl, by kernel_rfl⟩
  · cases h
noncomputable def rs1 : List (FuncId × RF) := (12, pureF S_vec_Dot) :: rs0
noncomputable def env1 : Env := mkEnv xs rs1 ws0
theorem rs1_ok : All (ROk Try.prog false) rs1 := All.cons t_vec_Dot rs0_ok
theorem env1_ok : env1.Ok Try.prog false := mkEnv_ok xs_ok rs1_ok ws0_ok
-- tumble/vec.Square
noncomputable def s_vec_Square_0 (a0_0 : Nat) (a0_1 : Nat) : Nat := s_vec_Dot_0 a0_0 a0_1 a0_0 a0_1
noncomputable def S_vec_Square : List AV → Option AV
  | [AV.agg [.float a0_0, .float a0_1]] => some (AV.float (s_vec_Square_0 a0_0 a0_1))
  | _ => none
theorem t_vec_Square : ROk Try.prog false (16, pureF S_vec_Square) := ROk.pure (N := 64) env1_ok Try.func16 Try.call16 fun args v h => by
  unfold S_vec_Square at h
  split at h
  · rename_i a0_0 a0_1
    cases h
    exact ⟨rfl, rfl, by kernel_rfl⟩
  · cases h
noncomputable def rs2 : List (FuncId × RF) := (16, pureF S_vec_Square) :: rs1
noncomputable def env2 : Env := mkEnv xs rs2 ws0
theorem rs2_ok : All (ROk Try.prog false) rs2 := All.cons t_vec_Square rs1_ok
theorem env2_ok : env2.Ok Try.prog false := mkEnv_ok xs_ok rs2_ok ws0_ok
-- math.Sqrt
noncomputable def s_math_Sqrt_0 (a0_0 : Nat) : Nat := fsqrt a0_0
noncomputable def S_math_Sqrt : List AV → Option AV
  | [AV.float a0_0] => some (AV.float (s_math_Sqrt_0 a0_0))
  | _ => none
theorem t_math_Sqrt : ROk Try.prog false (51, pureF S_math_Sqrt) := ROk.pure (N := 64) env2_ok Try.func51 Try.call51 fun args v h => by
  unfold S_math_Sqrt at h
  split at h
  · rename_i a0_0
    cases h
    exact ⟨rfl, rfl, by kernel_rfl⟩
  · cases h
noncomputable def rs3 : List (FuncId × RF) := (51, pureF S_math_Sqrt) :: rs2
noncomputable def env3 : Env := mkEnv xs rs3 ws0
theorem rs3_ok : All (ROk Try.prog false) rs3 := All.cons t_math_Sqrt rs2_ok
theorem env3_ok : env3.Ok Try.prog false := mkEnv_ok xs_ok rs3_ok ws0_ok
-- tumble/vec.Length
noncomputable def s_vec_Length_0 (a0_0 : Nat) (a0_1 : Nat) : Nat := s_math_Sqrt_0 (s_vec_Square_0 a0_0 a0_1)
noncomputable def S_vec_Length : List AV → Option AV
  | [AV.agg [.float a0_0, .float a0_1]] => some (AV.float (s_vec_Length_0 a0_0 a0_1))
  | _ => none
theorem t_vec_Length : ROk Try.prog false (18, pureF S_vec_Length) := ROk.pure (N := 64) env3_ok Try.func18 Try.call18 fun args v h => by
  unfold S_vec_Length at h
  split at h
  · rename_i a0_0 a0_1
    cases h
    exact ⟨rfl, rfl, by kernel_rfl⟩
  · cases h
noncomputable def rs4 : List (FuncId × RF) := (18, pureF S_vec_Length) :: rs3
noncomputable def env4 : Env := mkEnv xs rs4 ws0
theorem rs4_ok : All (ROk Try.prog false) rs4 := All.cons t_vec_Length rs3_ok
theorem env4_ok : env4.Ok Try.prog false := mkEnv_ok xs_ok rs4_ok ws0_ok
-- tumble/num.Finite[float64]
noncomputable def s_num_Finite_float64__0 (a0_0 : Nat) : Bool := feq (fsub a0_0 a0_0) 0
noncomputable def S_num_Finite_float64_ : List AV → Option AV
  | [AV.float a0_0] => some (AV.bool (s_num_Finite_float64__0 a0_0))
  | _ => none
theorem t_num_Finite_float64_ : ROk Try.prog false (54, pureF S_num_Finite_float64_) := ROk.pure (N := 64) env4_ok Try.func54 Try.call54 fun args v h => by
  unfold S_num_Finite_float64_ at h
  split at h
  · rename_i a0_0
    cases h
    exact ⟨rfl, rfl, by kernel_rfl⟩
  · cases h
noncomputable def rs5 : List (FuncId × RF) := (54, pureF S_num_Finite_float64_) :: rs4
noncomputable def env5 : Env := mkEnv xs rs5 ws0
theorem rs5_ok : All (ROk Try.prog false) rs5 := All.cons t_num_Finite_float64_ rs4_ok
theorem env5_ok : env5.Ok Try.prog false := mkEnv_ok xs_ok rs5_ok ws0_ok
-- tumble/vec.Unit
noncomputable def s_vec_Unit_0 (a0_0 : Nat) (a0_1 : Nat) : Nat := bif !!s_num_Finite_float64__0 (s_vec_Length_0 a0_0 a0_1) then bif feq (s_vec_Length_0 a0_0 a0_1) 0 then 0 else fdiv a0_0 (s_vec_Length_0 a0_0 a0_1) else 0
noncomputable def s_vec_Unit_1 (a0_0 : Nat) (a0_1 : Nat) : Nat := bif !!s_num_Finite_float64__0 (s_vec_Length_0 a0_0 a0_1) then bif feq (s_vec_Length_0 a0_0 a0_1) 0 then 0 else fdiv a0_1 (s_vec_Length_0 a0_0 a0_1) else 0
noncomputable def s_vec_Unit_2 (a0_0 : Nat) (a0_1 : Nat) : Bool := !!s_num_Finite_float64__0 (s_vec_Length_0 a0_0 a0_1) && !feq (s_vec_Length_0 a0_0 a0_1) 0
noncomputable def S_vec_Unit : List AV → Option AV
  | [AV.agg [.float a0_0, .float a0_1]] => some (AV.tup [AV.agg [AV.float (s_vec_Unit_0 a0_0 a0_1), AV.float (s_vec_Unit_1 a0_0 a0_1)], AV.bool (s_vec_Unit_2 a0_0 a0_1)])
  | _ => none
theorem t_vec_Unit : ROk Try.prog false (26, pureF S_vec_Unit) := ROk.pure (N := 64) env5_ok Try.func26 Try.call26 fun args v h => by
  unfold S_vec_Unit at h
  split at h
  · rename_i a0_0 a0_1
    cases h
    refine ⟨rfl, rfl, ?_⟩
    rw [show evFn Try.prog false env5 64 Try.f26 [AV.agg [.float a0_0, .float a0_1]] [] endP = bif !!s_num_Finite_float64__0 (s_vec_Length_0 a0_0 a0_1) then bif feq (s_vec_Length_0 a0_0 a0_1) 0 then endP (AV.tup [AV.agg [AV.float 0, AV.float 0], AV.bool false]) [] else endP (AV.tup [AV.agg [AV.float (fdiv a0_0 (s_vec_Length_0 a0_0 a0_1)), AV.float (fdiv a0_1 (s_vec_Length_0 a0_0 a0_1))], AV.bool true]) [] else endP (AV.tup [AV.agg [AV.float 0, AV.float 0], AV.bool false]) [] from by kernel_rfl]
    refine node_eq (fun h0 => ?_) (fun h0 => ?_)
    · skip
      refine node_eq (fun h1 => ?_) (fun h1 => ?_)
      · skip
        first | (simp only [endP, s_vec_Unit_0, s_vec_Unit_1, s_vec_Unit_2, h1, h0]; done) | (simp only [endP, s_vec_Unit_0, s_vec_Unit_1, s_vec_Unit_2, h1, h0]; rfl) | (simp only [endP, s_vec_Unit_0, s_vec_Unit_1, s_vec_Unit_2, h1, h0, cond_true, cond_false, Bool.true_and, Bool.false_and, Bool.and_true, Bool.and_false, Bool.true_or, Bool.false_or, Bool.or_true, Bool.or_false, Bool.not_true, Bool.not_false]; done) | (simp_all; done) | simp_all [feq_self, endP, s_vec_Unit_0, s_vec_Unit_1, s_vec_Unit_2, s_num_Finite_float64__0, s_vec_Length_0]
      · skip
        first | (simp only [endP, s_vec_Unit_0, s_vec_Unit_1, s_vec_Unit_2, h1, h0]; done) | (simp only [endP, s_vec_Unit_0, s_vec_Unit_1, s_vec_Unit_2, h1, h0]; rfl) | (simp only [endP, s_vec_Unit_0, s_vec_Unit_1, s_vec_Unit_2, h1, h0, cond_true, cond_false, Bool.true_and, Bool.false_and, Bool.and_true, Bool.and_false, Bool.true_or, Bool.false_or, Bool.or_true, Bool.or_false, Bool.not_true, Bool.not_false]; done) | (simp_all; done) | simp_all [feq_self, endP, s_vec_Unit_0, s_vec_Unit_1, s_vec_Unit_2, s_num_Finite_float64__0, s_vec_Length_0]
    · skip
      first | (simp only [endP, s_vec_Unit_0, s_vec_Unit_1, s_vec_Unit_2, h0]; done) | (simp only [endP, s_vec_Unit_0, s_vec_Unit_1, s_vec_Unit_2, h0]; rfl) | (simp only [endP, s_vec_Unit_0, s_vec_Unit_1, s_vec_Unit_2, h0, cond_true, cond_false, Bool.true_and, Bool.false_and, Bool.and_true, Bool.and_false, Bool.true_or, Bool.false_or, Bool.or_true, Bool.or_false, Bool.not_true, Bool.not_false]; done) | (simp_all; done) | simp_all [feq_self, endP, s_vec_Unit_0, s_vec_Unit_1, s_vec_Unit_2, s_num_Finite_float64__0, s_vec_Length_0]
  · cases h
noncomputable def rs6 : List (FuncId × RF) := (26, pureF S_vec_Unit) :: rs5
noncomputable def env6 : Env := mkEnv xs rs6 ws0
theorem rs6_ok : All (ROk Try.prog false) rs6 := All.cons t_vec_Unit rs5_ok
theorem env6_ok : env6.Ok Try.prog false := mkEnv_ok xs_ok rs6_ok ws0_ok
-- tumble/vec.Cross
noncomputable def s_vec_Cross_0 (a0_0 : Nat) (a0_1 : Nat) (a1_0 : Nat) (a1_1 : Nat) : Nat := fsub (fmul a0_0 a1_1) (fmul a0_1 a1_0)
noncomputable def S_vec_Cross : List AV → Option AV
  | [AV.agg [.float a0_0, .float a0_1], AV.agg [.float a1_0, .float a1_1]] => some (AV.float (s_vec_Cross_0 a0_0 a0_1 a1_0 a1_1))
  | _ => none
theorem t_vec_Cross : ROk Try.prog false (14, pureF S_vec_Cross) := ROk.pure (N := 64) env6_ok Try.func14 Try.call14 fun args v h => by
  unfold S_vec_Cross at h
  split at h
  · rename_i a0_0 a0_1 a1_0 a1_1
    cases h
    exact ⟨rfl, rfl, by kernel_rfl⟩
  · cases h
noncomputable def rs7 : List (FuncId × RF) := (14, pureF S_vec_Cross) :: rs6
noncomputable def env7 : Env := mkEnv xs rs7 ws0
theorem rs7_ok : All (ROk Try.prog false) rs7 := All.cons t_vec_Cross rs6_ok
theorem env7_ok : env7.Ok Try.prog false := mkEnv_ok xs_ok rs7_ok ws0_ok
-- tumble/vec.Left
noncomputable def s_vec_Left_0 (a0_0 : Nat) (a0_1 : Nat) : Nat := fneg a0_1
noncomputable def s_vec_Left_1 (a0_0 : Nat) (a0_1 : Nat) : Nat := a0_0
noncomputable def S_vec_Left : List AV → Option AV
  | [AV.agg [.float a0_0, .float a0_1]] => some (AV.agg [AV.float (s_vec_Left_0 a0_0 a0_1), AV.float (s_vec_Left_1 a0_0 a0_1)])
  | _ => none
theorem t_vec_Left : ROk Try.prog false (28, pureF S_vec_Left) := ROk.pure (N := 64) env7_ok Try.func28 Try.call28 fun args v h => by
  unfold S_vec_Left at h
  split at h
  · rename_i a0_0 a0_1
    cases h
    exact ⟨rfl, rfl, by kernel_rfl⟩
  · cases h
noncomputable def rs8 : List (FuncId × RF) := (28, pureF S_vec_Left) :: rs7
noncomputable def env8 : Env := mkEnv xs rs8 ws0
theorem rs8_ok : All (ROk Try.prog false) rs8 := All.cons t_vec_Left rs7_ok
theorem env8_ok : env8.Ok Try.prog false := mkEnv_ok xs_ok rs8_ok ws0_ok
-- tumble/vec.Add
noncomputable def s_vec_Add_0 (a0_0 : Nat) (a0_1 : Nat) (a1_0 : Nat) (a1_1 : Nat) : Nat := fadd a0_0 a1_0
noncomputable def s_vec_Add_1 (a0_0 : Nat) (a0_1 : Nat) (a1_0 : Nat) (a1_1 : Nat) : Nat := fadd a0_1 a1_1
noncomputable def S_vec_Add : List AV → Option AV
  | [AV.agg [.float a0_0, .float a0_1], AV.agg [.float a1_0, .float a1_1]] => some (AV.agg [AV.float (s_vec_Add_0 a0_0 a0_1 a1_0 a1_1), AV.float (s_vec_Add_1 a0_0 a0_1 a1_0 a1_1)])
  | _ => none
theorem t_vec_Add : ROk Try.prog false (30, pureF S_vec_Add) := ROk.pure (N := 64) env8_ok Try.func30 Try.call30 fun args v h => by
  unfold S_vec_Add at h
  split at h
  · rename_i a0_0 a0_1 a1_0 a1_1
    cases h
    exact ⟨rfl, rfl, by kernel_rfl⟩
  · cases h
noncomputable def rs9 : List (FuncId × RF) := (30, pureF S_vec_Add) :: rs8
noncomputable def env9 : Env := mkEnv xs rs9 ws0
theorem rs9_ok : All (ROk Try.prog false) rs9 := All.cons t_vec_Add rs8_ok
theorem env9_ok : env9.Ok Try.prog false := mkEnv_ok xs_ok rs9_ok ws0_ok
-- tumble/vec.Scale
noncomputable def s_vec_Scale_0 (a0_0 : Nat) (a0_1 : Nat) (a1_0 : Nat) : Nat := fmul a0_0 a1_0
noncomputable def s_vec_Scale_1 (a0_0 : Nat) (a0_1 : Nat) (a1_0 : Nat) : Nat := fmul a0_1 a1_0
noncomputable def S_vec_Scale : List AV → Option AV
  | [AV.agg [.float a0_0, .float a0_1], AV.float a1_0] => some (AV.agg [AV.float (s_vec_Scale_0 a0_0 a0_1 a1_0), AV.float (s_vec_Scale_1 a0_0 a0_1 a1_0)])
  | _ => none
theorem t_vec_Scale : ROk Try.prog false (34, pureF S_vec_Scale) := ROk.pure (N := 64) env9_ok Try.func34 Try.call34 fun args v h => by
  unfold S_vec_Scale at h
  split at h
  · rename_i a0_0 a0_1 a1_0
    cases h
    exact ⟨rfl, rfl, by kernel_rfl⟩
  · cases h
noncomputable def rs10 : List (FuncId × RF) := (34, pureF S_vec_Scale) :: rs9
noncomputable def env10 : Env := mkEnv xs rs10 ws0
theorem rs10_ok : All (ROk Try.prog false) rs10 := All.cons t_vec_Scale rs9_ok
theorem env10_ok : env10.Ok Try.prog false := mkEnv_ok xs_ok rs10_ok ws0_ok
-- tumble/vec.Middle
noncomputable def s_vec_Middle_0 (a0_0 : Nat) (a0_1 : Nat) (a1_0 : Nat) (a1_1 : Nat) : Nat := s_vec_Scale_0 (s_vec_Add_0 a0_0 a0_1 a1_0 a1_1) (s_vec_Add_1 a0_0 a0_1 a1_0 a1_1) 4602678819172646912
noncomputable def s_vec_Middle_1 (a0_0 : Nat) (a0_1 : Nat) (a1_0 : Nat) (a1_1 : Nat) : Nat := s_vec_Scale_1 (s_vec_Add_0 a0_0 a0_1 a1_0 a1_1) (s_vec_Add_1 a0_0 a0_1 a1_0 a1_1) 4602678819172646912
noncomputable def S_vec_Middle : List AV → Option AV
  | [AV.agg [.float a0_0, .float a0_1], AV.agg [.float a1_0, .float a1_1]] => some (AV.agg [AV.float (s_vec_Middle_0 a0_0 a0_1 a1_0 a1_1), AV.float (s_vec_Middle_1 a0_0 a0_1 a1_0 a1_1)])
  | _ => none
theorem t_vec_Middle : ROk Try.prog false (39, pureF S_vec_Middle) := ROk.pure (N := 64) env10_ok Try.func39 Try.call39 fun args v h => by
  unfold S_vec_Middle at h
  split at h
  · rename_i a0_0 a0_1 a1_0 a1_1
    cases h
    exact ⟨rfl, rfl, by kernel_rfl⟩
  · cases h
noncomputable def rs11 : List (FuncId × RF) := (39, pureF S_vec_Middle) :: rs10
noncomputable def env11 : Env := mkEnv xs rs11 ws0
theorem rs11_ok : All (ROk Try.prog false) rs11 := All.cons t_vec_Middle rs10_ok
theorem env11_ok : env11.Ok Try.prog false := mkEnv_ok xs_ok rs11_ok ws0_ok
-- tumble/num.Within[float64]
noncomputable def s_num_Within_float64__0 (a0_0 : Nat) (a1_0 : Nat) : Bool := fle (fneg a1_0) a0_0 && fle a0_0 a1_0
noncomputable def S_num_Within_float64_ : List AV → Option AV
  | [AV.float a0_0, AV.float a1_0] => some (AV.bool (s_num_Within_float64__0 a0_0 a1_0))
  | _ => none
theorem t_num_Within_float64_ : ROk Try.prog false (56, pureF S_num_Within_float64_) := ROk.pure (N := 64) env11_ok Try.func56 Try.call56 fun args v h => by
  unfold S_num_Within_float64_ at h
  split at h
  · rename_i a0_0 a1_0
    cases h
    refine ⟨rfl, rfl, ?_⟩
    rw [show evFn Try.prog false env11 64 Try.f56 [AV.float a0_0, AV.float a1_0] [] endP = bif fle (fneg a1_0) a0_0 then endP (AV.bool (fle a0_0 a1_0)) [] else endP (AV.bool false) [] from by kernel_rfl]
    refine node_eq (fun h0 => ?_) (fun h0 => ?_)
    · skip
      first | (simp only [endP, s_num_Within_float64__0, h0]; done) | (simp only [endP, s_num_Within_float64__0, h0]; rfl) | (simp only [endP, s_num_Within_float64__0, h0, cond_true, cond_false, Bool.true_and, Bool.false_and, Bool.and_true, Bool.and_false, Bool.true_or, Bool.false_or, Bool.or_true, Bool.or_false, Bool.not_true, Bool.not_false]; done) | (simp_all; done) | simp_all [feq_self, endP, s_num_Within_float64__0]
    · skip
      first | (simp only [endP, s_num_Within_float64__0, h0]; done) | (simp only [endP, s_num_Within_float64__0, h0]; rfl) | (simp only [endP, s_num_Within_float64__0, h0, cond_true, cond_false, Bool.true_and, Bool.false_and, Bool.and_true, Bool.and_false, Bool.true_or, Bool.false_or, Bool.or_true, Bool.or_false, Bool.not_true, Bool.not_false]; done) | (simp_all; done) | simp_all [feq_self, endP, s_num_Within_float64__0]
  · cases h
noncomputable def rs12 : List (FuncId × RF) := (56, pureF S_num_Within_float64_) :: rs11
noncomputable def env12 : Env := mkEnv xs rs12 ws0
theorem rs12_ok : All (ROk Try.prog false) rs12 := All.cons t_num_Within_float64_ rs11_ok
theorem env12_ok : env12.Ok Try.prog false := mkEnv_ok xs_ok rs12_ok ws0_ok
-- tumble/vec.Within
noncomputable def s_vec_Within_0 (a0_0 : Nat) (a0_1 : Nat) (a1_0 : Nat) : Bool := s_num_Within_float64__0 a0_0 a1_0 && s_num_Within_float64__0 a0_1 a1_0
noncomputable def S_vec_Within : List AV → Option AV
  | [AV.agg [.float a0_0, .float a0_1], AV.float a1_0] => some (AV.bool (s_vec_Within_0 a0_0 a0_1 a1_0))
  | _ => none
theorem t_vec_Within : ROk Try.prog false (24, pureF S_vec_Within) := ROk.pure (N := 64) env12_ok Try.func24 Try.call24 fun args v h => by
  unfold S_vec_Within at h
  split at h
  · rename_i a0_0 a0_1 a1_0
    cases h
    refine ⟨rfl, rfl, ?_⟩
    rw [show evFn Try.prog false env12 64 Try.f24 [AV.agg [.float a0_0, .float a0_1], AV.float a1_0] [] endP = bif s_num_Within_float64__0 a0_0 a1_0 then endP (AV.bool (s_num_Within_float64__0 a0_1 a1_0)) [] else endP (AV.bool false) [] from by kernel_rfl]
    refine node_eq (fun h0 => ?_) (fun h0 => ?_)
    · skip
      first | (simp only [endP, s_vec_Within_0, h0]; done) | (simp only [endP, s_vec_Within_0, h0]; rfl) | (simp only [endP, s_vec_Within_0, h0, cond_true, cond_false, Bool.true_and, Bool.false_and, Bool.and_true, Bool.and_false, Bool.true_or, Bool.false_or, Bool.or_true, Bool.or_false, Bool.not_true, Bool.not_false]; done) | (simp_all; done) | simp_all [feq_self, endP, s_vec_Within_0, s_num_Within_float64__0]
    · skip
      first | (simp only [endP, s_vec_Within_0, h0]; done) | (simp only [endP, s_vec_Within_0, h0]; rfl) | (simp only [endP, s_vec_Within_0, h0, cond_true, cond_false, Bool.true_and, Bool.false_and, Bool.and_true, Bool.and_false, Bool.true_or, Bool.false_or, Bool.or_true, Bool.or_false, Bool.not_true, Bool.not_false]; done) | (simp_all; done) | simp_all [feq_self, endP, s_vec_Within_0, s_num_Within_float64__0]
  · cases h
noncomputable def rs13 : List (FuncId × RF) := (24, pureF S_vec_Within) :: rs12
noncomputable def env13 : Env := mkEnv xs rs13 ws0
theorem rs13_ok : All (ROk Try.prog false) rs13 := All.cons t_vec_Within rs12_ok
theorem env13_ok : env13.Ok Try.prog false := mkEnv_ok xs_ok rs13_ok ws0_ok
-- math.Copysign
noncomputable def S_math_Copysign : List AV → Option AV
  | [AV.float a, AV.float c] => cond (nanb c) none (some (AV.float (fcps a c)))
  | _ => none
theorem t_math_Copysign : ROk Try.prog false (49, pureF S_math_Copysign) := exact2f (N := 64) xenv_ok Try.func49 Try.call49 fcps (fun args v h => by
    unfold S_math_Copysign at h
    split at h
    · obtain ⟨hn, h⟩ := cond_some' h rfl; cases h; exact ⟨_, _, rfl, hn, rfl⟩
    · cases h) fun b d hb hd _ => ⟨_, by refine Eq.trans ?_ (cps_tree hb hd); kernel_rfl, cps_cn⟩
noncomputable def rs14 : List (FuncId × RF) := (49, pureF S_math_Copysign) :: rs13
noncomputable def env14 : Env := mkEnv xs rs14 ws0
theorem rs14_ok : All (ROk Try.prog false) rs14 := All.cons t_math_Copysign rs13_ok
theorem env14_ok : env14.Ok Try.prog false := mkEnv_ok xs_ok rs14_ok ws0_ok
-- tumble/num.none[float64]
noncomputable def s_num_none_float64__0 (a0_0 : Nat) : Bool := !feq a0_0 a0_0
noncomputable def S_num_none_float64_ : List AV → Option AV
  | [AV.float a0_0] => some (AV.bool (s_num_none_float64__0 a0_0))
  | _ => none
theorem t_num_none_float64_ : ROk Try.prog false (66, pureF S_num_none_float64_) := ROk.pure (N := 64) env14_ok Try.func66 Try.call66 fun args v h => by
  unfold S_num_none_float64_ at h
  split at h
  · rename_i a0_0
    cases h
    exact ⟨rfl, rfl, by kernel_rfl⟩
  · cases h
noncomputable def rs15 : List (FuncId × RF) := (66, pureF S_num_none_float64_) :: rs14
noncomputable def env15 : Env := mkEnv xs rs15 ws0
theorem rs15_ok : All (ROk Try.prog false) rs15 := All.cons t_num_none_float64_ rs14_ok
theorem env15_ok : env15.Ok Try.prog false := mkEnv_ok xs_ok rs15_ok ws0_ok
-- tumble/num.Bits
noncomputable def s_num_Bits_0 (a0_0 : Nat) : Int := bif s_num_none_float64__0 a0_0 then 9221120237041090560 else (↑a0_0 : Int)
noncomputable def S_num_Bits : List AV → Option AV
  | [AV.float a0_0] => some (AV.int IntKind.u64 (s_num_Bits_0 a0_0))
  | _ => none
theorem t_num_Bits : ROk Try.prog false (52, pureF S_num_Bits) := ROk.pure (N := 64) env15_ok Try.func52 Try.call52 fun args v h => by
  unfold S_num_Bits at h
  split at h
  · rename_i a0_0
    cases h
    refine ⟨rfl, rfl, ?_⟩
    rw [show evFn Try.prog false env15 64 Try.f52 [AV.float a0_0] [] endP = bif s_num_none_float64__0 a0_0 then endP (AV.int IntKind.u64 9221120237041090560) [] else bif !nanb a0_0 then endP (AV.int IntKind.u64 (↑a0_0 : Int)) [] else none from by kernel_rfl]
    refine node_eq (fun h0 => ?_) (fun h0 => ?_)
    · skip
      first | (simp only [endP, s_num_Bits_0, h0]; done) | (simp only [endP, s_num_Bits_0, h0]; rfl) | (simp only [endP, s_num_Bits_0, h0, cond_true, cond_false, Bool.true_and, Bool.false_and, Bool.and_true, Bool.and_false, Bool.true_or, Bool.false_or, Bool.or_true, Bool.or_false, Bool.not_true, Bool.not_false]; done) | (simp_all; done) | simp_all [feq_self, endP, s_num_Bits_0, s_num_none_float64__0]
    · skip
      refine node_eq (fun h1 => ?_) (fun h1 => ?_)
      · skip
        first | (simp only [endP, s_num_Bits_0, h1, h0]; done) | (simp only [endP, s_num_Bits_0, h1, h0]; rfl) | (simp only [endP, s_num_Bits_0, h1, h0, cond_true, cond_false, Bool.true_and, Bool.false_and, Bool.and_true, Bool.and_false, Bool.true_or, Bool.false_or, Bool.or_true, Bool.or_false, Bool.not_true, Bool.not_false]; done) | (simp_all; done) | simp_all [feq_self, endP, s_num_Bits_0, s_num_none_float64__0]
      · skip
        first | (simp_all; done) | simp_all [feq_self, s_num_none_float64__0]
  · cases h
noncomputable def rs16 : List (FuncId × RF) := (52, pureF S_num_Bits) :: rs15
noncomputable def env16 : Env := mkEnv xs rs16 ws0
theorem rs16_ok : All (ROk Try.prog false) rs16 := All.cons t_num_Bits rs15_ok
theorem env16_ok : env16.Ok Try.prog false := mkEnv_ok xs_ok rs16_ok ws0_ok
-- tumble/num.minus[float64]
noncomputable def s_num_minus_float64__0 (a0_0 : Nat) : Bool := flt (fdiv 4607182418800017408 a0_0) 0
noncomputable def S_num_minus_float64_ : List AV → Option AV
  | [AV.float a0_0] => some (AV.bool (s_num_minus_float64__0 a0_0))
  | _ => none
theorem t_num_minus_float64_ : ROk Try.prog false (72, pureF S_num_minus_float64_) := ROk.pure (N := 64) env16_ok Try.func72 Try.call72 fun args v h => by
  unfold S_num_minus_float64_ at h
  split at h
  · rename_i a0_0
    cases h
    exact ⟨rfl, rfl, by kernel_rfl⟩
  · cases h
noncomputable def rs17 : List (FuncId × RF) := (72, pureF S_num_minus_float64_) :: rs16
noncomputable def env17 : Env := mkEnv xs rs17 ws0
theorem rs17_ok : All (ROk Try.prog false) rs17 := All.cons t_num_minus_float64_ rs16_ok
theorem env17_ok : env17.Ok Try.prog false := mkEnv_ok xs_ok rs17_ok ws0_ok
-- tumble/num.Same[float64]
noncomputable def s_num_Same_float64__0 (a0_0 : Nat) (a1_0 : Nat) : Bool := bif feq a0_0 0 then bif feq a1_0 0 then s_num_minus_float64__0 a0_0 == s_num_minus_float64__0 a1_0 else bif !feq a0_0 a1_0 then s_num_none_float64__0 a0_0 && s_num_none_float64__0 a1_0 else true else bif !feq a0_0 a1_0 then s_num_none_float64__0 a0_0 && s_num_none_float64__0 a1_0 else true
noncomputable def S_num_Same_float64_ : List AV → Option AV
  | [AV.float a0_0, AV.float a1_0] => some (AV.bool (s_num_Same_float64__0 a0_0 a1_0))
  | _ => none
theorem t_num_Same_float64_ : ROk Try.prog false (67, pureF S_num_Same_float64_) := ROk.pure (N := 64) env17_ok Try.func67 Try.call67 fun args v h => by
  unfold S_num_Same_float64_ at h
  split at h
  · rename_i a0_0 a1_0
    cases h
    refine ⟨rfl, rfl, ?_⟩
    rw [show evFn Try.prog false env17 64 Try.f67 [AV.float a0_0, AV.float a1_0] [] endP = bif feq a0_0 0 then bif feq a1_0 0 then endP (AV.bool (s_num_minus_float64__0 a0_0 == s_num_minus_float64__0 a1_0)) [] else bif !feq a0_0 a1_0 then bif s_num_none_float64__0 a0_0 then endP (AV.bool (s_num_none_float64__0 a1_0)) [] else endP (AV.bool false) [] else endP (AV.bool true) [] else bif !feq a0_0 a1_0 then bif s_num_none_float64__0 a0_0 then endP (AV.bool (s_num_none_float64__0 a1_0)) [] else endP (AV.bool false) [] else endP (AV.bool true) [] from by kernel_rfl]
    refine node_eq (fun h0 => ?_) (fun h0 => ?_)
    · skip
      refine node_eq (fun h1 => ?_) (fun h1 => ?_)
      · skip
        first | (simp only [endP, s_num_Same_float64__0, h1, h0]; done) | (simp only [endP, s_num_Same_float64__0, h1, h0]; rfl) | (simp only [endP, s_num_Same_float64__0, h1, h0, cond_true, cond_false, Bool.true_and, Bool.false_and, Bool.and_true, Bool.and_false, Bool.true_or, Bool.false_or, Bool.or_true, Bool.or_false, Bool.not_true, Bool.not_false]; done) | (simp_all; done) | simp_all [feq_self, endP, s_num_Same_float64__0, s_num_none_float64__0]
      · skip
        refine node_eq (fun h2 => ?_) (fun h2 => ?_)
        · skip
          refine node_eq (fun h3 => ?_) (fun h3 => ?_)
          · skip
            first | (simp only [endP, s_num_Same_float64__0, h3, h2, h1, h0]; done) | (simp only [endP, s_num_Same_float64__0, h3, h2, h1, h0]; rfl) | (simp only [endP, s_num_Same_float64__0, h3, h2, h1, h0, cond_true, cond_false, Bool.true_and, Bool.false_and, Bool.and_true, Bool.and_false, Bool.true_or, Bool.false_or, Bool.or_true, Bool.or_false, Bool.not_true, Bool.not_false]; done) | (simp_all; done) | simp_all [feq_self, endP, s_num_Same_float64__0, s_num_none_float64__0]
          · skip
            first | (simp only [endP, s_num_Same_float64__0, h3, h2, h1, h0]; done) | (simp only [endP, s_num_Same_float64__0, h3, h2, h1, h0]; rfl) | (simp only [endP, s_num_Same_float64__0, h3, h2, h1, h0, cond_true, cond_false, Bool.true_and, Bool.false_and, Bool.and_true, Bool.and_false, Bool.true_or, Bool.false_or, Bool.or_true, Bool.or_false, Bool.not_true, Bool.not_false]; done) | (simp_all; done) | simp_all [feq_self, endP, s_num_Same_float64__0, s_num_none_float64__0]
        · skip
          first | (simp only [endP, s_num_Same_float64__0, h2, h1, h0]; done) | (simp only [endP, s_num_Same_float64__0, h2, h1, h0]; rfl) | (simp only [endP, s_num_Same_float64__0, h2, h1, h0, cond_true, cond_false, Bool.true_and, Bool.false_and, Bool.and_true, Bool.and_false, Bool.true_or, Bool.false_or, Bool.or_true, Bool.or_false, Bool.not_true, Bool.not_false]; done) | (simp_all; done) | simp_all [feq_self, endP, s_num_Same_float64__0, s_num_none_float64__0]
    · skip
      refine node_eq (fun h1 => ?_) (fun h1 => ?_)
      · skip
        refine node_eq (fun h2 => ?_) (fun h2 => ?_)
        · skip
          first | (simp only [endP, s_num_Same_float64__0, h2, h1, h0]; done) | (simp only [endP, s_num_Same_float64__0, h2, h1, h0]; rfl) | (simp only [endP, s_num_Same_float64__0, h2, h1, h0, cond_true, cond_false, Bool.true_and, Bool.false_and, Bool.and_true, Bool.and_false, Bool.true_or, Bool.false_or, Bool.or_true, Bool.or_false, Bool.not_true, Bool.not_false]; done) | (simp_all; done) | simp_all [feq_self, endP, s_num_Same_float64__0, s_num_none_float64__0]
        · skip
          first | (simp only [endP, s_num_Same_float64__0, h2, h1, h0]; done) | (simp only [endP, s_num_Same_float64__0, h2, h1, h0]; rfl) | (simp only [endP, s_num_Same_float64__0, h2, h1, h0, cond_true, cond_false, Bool.true_and, Bool.false_and, Bool.and_true, Bool.and_false, Bool.true_or, Bool.false_or, Bool.or_true, Bool.or_false, Bool.not_true, Bool.not_false]; done) | (simp_all; done) | simp_all [feq_self, endP, s_num_Same_float64__0, s_num_none_float64__0]
      · skip
        first | (simp only [endP, s_num_Same_float64__0, h1, h0]; done) | (simp only [endP, s_num_Same_float64__0, h1, h0]; rfl) | (simp only [endP, s_num_Same_float64__0, h1, h0, cond_true, cond_false, Bool.true_and, Bool.false_and, Bool.and_true, Bool.and_false, Bool.true_or, Bool.false_or, Bool.or_true, Bool.or_false, Bool.not_true, Bool.not_false]; done) | (simp_all; done) | simp_all [feq_self, endP, s_num_Same_float64__0, s_num_none_float64__0]
  · cases h
noncomputable def rs18 : List (FuncId × RF) := (67, pureF S_num_Same_float64_) :: rs17
noncomputable def env18 : Env := mkEnv xs rs18 ws0
theorem rs18_ok : All (ROk Try.prog false) rs18 := All.cons t_num_Same_float64_ rs17_ok
theorem env18_ok : env18.Ok Try.prog false := mkEnv_ok xs_ok rs18_ok ws0_ok
-- tumble/vec.both
noncomputable def s_vec_both_0 (a0_0 : Nat) (a0_1 : Nat) (a1_0 : Nat) (a1_1 : Nat) : Bool := s_num_Same_float64__0 a0_0 a1_0 && s_num_Same_float64__0 a0_1 a1_1
noncomputable def S_vec_both : List AV → Option AV
  | [AV.agg [.float a0_0, .float a0_1], AV.agg [.float a1_0, .float a1_1]] => some (AV.bool (s_vec_both_0 a0_0 a0_1 a1_0 a1_1))
  | _ => none
theorem t_vec_both : ROk Try.prog false (53, pureF S_vec_both) := ROk.pure (N := 64) env18_ok Try.func53 Try.call53 fun args v h => by
  unfold S_vec_both at h
  split at h
  · rename_i a0_0 a0_1 a1_0 a1_1
    cases h
    refine ⟨rfl, rfl, ?_⟩
    rw [show evFn Try.prog false env18 64 Try.f53 [AV.agg [.float a0_0, .float a0_1], AV.agg [.float a1_0, .float a1_1]] [] endP = bif s_num_Same_float64__0 a0_0 a1_0 then endP (AV.bool (s_num_Same_float64__0 a0_1 a1_1)) [] else endP (AV.bool false) [] from by kernel_rfl]
    refine node_eq (fun h0 => ?_) (fun h0 => ?_)
    · skip
      first | (simp only [endP, s_vec_both_0, h0]; done) | (simp only [endP, s_vec_both_0, h0]; rfl) | (simp only [endP, s_vec_both_0, h0, cond_true, cond_false, Bool.true_and, Bool.false_and, Bool.and_true, Bool.and_false, Bool.true_or, Bool.false_or, Bool.or_true, Bool.or_false, Bool.not_true, Bool.not_false]; done) | (simp_all; done) | simp_all [feq_self, endP, s_vec_both_0, s_num_Same_float64__0]
    · skip
      first | (simp only [endP, s_vec_both_0, h0]; done) | (simp only [endP, s_vec_both_0, h0]; rfl) | (simp only [endP, s_vec_both_0, h0, cond_true, cond_false, Bool.true_and, Bool.false_and, Bool.and_true, Bool.and_false, Bool.true_or, Bool.false_or, Bool.or_true, Bool.or_false, Bool.not_true, Bool.not_false]; done) | (simp_all; done) | simp_all [feq_self, endP, s_vec_both_0, s_num_Same_float64__0]
  · cases h
noncomputable def rs19 : List (FuncId × RF) := (53, pureF S_vec_both) :: rs18
noncomputable def env19 : Env := mkEnv xs rs19 ws0
theorem rs19_ok : All (ROk Try.prog false) rs19 := All.cons t_vec_both rs18_ok
theorem env19_ok : env19.Ok Try.prog false := mkEnv_ok xs_ok rs19_ok ws0_ok
-- tumble/vec.Same
noncomputable def s_vec_Same_0 (a0_0 : Nat) (a0_1 : Nat) (a1_0 : Nat) (a1_1 : Nat) : Bool := bif feq a0_0 a1_0 && (feq a0_1 a1_1 && true) then bif ieq (s_num_Bits_0 a0_0) (s_num_Bits_0 a1_0) then bif !ieq (s_num_Bits_0 a0_1) (s_num_Bits_0 a1_1) then s_vec_both_0 a0_0 a0_1 a1_0 a1_1 else true else s_vec_both_0 a0_0 a0_1 a1_0 a1_1 else s_vec_both_0 a0_0 a0_1 a1_0 a1_1
noncomputable def S_vec_Same : List AV → Option AV
  | [AV.agg [.float a0_0, .float a0_1], AV.agg [.float a1_0, .float a1_1]] => some (AV.bool (s_vec_Same_0 a0_0 a0_1 a1_0 a1_1))
  | _ => none
theorem t_vec_Same : ROk Try.prog false (20, pureF S_vec_Same) := ROk.pure (N := 64) env19_ok Try.func20 Try.call20 fun args v h => by
  unfold S_vec_Same at h
  split at h
  · rename_i a0_0 a0_1 a1_0 a1_1
    cases h
    refine ⟨rfl, rfl, ?_⟩
    rw [show evFn Try.prog false env19 64 Try.f20 [AV.agg [.float a0_0, .float a0_1], AV.agg [.float a1_0, .float a1_1]] [] endP = bif feq a0_0 a1_0 && (feq a0_1 a1_1 && true) then bif ieq (s_num_Bits_0 a0_0) (s_num_Bits_0 a1_0) then bif !ieq (s_num_Bits_0 a0_1) (s_num_Bits_0 a1_1) then endP (AV.bool (s_vec_both_0 a0_0 a0_1 a1_0 a1_1)) [] else endP (AV.bool true) [] else endP (AV.bool (s_vec_both_0 a0_0 a0_1 a1_0 a1_1)) [] else endP (AV.bool (s_vec_both_0 a0_0 a0_1 a1_0 a1_1)) [] from by kernel_rfl]
    refine node_eq (fun h0 => ?_) (fun h0 => ?_)
    · skip
      refine node_eq (fun h1 => ?_) (fun h1 => ?_)
      · skip
        refine node_eq (fun h2 => ?_) (fun h2 => ?_)
        · skip
          first | (simp only [endP, s_vec_Same_0, h2, h1, h0]; done) | (simp only [endP, s_vec_Same_0, h2, h1, h0]; rfl) | (simp only [endP, s_vec_Same_0, h2, h1, h0, cond_true, cond_false, Bool.true_and, Bool.false_and, Bool.and_true, Bool.and_false, Bool.true_or, Bool.false_or, Bool.or_true, Bool.or_false, Bool.not_true, Bool.not_false]; done) | (simp_all; done) | simp_all [feq_self, endP, s_vec_Same_0, s_num_Bits_0]
        · skip
          first | (simp only [endP, s_vec_Same_0, h2, h1, h0]; done) | (simp only [endP, s_vec_Same_0, h2, h1, h0]; rfl) | (simp only [endP, s_vec_Same_0, h2, h1, h0, cond_true, cond_false, Bool.true_and, Bool.false_and, Bool.and_true, Bool.and_false, Bool.true_or, Bool.false_or, Bool.or_true, Bool.or_false, Bool.not_true, Bool.not_false]; done) | (simp_all; done) | simp_all [feq_self, endP, s_vec_Same_0, s_num_Bits_0]
      · skip
        first | (simp only [endP, s_vec_Same_0, h1, h0]; done) | (simp only [endP, s_vec_Same_0, h1, h0]; rfl) | (simp only [endP, s_vec_Same_0, h1, h0, cond_true, cond_false, Bool.true_and, Bool.false_and, Bool.and_true, Bool.and_false, Bool.true_or, Bool.false_or, Bool.or_true, Bool.or_false, Bool.not_true, Bool.not_false]; done) | (simp_all; done) | simp_all [feq_self, endP, s_vec_Same_0, s_num_Bits_0]
    · skip
      first | (simp only [endP, s_vec_Same_0, h0]; done) | (simp only [endP, s_vec_Same_0, h0]; rfl) | (simp only [endP, s_vec_Same_0, h0, cond_true, cond_false, Bool.true_and, Bool.false_and, Bool.and_true, Bool.and_false, Bool.true_or, Bool.false_or, Bool.or_true, Bool.or_false, Bool.not_true, Bool.not_false]; done) | (simp_all; done) | simp_all [feq_self, endP, s_vec_Same_0, s_num_Bits_0]
  · cases h
noncomputable def rs20 : List (FuncId × RF) := (20, pureF S_vec_Same) :: rs19
noncomputable def env20 : Env := mkEnv xs rs20 ws0
theorem rs20_ok : All (ROk Try.prog false) rs20 := All.cons t_vec_Same rs19_ok
theorem env20_ok : env20.Ok Try.prog false := mkEnv_ok xs_ok rs20_ok ws0_ok
-- tumble/vec.Finite
noncomputable def s_vec_Finite_0 (a0_0 : Nat) (a0_1 : Nat) : Bool := s_num_Finite_float64__0 a0_0 && s_num_Finite_float64__0 a0_1
noncomputable def S_vec_Finite : List AV → Option AV
  | [AV.agg [.float a0_0, .float a0_1]] => some (AV.bool (s_vec_Finite_0 a0_0 a0_1))
  | _ => none
theorem t_vec_Finite : ROk Try.prog false (22, pureF S_vec_Finite) := ROk.pure (N := 64) env20_ok Try.func22 Try.call22 fun args v h => by
  unfold S_vec_Finite at h
  split at h
  · rename_i a0_0 a0_1
    cases h
    refine ⟨rfl, rfl, ?_⟩
    rw [show evFn Try.prog false env20 64 Try.f22 [AV.agg [.float a0_0, .float a0_1]] [] endP = bif s_num_Finite_float64__0 a0_0 then endP (AV.bool (s_num_Finite_float64__0 a0_1)) [] else endP (AV.bool false) [] from by kernel_rfl]
    refine node_eq (fun h0 => ?_) (fun h0 => ?_)
    · skip
      first | (simp only [endP, s_vec_Finite_0, h0]; done) | (simp only [endP, s_vec_Finite_0, h0]; rfl) | (simp only [endP, s_vec_Finite_0, h0, cond_true, cond_false, Bool.true_and, Bool.false_and, Bool.and_true, Bool.and_false, Bool.true_or, Bool.false_or, Bool.or_true, Bool.or_false, Bool.not_true, Bool.not_false]; done) | (simp_all; done) | simp_all [feq_self, endP, s_vec_Finite_0, s_num_Finite_float64__0]
    · skip
      first | (simp only [endP, s_vec_Finite_0, h0]; done) | (simp only [endP, s_vec_Finite_0, h0]; rfl) | (simp only [endP, s_vec_Finite_0, h0, cond_true, cond_false, Bool.true_and, Bool.false_and, Bool.and_true, Bool.and_false, Bool.true_or, Bool.false_or, Bool.or_true, Bool.or_false, Bool.not_true, Bool.not_false]; done) | (simp_all; done) | simp_all [feq_self, endP, s_vec_Finite_0, s_num_Finite_float64__0]
  · cases h
noncomputable def rs21 : List (FuncId × RF) := (22, pureF S_vec_Finite) :: rs20
noncomputable def env21 : Env := mkEnv xs rs21 ws0
theorem rs21_ok : All (ROk Try.prog false) rs21 := All.cons t_vec_Finite rs20_ok
theorem env21_ok : env21.Ok Try.prog false := mkEnv_ok xs_ok rs21_ok ws0_ok
-- tumble/tumblelaw02.alive
noncomputable def s_law02_alive_0  : Bool := true
noncomputable def S_law02_alive : List AV → Option AV
  | [] => some (AV.bool (s_law02_alive_0))
  | _ => none
theorem t_law02_alive : ROk Try.prog false (10, pureF S_law02_alive) := ROk.pure (N := 64) env21_ok Try.func10 Try.call10 fun args v h => by
  unfold S_law02_alive at h
  split at h
  · skip
    cases h
    exact ⟨rfl, rfl, by kernel_rfl⟩
  · cases h
noncomputable def rs22 : List (FuncId × RF) := (10, pureF S_law02_alive) :: rs21
noncomputable def env22 : Env := mkEnv xs rs22 ws0
theorem rs22_ok : All (ROk Try.prog false) rs22 := All.cons t_law02_alive rs21_ok
theorem env22_ok : env22.Ok Try.prog false := mkEnv_ok xs_ok rs22_ok ws0_ok
-- tumble/tumbleref02.Dot
noncomputable def s_ref02_Dot_0 (a0_0 : Nat) (a0_1 : Nat) (a1_0 : Nat) (a1_1 : Nat) : Nat := fadd (fmul a0_0 a1_0) (fmul a0_1 a1_1)
noncomputable def S_ref02_Dot : List AV → Option AV
  | [AV.agg [.float a0_0, .float a0_1], AV.agg [.float a1_0, .float a1_1]] => some (AV.float (s_ref02_Dot_0 a0_0 a0_1 a1_0 a1_1))
  | _ => none
theorem t_ref02_Dot : ROk Try.prog false (13, pureF S_ref02_Dot) := ROk.pure (N := 64) env22_ok Try.func13 Try.call13 fun args v h => by
  unfold S_ref02_Dot at h
  split at h
  · rename_i a0_0 a0_1 a1_0 a1_1
    cases h
    exact ⟨rfl, rfl, by kernel_rfl⟩
  · cases h
noncomputable def rs23 : List (FuncId × RF) := (13, pureF S_ref02_Dot) :: rs22
noncomputable def env23 : Env := mkEnv xs rs23 ws0
theorem rs23_ok : All (ROk Try.prog false) rs23 := All.cons t_ref02_Dot rs22_ok
theorem env23_ok : env23.Ok Try.prog false := mkEnv_ok xs_ok rs23_ok ws0_ok
-- tumble/tumbleref02.Bits
noncomputable def s_ref02_Bits_0 (a0_0 : Nat) : Int := bif !feq a0_0 a0_0 then 9221120237041090561 else (↑a0_0 : Int)
noncomputable def S_ref02_Bits : List AV → Option AV
  | [AV.float a0_0] => some (AV.int IntKind.u64 (s_ref02_Bits_0 a0_0))
  | _ => none
theorem t_ref02_Bits : ROk Try.prog false (64, pureF S_ref02_Bits) := ROk.pure (N := 64) env23_ok Try.func64 Try.call64 fun args v h => by
  unfold S_ref02_Bits at h
  split at h
  · rename_i a0_0
    cases h
    refine ⟨rfl, rfl, ?_⟩
    rw [show evFn Try.prog false env23 64 Try.f64 [AV.float a0_0] [] endP = bif !feq a0_0 a0_0 then endP (AV.int IntKind.u64 9221120237041090561) [] else bif !nanb a0_0 then endP (AV.int IntKind.u64 (↑a0_0 : Int)) [] else none from by kernel_rfl]
    refine node_eq (fun h0 => ?_) (fun h0 => ?_)
    · skip
      first | (simp only [endP, s_ref02_Bits_0, h0]; done) | (simp only [endP, s_ref02_Bits_0, h0]; rfl) | (simp only [endP, s_ref02_Bits_0, h0, cond_true, cond_false, Bool.true_and, Bool.false_and, Bool.and_true, Bool.and_false, Bool.true_or, Bool.false_or, Bool.or_true, Bool.or_false, Bool.not_true, Bool.not_false]; done) | (simp_all; done) | simp_all [feq_self, endP, s_ref02_Bits_0]
    · skip
      refine node_eq (fun h1 => ?_) (fun h1 => ?_)
      · skip
        first | (simp only [endP, s_ref02_Bits_0, h1, h0]; done) | (simp only [endP, s_ref02_Bits_0, h1, h0]; rfl) | (simp only [endP, s_ref02_Bits_0, h1, h0, cond_true, cond_false, Bool.true_and, Bool.false_and, Bool.and_true, Bool.and_false, Bool.true_or, Bool.false_or, Bool.or_true, Bool.or_false, Bool.not_true, Bool.not_false]; done) | (simp_all; done) | simp_all [feq_self, endP, s_ref02_Bits_0]
      · skip
        first | (simp_all; done) | simp_all [feq_self]
  · cases h
noncomputable def rs24 : List (FuncId × RF) := (64, pureF S_ref02_Bits) :: rs23
noncomputable def env24 : Env := mkEnv xs rs24 ws0
theorem rs24_ok : All (ROk Try.prog false) rs24 := All.cons t_ref02_Bits rs23_ok
theorem env24_ok : env24.Ok Try.prog false := mkEnv_ok xs_ok rs24_ok ws0_ok
-- tumble/tumbleref02.Is
noncomputable def s_ref02_Is_0 (a0_0 : Nat) (a1_0 : Nat) : Bool := ieq (s_ref02_Bits_0 a0_0) (s_ref02_Bits_0 a1_0)
noncomputable def S_ref02_Is : List AV → Option AV
  | [AV.float a0_0, AV.float a1_0] => some (AV.bool (s_ref02_Is_0 a0_0 a1_0))
  | _ => none
theorem t_ref02_Is : ROk Try.prog false (50, pureF S_ref02_Is) := ROk.pure (N := 64) env24_ok Try.func50 Try.call50 fun args v h => by
  unfold S_ref02_Is at h
  split at h
  · rename_i a0_0 a1_0
    cases h
    exact ⟨rfl, rfl, by kernel_rfl⟩
  · cases h
noncomputable def rs25 : List (FuncId × RF) := (50, pureF S_ref02_Is) :: rs24
noncomputable def env25 : Env := mkEnv xs rs25 ws0
theorem rs25_ok : All (ROk Try.prog false) rs25 := All.cons t_ref02_Is rs24_ok
theorem env25_ok : env25.Ok Try.prog false := mkEnv_ok xs_ok rs25_ok ws0_ok
-- tumble/tumblelaw02.one
noncomputable def s_law02_one_0 (a0_0 : Nat) (a1_0 : Nat) : Bool := s_ref02_Is_0 a0_0 a1_0
noncomputable def S_law02_one : List AV → Option AV
  | [AV.float a0_0, AV.float a1_0] => some (AV.bool (s_law02_one_0 a0_0 a1_0))
  | _ => none
theorem t_law02_one : ROk Try.prog false (11, pureF S_law02_one) := ROk.pure (N := 64) env25_ok Try.func11 Try.call11 fun args v h => by
  unfold S_law02_one at h
  split at h
  · rename_i a0_0 a1_0
    cases h
    exact ⟨rfl, rfl, by kernel_rfl⟩
  · cases h
noncomputable def rs26 : List (FuncId × RF) := (11, pureF S_law02_one) :: rs25
noncomputable def env26 : Env := mkEnv xs rs26 ws0
theorem rs26_ok : All (ROk Try.prog false) rs26 := All.cons t_law02_one rs25_ok
theorem env26_ok : env26.Ok Try.prog false := mkEnv_ok xs_ok rs26_ok ws0_ok
-- tumble/tumbleref02.Cross
noncomputable def s_ref02_Cross_0 (a0_0 : Nat) (a0_1 : Nat) (a1_0 : Nat) (a1_1 : Nat) : Nat := fsub (fmul a0_0 a1_1) (fmul a0_1 a1_0)
noncomputable def S_ref02_Cross : List AV → Option AV
  | [AV.agg [.float a0_0, .float a0_1], AV.agg [.float a1_0, .float a1_1]] => some (AV.float (s_ref02_Cross_0 a0_0 a0_1 a1_0 a1_1))
  | _ => none
theorem t_ref02_Cross : ROk Try.prog false (15, pureF S_ref02_Cross) := ROk.pure (N := 64) env26_ok Try.func15 Try.call15 fun args v h => by
  unfold S_ref02_Cross at h
  split at h
  · rename_i a0_0 a0_1 a1_0 a1_1
    cases h
    exact ⟨rfl, rfl, by kernel_rfl⟩
  · cases h
noncomputable def rs27 : List (FuncId × RF) := (15, pureF S_ref02_Cross) :: rs26
noncomputable def env27 : Env := mkEnv xs rs27 ws0
theorem rs27_ok : All (ROk Try.prog false) rs27 := All.cons t_ref02_Cross rs26_ok
theorem env27_ok : env27.Ok Try.prog false := mkEnv_ok xs_ok rs27_ok ws0_ok
-- tumble/tumbleref02.Square
noncomputable def s_ref02_Square_0 (a0_0 : Nat) (a0_1 : Nat) : Nat := s_ref02_Dot_0 a0_0 a0_1 a0_0 a0_1
noncomputable def S_ref02_Square : List AV → Option AV
  | [AV.agg [.float a0_0, .float a0_1]] => some (AV.float (s_ref02_Square_0 a0_0 a0_1))
  | _ => none
theorem t_ref02_Square : ROk Try.prog false (17, pureF S_ref02_Square) := ROk.pure (N := 64) env27_ok Try.func17 Try.call17 fun args v h => by
  unfold S_ref02_Square at h
  split at h
  · rename_i a0_0 a0_1
    cases h
    exact ⟨rfl, rfl, by kernel_rfl⟩
  · cases h
noncomputable def rs28 : List (FuncId × RF) := (17, pureF S_ref02_Square) :: rs27
noncomputable def env28 : Env := mkEnv xs rs28 ws0
theorem rs28_ok : All (ROk Try.prog false) rs28 := All.cons t_ref02_Square rs27_ok
theorem env28_ok : env28.Ok Try.prog false := mkEnv_ok xs_ok rs28_ok ws0_ok
-- tumble/tumbleref02.Length
noncomputable def s_ref02_Length_0 (a0_0 : Nat) (a0_1 : Nat) : Nat := s_math_Sqrt_0 (s_ref02_Square_0 a0_0 a0_1)
noncomputable def S_ref02_Length : List AV → Option AV
  | [AV.agg [.float a0_0, .float a0_1]] => some (AV.float (s_ref02_Length_0 a0_0 a0_1))
  | _ => none
theorem t_ref02_Length : ROk Try.prog false (19, pureF S_ref02_Length) := ROk.pure (N := 64) env28_ok Try.func19 Try.call19 fun args v h => by
  unfold S_ref02_Length at h
  split at h
  · rename_i a0_0 a0_1
    cases h
    exact ⟨rfl, rfl, by kernel_rfl⟩
  · cases h
noncomputable def rs29 : List (FuncId × RF) := (19, pureF S_ref02_Length) :: rs28
noncomputable def env29 : Env := mkEnv xs rs29 ws0
theorem rs29_ok : All (ROk Try.prog false) rs29 := All.cons t_ref02_Length rs28_ok
theorem env29_ok : env29.Ok Try.prog false := mkEnv_ok xs_ok rs29_ok ws0_ok
-- tumble/tumblelaw02.VecProducts
noncomputable def T_law02_VecProducts (a0_0 : Nat) (a0_1 : Nat) (a1_0 : Nat) (a1_1 : Nat) : Option Res := bif s_law02_one_0 (s_vec_Dot_0 a0_0 a0_1 a1_0 a1_1) (s_ref02_Dot_0 a0_0 a0_1 a1_0 a1_1) then bif s_law02_one_0 (s_vec_Cross_0 a0_0 a0_1 a1_0 a1_1) (s_ref02_Cross_0 a0_0 a0_1 a1_0 a1_1) then bif s_law02_one_0 (s_vec_Square_0 a0_0 a0_1) (s_ref02_Square_0 a0_0 a0_1) then bif s_law02_one_0 (s_vec_Length_0 a0_0 a0_1) (s_ref02_Length_0 a0_0 a0_1) then bif s_law02_one_0 (s_vec_Dot_0 a0_0 a0_1 a0_0 a0_1) (s_ref02_Dot_0 a0_0 a0_1 a0_0 a0_1) then endP (AV.bool (s_law02_one_0 (s_vec_Cross_0 a1_0 a1_1 a1_0 a1_1) (s_ref02_Cross_0 a1_0 a1_1 a1_0 a1_1))) [] else endP (AV.bool false) [] else endP (AV.bool false) [] else endP (AV.bool false) [] else endP (AV.bool false) [] else endP (AV.bool false) []
theorem tree_law02_VecProducts (a0_0 : Nat) (a0_1 : Nat) (a1_0 : Nat) (a1_1 : Nat) : evFn Try.prog false env29 64 Try.f3 [AV.agg [.float a0_0, .float a0_1], AV.agg [.float a1_0, .float a1_1]] [] endP = T_law02_VecProducts a0_0 a0_1 a1_0 a1_1 := by kernel_rfl
-- tumble/tumbleref02.Same
noncomputable def s_ref02_Same_0 (a0_0 : Nat) (a0_1 : Nat) (a1_0 : Nat) (a1_1 : Nat) : Bool := s_ref02_Is_0 a0_0 a1_0 && s_ref02_Is_0 a0_1 a1_1
noncomputable def S_ref02_Same : List AV → Option AV
  | [AV.agg [.float a0_0, .float a0_1], AV.agg [.float a1_0, .float a1_1]] => some (AV.bool (s_ref02_Same_0 a0_0 a0_1 a1_0 a1_1))
  | _ => none
theorem t_ref02_Same : ROk Try.prog false (21, pureF S_ref02_Same) := ROk.pure (N := 64) env29_ok Try.func21 Try.call21 fun args v h => by
  unfold S_ref02_Same at h
  split at h
  · rename_i a0_0 a0_1 a1_0 a1_1
    cases h
    refine ⟨rfl, rfl, ?_⟩
    rw [show evFn Try.prog false env29 64 Try.f21 [AV.agg [.float a0_0, .float a0_1], AV.agg [.float a1_0, .float a1_1]] [] endP = bif s_ref02_Is_0 a0_0 a1_0 then endP (AV.bool (s_ref02_Is_0 a0_1 a1_1)) [] else endP (AV.bool false) [] from by kernel_rfl]
    refine node_eq (fun h0 => ?_) (fun h0 => ?_)
    · skip
      first | (simp only [endP, s_ref02_Same_0, h0]; done) | (simp only [endP, s_ref02_Same_0, h0]; rfl) | (simp only [endP, s_ref02_Same_0, h0, cond_true, cond_false, Bool.true_and, Bool.false_and, Bool.and_true, Bool.and_false, Bool.true_or, Bool.false_or, Bool.or_true, Bool.or_false, Bool.not_true, Bool.not_false]; done) | (simp_all; done) | simp_all [feq_self, endP, s_ref02_Same_0, s_ref02_Is_0]
    · skip
      first | (simp only [endP, s_ref02_Same_0, h0]; done) | (simp only [endP, s_ref02_Same_0, h0]; rfl) | (simp only [endP, s_ref02_Same_0, h0, cond_true, cond_false, Bool.true_and, Bool.false_and, Bool.and_true, Bool.and_false, Bool.true_or, Bool.false_or, Bool.or_true, Bool.or_false, Bool.not_true, Bool.not_false]; done) | (simp_all; done) | simp_all [feq_self, endP, s_ref02_Same_0, s_ref02_Is_0]
  · cases h
noncomputable def rs30 : List (FuncId × RF) := (21, pureF S_ref02_Same) :: rs29
noncomputable def env30 : Env := mkEnv xs rs30 ws0
theorem rs30_ok : All (ROk Try.prog false) rs30 := All.cons t_ref02_Same rs29_ok
theorem env30_ok : env30.Ok Try.prog false := mkEnv_ok xs_ok rs30_ok ws0_ok
-- tumble/tumbleref02.End
noncomputable def s_ref02_End_0 (a0_0 : Nat) : Bool := feq (fsub a0_0 a0_0) 0
noncomputable def S_ref02_End : List AV → Option AV
  | [AV.float a0_0] => some (AV.bool (s_ref02_End_0 a0_0))
  | _ => none
theorem t_ref02_End : ROk Try.prog false (55, pureF S_ref02_End) := ROk.pure (N := 64) env30_ok Try.func55 Try.call55 fun args v h => by
  unfold S_ref02_End at h
  split at h
  · rename_i a0_0
    cases h
    exact ⟨rfl, rfl, by kernel_rfl⟩
  · cases h
noncomputable def rs31 : List (FuncId × RF) := (55, pureF S_ref02_End) :: rs30
noncomputable def env31 : Env := mkEnv xs rs31 ws0
theorem rs31_ok : All (ROk Try.prog false) rs31 := All.cons t_ref02_End rs30_ok
theorem env31_ok : env31.Ok Try.prog false := mkEnv_ok xs_ok rs31_ok ws0_ok
-- tumble/tumbleref02.Finite
noncomputable def s_ref02_Finite_0 (a0_0 : Nat) (a0_1 : Nat) : Bool := s_ref02_End_0 a0_0 && s_ref02_End_0 a0_1
noncomputable def S_ref02_Finite : List AV → Option AV
  | [AV.agg [.float a0_0, .float a0_1]] => some (AV.bool (s_ref02_Finite_0 a0_0 a0_1))
  | _ => none
theorem t_ref02_Finite : ROk Try.prog false (23, pureF S_ref02_Finite) := ROk.pure (N := 64) env31_ok Try.func23 Try.call23 fun args v h => by
  unfold S_ref02_Finite at h
  split at h
  · rename_i a0_0 a0_1
    cases h
    refine ⟨rfl, rfl, ?_⟩
    rw [show evFn Try.prog false env31 64 Try.f23 [AV.agg [.float a0_0, .float a0_1]] [] endP = bif s_ref02_End_0 a0_0 then endP (AV.bool (s_ref02_End_0 a0_1)) [] else endP (AV.bool false) [] from by kernel_rfl]
    refine node_eq (fun h0 => ?_) (fun h0 => ?_)
    · skip
      first | (simp only [endP, s_ref02_Finite_0, h0]; done) | (simp only [endP, s_ref02_Finite_0, h0]; rfl) | (simp only [endP, s_ref02_Finite_0, h0, cond_true, cond_false, Bool.true_and, Bool.false_and, Bool.and_true, Bool.and_false, Bool.true_or, Bool.false_or, Bool.or_true, Bool.or_false, Bool.not_true, Bool.not_false]; done) | (simp_all; done) | simp_all [feq_self, endP, s_ref02_Finite_0, s_ref02_End_0]
    · skip
      first | (simp only [endP, s_ref02_Finite_0, h0]; done) | (simp only [endP, s_ref02_Finite_0, h0]; rfl) | (simp only [endP, s_ref02_Finite_0, h0, cond_true, cond_false, Bool.true_and, Bool.false_and, Bool.and_true, Bool.and_false, Bool.true_or, Bool.false_or, Bool.or_true, Bool.or_false, Bool.not_true, Bool.not_false]; done) | (simp_all; done) | simp_all [feq_self, endP, s_ref02_Finite_0, s_ref02_End_0]
  · cases h
noncomputable def rs32 : List (FuncId × RF) := (23, pureF S_ref02_Finite) :: rs31
noncomputable def env32 : Env := mkEnv xs rs32 ws0
theorem rs32_ok : All (ROk Try.prog false) rs32 := All.cons t_ref02_Finite rs31_ok
theorem env32_ok : env32.Ok Try.prog false := mkEnv_ok xs_ok rs32_ok ws0_ok
-- math.Abs
noncomputable def S_math_Abs : List AV → Option AV
  | [AV.float a] => some (AV.float (fabs a))
  | _ => none
theorem t_math_Abs : ROk Try.prog false (57, pureF S_math_Abs) := exact1f (N := 64) xenv_ok Try.func57 Try.call57 fabs (fun args v h => by
    unfold S_math_Abs at h
    split at h
    · cases h; exact ⟨_, rfl, rfl⟩
    · cases h) fun b hb => ⟨_, by refine Eq.trans ?_ (abs_tree hb); kernel_rfl, (fabs_cn b).symm⟩
noncomputable def rs33 : List (FuncId × RF) := (57, pureF S_math_Abs) :: rs32
noncomputable def env33 : Env := mkEnv xs rs33 ws0
theorem rs33_ok : All (ROk Try.prog false) rs33 := All.cons t_math_Abs rs32_ok
theorem env33_ok : env33.Ok Try.prog false := mkEnv_ok xs_ok rs33_ok ws0_ok
-- tumble/tumbleref02.Within
noncomputable def s_ref02_Within_0 (a0_0 : Nat) (a0_1 : Nat) (a1_0 : Nat) : Bool := fle (fabs a0_0) a1_0 && fle (fabs a0_1) a1_0
noncomputable def S_ref02_Within : List AV → Option AV
  | [AV.agg [.float a0_0, .float a0_1], AV.float a1_0] => some (AV.bool (s_ref02_Within_0 a0_0 a0_1 a1_0))
  | _ => none
theorem t_ref02_Within : ROk Try.prog false (25, pureF S_ref02_Within) := ROk.pure (N := 64) env33_ok Try.func25 Try.call25 fun args v h => by
  unfold S_ref02_Within at h
  split at h
  · rename_i a0_0 a0_1 a1_0
    cases h
    refine ⟨rfl, rfl, ?_⟩
    rw [show evFn Try.prog false env33 64 Try.f25 [AV.agg [.float a0_0, .float a0_1], AV.float a1_0] [] endP = bif fle (fabs a0_0) a1_0 then endP (AV.bool (fle (fabs a0_1) a1_0)) [] else endP (AV.bool false) [] from by kernel_rfl]
    refine node_eq (fun h0 => ?_) (fun h0 => ?_)
    · skip
      first | (simp only [endP, s_ref02_Within_0, h0]; done) | (simp only [endP, s_ref02_Within_0, h0]; rfl) | (simp only [endP, s_ref02_Within_0, h0, cond_true, cond_false, Bool.true_and, Bool.false_and, Bool.and_true, Bool.and_false, Bool.true_or, Bool.false_or, Bool.or_true, Bool.or_false, Bool.not_true, Bool.not_false]; done) | (simp_all; done) | simp_all [feq_self, endP, s_ref02_Within_0]
    · skip
      first | (simp only [endP, s_ref02_Within_0, h0]; done) | (simp only [endP, s_ref02_Within_0, h0]; rfl) | (simp only [endP, s_ref02_Within_0, h0, cond_true, cond_false, Bool.true_and, Bool.false_and, Bool.and_true, Bool.and_false, Bool.true_or, Bool.false_or, Bool.or_true, Bool.or_false, Bool.not_true, Bool.not_false]; done) | (simp_all; done) | simp_all [feq_self, endP, s_ref02_Within_0]
  · cases h
noncomputable def rs34 : List (FuncId × RF) := (25, pureF S_ref02_Within) :: rs33
noncomputable def env34 : Env := mkEnv xs rs34 ws0
theorem rs34_ok : All (ROk Try.prog false) rs34 := All.cons t_ref02_Within rs33_ok
theorem env34_ok : env34.Ok Try.prog false := mkEnv_ok xs_ok rs34_ok ws0_ok
-- tumble/tumblelaw02.VecCompared
noncomputable def T_law02_VecCompared (a0_0 : Nat) (a0_1 : Nat) (a1_0 : Nat) (a1_1 : Nat) (a2_0 : Nat) : Option Res := bif s_vec_Same_0 a0_0 a0_1 a1_0 a1_1 == s_ref02_Same_0 a0_0 a0_1 a1_0 a1_1 then bif s_vec_Same_0 a0_0 a0_1 a0_0 a0_1 then bif s_vec_Finite_0 a0_0 a0_1 == s_ref02_Finite_0 a0_0 a0_1 then endP (AV.bool (s_vec_Within_0 a0_0 a0_1 a2_0 == s_ref02_Within_0 a0_0 a0_1 a2_0)) [] else endP (AV.bool false) [] else endP (AV.bool false) [] else endP (AV.bool false) []
theorem tree_law02_VecCompared (a0_0 : Nat) (a0_1 : Nat) (a1_0 : Nat) (a1_1 : Nat) (a2_0 : Nat) : evFn Try.prog false env34 64 Try.f4 [AV.agg [.float a0_0, .float a0_1], AV.agg [.float a1_0, .float a1_1], AV.float a2_0] [] endP = T_law02_VecCompared a0_0 a0_1 a1_0 a1_1 a2_0 := by kernel_rfl
-- tumble/vec.Neg
noncomputable def s_vec_Neg_0 (a0_0 : Nat) (a0_1 : Nat) : Nat := fneg a0_0
noncomputable def s_vec_Neg_1 (a0_0 : Nat) (a0_1 : Nat) : Nat := fneg a0_1
noncomputable def S_vec_Neg : List AV → Option AV
  | [AV.agg [.float a0_0, .float a0_1]] => some (AV.agg [AV.float (s_vec_Neg_0 a0_0 a0_1), AV.float (s_vec_Neg_1 a0_0 a0_1)])
  | _ => none
theorem t_vec_Neg : ROk Try.prog false (27, pureF S_vec_Neg) := ROk.pure (N := 64) env34_ok Try.func27 Try.call27 fun args v h => by
  unfold S_vec_Neg at h
  split at h
  · rename_i a0_0 a0_1
    cases h
    exact ⟨rfl, rfl, by kernel_rfl⟩
  · cases h
noncomputable def rs35 : List (FuncId × RF) := (27, pureF S_vec_Neg) :: rs34
noncomputable def env35 : Env := mkEnv xs rs35 ws0
theorem rs35_ok : All (ROk Try.prog false) rs35 := All.cons t_vec_Neg rs34_ok
theorem env35_ok : env35.Ok Try.prog false := mkEnv_ok xs_ok rs35_ok ws0_ok
-- tumble/tumblelaw02.is
noncomputable def s_law02_is_0 (a0_0 : Nat) (a0_1 : Nat) (a1_0 : Nat) (a1_1 : Nat) : Bool := s_ref02_Same_0 a0_0 a0_1 a1_0 a1_1
noncomputable def S_law02_is : List AV → Option AV
  | [AV.agg [.float a0_0, .float a0_1], AV.agg [.float a1_0, .float a1_1]] => some (AV.bool (s_law02_is_0 a0_0 a0_1 a1_0 a1_1))
  | _ => none
theorem t_law02_is : ROk Try.prog false (29, pureF S_law02_is) := ROk.pure (N := 64) env35_ok Try.func29 Try.call29 fun args v h => by
  unfold S_law02_is at h
  split at h
  · rename_i a0_0 a0_1 a1_0 a1_1
    cases h
    exact ⟨rfl, rfl, by kernel_rfl⟩
  · cases h
noncomputable def rs36 : List (FuncId × RF) := (29, pureF S_law02_is) :: rs35
noncomputable def env36 : Env := mkEnv xs rs36 ws0
theorem rs36_ok : All (ROk Try.prog false) rs36 := All.cons t_law02_is rs35_ok
theorem env36_ok : env36.Ok Try.prog false := mkEnv_ok xs_ok rs36_ok ws0_ok
-- tumble/tumblelaw02.VecLong
-- tumble/tumbleref02.Vec
noncomputable def s_ref02_Vec_0 (a0_0 : Nat) (a1_0 : Nat) : Nat := a0_0
noncomputable def s_ref02_Vec_1 (a0_0 : Nat) (a1_0 : Nat) : Nat := a1_0
noncomputable def S_ref02_Vec : List AV → Option AV
  | [AV.float a0_0, AV.float a1_0] => some (AV.agg [AV.float (s_ref02_Vec_0 a0_0 a1_0), AV.float (s_ref02_Vec_1 a0_0 a1_0)])
  | _ => none
theorem t_ref02_Vec : ROk Try.prog false (58, pureF S_ref02_Vec) := ROk.pure (N := 64) env36_ok Try.func58 Try.call58 fun args v h => by
  unfold S_ref02_Vec at h
  split at h
  · rename_i a0_0 a1_0
    cases h
    exact ⟨rfl, rfl, by kernel_rfl⟩
  · cases h
noncomputable def rs37 : List (FuncId × RF) := (58, pureF S_ref02_Vec) :: rs36
noncomputable def env37 : Env := mkEnv xs rs37 ws0
theorem rs37_ok : All (ROk Try.prog false) rs37 := All.cons t_ref02_Vec rs36_ok
theorem env37_ok : env37.Ok Try.prog false := mkEnv_ok xs_ok rs37_ok ws0_ok
-- tumble/tumbleref02.Add
noncomputable def s_ref02_Add_0 (a0_0 : Nat) (a0_1 : Nat) (a1_0 : Nat) (a1_1 : Nat) : Nat := s_ref02_Vec_0 (fadd a0_0 a1_0) (fadd a0_1 a1_1)
noncomputable def s_ref02_Add_1 (a0_0 : Nat) (a0_1 : Nat) (a1_0 : Nat) (a1_1 : Nat) : Nat := s_ref02_Vec_1 (fadd a0_0 a1_0) (fadd a0_1 a1_1)
noncomputable def S_ref02_Add : List AV → Option AV
  | [AV.agg [.float a0_0, .float a0_1], AV.agg [.float a1_0, .float a1_1]] => some (AV.agg [AV.float (s_ref02_Add_0 a0_0 a0_1 a1_0 a1_1), AV.float (s_ref02_Add_1 a0_0 a0_1 a1_0 a1_1)])
  | _ => none
theorem t_ref02_Add : ROk Try.prog false (31, pureF S_ref02_Add) := ROk.pure (N := 64) env37_ok Try.func31 Try.call31 fun args v h => by
  unfold S_ref02_Add at h
  split at h
  · rename_i a0_0 a0_1 a1_0 a1_1
    cases h
    exact ⟨rfl, rfl, by kernel_rfl⟩
  · cases h
noncomputable def rs38 : List (FuncId × RF) := (31, pureF S_ref02_Add) :: rs37
noncomputable def env38 : Env := mkEnv xs rs38 ws0
theorem rs38_ok : All (ROk Try.prog false) rs38 := All.cons t_ref02_Add rs37_ok
theorem env38_ok : env38.Ok Try.prog false := mkEnv_ok xs_ok rs38_ok ws0_ok
-- tumble/vec.Sub
noncomputable def s_vec_Sub_0 (a0_0 : Nat) (a0_1 : Nat) (a1_0 : Nat) (a1_1 : Nat) : Nat := fsub a0_0 a1_0
noncomputable def s_vec_Sub_1 (a0_0 : Nat) (a0_1 : Nat) (a1_0 : Nat) (a1_1 : Nat) : Nat := fsub a0_1 a1_1
noncomputable def S_vec_Sub : List AV → Option AV
  | [AV.agg [.float a0_0, .float a0_1], AV.agg [.float a1_0, .float a1_1]] => some (AV.agg [AV.float (s_vec_Sub_0 a0_0 a0_1 a1_0 a1_1), AV.float (s_vec_Sub_1 a0_0 a0_1 a1_0 a1_1)])
  | _ => none
theorem t_vec_Sub : ROk Try.prog false (32, pureF S_vec_Sub) := ROk.pure (N := 64) env38_ok Try.func32 Try.call32 fun args v h => by
  unfold S_vec_Sub at h
  split at h
  · rename_i a0_0 a0_1 a1_0 a1_1
    cases h
    exact ⟨rfl, rfl, by kernel_rfl⟩
  · cases h
noncomputable def rs39 : List (FuncId × RF) := (32, pureF S_vec_Sub) :: rs38
noncomputable def env39 : Env := mkEnv xs rs39 ws0
theorem rs39_ok : All (ROk Try.prog false) rs39 := All.cons t_vec_Sub rs38_ok
theorem env39_ok : env39.Ok Try.prog false := mkEnv_ok xs_ok rs39_ok ws0_ok
-- tumble/tumbleref02.Sub
noncomputable def s_ref02_Sub_0 (a0_0 : Nat) (a0_1 : Nat) (a1_0 : Nat) (a1_1 : Nat) : Nat := s_ref02_Vec_0 (fsub a0_0 a1_0) (fsub a0_1 a1_1)
noncomputable def s_ref02_Sub_1 (a0_0 : Nat) (a0_1 : Nat) (a1_0 : Nat) (a1_1 : Nat) : Nat := s_ref02_Vec_1 (fsub a0_0 a1_0) (fsub a0_1 a1_1)
noncomputable def S_ref02_Sub : List AV → Option AV
  | [AV.agg [.float a0_0, .float a0_1], AV.agg [.float a1_0, .float a1_1]] => some (AV.agg [AV.float (s_ref02_Sub_0 a0_0 a0_1 a1_0 a1_1), AV.float (s_ref02_Sub_1 a0_0 a0_1 a1_0 a1_1)])
  | _ => none
theorem t_ref02_Sub : ROk Try.prog false (33, pureF S_ref02_Sub) := ROk.pure (N := 64) env39_ok Try.func33 Try.call33 fun args v h => by
  unfold S_ref02_Sub at h
  split at h
  · rename_i a0_0 a0_1 a1_0 a1_1
    cases h
    exact ⟨rfl, rfl, by kernel_rfl⟩
  · cases h
noncomputable def rs40 : List (FuncId × RF) := (33, pureF S_ref02_Sub) :: rs39
noncomputable def env40 : Env := mkEnv xs rs40 ws0
theorem rs40_ok : All (ROk Try.prog false) rs40 := All.cons t_ref02_Sub rs39_ok
theorem env40_ok : env40.Ok Try.prog false := mkEnv_ok xs_ok rs40_ok ws0_ok
-- tumble/tumbleref02.Scale
noncomputable def s_ref02_Scale_0 (a0_0 : Nat) (a0_1 : Nat) (a1_0 : Nat) : Nat := s_ref02_Vec_0 (fmul a0_0 a1_0) (fmul a0_1 a1_0)
noncomputable def s_ref02_Scale_1 (a0_0 : Nat) (a0_1 : Nat) (a1_0 : Nat) : Nat := s_ref02_Vec_1 (fmul a0_0 a1_0) (fmul a0_1 a1_0)
noncomputable def S_ref02_Scale : List AV → Option AV
  | [AV.agg [.float a0_0, .float a0_1], AV.float a1_0] => some (AV.agg [AV.float (s_ref02_Scale_0 a0_0 a0_1 a1_0), AV.float (s_ref02_Scale_1 a0_0 a0_1 a1_0)])
  | _ => none
theorem t_ref02_Scale : ROk Try.prog false (35, pureF S_ref02_Scale) := ROk.pure (N := 64) env40_ok Try.func35 Try.call35 fun args v h => by
  unfold S_ref02_Scale at h
  split at h
  · rename_i a0_0 a0_1 a1_0
    cases h
    exact ⟨rfl, rfl, by kernel_rfl⟩
  · cases h
noncomputable def rs41 : List (FuncId × RF) := (35, pureF S_ref02_Scale) :: rs40
noncomputable def env41 : Env := mkEnv xs rs41 ws0
theorem rs41_ok : All (ROk Try.prog false) rs41 := All.cons t_ref02_Scale rs40_ok
theorem env41_ok : env41.Ok Try.prog false := mkEnv_ok xs_ok rs41_ok ws0_ok
-- tumble/tumbleref02.Turned
noncomputable def S_ref02_Turned : List AV → Option AV
  | [AV.float a] => some (AV.float (fneg a))
  | _ => none
theorem t_ref02_Turned : ROk Try.prog false (59, pureF S_ref02_Turned) := exact1f (N := 64) xenv_ok Try.func59 Try.call59 fneg (fun args v h => by
    unfold S_ref02_Turned at h
    split at h
    · cases h; exact ⟨_, rfl, rfl⟩
    · cases h) fun b hb => ⟨_, by refine Eq.trans ?_ (xor_tree hb); kernel_rfl, (neg_cn b).symm⟩
noncomputable def rs42 : List (FuncId × RF) := (59, pureF S_ref02_Turned) :: rs41
noncomputable def env42 : Env := mkEnv xs rs42 ws0
theorem rs42_ok : All (ROk Try.prog false) rs42 := All.cons t_ref02_Turned rs41_ok
theorem env42_ok : env42.Ok Try.prog false := mkEnv_ok xs_ok rs42_ok ws0_ok
-- tumble/tumbleref02.Neg
noncomputable def s_ref02_Neg_0 (a0_0 : Nat) (a0_1 : Nat) : Nat := s_ref02_Vec_0 (fneg a0_0) (fneg a0_1)
noncomputable def s_ref02_Neg_1 (a0_0 : Nat) (a0_1 : Nat) : Nat := s_ref02_Vec_1 (fneg a0_0) (fneg a0_1)
noncomputable def S_ref02_Neg : List AV → Option AV
  | [AV.agg [.float a0_0, .float a0_1]] => some (AV.agg [AV.float (s_ref02_Neg_0 a0_0 a0_1), AV.float (s_ref02_Neg_1 a0_0 a0_1)])
  | _ => none
theorem t_ref02_Neg : ROk Try.prog false (36, pureF S_ref02_Neg) := ROk.pure (N := 64) env42_ok Try.func36 Try.call36 fun args v h => by
  unfold S_ref02_Neg at h
  split at h
  · rename_i a0_0 a0_1
    cases h
    exact ⟨rfl, rfl, by kernel_rfl⟩
  · cases h
noncomputable def rs43 : List (FuncId × RF) := (36, pureF S_ref02_Neg) :: rs42
noncomputable def env43 : Env := mkEnv xs rs43 ws0
theorem rs43_ok : All (ROk Try.prog false) rs43 := All.cons t_ref02_Neg rs42_ok
theorem env43_ok : env43.Ok Try.prog false := mkEnv_ok xs_ok rs43_ok ws0_ok
-- tumble/vec.More
noncomputable def s_vec_More_0 (a0_0 : Nat) (a0_1 : Nat) (a1_0 : Nat) (a2_0 : Nat) (a2_1 : Nat) : Nat := fadd a0_0 (fmul a1_0 a2_0)
noncomputable def s_vec_More_1 (a0_0 : Nat) (a0_1 : Nat) (a1_0 : Nat) (a2_0 : Nat) (a2_1 : Nat) : Nat := fadd a0_1 (fmul a1_0 a2_1)
noncomputable def S_vec_More : List AV → Option AV
  | [AV.agg [.float a0_0, .float a0_1], AV.float a1_0, AV.agg [.float a2_0, .float a2_1]] => some (AV.agg [AV.float (s_vec_More_0 a0_0 a0_1 a1_0 a2_0 a2_1), AV.float (s_vec_More_1 a0_0 a0_1 a1_0 a2_0 a2_1)])
  | _ => none
theorem t_vec_More : ROk Try.prog false (37, pureF S_vec_More) := ROk.pure (N := 64) env43_ok Try.func37 Try.call37 fun args v h => by
  unfold S_vec_More at h
  split at h
  · rename_i a0_0 a0_1 a1_0 a2_0 a2_1
    cases h
    exact ⟨rfl, rfl, by kernel_rfl⟩
  · cases h
noncomputable def rs44 : List (FuncId × RF) := (37, pureF S_vec_More) :: rs43
noncomputable def env44 : Env := mkEnv xs rs44 ws0
theorem rs44_ok : All (ROk Try.prog false) rs44 := All.cons t_vec_More rs43_ok
theorem env44_ok : env44.Ok Try.prog false := mkEnv_ok xs_ok rs44_ok ws0_ok
-- tumble/tumbleref02.More
noncomputable def s_ref02_More_0 (a0_0 : Nat) (a0_1 : Nat) (a1_0 : Nat) (a2_0 : Nat) (a2_1 : Nat) : Nat := s_ref02_Vec_0 (fadd a0_0 (fmul a1_0 a2_0)) (fadd a0_1 (fmul a1_0 a2_1))
noncomputable def s_ref02_More_1 (a0_0 : Nat) (a0_1 : Nat) (a1_0 : Nat) (a2_0 : Nat) (a2_1 : Nat) : Nat := s_ref02_Vec_1 (fadd a0_0 (fmul a1_0 a2_0)) (fadd a0_1 (fmul a1_0 a2_1))
noncomputable def S_ref02_More : List AV → Option AV
  | [AV.agg [.float a0_0, .float a0_1], AV.float a1_0, AV.agg [.float a2_0, .float a2_1]] => some (AV.agg [AV.float (s_ref02_More_0 a0_0 a0_1 a1_0 a2_0 a2_1), AV.float (s_ref02_More_1 a0_0 a0_1 a1_0 a2_0 a2_1)])
  | _ => none
theorem t_ref02_More : ROk Try.prog false (38, pureF S_ref02_More) := ROk.pure (N := 64) env44_ok Try.func38 Try.call38 fun args v h => by
  unfold S_ref02_More at h
  split at h
  · rename_i a0_0 a0_1 a1_0 a2_0 a2_1
    cases h
    exact ⟨rfl, rfl, by kernel_rfl⟩
  · cases h
noncomputable def rs45 : List (FuncId × RF) := (38, pureF S_ref02_More) :: rs44
noncomputable def env45 : Env := mkEnv xs rs45 ws0
theorem rs45_ok : All (ROk Try.prog false) rs45 := All.cons t_ref02_More rs44_ok
theorem env45_ok : env45.Ok Try.prog false := mkEnv_ok xs_ok rs45_ok ws0_ok
-- tumble/tumbleref02.Middle
noncomputable def s_ref02_Middle_0 (a0_0 : Nat) (a0_1 : Nat) (a1_0 : Nat) (a1_1 : Nat) : Nat := s_ref02_Vec_0 (fdiv (fadd a0_0 a1_0) 4611686018427387904) (fdiv (fadd a0_1 a1_1) 4611686018427387904)
noncomputable def s_ref02_Middle_1 (a0_0 : Nat) (a0_1 : Nat) (a1_0 : Nat) (a1_1 : Nat) : Nat := s_ref02_Vec_1 (fdiv (fadd a0_0 a1_0) 4611686018427387904) (fdiv (fadd a0_1 a1_1) 4611686018427387904)
noncomputable def S_ref02_Middle : List AV → Option AV
  | [AV.agg [.float a0_0, .float a0_1], AV.agg [.float a1_0, .float a1_1]] => some (AV.agg [AV.float (s_ref02_Middle_0 a0_0 a0_1 a1_0 a1_1), AV.float (s_ref02_Middle_1 a0_0 a0_1 a1_0 a1_1)])
  | _ => none
theorem t_ref02_Middle : ROk Try.prog false (40, pureF S_ref02_Middle) := ROk.pure (N := 64) env45_ok Try.func40 Try.call40 fun args v h => by
  unfold S_ref02_Middle at h
  split at h
  · rename_i a0_0 a0_1 a1_0 a1_1
    cases h
    exact ⟨rfl, rfl, by kernel_rfl⟩
  · cases h
noncomputable def rs46 : List (FuncId × RF) := (40, pureF S_ref02_Middle) :: rs45
noncomputable def env46 : Env := mkEnv xs rs46 ws0
theorem rs46_ok : All (ROk Try.prog false) rs46 := All.cons t_ref02_Middle rs45_ok
theorem env46_ok : env46.Ok Try.prog false := mkEnv_ok xs_ok rs46_ok ws0_ok
-- tumble/tumblelaw02.VecParts
noncomputable def T_law02_VecParts (a0_0 : Nat) (a0_1 : Nat) (a1_0 : Nat) (a1_1 : Nat) (a2_0 : Nat) : Option Res := bif s_law02_is_0 (s_vec_Add_0 a0_0 a0_1 a1_0 a1_1) (s_vec_Add_1 a0_0 a0_1 a1_0 a1_1) (s_ref02_Add_0 a0_0 a0_1 a1_0 a1_1) (s_ref02_Add_1 a0_0 a0_1 a1_0 a1_1) then bif s_law02_is_0 (s_vec_Sub_0 a0_0 a0_1 a1_0 a1_1) (s_vec_Sub_1 a0_0 a0_1 a1_0 a1_1) (s_ref02_Sub_0 a0_0 a0_1 a1_0 a1_1) (s_ref02_Sub_1 a0_0 a0_1 a1_0 a1_1) then bif s_law02_is_0 (s_vec_Scale_0 a0_0 a0_1 a2_0) (s_vec_Scale_1 a0_0 a0_1 a2_0) (s_ref02_Scale_0 a0_0 a0_1 a2_0) (s_ref02_Scale_1 a0_0 a0_1 a2_0) then bif s_law02_is_0 (s_vec_Neg_0 a0_0 a0_1) (s_vec_Neg_1 a0_0 a0_1) (s_ref02_Neg_0 a0_0 a0_1) (s_ref02_Neg_1 a0_0 a0_1) then bif s_law02_is_0 (s_vec_More_0 a0_0 a0_1 a2_0 a1_0 a1_1) (s_vec_More_1 a0_0 a0_1 a2_0 a1_0 a1_1) (s_ref02_More_0 a0_0 a0_1 a2_0 a1_0 a1_1) (s_ref02_More_1 a0_0 a0_1 a2_0 a1_0 a1_1) then endP (AV.bool (s_law02_is_0 (s_vec_Middle_0 a0_0 a0_1 a1_0 a1_1) (s_vec_Middle_1 a0_0 a0_1 a1_0 a1_1) (s_ref02_Middle_0 a0_0 a0_1 a1_0 a1_1) (s_ref02_Middle_1 a0_0 a0_1 a1_0 a1_1))) [] else endP (AV.bool false) [] else endP (AV.bool false) [] else endP (AV.bool false) [] else endP (AV.bool false) [] else endP (AV.bool false) []
theorem tree_law02_VecParts (a0_0 : Nat) (a0_1 : Nat) (a1_0 : Nat) (a1_1 : Nat) (a2_0 : Nat) : evFn Try.prog false env46 64 Try.f6 [AV.agg [.float a0_0, .float a0_1], AV.agg [.float a1_0, .float a1_1], AV.float a2_0] [] endP = T_law02_VecParts a0_0 a0_1 a1_0 a1_1 a2_0 := by kernel_rfl
-- tumble/tumbleref02.Unit
noncomputable def s_ref02_Unit_0 (a0_0 : Nat) (a0_1 : Nat) : Nat := bif !!s_ref02_End_0 (s_ref02_Length_0 a0_0 a0_1) then bif fle (s_ref02_Length_0 a0_0 a0_1) 0 then 0 else s_ref02_Vec_0 (fdiv a0_0 (s_ref02_Length_0 a0_0 a0_1)) (fdiv a0_1 (s_ref02_Length_0 a0_0 a0_1)) else 0
noncomputable def s_ref02_Unit_1 (a0_0 : Nat) (a0_1 : Nat) : Nat := bif !!s_ref02_End_0 (s_ref02_Length_0 a0_0 a0_1) then bif fle (s_ref02_Length_0 a0_0 a0_1) 0 then 0 else s_ref02_Vec_1 (fdiv a0_0 (s_ref02_Length_0 a0_0 a0_1)) (fdiv a0_1 (s_ref02_Length_0 a0_0 a0_1)) else 0
noncomputable def s_ref02_Unit_2 (a0_0 : Nat) (a0_1 : Nat) : Bool := !!s_ref02_End_0 (s_ref02_Length_0 a0_0 a0_1) && !fle (s_ref02_Length_0 a0_0 a0_1) 0
noncomputable def S_ref02_Unit : List AV → Option AV
  | [AV.agg [.float a0_0, .float a0_1]] => some (AV.tup [AV.agg [AV.float (s_ref02_Unit_0 a0_0 a0_1), AV.float (s_ref02_Unit_1 a0_0 a0_1)], AV.bool (s_ref02_Unit_2 a0_0 a0_1)])
  | _ => none
theorem t_ref02_Unit : ROk Try.prog false (41, pureF S_ref02_Unit) := ROk.pure (N := 64) env46_ok Try.func41 Try.call41 fun args v h => by
  unfold S_ref02_Unit at h
  split at h
  · rename_i a0_0 a0_1
    cases h
    refine ⟨rfl, rfl, ?_⟩
    rw [show evFn Try.prog false env46 64 Try.f41 [AV.agg [.float a0_0, .float a0_1]] [] endP = bif !!s_ref02_End_0 (s_ref02_Length_0 a0_0 a0_1) then bif fle (s_ref02_Length_0 a0_0 a0_1) 0 then endP (AV.tup [AV.agg [AV.float 0, AV.float 0], AV.bool false]) [] else endP (AV.tup [AV.agg [AV.float (s_ref02_Vec_0 (fdiv a0_0 (s_ref02_Length_0 a0_0 a0_1)) (fdiv a0_1 (s_ref02_Length_0 a0_0 a0_1))), AV.float (s_ref02_Vec_1 (fdiv a0_0 (s_ref02_Length_0 a0_0 a0_1)) (fdiv a0_1 (s_ref02_Length_0 a0_0 a0_1)))], AV.bool true]) [] else endP (AV.tup [AV.agg [AV.float 0, AV.float 0], AV.bool false]) [] from by kernel_rfl]
    refine node_eq (fun h0 => ?_) (fun h0 => ?_)
    · skip
      refine node_eq (fun h1 => ?_) (fun h1 => ?_)
      · skip
        first | (simp only [endP, s_ref02_Unit_0, s_ref02_Unit_1, s_ref02_Unit_2, h1, h0]; done) | (simp only [endP, s_ref02_Unit_0, s_ref02_Unit_1, s_ref02_Unit_2, h1, h0]; rfl) | (simp only [endP, s_ref02_Unit_0, s_ref02_Unit_1, s_ref02_Unit_2, h1, h0, cond_true, cond_false, Bool.true_and, Bool.false_and, Bool.and_true, Bool.and_false, Bool.true_or, Bool.false_or, Bool.or_true, Bool.or_false, Bool.not_true, Bool.not_false]; done) | (simp_all; done) | simp_all [feq_self, endP, s_ref02_Unit_0, s_ref02_Unit_1, s_ref02_Unit_2, s_ref02_End_0, s_ref02_Length_0]
      · skip
        first | (simp only [endP, s_ref02_Unit_0, s_ref02_Unit_1, s_ref02_Unit_2, h1, h0]; done) | (simp only [endP, s_ref02_Unit_0, s_ref02_Unit_1, s_ref02_Unit_2, h1, h0]; rfl) | (simp only [endP, s_ref02_Unit_0, s_ref02_Unit_1, s_ref02_Unit_2, h1, h0, cond_true, cond_false, Bool.true_and, Bool.false_and, Bool.and_true, Bool.and_false, Bool.true_or, Bool.false_or, Bool.or_true, Bool.or_false, Bool.not_true, Bool.not_false]; done) | (simp_all; done) | simp_all [feq_self, endP, s_ref02_Unit_0, s_ref02_Unit_1, s_ref02_Unit_2, s_ref02_End_0, s_ref02_Length_0]
    · skip
      first | (simp only [endP, s_ref02_Unit_0, s_ref02_Unit_1, s_ref02_Unit_2, h0]; done) | (simp only [endP, s_ref02_Unit_0, s_ref02_Unit_1, s_ref02_Unit_2, h0]; rfl) | (simp only [endP, s_ref02_Unit_0, s_ref02_Unit_1, s_ref02_Unit_2, h0, cond_true, cond_false, Bool.true_and, Bool.false_and, Bool.and_true, Bool.and_false, Bool.true_or, Bool.false_or, Bool.or_true, Bool.or_false, Bool.not_true, Bool.not_false]; done) | (simp_all; done) | simp_all [feq_self, endP, s_ref02_Unit_0, s_ref02_Unit_1, s_ref02_Unit_2, s_ref02_End_0, s_ref02_Length_0]
  · cases h
noncomputable def rs47 : List (FuncId × RF) := (41, pureF S_ref02_Unit) :: rs46
noncomputable def env47 : Env := mkEnv xs rs47 ws0
theorem rs47_ok : All (ROk Try.prog false) rs47 := All.cons t_ref02_Unit rs46_ok
theorem env47_ok : env47.Ok Try.prog false := mkEnv_ok xs_ok rs47_ok ws0_ok
-- tumble/tumbleref02.Left
noncomputable def s_ref02_Left_0 (a0_0 : Nat) (a0_1 : Nat) : Nat := s_ref02_Vec_0 (fneg a0_1) a0_0
noncomputable def s_ref02_Left_1 (a0_0 : Nat) (a0_1 : Nat) : Nat := s_ref02_Vec_1 (fneg a0_1) a0_0
noncomputable def S_ref02_Left : List AV → Option AV
  | [AV.agg [.float a0_0, .float a0_1]] => some (AV.agg [AV.float (s_ref02_Left_0 a0_0 a0_1), AV.float (s_ref02_Left_1 a0_0 a0_1)])
  | _ => none
theorem t_ref02_Left : ROk Try.prog false (42, pureF S_ref02_Left) := ROk.pure (N := 64) env47_ok Try.func42 Try.call42 fun args v h => by
  unfold S_ref02_Left at h
  split at h
  · rename_i a0_0 a0_1
    cases h
    exact ⟨rfl, rfl, by kernel_rfl⟩
  · cases h
noncomputable def rs48 : List (FuncId × RF) := (42, pureF S_ref02_Left) :: rs47
noncomputable def env48 : Env := mkEnv xs rs48 ws0
theorem rs48_ok : All (ROk Try.prog false) rs48 := All.cons t_ref02_Left rs47_ok
theorem env48_ok : env48.Ok Try.prog false := mkEnv_ok xs_ok rs48_ok ws0_ok
-- tumble/vec.Right
noncomputable def s_vec_Right_0 (a0_0 : Nat) (a0_1 : Nat) : Nat := s_vec_Left_0 (s_vec_Left_0 (s_vec_Left_0 a0_0 a0_1) (s_vec_Left_1 a0_0 a0_1)) (s_vec_Left_1 (s_vec_Left_0 a0_0 a0_1) (s_vec_Left_1 a0_0 a0_1))
noncomputable def s_vec_Right_1 (a0_0 : Nat) (a0_1 : Nat) : Nat := s_vec_Left_1 (s_vec_Left_0 (s_vec_Left_0 a0_0 a0_1) (s_vec_Left_1 a0_0 a0_1)) (s_vec_Left_1 (s_vec_Left_0 a0_0 a0_1) (s_vec_Left_1 a0_0 a0_1))
noncomputable def S_vec_Right : List AV → Option AV
  | [AV.agg [.float a0_0, .float a0_1]] => some (AV.agg [AV.float (s_vec_Right_0 a0_0 a0_1), AV.float (s_vec_Right_1 a0_0 a0_1)])
  | _ => none
theorem t_vec_Right : ROk Try.prog false (43, pureF S_vec_Right) := ROk.pure (N := 64) env48_ok Try.func43 Try.call43 fun args v h => by
  unfold S_vec_Right at h
  split at h
  · rename_i a0_0 a0_1
    cases h
    exact ⟨rfl, rfl, by kernel_rfl⟩
  · cases h
noncomputable def rs49 : List (FuncId × RF) := (43, pureF S_vec_Right) :: rs48
noncomputable def env49 : Env := mkEnv xs rs49 ws0
theorem rs49_ok : All (ROk Try.prog false) rs49 := All.cons t_vec_Right rs48_ok
theorem env49_ok : env49.Ok Try.prog false := mkEnv_ok xs_ok rs49_ok ws0_ok
-- tumble/tumbleref02.Right
noncomputable def s_ref02_Right_0 (a0_0 : Nat) (a0_1 : Nat) : Nat := s_ref02_Vec_0 a0_1 (fneg a0_0)
noncomputable def s_ref02_Right_1 (a0_0 : Nat) (a0_1 : Nat) : Nat := s_ref02_Vec_1 a0_1 (fneg a0_0)
noncomputable def S_ref02_Right : List AV → Option AV
  | [AV.agg [.float a0_0, .float a0_1]] => some (AV.agg [AV.float (s_ref02_Right_0 a0_0 a0_1), AV.float (s_ref02_Right_1 a0_0 a0_1)])
  | _ => none
theorem t_ref02_Right : ROk Try.prog false (44, pureF S_ref02_Right) := ROk.pure (N := 64) env49_ok Try.func44 Try.call44 fun args v h => by
  unfold S_ref02_Right at h
  split at h
  · rename_i a0_0 a0_1
    cases h
    exact ⟨rfl, rfl, by kernel_rfl⟩
  · cases h
noncomputable def rs50 : List (FuncId × RF) := (44, pureF S_ref02_Right) :: rs49
noncomputable def env50 : Env := mkEnv xs rs50 ws0
theorem rs50_ok : All (ROk Try.prog false) rs50 := All.cons t_ref02_Right rs49_ok
theorem env50_ok : env50.Ok Try.prog false := mkEnv_ok xs_ok rs50_ok ws0_ok
-- tumble/vec.Spin
noncomputable def s_vec_Spin_0 (a0_0 : Nat) (a1_0 : Nat) (a1_1 : Nat) : Nat := fneg (fmul a0_0 a1_1)
noncomputable def s_vec_Spin_1 (a0_0 : Nat) (a1_0 : Nat) (a1_1 : Nat) : Nat := fmul a0_0 a1_0
noncomputable def S_vec_Spin : List AV → Option AV
  | [AV.float a0_0, AV.agg [.float a1_0, .float a1_1]] => some (AV.agg [AV.float (s_vec_Spin_0 a0_0 a1_0 a1_1), AV.float (s_vec_Spin_1 a0_0 a1_0 a1_1)])
  | _ => none
theorem t_vec_Spin : ROk Try.prog false (45, pureF S_vec_Spin) := ROk.pure (N := 64) env50_ok Try.func45 Try.call45 fun args v h => by
  unfold S_vec_Spin at h
  split at h
  · rename_i a0_0 a1_0 a1_1
    cases h
    exact ⟨rfl, rfl, by kernel_rfl⟩
  · cases h
noncomputable def rs51 : List (FuncId × RF) := (45, pureF S_vec_Spin) :: rs50
noncomputable def env51 : Env := mkEnv xs rs51 ws0
theorem rs51_ok : All (ROk Try.prog false) rs51 := All.cons t_vec_Spin rs50_ok
theorem env51_ok : env51.Ok Try.prog false := mkEnv_ok xs_ok rs51_ok ws0_ok
-- tumble/tumbleref02.Spin
noncomputable def s_ref02_Spin_0 (a0_0 : Nat) (a1_0 : Nat) (a1_1 : Nat) : Nat := s_ref02_Vec_0 (fneg (fmul a0_0 a1_1)) (fmul a0_0 a1_0)
noncomputable def s_ref02_Spin_1 (a0_0 : Nat) (a1_0 : Nat) (a1_1 : Nat) : Nat := s_ref02_Vec_1 (fneg (fmul a0_0 a1_1)) (fmul a0_0 a1_0)
noncomputable def S_ref02_Spin : List AV → Option AV
  | [AV.float a0_0, AV.agg [.float a1_0, .float a1_1]] => some (AV.agg [AV.float (s_ref02_Spin_0 a0_0 a1_0 a1_1), AV.float (s_ref02_Spin_1 a0_0 a1_0 a1_1)])
  | _ => none
theorem t_ref02_Spin : ROk Try.prog false (46, pureF S_ref02_Spin) := ROk.pure (N := 64) env51_ok Try.func46 Try.call46 fun args v h => by
  unfold S_ref02_Spin at h
  split at h
  · rename_i a0_0 a1_0 a1_1
    cases h
    exact ⟨rfl, rfl, by kernel_rfl⟩
  · cases h
noncomputable def rs52 : List (FuncId × RF) := (46, pureF S_ref02_Spin) :: rs51
noncomputable def env52 : Env := mkEnv xs rs52 ws0
theorem rs52_ok : All (ROk Try.prog false) rs52 := All.cons t_ref02_Spin rs51_ok
theorem env52_ok : env52.Ok Try.prog false := mkEnv_ok xs_ok rs52_ok ws0_ok
-- tumble/tumblelaw02.VecTurned
noncomputable def T_law02_VecTurned (a0_0 : Nat) (a0_1 : Nat) (a1_0 : Nat) : Option Res := bif s_law02_is_0 (s_vec_Left_0 a0_0 a0_1) (s_vec_Left_1 a0_0 a0_1) (s_ref02_Left_0 a0_0 a0_1) (s_ref02_Left_1 a0_0 a0_1) then bif s_law02_is_0 (s_vec_Right_0 a0_0 a0_1) (s_vec_Right_1 a0_0 a0_1) (s_ref02_Right_0 a0_0 a0_1) (s_ref02_Right_1 a0_0 a0_1) then bif s_law02_is_0 (s_vec_Spin_0 a1_0 a0_0 a0_1) (s_vec_Spin_1 a1_0 a0_0 a0_1) (s_ref02_Spin_0 a1_0 a0_0 a0_1) (s_ref02_Spin_1 a1_0 a0_0 a0_1) then bif s_law02_is_0 (s_vec_Unit_0 a0_0 a0_1) (s_vec_Unit_1 a0_0 a0_1) (s_ref02_Unit_0 a0_0 a0_1) (s_ref02_Unit_1 a0_0 a0_1) then endP (AV.bool (s_vec_Unit_2 a0_0 a0_1 == s_ref02_Unit_2 a0_0 a0_1)) [] else endP (AV.bool false) [] else endP (AV.bool false) [] else endP (AV.bool false) [] else endP (AV.bool false) []
theorem tree_law02_VecTurned (a0_0 : Nat) (a0_1 : Nat) (a1_0 : Nat) : evFn Try.prog false env52 64 Try.f7 [AV.agg [.float a0_0, .float a0_1], AV.float a1_0] [] endP = T_law02_VecTurned a0_0 a0_1 a1_0 := by kernel_rfl
-- tumble/tumblelaw02.VecRound
noncomputable def T_law02_VecRound (a0_0 : Nat) (a0_1 : Nat) (a1_0 : Nat) (a1_1 : Nat) : Option Res := bif !!s_law02_one_0 (s_vec_Dot_0 a0_0 a0_1 a1_0 a1_1) (s_vec_Dot_0 a1_0 a1_1 a0_0 a0_1) then bif !!s_law02_one_0 (s_vec_Length_0 (s_vec_Left_0 a0_0 a0_1) (s_vec_Left_1 a0_0 a0_1)) (s_vec_Length_0 a0_0 a0_1) then bif !!s_law02_one_0 (s_vec_Length_0 (s_vec_Right_0 a0_0 a0_1) (s_vec_Right_1 a0_0 a0_1)) (s_vec_Length_0 a0_0 a0_1) then bif !s_law02_one_0 (s_vec_Length_0 (s_vec_Neg_0 a0_0 a0_1) (s_vec_Neg_1 a0_0 a0_1)) (s_vec_Length_0 a0_0 a0_1) then endP (AV.bool false) [] else bif !!s_law02_is_0 (s_vec_Left_0 (s_vec_Left_0 (s_vec_Left_0 (s_vec_Left_0 a0_0 a0_1) (s_vec_Left_1 a0_0 a0_1)) (s_vec_Left_1 (s_vec_Left_0 a0_0 a0_1) (s_vec_Left_1 a0_0 a0_1))) (s_vec_Left_1 (s_vec_Left_0 (s_vec_Left_0 a0_0 a0_1) (s_vec_Left_1 a0_0 a0_1)) (s_vec_Left_1 (s_vec_Left_0 a0_0 a0_1) (s_vec_Left_1 a0_0 a0_1)))) (s_vec_Left_1 (s_vec_Left_0 (s_vec_Left_0 (s_vec_Left_0 a0_0 a0_1) (s_vec_Left_1 a0_0 a0_1)) (s_vec_Left_1 (s_vec_Left_0 a0_0 a0_1) (s_vec_Left_1 a0_0 a0_1))) (s_vec_Left_1 (s_vec_Left_0 (s_vec_Left_0 a0_0 a0_1) (s_vec_Left_1 a0_0 a0_1)) (s_vec_Left_1 (s_vec_Left_0 a0_0 a0_1) (s_vec_Left_1 a0_0 a0_1)))) a0_0 a0_1 then bif !!s_law02_is_0 (s_vec_Right_0 (s_vec_Left_0 a0_0 a0_1) (s_vec_Left_1 a0_0 a0_1)) (s_vec_Right_1 (s_vec_Left_0 a0_0 a0_1) (s_vec_Left_1 a0_0 a0_1)) a0_0 a0_1 then bif !s_law02_is_0 (s_vec_Left_0 (s_vec_Left_0 a0_0 a0_1) (s_vec_Left_1 a0_0 a0_1)) (s_vec_Left_1 (s_vec_Left_0 a0_0 a0_1) (s_vec_Left_1 a0_0 a0_1)) (s_vec_Neg_0 a0_0 a0_1) (s_vec_Neg_1 a0_0 a0_1) then endP (AV.bool false) [] else bif !!(!feq (s_vec_Cross_0 a0_0 a0_1 a1_0 a1_1) (s_vec_Cross_0 a0_0 a0_1 a1_0 a1_1)) == !feq (s_vec_Cross_0 a1_0 a1_1 a0_0 a0_1) (s_vec_Cross_0 a1_0 a1_1 a0_0 a0_1) then bif feq (s_vec_Cross_0 a0_0 a0_1 a1_0 a1_1) (s_vec_Cross_0 a0_0 a0_1 a1_0 a1_1) then bif !feq (s_vec_Cross_0 a0_0 a0_1 a1_0 a1_1) (fneg (s_vec_Cross_0 a1_0 a1_1 a0_0 a0_1)) then endP (AV.bool false) [] else bif s_vec_Finite_0 a0_0 a0_1 then bif s_vec_Finite_0 a1_0 a1_1 then bif !!(!feq (s_vec_Cross_0 a0_0 a0_1 a1_0 a1_1) (s_vec_Cross_0 a0_0 a0_1 a1_0 a1_1)) == !feq (s_vec_Dot_0 (s_vec_Left_0 a0_0 a0_1) (s_vec_Left_1 a0_0 a0_1) a1_0 a1_1) (s_vec_Dot_0 (s_vec_Left_0 a0_0 a0_1) (s_vec_Left_1 a0_0 a0_1) a1_0 a1_1) then bif feq (s_vec_Cross_0 a0_0 a0_1 a1_0 a1_1) (s_vec_Cross_0 a0_0 a0_1 a1_0 a1_1) then bif !feq (s_vec_Cross_0 a0_0 a0_1 a1_0 a1_1) (s_vec_Dot_0 (s_vec_Left_0 a0_0 a0_1) (s_vec_Left_1 a0_0 a0_1) a1_0 a1_1) then endP (AV.bool false) [] else bif !!feq (fsub (s_vec_Square_0 a0_0 a0_1) (s_vec_Square_0 a0_0 a0_1)) 0 then endP (AV.bool (feq (s_vec_Dot_0 a0_0 a0_1 (s_vec_Left_0 a0_0 a0_1) (s_vec_Left_1 a0_0 a0_1)) 0)) [] else endP (AV.bool true) [] else bif !!feq (fsub (s_vec_Square_0 a0_0 a0_1) (s_vec_Square_0 a0_0 a0_1)) 0 then endP (AV.bool (feq (s_vec_Dot_0 a0_0 a0_1 (s_vec_Left_0 a0_0 a0_1) (s_vec_Left_1 a0_0 a0_1)) 0)) [] else endP (AV.bool true) [] else endP (AV.bool false) [] else bif !!feq (fsub (s_vec_Square_0 a0_0 a0_1) (s_vec_Square_0 a0_0 a0_1)) 0 then endP (AV.bool (feq (s_vec_Dot_0 a0_0 a0_1 (s_vec_Left_0 a0_0 a0_1) (s_vec_Left_1 a0_0 a0_1)) 0)) [] else endP (AV.bool true) [] else bif !!feq (fsub (s_vec_Square_0 a0_0 a0_1) (s_vec_Square_0 a0_0 a0_1)) 0 then endP (AV.bool (feq (s_vec_Dot_0 a0_0 a0_1 (s_vec_Left_0 a0_0 a0_1) (s_vec_Left_1 a0_0 a0_1)) 0)) [] else endP (AV.bool true) [] else bif s_vec_Finite_0 a0_0 a0_1 then bif s_vec_Finite_0 a1_0 a1_1 then bif !!(!feq (s_vec_Cross_0 a0_0 a0_1 a1_0 a1_1) (s_vec_Cross_0 a0_0 a0_1 a1_0 a1_1)) == !feq (s_vec_Dot_0 (s_vec_Left_0 a0_0 a0_1) (s_vec_Left_1 a0_0 a0_1) a1_0 a1_1) (s_vec_Dot_0 (s_vec_Left_0 a0_0 a0_1) (s_vec_Left_1 a0_0 a0_1) a1_0 a1_1) then bif feq (s_vec_Cross_0 a0_0 a0_1 a1_0 a1_1) (s_vec_Cross_0 a0_0 a0_1 a1_0 a1_1) then bif !feq (s_vec_Cross_0 a0_0 a0_1 a1_0 a1_1) (s_vec_Dot_0 (s_vec_Left_0 a0_0 a0_1) (s_vec_Left_1 a0_0 a0_1) a1_0 a1_1) then endP (AV.bool false) [] else bif !!feq (fsub (s_vec_Square_0 a0_0 a0_1) (s_vec_Square_0 a0_0 a0_1)) 0 then endP (AV.bool (feq (s_vec_Dot_0 a0_0 a0_1 (s_vec_Left_0 a0_0 a0_1) (s_vec_Left_1 a0_0 a0_1)) 0)) [] else endP (AV.bool true) [] else bif !!feq (fsub (s_vec_Square_0 a0_0 a0_1) (s_vec_Square_0 a0_0 a0_1)) 0 then endP (AV.bool (feq (s_vec_Dot_0 a0_0 a0_1 (s_vec_Left_0 a0_0 a0_1) (s_vec_Left_1 a0_0 a0_1)) 0)) [] else endP (AV.bool true) [] else endP (AV.bool false) [] else bif !!feq (fsub (s_vec_Square_0 a0_0 a0_1) (s_vec_Square_0 a0_0 a0_1)) 0 then endP (AV.bool (feq (s_vec_Dot_0 a0_0 a0_1 (s_vec_Left_0 a0_0 a0_1) (s_vec_Left_1 a0_0 a0_1)) 0)) [] else endP (AV.bool true) [] else bif !!feq (fsub (s_vec_Square_0 a0_0 a0_1) (s_vec_Square_0 a0_0 a0_1)) 0 then endP (AV.bool (feq (s_vec_Dot_0 a0_0 a0_1 (s_vec_Left_0 a0_0 a0_1) (s_vec_Left_1 a0_0 a0_1)) 0)) [] else endP (AV.bool true) [] else endP (AV.bool false) [] else endP (AV.bool false) [] else endP (AV.bool false) [] else endP (AV.bool false) [] else endP (AV.bool false) [] else endP (AV.bool false) []
theorem tree_law02_VecRound (a0_0 : Nat) (a0_1 : Nat) (a1_0 : Nat) (a1_1 : Nat) : evFn Try.prog false env52 64 Try.f8 [AV.agg [.float a0_0, .float a0_1], AV.agg [.float a1_0, .float a1_1]] [] endP = T_law02_VecRound a0_0 a0_1 a1_0 a1_1 := by kernel_rfl
end Go.Proofs.Ytjikamcdcjaibaa
