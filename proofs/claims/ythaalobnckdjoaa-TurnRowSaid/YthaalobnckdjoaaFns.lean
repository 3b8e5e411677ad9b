/- The contracts of the functions that these laws reach, printed by a program of this work: each says what the Go function gives, up to which NaN. -/
import Derived.Test.YthaalobnckdjoaaProg
import Derived.KernelRfl
import Derived.Test.YthaalobnckdjoaaSimExact
set_option linter.unusedVariables false
set_option linter.unusedSimpArgs false
namespace Go.Proofs.Ythaalobnckdjoaa
open Go.Sim
noncomputable def xs : List (FuncId × XF) := [(44, xF false .sqrt), (37, xF false .tobits), (22, xF false .frombits)]
noncomputable def xxs : List (FuncId × XF) := [(44, xF true .sqrt), (37, xF true .tobits), (22, xF true .frombits)]
noncomputable def xenv : Env := mkEnv xxs [] []
theorem xxs_ok : All (XOk Try.prog true) xxs := All.cons (x_ok (f := 44) .sqrt fun args w => run_callFunc_extern Try.func44 (by kernel_rfl) (by kernel_rfl) (by kernel_rfl) (by kernel_rfl) args w)
  (All.cons (x_ok (f := 37) .tobits fun args w => run_callFunc_extern Try.func37 (by kernel_rfl) (by kernel_rfl) (by kernel_rfl) (by kernel_rfl) args w)
  (All.cons (x_ok (f := 22) .frombits fun args w => run_callFunc_extern Try.func22 (by kernel_rfl) (by kernel_rfl) (by kernel_rfl) (by kernel_rfl) args w)
  (All.nil)))
theorem xenv_ok : xenv.Ok Try.prog true := mkEnv_ok xxs_ok All.nil All.nil
theorem xs_ok : All (XOk Try.prog false) xs := All.cons (x_ok (f := 44) .sqrt fun args w => run_callFunc_extern Try.func44 (by kernel_rfl) (by kernel_rfl) (by kernel_rfl) (by kernel_rfl) args w)
  (All.cons (x_ok (f := 37) .tobits fun args w => run_callFunc_extern Try.func37 (by kernel_rfl) (by kernel_rfl) (by kernel_rfl) (by kernel_rfl) args w)
  (All.cons (x_ok (f := 22) .frombits fun args w => run_callFunc_extern Try.func22 (by kernel_rfl) (by kernel_rfl) (by kernel_rfl) (by kernel_rfl) args w)
  (All.nil)))
noncomputable def rs0 : List (FuncId × RF) := []
noncomputable def ws0 : List (FuncId × WF) := []
noncomputable def env0 : Env := mkEnv xs rs0 ws0
theorem rs0_ok : All (ROk Try.prog false) rs0 := All.nil
theorem ws0_ok : All (WOk Try.prog false) ws0 := All.nil
theorem env0_ok : env0.Ok Try.prog false := mkEnv_ok xs_ok rs0_ok ws0_ok
-- tumble/turn.square
noncomputable def s_turn_square_0 (a0_0r : Nat) (a0_0i : Nat) : Nat := fadd (fmul a0_0r a0_0r) (fmul a0_0i a0_0i)
noncomputable def S_turn_square : List AV → Option AV
  | [AV.complex a0_0r a0_0i] => some (AV.float (s_turn_square_0 a0_0r a0_0i))
  | _ => none
theorem t_turn_square : ROk Try.prog false (36, pureF S_turn_square) := ROk.pure (N := 64) env0_ok Try.func36 Try.call36 fun args v h => by
  unfold S_turn_square at h
  split at h
  · rename_i a0_0r a0_0i
    cases h
    exact ⟨rfl, rfl, by kernel_rfl⟩
  · cases h
noncomputable def rs1 : List (FuncId × RF) := (36, pureF S_turn_square) :: rs0
noncomputable def env1 : Env := mkEnv xs rs1 ws0
theorem rs1_ok : All (ROk Try.prog false) rs1 := All.cons t_turn_square rs0_ok
theorem env1_ok : env1.Ok Try.prog false := mkEnv_ok xs_ok rs1_ok ws0_ok
-- math.Sqrt
noncomputable def s_math_Sqrt_0 (a0_0 : Nat) : Nat := fsqrt a0_0
noncomputable def S_math_Sqrt : List AV → Option AV
  | [AV.float a0_0] => some (AV.float (s_math_Sqrt_0 a0_0))
  | _ => none
theorem t_math_Sqrt : ROk Try.prog false (39, pureF S_math_Sqrt) := ROk.pure (N := 64) env1_ok Try.func39 Try.call39 fun args v h => by
  unfold S_math_Sqrt at h
  split at h
  · rename_i a0_0
    cases h
    exact ⟨rfl, rfl, by kernel_rfl⟩
  · cases h
noncomputable def rs2 : List (FuncId × RF) := (39, pureF S_math_Sqrt) :: rs1
noncomputable def env2 : Env := mkEnv xs rs2 ws0
theorem rs2_ok : All (ROk Try.prog false) rs2 := All.cons t_math_Sqrt rs1_ok
theorem env2_ok : env2.Ok Try.prog false := mkEnv_ok xs_ok rs2_ok ws0_ok
-- tumble/turn.Check
noncomputable def s_turn_Check_0 (a0_0r : Nat) (a0_0i : Nat) : Int := bif fle 4607182418800009216 (s_turn_square_0 a0_0r a0_0i) then bif fle (s_turn_square_0 a0_0r a0_0i) 4607182418800021504 then 0 else 30 else 30
noncomputable def S_turn_Check : List AV → Option AV
  | [AV.complex a0_0r a0_0i] => some (AV.int IntKind.i64 (s_turn_Check_0 a0_0r a0_0i))
  | _ => none
theorem t_turn_Check : ROk Try.prog false (11, pureF S_turn_Check) := ROk.pure (N := 64) env2_ok Try.func11 Try.call11 fun args v h => by
  unfold S_turn_Check at h
  split at h
  · rename_i a0_0r a0_0i
    cases h
    refine ⟨rfl, rfl, ?_⟩
    rw [show evFn Try.prog false env2 64 Try.f11 [AV.complex a0_0r a0_0i] [] endP = bif fle 4607182418800009216 (s_turn_square_0 a0_0r a0_0i) then bif fle (s_turn_square_0 a0_0r a0_0i) 4607182418800021504 then endP (AV.int IntKind.i64 0) [] else endP (AV.int IntKind.i64 30) [] else endP (AV.int IntKind.i64 30) [] from by kernel_rfl]
    refine node_eq (fun h0 => ?_) (fun h0 => ?_)
    · skip
      refine node_eq (fun h1 => ?_) (fun h1 => ?_)
      · skip
        first | (simp only [endP, s_turn_Check_0, h1, h0]; done) | (simp only [endP, s_turn_Check_0, h1, h0]; rfl) | (simp only [endP, s_turn_Check_0, h1, h0, cond_true, cond_false, Bool.true_and, Bool.false_and, Bool.and_true, Bool.and_false, Bool.true_or, Bool.false_or, Bool.or_true, Bool.or_false, Bool.not_true, Bool.not_false]; done) | (simp_all; done) | simp_all [feq_self, endP, s_turn_Check_0, s_turn_square_0]
      · skip
        first | (simp only [endP, s_turn_Check_0, h1, h0]; done) | (simp only [endP, s_turn_Check_0, h1, h0]; rfl) | (simp only [endP, s_turn_Check_0, h1, h0, cond_true, cond_false, Bool.true_and, Bool.false_and, Bool.and_true, Bool.and_false, Bool.true_or, Bool.false_or, Bool.or_true, Bool.or_false, Bool.not_true, Bool.not_false]; done) | (simp_all; done) | simp_all [feq_self, endP, s_turn_Check_0, s_turn_square_0]
    · skip
      first | (simp only [endP, s_turn_Check_0, h0]; done) | (simp only [endP, s_turn_Check_0, h0]; rfl) | (simp only [endP, s_turn_Check_0, h0, cond_true, cond_false, Bool.true_and, Bool.false_and, Bool.and_true, Bool.and_false, Bool.true_or, Bool.false_or, Bool.or_true, Bool.or_false, Bool.not_true, Bool.not_false]; done) | (simp_all; done) | simp_all [feq_self, endP, s_turn_Check_0, s_turn_square_0]
  · cases h
noncomputable def rs3 : List (FuncId × RF) := (11, pureF S_turn_Check) :: rs2
noncomputable def env3 : Env := mkEnv xs rs3 ws0
theorem rs3_ok : All (ROk Try.prog false) rs3 := All.cons t_turn_Check rs2_ok
theorem env3_ok : env3.Ok Try.prog false := mkEnv_ok xs_ok rs3_ok ws0_ok
-- tumble/turn.Unit
noncomputable def s_turn_Unit_0 (a0_0r : Nat) (a0_0i : Nat) : Nat := bif !ieq (s_turn_Check_0 (fdiv a0_0r (s_math_Sqrt_0 (s_turn_square_0 a0_0r a0_0i))) (fdiv a0_0i (s_math_Sqrt_0 (s_turn_square_0 a0_0r a0_0i)))) 0 then 0 else fdiv a0_0r (s_math_Sqrt_0 (s_turn_square_0 a0_0r a0_0i))
noncomputable def s_turn_Unit_1 (a0_0r : Nat) (a0_0i : Nat) : Nat := bif !ieq (s_turn_Check_0 (fdiv a0_0r (s_math_Sqrt_0 (s_turn_square_0 a0_0r a0_0i))) (fdiv a0_0i (s_math_Sqrt_0 (s_turn_square_0 a0_0r a0_0i)))) 0 then 0 else fdiv a0_0i (s_math_Sqrt_0 (s_turn_square_0 a0_0r a0_0i))
noncomputable def s_turn_Unit_2 (a0_0r : Nat) (a0_0i : Nat) : Bool := !!ieq (s_turn_Check_0 (fdiv a0_0r (s_math_Sqrt_0 (s_turn_square_0 a0_0r a0_0i))) (fdiv a0_0i (s_math_Sqrt_0 (s_turn_square_0 a0_0r a0_0i)))) 0
noncomputable def S_turn_Unit : List AV → Option AV
  | [AV.complex a0_0r a0_0i] => some (AV.tup [AV.complex (s_turn_Unit_0 a0_0r a0_0i) (s_turn_Unit_1 a0_0r a0_0i), AV.bool (s_turn_Unit_2 a0_0r a0_0i)])
  | _ => none
theorem t_turn_Unit : ROk Try.prog false (24, pureF S_turn_Unit) := ROk.pure (N := 64) env3_ok Try.func24 Try.call24 fun args v h => by
  unfold S_turn_Unit at h
  split at h
  · rename_i a0_0r a0_0i
    cases h
    refine ⟨rfl, rfl, ?_⟩
    rw [show evFn Try.prog false env3 64 Try.f24 [AV.complex a0_0r a0_0i] [] endP = bif !ieq (s_turn_Check_0 (fdiv a0_0r (s_math_Sqrt_0 (s_turn_square_0 a0_0r a0_0i))) (fdiv a0_0i (s_math_Sqrt_0 (s_turn_square_0 a0_0r a0_0i)))) 0 then endP (AV.tup [AV.complex 0 0, AV.bool false]) [] else endP (AV.tup [AV.complex (fdiv a0_0r (s_math_Sqrt_0 (s_turn_square_0 a0_0r a0_0i))) (fdiv a0_0i (s_math_Sqrt_0 (s_turn_square_0 a0_0r a0_0i))), AV.bool true]) [] from by kernel_rfl]
    refine node_eq (fun h0 => ?_) (fun h0 => ?_)
    · skip
      first | (simp only [endP, s_turn_Unit_0, s_turn_Unit_1, s_turn_Unit_2, h0]; done) | (simp only [endP, s_turn_Unit_0, s_turn_Unit_1, s_turn_Unit_2, h0]; rfl) | (simp only [endP, s_turn_Unit_0, s_turn_Unit_1, s_turn_Unit_2, h0, cond_true, cond_false, Bool.true_and, Bool.false_and, Bool.and_true, Bool.and_false, Bool.true_or, Bool.false_or, Bool.or_true, Bool.or_false, Bool.not_true, Bool.not_false]; done) | (simp_all; done) | simp_all [feq_self, endP, s_turn_Unit_0, s_turn_Unit_1, s_turn_Unit_2, s_turn_Check_0, s_math_Sqrt_0, s_turn_square_0]
    · skip
      first | (simp only [endP, s_turn_Unit_0, s_turn_Unit_1, s_turn_Unit_2, h0]; done) | (simp only [endP, s_turn_Unit_0, s_turn_Unit_1, s_turn_Unit_2, h0]; rfl) | (simp only [endP, s_turn_Unit_0, s_turn_Unit_1, s_turn_Unit_2, h0, cond_true, cond_false, Bool.true_and, Bool.false_and, Bool.and_true, Bool.and_false, Bool.true_or, Bool.false_or, Bool.or_true, Bool.or_false, Bool.not_true, Bool.not_false]; done) | (simp_all; done) | simp_all [feq_self, endP, s_turn_Unit_0, s_turn_Unit_1, s_turn_Unit_2, s_turn_Check_0, s_math_Sqrt_0, s_turn_square_0]
  · cases h
noncomputable def rs4 : List (FuncId × RF) := (24, pureF S_turn_Unit) :: rs3
noncomputable def env4 : Env := mkEnv xs rs4 ws0
theorem rs4_ok : All (ROk Try.prog false) rs4 := All.cons t_turn_Unit rs3_ok
theorem env4_ok : env4.Ok Try.prog false := mkEnv_ok xs_ok rs4_ok ws0_ok
-- tumble/turn.One
noncomputable def s_turn_One_0  : Nat := 4607182418800017408
noncomputable def s_turn_One_1  : Nat := 0
noncomputable def S_turn_One : List AV → Option AV
  | [] => some (AV.complex (s_turn_One_0) (s_turn_One_1))
  | _ => none
theorem t_turn_One : ROk Try.prog false (14, pureF S_turn_One) := ROk.pure (N := 64) env4_ok Try.func14 Try.call14 fun args v h => by
  unfold S_turn_One at h
  split at h
  · skip
    cases h
    exact ⟨rfl, rfl, by kernel_rfl⟩
  · cases h
noncomputable def rs5 : List (FuncId × RF) := (14, pureF S_turn_One) :: rs4
noncomputable def env5 : Env := mkEnv xs rs5 ws0
theorem rs5_ok : All (ROk Try.prog false) rs5 := All.cons t_turn_One rs4_ok
theorem env5_ok : env5.Ok Try.prog false := mkEnv_ok xs_ok rs5_ok ws0_ok
-- tumble/turn.Quarter
noncomputable def s_turn_Quarter_0  : Nat := 0
noncomputable def s_turn_Quarter_1  : Nat := 4607182418800017408
noncomputable def S_turn_Quarter : List AV → Option AV
  | [] => some (AV.complex (s_turn_Quarter_0) (s_turn_Quarter_1))
  | _ => none
theorem t_turn_Quarter : ROk Try.prog false (13, pureF S_turn_Quarter) := ROk.pure (N := 64) env5_ok Try.func13 Try.call13 fun args v h => by
  unfold S_turn_Quarter at h
  split at h
  · skip
    cases h
    exact ⟨rfl, rfl, by kernel_rfl⟩
  · cases h
noncomputable def rs6 : List (FuncId × RF) := (13, pureF S_turn_Quarter) :: rs5
noncomputable def env6 : Env := mkEnv xs rs6 ws0
theorem rs6_ok : All (ROk Try.prog false) rs6 := All.cons t_turn_Quarter rs5_ok
theorem env6_ok : env6.Ok Try.prog false := mkEnv_ok xs_ok rs6_ok ws0_ok
-- math.Abs
noncomputable def S_math_Abs : List AV → Option AV
  | [AV.float a] => some (AV.float (fabs a))
  | _ => none
theorem t_math_Abs : ROk Try.prog false (16, pureF S_math_Abs) := exact1f (N := 64) xenv_ok Try.func16 Try.call16 fabs (fun args v h => by
    unfold S_math_Abs at h
    split at h
    · cases h; exact ⟨_, rfl, rfl⟩
    · cases h) fun b hb => ⟨_, by refine Eq.trans ?_ (abs_tree hb); kernel_rfl, (fabs_cn b).symm⟩
noncomputable def rs7 : List (FuncId × RF) := (16, pureF S_math_Abs) :: rs6
noncomputable def env7 : Env := mkEnv xs rs7 ws0
theorem rs7_ok : All (ROk Try.prog false) rs7 := All.cons t_math_Abs rs6_ok
theorem env7_ok : env7.Ok Try.prog false := mkEnv_ok xs_ok rs7_ok ws0_ok
-- math.IsInf
noncomputable def s_math_IsInf_0 (a0_0 : Nat) (a1_0 : Int) : Bool := bif ieq a1_0 0 then flt 9218868437227405311 (fabs a0_0) else bif ilt a1_0 0 then flt 9218868437227405311 (fneg a0_0) else flt 9218868437227405311 a0_0
noncomputable def S_math_IsInf : List AV → Option AV
  | [AV.float a0_0, AV.int .i64 a1_0] => some (AV.bool (s_math_IsInf_0 a0_0 a1_0))
  | _ => none
theorem t_math_IsInf : ROk Try.prog false (38, pureF S_math_IsInf) := ROk.pure (N := 64) env7_ok Try.func38 Try.call38 fun args v h => by
  unfold S_math_IsInf at h
  split at h
  · rename_i a0_0 a1_0
    cases h
    refine ⟨rfl, rfl, ?_⟩
    rw [show evFn Try.prog false env7 64 Try.f38 [AV.float a0_0, AV.int .i64 a1_0] [] endP = bif ieq a1_0 0 then endP (AV.bool (flt 9218868437227405311 (fabs a0_0))) [] else bif ilt a1_0 0 then endP (AV.bool (flt 9218868437227405311 (fneg a0_0))) [] else endP (AV.bool (flt 9218868437227405311 a0_0)) [] from by kernel_rfl]
    refine node_eq (fun h0 => ?_) (fun h0 => ?_)
    · skip
      first | (simp only [endP, s_math_IsInf_0, h0]; done) | (simp only [endP, s_math_IsInf_0, h0]; rfl) | (simp only [endP, s_math_IsInf_0, h0, cond_true, cond_false, Bool.true_and, Bool.false_and, Bool.and_true, Bool.and_false, Bool.true_or, Bool.false_or, Bool.or_true, Bool.or_false, Bool.not_true, Bool.not_false]; done) | (simp_all; done) | simp_all [feq_self, endP, s_math_IsInf_0]
    · skip
      refine node_eq (fun h1 => ?_) (fun h1 => ?_)
      · skip
        first | (simp only [endP, s_math_IsInf_0, h1, h0]; done) | (simp only [endP, s_math_IsInf_0, h1, h0]; rfl) | (simp only [endP, s_math_IsInf_0, h1, h0, cond_true, cond_false, Bool.true_and, Bool.false_and, Bool.and_true, Bool.and_false, Bool.true_or, Bool.false_or, Bool.or_true, Bool.or_false, Bool.not_true, Bool.not_false]; done) | (simp_all; done) | simp_all [feq_self, endP, s_math_IsInf_0]
      · skip
        first | (simp only [endP, s_math_IsInf_0, h1, h0]; done) | (simp only [endP, s_math_IsInf_0, h1, h0]; rfl) | (simp only [endP, s_math_IsInf_0, h1, h0, cond_true, cond_false, Bool.true_and, Bool.false_and, Bool.and_true, Bool.and_false, Bool.true_or, Bool.false_or, Bool.or_true, Bool.or_false, Bool.not_true, Bool.not_false]; done) | (simp_all; done) | simp_all [feq_self, endP, s_math_IsInf_0]
  · cases h
noncomputable def rs8 : List (FuncId × RF) := (38, pureF S_math_IsInf) :: rs7
noncomputable def env8 : Env := mkEnv xs rs8 ws0
theorem rs8_ok : All (ROk Try.prog false) rs8 := All.cons t_math_IsInf rs7_ok
theorem env8_ok : env8.Ok Try.prog false := mkEnv_ok xs_ok rs8_ok ws0_ok
-- tumble/turn.By
noncomputable def s_turn_By_0 (a0_0 : Nat) : Nat := bif s_math_IsInf_0 (fmul a0_0 a0_0) 1 then 13830554455654793216 else fdiv (fsub 4607182418800017408 (fmul a0_0 a0_0)) (fadd 4607182418800017408 (fmul a0_0 a0_0))
noncomputable def s_turn_By_1 (a0_0 : Nat) : Nat := bif s_math_IsInf_0 (fmul a0_0 a0_0) 1 then 0 else fdiv (fadd a0_0 a0_0) (fadd 4607182418800017408 (fmul a0_0 a0_0))
noncomputable def S_turn_By : List AV → Option AV
  | [AV.float a0_0] => some (AV.complex (s_turn_By_0 a0_0) (s_turn_By_1 a0_0))
  | _ => none
theorem t_turn_By : ROk Try.prog false (23, pureF S_turn_By) := ROk.pure (N := 64) env8_ok Try.func23 Try.call23 fun args v h => by
  unfold S_turn_By at h
  split at h
  · rename_i a0_0
    cases h
    refine ⟨rfl, rfl, ?_⟩
    rw [show evFn Try.prog false env8 64 Try.f23 [AV.float a0_0] [] endP = bif s_math_IsInf_0 (fmul a0_0 a0_0) 1 then endP (AV.complex 13830554455654793216 0) [] else endP (AV.complex (fdiv (fsub 4607182418800017408 (fmul a0_0 a0_0)) (fadd 4607182418800017408 (fmul a0_0 a0_0))) (fdiv (fadd a0_0 a0_0) (fadd 4607182418800017408 (fmul a0_0 a0_0)))) [] from by kernel_rfl]
    refine node_eq (fun h0 => ?_) (fun h0 => ?_)
    · skip
      first | (simp only [endP, s_turn_By_0, s_turn_By_1, h0]; done) | (simp only [endP, s_turn_By_0, s_turn_By_1, h0]; rfl) | (simp only [endP, s_turn_By_0, s_turn_By_1, h0, cond_true, cond_false, Bool.true_and, Bool.false_and, Bool.and_true, Bool.and_false, Bool.true_or, Bool.false_or, Bool.or_true, Bool.or_false, Bool.not_true, Bool.not_false]; done) | (simp_all; done) | simp_all [feq_self, endP, s_turn_By_0, s_turn_By_1, s_math_IsInf_0]
    · skip
      first | (simp only [endP, s_turn_By_0, s_turn_By_1, h0]; done) | (simp only [endP, s_turn_By_0, s_turn_By_1, h0]; rfl) | (simp only [endP, s_turn_By_0, s_turn_By_1, h0, cond_true, cond_false, Bool.true_and, Bool.false_and, Bool.and_true, Bool.and_false, Bool.true_or, Bool.false_or, Bool.or_true, Bool.or_false, Bool.not_true, Bool.not_false]; done) | (simp_all; done) | simp_all [feq_self, endP, s_turn_By_0, s_turn_By_1, s_math_IsInf_0]
  · cases h
noncomputable def rs9 : List (FuncId × RF) := (23, pureF S_turn_By) :: rs8
noncomputable def env9 : Env := mkEnv xs rs9 ws0
theorem rs9_ok : All (ROk Try.prog false) rs9 := All.cons t_turn_By rs8_ok
theorem env9_ok : env9.Ok Try.prog false := mkEnv_ok xs_ok rs9_ok ws0_ok
-- tumble/turn.Apply
noncomputable def s_turn_Apply_0 (a0_0r : Nat) (a0_0i : Nat) (a1_0 : Nat) (a1_1 : Nat) : Nat := fsub (fmul a0_0r a1_0) (fmul a0_0i a1_1)
noncomputable def s_turn_Apply_1 (a0_0r : Nat) (a0_0i : Nat) (a1_0 : Nat) (a1_1 : Nat) : Nat := fadd (fmul a0_0i a1_0) (fmul a0_0r a1_1)
noncomputable def S_turn_Apply : List AV → Option AV
  | [AV.complex a0_0r a0_0i, AV.agg [.float a1_0, .float a1_1]] => some (AV.agg [AV.float (s_turn_Apply_0 a0_0r a0_0i a1_0 a1_1), AV.float (s_turn_Apply_1 a0_0r a0_0i a1_0 a1_1)])
  | _ => none
theorem t_turn_Apply : ROk Try.prog false (17, pureF S_turn_Apply) := ROk.pure (N := 64) env9_ok Try.func17 Try.call17 fun args v h => by
  unfold S_turn_Apply at h
  split at h
  · rename_i a0_0r a0_0i a1_0 a1_1
    cases h
    exact ⟨rfl, rfl, by kernel_rfl⟩
  · cases h
noncomputable def rs10 : List (FuncId × RF) := (17, pureF S_turn_Apply) :: rs9
noncomputable def env10 : Env := mkEnv xs rs10 ws0
theorem rs10_ok : All (ROk Try.prog false) rs10 := All.cons t_turn_Apply rs9_ok
theorem env10_ok : env10.Ok Try.prog false := mkEnv_ok xs_ok rs10_ok ws0_ok
-- tumble/turn.side
noncomputable def s_turn_side_0 (a0_0r : Nat) (a0_0i : Nat) : Int := bif !!feq a0_0r a0_0r then bif !feq a0_0i a0_0i then 2 else bif !flt 0 a0_0i then bif feq a0_0i 0 then bif fle 0 a0_0r then 0 else 1 else 1 else 0 else 2
noncomputable def S_turn_side : List AV → Option AV
  | [AV.complex a0_0r a0_0i] => some (AV.int IntKind.i64 (s_turn_side_0 a0_0r a0_0i))
  | _ => none
theorem t_turn_side : ROk Try.prog false (40, pureF S_turn_side) := ROk.pure (N := 64) env10_ok Try.func40 Try.call40 fun args v h => by
  unfold S_turn_side at h
  split at h
  · rename_i a0_0r a0_0i
    cases h
    refine ⟨rfl, rfl, ?_⟩
    rw [show evFn Try.prog false env10 64 Try.f40 [AV.complex a0_0r a0_0i] [] endP = bif !!feq a0_0r a0_0r then bif !feq a0_0i a0_0i then endP (AV.int IntKind.i64 2) [] else bif !flt 0 a0_0i then bif feq a0_0i 0 then bif fle 0 a0_0r then endP (AV.int IntKind.i64 0) [] else endP (AV.int IntKind.i64 1) [] else endP (AV.int IntKind.i64 1) [] else endP (AV.int IntKind.i64 0) [] else endP (AV.int IntKind.i64 2) [] from by kernel_rfl]
    refine node_eq (fun h0 => ?_) (fun h0 => ?_)
    · skip
      refine node_eq (fun h1 => ?_) (fun h1 => ?_)
      · skip
        first | (simp only [endP, s_turn_side_0, h1, h0]; done) | (simp only [endP, s_turn_side_0, h1, h0]; rfl) | (simp only [endP, s_turn_side_0, h1, h0, cond_true, cond_false, Bool.true_and, Bool.false_and, Bool.and_true, Bool.and_false, Bool.true_or, Bool.false_or, Bool.or_true, Bool.or_false, Bool.not_true, Bool.not_false]; done) | (simp_all; done) | simp_all [feq_self, endP, s_turn_side_0]
      · skip
        refine node_eq (fun h2 => ?_) (fun h2 => ?_)
        · skip
          refine node_eq (fun h3 => ?_) (fun h3 => ?_)
          · skip
            refine node_eq (fun h4 => ?_) (fun h4 => ?_)
            · skip
              first | (simp only [endP, s_turn_side_0, h4, h3, h2, h1, h0]; done) | (simp only [endP, s_turn_side_0, h4, h3, h2, h1, h0]; rfl) | (simp only [endP, s_turn_side_0, h4, h3, h2, h1, h0, cond_true, cond_false, Bool.true_and, Bool.false_and, Bool.and_true, Bool.and_false, Bool.true_or, Bool.false_or, Bool.or_true, Bool.or_false, Bool.not_true, Bool.not_false]; done) | (simp_all; done) | simp_all [feq_self, endP, s_turn_side_0]
            · skip
              first | (simp only [endP, s_turn_side_0, h4, h3, h2, h1, h0]; done) | (simp only [endP, s_turn_side_0, h4, h3, h2, h1, h0]; rfl) | (simp only [endP, s_turn_side_0, h4, h3, h2, h1, h0, cond_true, cond_false, Bool.true_and, Bool.false_and, Bool.and_true, Bool.and_false, Bool.true_or, Bool.false_or, Bool.or_true, Bool.or_false, Bool.not_true, Bool.not_false]; done) | (simp_all; done) | simp_all [feq_self, endP, s_turn_side_0]
          · skip
            first | (simp only [endP, s_turn_side_0, h3, h2, h1, h0]; done) | (simp only [endP, s_turn_side_0, h3, h2, h1, h0]; rfl) | (simp only [endP, s_turn_side_0, h3, h2, h1, h0, cond_true, cond_false, Bool.true_and, Bool.false_and, Bool.and_true, Bool.and_false, Bool.true_or, Bool.false_or, Bool.or_true, Bool.or_false, Bool.not_true, Bool.not_false]; done) | (simp_all; done) | simp_all [feq_self, endP, s_turn_side_0]
        · skip
          first | (simp only [endP, s_turn_side_0, h2, h1, h0]; done) | (simp only [endP, s_turn_side_0, h2, h1, h0]; rfl) | (simp only [endP, s_turn_side_0, h2, h1, h0, cond_true, cond_false, Bool.true_and, Bool.false_and, Bool.and_true, Bool.and_false, Bool.true_or, Bool.false_or, Bool.or_true, Bool.or_false, Bool.not_true, Bool.not_false]; done) | (simp_all; done) | simp_all [feq_self, endP, s_turn_side_0]
    · skip
      first | (simp only [endP, s_turn_side_0, h0]; done) | (simp only [endP, s_turn_side_0, h0]; rfl) | (simp only [endP, s_turn_side_0, h0, cond_true, cond_false, Bool.true_and, Bool.false_and, Bool.and_true, Bool.and_false, Bool.true_or, Bool.false_or, Bool.or_true, Bool.or_false, Bool.not_true, Bool.not_false]; done) | (simp_all; done) | simp_all [feq_self, endP, s_turn_side_0]
  · cases h
noncomputable def rs11 : List (FuncId × RF) := (40, pureF S_turn_side) :: rs10
noncomputable def env11 : Env := mkEnv xs rs11 ws0
theorem rs11_ok : All (ROk Try.prog false) rs11 := All.cons t_turn_side rs10_ok
theorem env11_ok : env11.Ok Try.prog false := mkEnv_ok xs_ok rs11_ok ws0_ok
-- tumble/turn.Order
noncomputable def s_turn_Order_0 (a0_0r : Nat) (a0_0i : Nat) (a1_0r : Nat) (a1_0i : Nat) : Int := bif ilt (s_turn_side_0 a0_0r a0_0i) (s_turn_side_0 a1_0r a1_0i) then -1 else bif ilt (s_turn_side_0 a1_0r a1_0i) (s_turn_side_0 a0_0r a0_0i) then 1 else bif !ieq (s_turn_side_0 a0_0r a0_0i) 2 then bif feq a0_0r a1_0r && feq a0_0i a1_0i then 0 else bif feq a0_0r a1_0r then bif flt a0_0i a1_0i then -1 else bif !feq a0_0r a1_0r then bif flt a1_0r a0_0r == ieq (s_turn_side_0 a0_0r a0_0i) 0 then -1 else 1 else 1 else bif !feq a0_0r a1_0r then bif flt a1_0r a0_0r == ieq (s_turn_side_0 a0_0r a0_0i) 0 then -1 else 1 else 1 else 0
noncomputable def S_turn_Order : List AV → Option AV
  | [AV.complex a0_0r a0_0i, AV.complex a1_0r a1_0i] => some (AV.int IntKind.i64 (s_turn_Order_0 a0_0r a0_0i a1_0r a1_0i))
  | _ => none
theorem t_turn_Order : ROk Try.prog false (29, pureF S_turn_Order) := ROk.pure (N := 64) env11_ok Try.func29 Try.call29 fun args v h => by
  unfold S_turn_Order at h
  split at h
  · rename_i a0_0r a0_0i a1_0r a1_0i
    cases h
    refine ⟨rfl, rfl, ?_⟩
    rw [show evFn Try.prog false env11 64 Try.f29 [AV.complex a0_0r a0_0i, AV.complex a1_0r a1_0i] [] endP = bif ilt (s_turn_side_0 a0_0r a0_0i) (s_turn_side_0 a1_0r a1_0i) then endP (AV.int IntKind.i64 (-1)) [] else bif ilt (s_turn_side_0 a1_0r a1_0i) (s_turn_side_0 a0_0r a0_0i) then endP (AV.int IntKind.i64 1) [] else bif !ieq (s_turn_side_0 a0_0r a0_0i) 2 then bif feq a0_0r a1_0r && feq a0_0i a1_0i then endP (AV.int IntKind.i64 0) [] else bif feq a0_0r a1_0r then bif flt a0_0i a1_0i then endP (AV.int IntKind.i64 (-1)) [] else bif !feq a0_0r a1_0r then bif flt a1_0r a0_0r == ieq (s_turn_side_0 a0_0r a0_0i) 0 then endP (AV.int IntKind.i64 (-1)) [] else endP (AV.int IntKind.i64 1) [] else endP (AV.int IntKind.i64 1) [] else bif !feq a0_0r a1_0r then bif flt a1_0r a0_0r == ieq (s_turn_side_0 a0_0r a0_0i) 0 then endP (AV.int IntKind.i64 (-1)) [] else endP (AV.int IntKind.i64 1) [] else endP (AV.int IntKind.i64 1) [] else endP (AV.int IntKind.i64 0) [] from by kernel_rfl]
    refine node_eq (fun h0 => ?_) (fun h0 => ?_)
    · skip
      first | (simp only [endP, s_turn_Order_0, h0]; done) | (simp only [endP, s_turn_Order_0, h0]; rfl) | (simp only [endP, s_turn_Order_0, h0, cond_true, cond_false, Bool.true_and, Bool.false_and, Bool.and_true, Bool.and_false, Bool.true_or, Bool.false_or, Bool.or_true, Bool.or_false, Bool.not_true, Bool.not_false]; done) | (simp_all; done) | simp_all [feq_self, endP, s_turn_Order_0, s_turn_side_0]
    · skip
      refine node_eq (fun h1 => ?_) (fun h1 => ?_)
      · skip
        first | (simp only [endP, s_turn_Order_0, h1, h0]; done) | (simp only [endP, s_turn_Order_0, h1, h0]; rfl) | (simp only [endP, s_turn_Order_0, h1, h0, cond_true, cond_false, Bool.true_and, Bool.false_and, Bool.and_true, Bool.and_false, Bool.true_or, Bool.false_or, Bool.or_true, Bool.or_false, Bool.not_true, Bool.not_false]; done) | (simp_all; done) | simp_all [feq_self, endP, s_turn_Order_0, s_turn_side_0]
      · skip
        refine node_eq (fun h2 => ?_) (fun h2 => ?_)
        · skip
          refine node_eq (fun h3 => ?_) (fun h3 => ?_)
          · skip
            first | (simp only [endP, s_turn_Order_0, h3, h2, h1, h0]; done) | (simp only [endP, s_turn_Order_0, h3, h2, h1, h0]; rfl) | (simp only [endP, s_turn_Order_0, h3, h2, h1, h0, cond_true, cond_false, Bool.true_and, Bool.false_and, Bool.and_true, Bool.and_false, Bool.true_or, Bool.false_or, Bool.or_true, Bool.or_false, Bool.not_true, Bool.not_false]; done) | (simp_all; done) | simp_all [feq_self, endP, s_turn_Order_0, s_turn_side_0]
          · skip
            refine node_eq (fun h4 => ?_) (fun h4 => ?_)
            · skip
              refine node_eq (fun h5 => ?_) (fun h5 => ?_)
              · skip
                first | (simp only [endP, s_turn_Order_0, h5, h4, h3, h2, h1, h0]; done) | (simp only [endP, s_turn_Order_0, h5, h4, h3, h2, h1, h0]; rfl) | (simp only [endP, s_turn_Order_0, h5, h4, h3, h2, h1, h0, cond_true, cond_false, Bool.true_and, Bool.false_and, Bool.and_true, Bool.and_false, Bool.true_or, Bool.false_or, Bool.or_true, Bool.or_false, Bool.not_true, Bool.not_false]; done) | (simp_all; done) | simp_all [feq_self, endP, s_turn_Order_0, s_turn_side_0]
              · skip
                refine node_eq (fun h6 => ?_) (fun h6 => ?_)
                · skip
                  refine node_eq (fun h7 => ?_) (fun h7 => ?_)
                  · skip
                    first | (simp only [endP, s_turn_Order_0, h7, h6, h5, h4, h3, h2, h1, h0]; done) | (simp only [endP, s_turn_Order_0, h7, h6, h5, h4, h3, h2, h1, h0]; rfl) | (simp only [endP, s_turn_Order_0, h7, h6, h5, h4, h3, h2, h1, h0, cond_true, cond_false, Bool.true_and, Bool.false_and, Bool.and_true, Bool.and_false, Bool.true_or, Bool.false_or, Bool.or_true, Bool.or_false, Bool.not_true, Bool.not_false]; done) | (simp_all; done) | simp_all [feq_self, endP, s_turn_Order_0, s_turn_side_0]
                  · skip
                    first | (simp only [endP, s_turn_Order_0, h7, h6, h5, h4, h3, h2, h1, h0]; done) | (simp only [endP, s_turn_Order_0, h7, h6, h5, h4, h3, h2, h1, h0]; rfl) | (simp only [endP, s_turn_Order_0, h7, h6, h5, h4, h3, h2, h1, h0, cond_true, cond_false, Bool.true_and, Bool.false_and, Bool.and_true, Bool.and_false, Bool.true_or, Bool.false_or, Bool.or_true, Bool.or_false, Bool.not_true, Bool.not_false]; done) | (simp_all; done) | simp_all [feq_self, endP, s_turn_Order_0, s_turn_side_0]
                · skip
                  first | (simp only [endP, s_turn_Order_0, h6, h5, h4, h3, h2, h1, h0]; done) | (simp only [endP, s_turn_Order_0, h6, h5, h4, h3, h2, h1, h0]; rfl) | (simp only [endP, s_turn_Order_0, h6, h5, h4, h3, h2, h1, h0, cond_true, cond_false, Bool.true_and, Bool.false_and, Bool.and_true, Bool.and_false, Bool.true_or, Bool.false_or, Bool.or_true, Bool.or_false, Bool.not_true, Bool.not_false]; done) | (simp_all; done) | simp_all [feq_self, endP, s_turn_Order_0, s_turn_side_0]
            · skip
              refine node_eq (fun h5 => ?_) (fun h5 => ?_)
              · skip
                refine node_eq (fun h6 => ?_) (fun h6 => ?_)
                · skip
                  first | (simp only [endP, s_turn_Order_0, h6, h5, h4, h3, h2, h1, h0]; done) | (simp only [endP, s_turn_Order_0, h6, h5, h4, h3, h2, h1, h0]; rfl) | (simp only [endP, s_turn_Order_0, h6, h5, h4, h3, h2, h1, h0, cond_true, cond_false, Bool.true_and, Bool.false_and, Bool.and_true, Bool.and_false, Bool.true_or, Bool.false_or, Bool.or_true, Bool.or_false, Bool.not_true, Bool.not_false]; done) | (simp_all; done) | simp_all [feq_self, endP, s_turn_Order_0, s_turn_side_0]
                · skip
                  first | (simp only [endP, s_turn_Order_0, h6, h5, h4, h3, h2, h1, h0]; done) | (simp only [endP, s_turn_Order_0, h6, h5, h4, h3, h2, h1, h0]; rfl) | (simp only [endP, s_turn_Order_0, h6, h5, h4, h3, h2, h1, h0, cond_true, cond_false, Bool.true_and, Bool.false_and, Bool.and_true, Bool.and_false, Bool.true_or, Bool.false_or, Bool.or_true, Bool.or_false, Bool.not_true, Bool.not_false]; done) | (simp_all; done) | simp_all [feq_self, endP, s_turn_Order_0, s_turn_side_0]
              · skip
                first | (simp only [endP, s_turn_Order_0, h5, h4, h3, h2, h1, h0]; done) | (simp only [endP, s_turn_Order_0, h5, h4, h3, h2, h1, h0]; rfl) | (simp only [endP, s_turn_Order_0, h5, h4, h3, h2, h1, h0, cond_true, cond_false, Bool.true_and, Bool.false_and, Bool.and_true, Bool.and_false, Bool.true_or, Bool.false_or, Bool.or_true, Bool.or_false, Bool.not_true, Bool.not_false]; done) | (simp_all; done) | simp_all [feq_self, endP, s_turn_Order_0, s_turn_side_0]
        · skip
          first | (simp only [endP, s_turn_Order_0, h2, h1, h0]; done) | (simp only [endP, s_turn_Order_0, h2, h1, h0]; rfl) | (simp only [endP, s_turn_Order_0, h2, h1, h0, cond_true, cond_false, Bool.true_and, Bool.false_and, Bool.and_true, Bool.and_false, Bool.true_or, Bool.false_or, Bool.or_true, Bool.or_false, Bool.not_true, Bool.not_false]; done) | (simp_all; done) | simp_all [feq_self, endP, s_turn_Order_0, s_turn_side_0]
  · cases h
noncomputable def rs12 : List (FuncId × RF) := (29, pureF S_turn_Order) :: rs11
noncomputable def env12 : Env := mkEnv xs rs12 ws0
theorem rs12_ok : All (ROk Try.prog false) rs12 := All.cons t_turn_Order rs11_ok
theorem env12_ok : env12.Ok Try.prog false := mkEnv_ok xs_ok rs12_ok ws0_ok
-- tumble/tumblelaw03.awake
noncomputable def s_law03_awake_0  : Bool := true
noncomputable def S_law03_awake : List AV → Option AV
  | [] => some (AV.bool (s_law03_awake_0))
  | _ => none
theorem t_law03_awake : ROk Try.prog false (9, pureF S_law03_awake) := ROk.pure (N := 64) env12_ok Try.func9 Try.call9 fun args v h => by
  unfold S_law03_awake at h
  split at h
  · skip
    cases h
    exact ⟨rfl, rfl, by kernel_rfl⟩
  · cases h
noncomputable def rs13 : List (FuncId × RF) := (9, pureF S_law03_awake) :: rs12
noncomputable def env13 : Env := mkEnv xs rs13 ws0
theorem rs13_ok : All (ROk Try.prog false) rs13 := All.cons t_law03_awake rs12_ok
theorem env13_ok : env13.Ok Try.prog false := mkEnv_ok xs_ok rs13_ok ws0_ok
-- (tumble/tumblelaw03.Pair).number
noncomputable def rs14 : List (FuncId × RF) := (10, inlR Try.prog false env13 64 Try.f10) :: rs13
noncomputable def env14 : Env := mkEnv xs rs14 ws0
theorem rs14_ok : All (ROk Try.prog false) rs14 := All.cons (ROk.inl env13_ok Try.func10 Try.call10) rs13_ok
theorem env14_ok : env14.Ok Try.prog false := mkEnv_ok xs_ok rs14_ok ws0_ok
-- tumble/turn.Then
noncomputable def s_turn_Then_0 (a0_0r : Nat) (a0_0i : Nat) (a1_0r : Nat) (a1_0i : Nat) : Nat := fsub (fmul a0_0r a1_0r) (fmul a0_0i a1_0i)
noncomputable def s_turn_Then_1 (a0_0r : Nat) (a0_0i : Nat) (a1_0r : Nat) (a1_0i : Nat) : Nat := fadd (fmul a0_0r a1_0i) (fmul a0_0i a1_0r)
noncomputable def S_turn_Then : List AV → Option AV
  | [AV.complex a0_0r a0_0i, AV.complex a1_0r a1_0i] => some (AV.complex (s_turn_Then_0 a0_0r a0_0i a1_0r a1_0i) (s_turn_Then_1 a0_0r a0_0i a1_0r a1_0i))
  | _ => none
theorem t_turn_Then : ROk Try.prog false (12, pureF S_turn_Then) := ROk.pure (N := 64) env14_ok Try.func12 Try.call12 fun args v h => by
  unfold S_turn_Then at h
  split at h
  · rename_i a0_0r a0_0i a1_0r a1_0i
    cases h
    exact ⟨rfl, rfl, by kernel_rfl⟩
  · cases h
noncomputable def rs15 : List (FuncId × RF) := (12, pureF S_turn_Then) :: rs14
noncomputable def env15 : Env := mkEnv xs rs15 ws0
theorem rs15_ok : All (ROk Try.prog false) rs15 := All.cons t_turn_Then rs14_ok
theorem env15_ok : env15.Ok Try.prog false := mkEnv_ok xs_ok rs15_ok ws0_ok
-- (tumble/tumblelaw03.Pair).way
noncomputable def rs16 : List (FuncId × RF) := (15, inlR Try.prog false env15 64 Try.f15) :: rs15
noncomputable def env16 : Env := mkEnv xs rs16 ws0
theorem rs16_ok : All (ROk Try.prog false) rs16 := All.cons (ROk.inl env15_ok Try.func15 Try.call15) rs15_ok
theorem env16_ok : env16.Ok Try.prog false := mkEnv_ok xs_ok rs16_ok ws0_ok
-- tumble/tumblelaw03.TurnQuarter
noncomputable def T_law03_TurnQuarter (a0_0 : Nat) (a0_1 : Nat) (a1_0 : Nat) (a1_1 : Nat) : Option Res := bif u64ok (Int.ofNat a0_0) then bif u64ok (Int.ofNat a0_1) then bif !ieq (s_turn_Check_0 (cn (Int.ofNat a0_0).toNat) (cn (Int.ofNat a0_1).toNat)) 0 then endP (AV.bool true) [] else bif !!feq (s_turn_Then_0 (cn (Int.ofNat a0_0).toNat) (cn (Int.ofNat a0_1).toNat) 0 4607182418800017408) (fneg (cn (Int.ofNat a0_1).toNat)) then bif !!feq (s_turn_Then_1 (cn (Int.ofNat a0_0).toNat) (cn (Int.ofNat a0_1).toNat) 0 4607182418800017408) (cn (Int.ofNat a0_0).toNat) then bif !!(feq (s_turn_Then_0 (cn (Int.ofNat a0_0).toNat) (cn (Int.ofNat a0_1).toNat) 4607182418800017408 0) (cn (Int.ofNat a0_0).toNat) && feq (s_turn_Then_1 (cn (Int.ofNat a0_0).toNat) (cn (Int.ofNat a0_1).toNat) 4607182418800017408 0) (cn (Int.ofNat a0_1).toNat)) then bif !!(feq (s_turn_Then_0 (s_turn_Then_0 (s_turn_Then_0 (cn (Int.ofNat a0_0).toNat) (cn (Int.ofNat a0_1).toNat) 0 4607182418800017408) (s_turn_Then_1 (cn (Int.ofNat a0_0).toNat) (cn (Int.ofNat a0_1).toNat) 0 4607182418800017408) 0 4607182418800017408) (s_turn_Then_1 (s_turn_Then_0 (cn (Int.ofNat a0_0).toNat) (cn (Int.ofNat a0_1).toNat) 0 4607182418800017408) (s_turn_Then_1 (cn (Int.ofNat a0_0).toNat) (cn (Int.ofNat a0_1).toNat) 0 4607182418800017408) 0 4607182418800017408) 13830554455654793216 0) (s_turn_Then_0 (s_turn_Then_0 (cn (Int.ofNat a0_0).toNat) (cn (Int.ofNat a0_1).toNat) 0 4607182418800017408) (s_turn_Then_1 (cn (Int.ofNat a0_0).toNat) (cn (Int.ofNat a0_1).toNat) 0 4607182418800017408) 9223372036854775808 13830554455654793216) && feq (s_turn_Then_1 (s_turn_Then_0 (s_turn_Then_0 (cn (Int.ofNat a0_0).toNat) (cn (Int.ofNat a0_1).toNat) 0 4607182418800017408) (s_turn_Then_1 (cn (Int.ofNat a0_0).toNat) (cn (Int.ofNat a0_1).toNat) 0 4607182418800017408) 0 4607182418800017408) (s_turn_Then_1 (s_turn_Then_0 (cn (Int.ofNat a0_0).toNat) (cn (Int.ofNat a0_1).toNat) 0 4607182418800017408) (s_turn_Then_1 (cn (Int.ofNat a0_0).toNat) (cn (Int.ofNat a0_1).toNat) 0 4607182418800017408) 0 4607182418800017408) 13830554455654793216 0) (s_turn_Then_1 (s_turn_Then_0 (cn (Int.ofNat a0_0).toNat) (cn (Int.ofNat a0_1).toNat) 0 4607182418800017408) (s_turn_Then_1 (cn (Int.ofNat a0_0).toNat) (cn (Int.ofNat a0_1).toNat) 0 4607182418800017408) 9223372036854775808 13830554455654793216)) then bif !(feq (s_turn_Then_0 (s_turn_Then_0 (s_turn_Then_0 (cn (Int.ofNat a0_0).toNat) (cn (Int.ofNat a0_1).toNat) 0 4607182418800017408) (s_turn_Then_1 (cn (Int.ofNat a0_0).toNat) (cn (Int.ofNat a0_1).toNat) 0 4607182418800017408) 0 4607182418800017408) (s_turn_Then_1 (s_turn_Then_0 (cn (Int.ofNat a0_0).toNat) (cn (Int.ofNat a0_1).toNat) 0 4607182418800017408) (s_turn_Then_1 (cn (Int.ofNat a0_0).toNat) (cn (Int.ofNat a0_1).toNat) 0 4607182418800017408) 0 4607182418800017408) 13830554455654793216 0) (cn (Int.ofNat a0_0).toNat) && feq (s_turn_Then_1 (s_turn_Then_0 (s_turn_Then_0 (cn (Int.ofNat a0_0).toNat) (cn (Int.ofNat a0_1).toNat) 0 4607182418800017408) (s_turn_Then_1 (cn (Int.ofNat a0_0).toNat) (cn (Int.ofNat a0_1).toNat) 0 4607182418800017408) 0 4607182418800017408) (s_turn_Then_1 (s_turn_Then_0 (cn (Int.ofNat a0_0).toNat) (cn (Int.ofNat a0_1).toNat) 0 4607182418800017408) (s_turn_Then_1 (cn (Int.ofNat a0_0).toNat) (cn (Int.ofNat a0_1).toNat) 0 4607182418800017408) 0 4607182418800017408) 13830554455654793216 0) (cn (Int.ofNat a0_1).toNat)) then endP (AV.bool false) [] else bif u64ok (Int.ofNat a1_0) then bif u64ok (Int.ofNat a1_1) then bif fle (fabs (cn (Int.ofNat a1_0).toNat)) 5958262307011166208 then bif !fle (fabs (cn (Int.ofNat a1_1).toNat)) 5958262307011166208 then endP (AV.bool true) [] else bif feq (s_turn_Apply_0 0 4607182418800017408 (cn (Int.ofNat a1_0).toNat) (cn (Int.ofNat a1_1).toNat)) (fneg (cn (Int.ofNat a1_1).toNat)) then endP (AV.bool (feq (s_turn_Apply_1 0 4607182418800017408 (cn (Int.ofNat a1_0).toNat) (cn (Int.ofNat a1_1).toNat)) (cn (Int.ofNat a1_0).toNat))) [] else endP (AV.bool false) [] else endP (AV.bool true) [] else none else none else endP (AV.bool false) [] else endP (AV.bool false) [] else endP (AV.bool false) [] else endP (AV.bool false) [] else none else none
theorem tree_law03_TurnQuarter (a0_0 : Nat) (a0_1 : Nat) (a1_0 : Nat) (a1_1 : Nat) : evFn Try.prog false env16 64 Try.f3 [AV.agg [.int .u64 (Int.ofNat a0_0), .int .u64 (Int.ofNat a0_1)], AV.agg [.int .u64 (Int.ofNat a1_0), .int .u64 (Int.ofNat a1_1)]] [] endP = T_law03_TurnQuarter a0_0 a0_1 a1_0 a1_1 := by kernel_rfl
-- tumble/tumbleref03.Apply
noncomputable def s_ref03_Apply_0 (a0_0r : Nat) (a0_0i : Nat) (a1_0 : Nat) (a1_1 : Nat) : Nat := fsub (fmul a0_0r a1_0) (fmul a0_0i a1_1)
noncomputable def s_ref03_Apply_1 (a0_0r : Nat) (a0_0i : Nat) (a1_0 : Nat) (a1_1 : Nat) : Nat := fadd (fmul a0_0i a1_0) (fmul a0_0r a1_1)
noncomputable def S_ref03_Apply : List AV → Option AV
  | [AV.complex a0_0r a0_0i, AV.agg [.float a1_0, .float a1_1]] => some (AV.agg [AV.float (s_ref03_Apply_0 a0_0r a0_0i a1_0 a1_1), AV.float (s_ref03_Apply_1 a0_0r a0_0i a1_0 a1_1)])
  | _ => none
theorem t_ref03_Apply : ROk Try.prog false (19, pureF S_ref03_Apply) := ROk.pure (N := 64) env16_ok Try.func19 Try.call19 fun args v h => by
  unfold S_ref03_Apply at h
  split at h
  · rename_i a0_0r a0_0i a1_0 a1_1
    cases h
    exact ⟨rfl, rfl, by kernel_rfl⟩
  · cases h
noncomputable def rs17 : List (FuncId × RF) := (19, pureF S_ref03_Apply) :: rs16
noncomputable def env17 : Env := mkEnv xs rs17 ws0
theorem rs17_ok : All (ROk Try.prog false) rs17 := All.cons t_ref03_Apply rs16_ok
theorem env17_ok : env17.Ok Try.prog false := mkEnv_ok xs_ok rs17_ok ws0_ok
-- tumble/tumbleref03.SameFloat
noncomputable def S_ref03_SameFloat : List AV → Option AV
  | [AV.float a, AV.float c] => some (AV.bool (fsame a c))
  | _ => none
theorem t_ref03_SameFloat : ROk Try.prog false (34, pureF S_ref03_SameFloat) := exact2b (N := 64) xenv_ok Try.func34 Try.call34 fsame (fun args v h => by
    unfold S_ref03_SameFloat at h
    split at h
    · cases h; exact ⟨_, _, rfl, rfl⟩
    · cases h) fun b d _ _ => by refine Eq.trans ?_ (same_tree b d); kernel_rfl
noncomputable def rs18 : List (FuncId × RF) := (34, pureF S_ref03_SameFloat) :: rs17
noncomputable def env18 : Env := mkEnv xs rs18 ws0
theorem rs18_ok : All (ROk Try.prog false) rs18 := All.cons t_ref03_SameFloat rs17_ok
theorem env18_ok : env18.Ok Try.prog false := mkEnv_ok xs_ok rs18_ok ws0_ok
-- tumble/tumbleref03.SameVec
noncomputable def s_ref03_SameVec_0 (a0_0 : Nat) (a0_1 : Nat) (a1_0 : Nat) (a1_1 : Nat) : Bool := fsame a0_0 a1_0 && fsame a0_1 a1_1
noncomputable def S_ref03_SameVec : List AV → Option AV
  | [AV.agg [.float a0_0, .float a0_1], AV.agg [.float a1_0, .float a1_1]] => some (AV.bool (s_ref03_SameVec_0 a0_0 a0_1 a1_0 a1_1))
  | _ => none
theorem t_ref03_SameVec : ROk Try.prog false (18, pureF S_ref03_SameVec) := ROk.pure (N := 64) env18_ok Try.func18 Try.call18 fun args v h => by
  unfold S_ref03_SameVec at h
  split at h
  · rename_i a0_0 a0_1 a1_0 a1_1
    cases h
    refine ⟨rfl, rfl, ?_⟩
    rw [show evFn Try.prog false env18 64 Try.f18 [AV.agg [.float a0_0, .float a0_1], AV.agg [.float a1_0, .float a1_1]] [] endP = bif fsame a0_0 a1_0 then endP (AV.bool (fsame a0_1 a1_1)) [] else endP (AV.bool false) [] from by kernel_rfl]
    refine node_eq (fun h0 => ?_) (fun h0 => ?_)
    · skip
      first | (simp only [endP, s_ref03_SameVec_0, h0]; done) | (simp only [endP, s_ref03_SameVec_0, h0]; rfl) | (simp only [endP, s_ref03_SameVec_0, h0, cond_true, cond_false, Bool.true_and, Bool.false_and, Bool.and_true, Bool.and_false, Bool.true_or, Bool.false_or, Bool.or_true, Bool.or_false, Bool.not_true, Bool.not_false]; done) | (simp_all; done) | simp_all [feq_self, endP, s_ref03_SameVec_0]
    · skip
      first | (simp only [endP, s_ref03_SameVec_0, h0]; done) | (simp only [endP, s_ref03_SameVec_0, h0]; rfl) | (simp only [endP, s_ref03_SameVec_0, h0, cond_true, cond_false, Bool.true_and, Bool.false_and, Bool.and_true, Bool.and_false, Bool.true_or, Bool.false_or, Bool.or_true, Bool.or_false, Bool.not_true, Bool.not_false]; done) | (simp_all; done) | simp_all [feq_self, endP, s_ref03_SameVec_0]
  · cases h
noncomputable def rs19 : List (FuncId × RF) := (18, pureF S_ref03_SameVec) :: rs18
noncomputable def env19 : Env := mkEnv xs rs19 ws0
theorem rs19_ok : All (ROk Try.prog false) rs19 := All.cons t_ref03_SameVec rs18_ok
theorem env19_ok : env19.Ok Try.prog false := mkEnv_ok xs_ok rs19_ok ws0_ok
-- tumble/turn.Undo
noncomputable def s_turn_Undo_0 (a0_0r : Nat) (a0_0i : Nat) (a1_0 : Nat) (a1_1 : Nat) : Nat := fadd (fmul a0_0r a1_0) (fmul a0_0i a1_1)
noncomputable def s_turn_Undo_1 (a0_0r : Nat) (a0_0i : Nat) (a1_0 : Nat) (a1_1 : Nat) : Nat := fsub (fmul a0_0r a1_1) (fmul a0_0i a1_0)
noncomputable def S_turn_Undo : List AV → Option AV
  | [AV.complex a0_0r a0_0i, AV.agg [.float a1_0, .float a1_1]] => some (AV.agg [AV.float (s_turn_Undo_0 a0_0r a0_0i a1_0 a1_1), AV.float (s_turn_Undo_1 a0_0r a0_0i a1_0 a1_1)])
  | _ => none
theorem t_turn_Undo : ROk Try.prog false (20, pureF S_turn_Undo) := ROk.pure (N := 64) env19_ok Try.func20 Try.call20 fun args v h => by
  unfold S_turn_Undo at h
  split at h
  · rename_i a0_0r a0_0i a1_0 a1_1
    cases h
    exact ⟨rfl, rfl, by kernel_rfl⟩
  · cases h
noncomputable def rs20 : List (FuncId × RF) := (20, pureF S_turn_Undo) :: rs19
noncomputable def env20 : Env := mkEnv xs rs20 ws0
theorem rs20_ok : All (ROk Try.prog false) rs20 := All.cons t_turn_Undo rs19_ok
theorem env20_ok : env20.Ok Try.prog false := mkEnv_ok xs_ok rs20_ok ws0_ok
-- tumble/tumbleref03.Undo
noncomputable def s_ref03_Undo_0 (a0_0r : Nat) (a0_0i : Nat) (a1_0 : Nat) (a1_1 : Nat) : Nat := fadd (fmul a0_0r a1_0) (fmul a0_0i a1_1)
noncomputable def s_ref03_Undo_1 (a0_0r : Nat) (a0_0i : Nat) (a1_0 : Nat) (a1_1 : Nat) : Nat := fsub (fmul a0_0r a1_1) (fmul a0_0i a1_0)
noncomputable def S_ref03_Undo : List AV → Option AV
  | [AV.complex a0_0r a0_0i, AV.agg [.float a1_0, .float a1_1]] => some (AV.agg [AV.float (s_ref03_Undo_0 a0_0r a0_0i a1_0 a1_1), AV.float (s_ref03_Undo_1 a0_0r a0_0i a1_0 a1_1)])
  | _ => none
theorem t_ref03_Undo : ROk Try.prog false (21, pureF S_ref03_Undo) := ROk.pure (N := 64) env20_ok Try.func21 Try.call21 fun args v h => by
  unfold S_ref03_Undo at h
  split at h
  · rename_i a0_0r a0_0i a1_0 a1_1
    cases h
    exact ⟨rfl, rfl, by kernel_rfl⟩
  · cases h
noncomputable def rs21 : List (FuncId × RF) := (21, pureF S_ref03_Undo) :: rs20
noncomputable def env21 : Env := mkEnv xs rs21 ws0
theorem rs21_ok : All (ROk Try.prog false) rs21 := All.cons t_ref03_Undo rs20_ok
theorem env21_ok : env21.Ok Try.prog false := mkEnv_ok xs_ok rs21_ok ws0_ok
-- tumble/tumblelaw03.TurnWay
noncomputable def T_law03_TurnWay (a0_0 : Nat) (a0_1 : Nat) (a1_0 : Nat) (a1_1 : Nat) : Option Res := bif u64ok (Int.ofNat a0_0) then bif u64ok (Int.ofNat a0_1) then bif u64ok (Int.ofNat a1_0) then bif u64ok (Int.ofNat a1_1) then bif s_ref03_SameVec_0 (s_turn_Apply_0 (cn (Int.ofNat a0_0).toNat) (cn (Int.ofNat a0_1).toNat) (cn (Int.ofNat a1_0).toNat) (cn (Int.ofNat a1_1).toNat)) (s_turn_Apply_1 (cn (Int.ofNat a0_0).toNat) (cn (Int.ofNat a0_1).toNat) (cn (Int.ofNat a1_0).toNat) (cn (Int.ofNat a1_1).toNat)) (s_ref03_Apply_0 (cn (Int.ofNat a0_0).toNat) (cn (Int.ofNat a0_1).toNat) (cn (Int.ofNat a1_0).toNat) (cn (Int.ofNat a1_1).toNat)) (s_ref03_Apply_1 (cn (Int.ofNat a0_0).toNat) (cn (Int.ofNat a0_1).toNat) (cn (Int.ofNat a1_0).toNat) (cn (Int.ofNat a1_1).toNat)) then endP (AV.bool (s_ref03_SameVec_0 (s_turn_Undo_0 (cn (Int.ofNat a0_0).toNat) (cn (Int.ofNat a0_1).toNat) (cn (Int.ofNat a1_0).toNat) (cn (Int.ofNat a1_1).toNat)) (s_turn_Undo_1 (cn (Int.ofNat a0_0).toNat) (cn (Int.ofNat a0_1).toNat) (cn (Int.ofNat a1_0).toNat) (cn (Int.ofNat a1_1).toNat)) (s_ref03_Undo_0 (cn (Int.ofNat a0_0).toNat) (cn (Int.ofNat a0_1).toNat) (cn (Int.ofNat a1_0).toNat) (cn (Int.ofNat a1_1).toNat)) (s_ref03_Undo_1 (cn (Int.ofNat a0_0).toNat) (cn (Int.ofNat a0_1).toNat) (cn (Int.ofNat a1_0).toNat) (cn (Int.ofNat a1_1).toNat)))) [] else endP (AV.bool false) [] else none else none else none else none
theorem tree_law03_TurnWay (a0_0 : Nat) (a0_1 : Nat) (a1_0 : Nat) (a1_1 : Nat) : evFn Try.prog false env21 64 Try.f4 [AV.agg [.int .u64 (Int.ofNat a0_0), .int .u64 (Int.ofNat a0_1)], AV.agg [.int .u64 (Int.ofNat a1_0), .int .u64 (Int.ofNat a1_1)]] [] endP = T_law03_TurnWay a0_0 a0_1 a1_0 a1_1 := by kernel_rfl
-- tumble/tumblelaw03.square
noncomputable def s_law03_square_0 (a0_0r : Nat) (a0_0i : Nat) : Nat := fadd (fmul a0_0r a0_0r) (fmul a0_0i a0_0i)
noncomputable def S_law03_square : List AV → Option AV
  | [AV.complex a0_0r a0_0i] => some (AV.float (s_law03_square_0 a0_0r a0_0i))
  | _ => none
theorem t_law03_square : ROk Try.prog false (25, pureF S_law03_square) := ROk.pure (N := 64) env21_ok Try.func25 Try.call25 fun args v h => by
  unfold S_law03_square at h
  split at h
  · rename_i a0_0r a0_0i
    cases h
    exact ⟨rfl, rfl, by kernel_rfl⟩
  · cases h
noncomputable def rs22 : List (FuncId × RF) := (25, pureF S_law03_square) :: rs21
noncomputable def env22 : Env := mkEnv xs rs22 ws0
theorem rs22_ok : All (ROk Try.prog false) rs22 := All.cons t_law03_square rs21_ok
theorem env22_ok : env22.Ok Try.prog false := mkEnv_ok xs_ok rs22_ok ws0_ok
-- tumble/turn.Back
noncomputable def s_turn_Back_0 (a0_0r : Nat) (a0_0i : Nat) : Nat := a0_0r
noncomputable def s_turn_Back_1 (a0_0r : Nat) (a0_0i : Nat) : Nat := fneg a0_0i
noncomputable def S_turn_Back : List AV → Option AV
  | [AV.complex a0_0r a0_0i] => some (AV.complex (s_turn_Back_0 a0_0r a0_0i) (s_turn_Back_1 a0_0r a0_0i))
  | _ => none
theorem t_turn_Back : ROk Try.prog false (26, pureF S_turn_Back) := ROk.pure (N := 64) env22_ok Try.func26 Try.call26 fun args v h => by
  unfold S_turn_Back at h
  split at h
  · rename_i a0_0r a0_0i
    cases h
    exact ⟨rfl, rfl, by kernel_rfl⟩
  · cases h
noncomputable def rs23 : List (FuncId × RF) := (26, pureF S_turn_Back) :: rs22
noncomputable def env23 : Env := mkEnv xs rs23 ws0
theorem rs23_ok : All (ROk Try.prog false) rs23 := All.cons t_turn_Back rs22_ok
theorem env23_ok : env23.Ok Try.prog false := mkEnv_ok xs_ok rs23_ok ws0_ok
-- tumble/tumblelaw03.TurnLong
noncomputable def T_law03_TurnLong (a0_0 : Nat) (a1_0 : Nat) (a1_1 : Nat) (a2_0 : Nat) (a2_1 : Nat) : Option Res := bif u64ok (Int.ofNat a0_0) then bif feq (cn (Int.ofNat a0_0).toNat) (cn (Int.ofNat a0_0).toNat) then bif !ieq (s_turn_Check_0 (s_turn_By_0 (cn (Int.ofNat a0_0).toNat)) (s_turn_By_1 (cn (Int.ofNat a0_0).toNat))) 0 then endP (AV.bool false) [] else bif u64ok (Int.ofNat a1_0) then bif u64ok (Int.ofNat a1_1) then bif u64ok (Int.ofNat a2_0) then bif u64ok (Int.ofNat a2_1) then bif s_turn_Unit_2 (cn (Int.ofNat a1_0).toNat) (cn (Int.ofNat a1_1).toNat) then bif !!ieq (s_turn_Check_0 (s_turn_Unit_0 (cn (Int.ofNat a1_0).toNat) (cn (Int.ofNat a1_1).toNat)) (s_turn_Unit_1 (cn (Int.ofNat a1_0).toNat) (cn (Int.ofNat a1_1).toNat))) 0 then bif !s_turn_Unit_2 (cn (Int.ofNat a1_0).toNat) (cn (Int.ofNat a1_1).toNat) then bif !(feq (s_turn_Unit_0 (cn (Int.ofNat a1_0).toNat) (cn (Int.ofNat a1_1).toNat)) 0 && feq (s_turn_Unit_1 (cn (Int.ofNat a1_0).toNat) (cn (Int.ofNat a1_1).toNat)) 0) then endP (AV.bool false) [] else bif !!ieq (s_turn_Check_0 (cn (Int.ofNat a1_0).toNat) (cn (Int.ofNat a1_1).toNat)) 0 then bif !ieq (s_turn_Check_0 (cn (Int.ofNat a2_0).toNat) (cn (Int.ofNat a2_1).toNat)) 0 then endP (AV.bool true) [] else bif s_turn_Unit_2 (cn (Int.ofNat a1_0).toNat) (cn (Int.ofNat a1_1).toNat) then bif ieq (s_turn_Check_0 (s_turn_Back_0 (cn (Int.ofNat a1_0).toNat) (cn (Int.ofNat a1_1).toNat)) (s_turn_Back_1 (cn (Int.ofNat a1_0).toNat) (cn (Int.ofNat a1_1).toNat))) 0 then bif fle 4607182418799984640 (s_law03_square_0 (s_turn_Then_0 (cn (Int.ofNat a1_0).toNat) (cn (Int.ofNat a1_1).toNat) (cn (Int.ofNat a2_0).toNat) (cn (Int.ofNat a2_1).toNat)) (s_turn_Then_1 (cn (Int.ofNat a1_0).toNat) (cn (Int.ofNat a1_1).toNat) (cn (Int.ofNat a2_0).toNat) (cn (Int.ofNat a2_1).toNat))) then endP (AV.bool (fle (s_law03_square_0 (s_turn_Then_0 (cn (Int.ofNat a1_0).toNat) (cn (Int.ofNat a1_1).toNat) (cn (Int.ofNat a2_0).toNat) (cn (Int.ofNat a2_1).toNat)) (s_turn_Then_1 (cn (Int.ofNat a1_0).toNat) (cn (Int.ofNat a1_1).toNat) (cn (Int.ofNat a2_0).toNat) (cn (Int.ofNat a2_1).toNat))) 4607182418800033792)) [] else endP (AV.bool false) [] else endP (AV.bool false) [] else endP (AV.bool false) [] else endP (AV.bool true) [] else bif !!ieq (s_turn_Check_0 (cn (Int.ofNat a1_0).toNat) (cn (Int.ofNat a1_1).toNat)) 0 then bif !ieq (s_turn_Check_0 (cn (Int.ofNat a2_0).toNat) (cn (Int.ofNat a2_1).toNat)) 0 then endP (AV.bool true) [] else bif s_turn_Unit_2 (cn (Int.ofNat a1_0).toNat) (cn (Int.ofNat a1_1).toNat) then bif ieq (s_turn_Check_0 (s_turn_Back_0 (cn (Int.ofNat a1_0).toNat) (cn (Int.ofNat a1_1).toNat)) (s_turn_Back_1 (cn (Int.ofNat a1_0).toNat) (cn (Int.ofNat a1_1).toNat))) 0 then bif fle 4607182418799984640 (s_law03_square_0 (s_turn_Then_0 (cn (Int.ofNat a1_0).toNat) (cn (Int.ofNat a1_1).toNat) (cn (Int.ofNat a2_0).toNat) (cn (Int.ofNat a2_1).toNat)) (s_turn_Then_1 (cn (Int.ofNat a1_0).toNat) (cn (Int.ofNat a1_1).toNat) (cn (Int.ofNat a2_0).toNat) (cn (Int.ofNat a2_1).toNat))) then endP (AV.bool (fle (s_law03_square_0 (s_turn_Then_0 (cn (Int.ofNat a1_0).toNat) (cn (Int.ofNat a1_1).toNat) (cn (Int.ofNat a2_0).toNat) (cn (Int.ofNat a2_1).toNat)) (s_turn_Then_1 (cn (Int.ofNat a1_0).toNat) (cn (Int.ofNat a1_1).toNat) (cn (Int.ofNat a2_0).toNat) (cn (Int.ofNat a2_1).toNat))) 4607182418800033792)) [] else endP (AV.bool false) [] else endP (AV.bool false) [] else endP (AV.bool false) [] else endP (AV.bool true) [] else endP (AV.bool false) [] else bif !s_turn_Unit_2 (cn (Int.ofNat a1_0).toNat) (cn (Int.ofNat a1_1).toNat) then bif !(feq (s_turn_Unit_0 (cn (Int.ofNat a1_0).toNat) (cn (Int.ofNat a1_1).toNat)) 0 && feq (s_turn_Unit_1 (cn (Int.ofNat a1_0).toNat) (cn (Int.ofNat a1_1).toNat)) 0) then endP (AV.bool false) [] else bif !!ieq (s_turn_Check_0 (cn (Int.ofNat a1_0).toNat) (cn (Int.ofNat a1_1).toNat)) 0 then bif !ieq (s_turn_Check_0 (cn (Int.ofNat a2_0).toNat) (cn (Int.ofNat a2_1).toNat)) 0 then endP (AV.bool true) [] else bif s_turn_Unit_2 (cn (Int.ofNat a1_0).toNat) (cn (Int.ofNat a1_1).toNat) then bif ieq (s_turn_Check_0 (s_turn_Back_0 (cn (Int.ofNat a1_0).toNat) (cn (Int.ofNat a1_1).toNat)) (s_turn_Back_1 (cn (Int.ofNat a1_0).toNat) (cn (Int.ofNat a1_1).toNat))) 0 then bif fle 4607182418799984640 (s_law03_square_0 (s_turn_Then_0 (cn (Int.ofNat a1_0).toNat) (cn (Int.ofNat a1_1).toNat) (cn (Int.ofNat a2_0).toNat) (cn (Int.ofNat a2_1).toNat)) (s_turn_Then_1 (cn (Int.ofNat a1_0).toNat) (cn (Int.ofNat a1_1).toNat) (cn (Int.ofNat a2_0).toNat) (cn (Int.ofNat a2_1).toNat))) then endP (AV.bool (fle (s_law03_square_0 (s_turn_Then_0 (cn (Int.ofNat a1_0).toNat) (cn (Int.ofNat a1_1).toNat) (cn (Int.ofNat a2_0).toNat) (cn (Int.ofNat a2_1).toNat)) (s_turn_Then_1 (cn (Int.ofNat a1_0).toNat) (cn (Int.ofNat a1_1).toNat) (cn (Int.ofNat a2_0).toNat) (cn (Int.ofNat a2_1).toNat))) 4607182418800033792)) [] else endP (AV.bool false) [] else endP (AV.bool false) [] else endP (AV.bool false) [] else endP (AV.bool true) [] else bif !!ieq (s_turn_Check_0 (cn (Int.ofNat a1_0).toNat) (cn (Int.ofNat a1_1).toNat)) 0 then bif !ieq (s_turn_Check_0 (cn (Int.ofNat a2_0).toNat) (cn (Int.ofNat a2_1).toNat)) 0 then endP (AV.bool true) [] else bif s_turn_Unit_2 (cn (Int.ofNat a1_0).toNat) (cn (Int.ofNat a1_1).toNat) then bif ieq (s_turn_Check_0 (s_turn_Back_0 (cn (Int.ofNat a1_0).toNat) (cn (Int.ofNat a1_1).toNat)) (s_turn_Back_1 (cn (Int.ofNat a1_0).toNat) (cn (Int.ofNat a1_1).toNat))) 0 then bif fle 4607182418799984640 (s_law03_square_0 (s_turn_Then_0 (cn (Int.ofNat a1_0).toNat) (cn (Int.ofNat a1_1).toNat) (cn (Int.ofNat a2_0).toNat) (cn (Int.ofNat a2_1).toNat)) (s_turn_Then_1 (cn (Int.ofNat a1_0).toNat) (cn (Int.ofNat a1_1).toNat) (cn (Int.ofNat a2_0).toNat) (cn (Int.ofNat a2_1).toNat))) then endP (AV.bool (fle (s_law03_square_0 (s_turn_Then_0 (cn (Int.ofNat a1_0).toNat) (cn (Int.ofNat a1_1).toNat) (cn (Int.ofNat a2_0).toNat) (cn (Int.ofNat a2_1).toNat)) (s_turn_Then_1 (cn (Int.ofNat a1_0).toNat) (cn (Int.ofNat a1_1).toNat) (cn (Int.ofNat a2_0).toNat) (cn (Int.ofNat a2_1).toNat))) 4607182418800033792)) [] else endP (AV.bool false) [] else endP (AV.bool false) [] else endP (AV.bool false) [] else endP (AV.bool true) [] else none else none else none else none else bif u64ok (Int.ofNat a1_0) then bif u64ok (Int.ofNat a1_1) then bif u64ok (Int.ofNat a2_0) then bif u64ok (Int.ofNat a2_1) then bif s_turn_Unit_2 (cn (Int.ofNat a1_0).toNat) (cn (Int.ofNat a1_1).toNat) then bif !!ieq (s_turn_Check_0 (s_turn_Unit_0 (cn (Int.ofNat a1_0).toNat) (cn (Int.ofNat a1_1).toNat)) (s_turn_Unit_1 (cn (Int.ofNat a1_0).toNat) (cn (Int.ofNat a1_1).toNat))) 0 then bif !s_turn_Unit_2 (cn (Int.ofNat a1_0).toNat) (cn (Int.ofNat a1_1).toNat) then bif !(feq (s_turn_Unit_0 (cn (Int.ofNat a1_0).toNat) (cn (Int.ofNat a1_1).toNat)) 0 && feq (s_turn_Unit_1 (cn (Int.ofNat a1_0).toNat) (cn (Int.ofNat a1_1).toNat)) 0) then endP (AV.bool false) [] else bif !!ieq (s_turn_Check_0 (cn (Int.ofNat a1_0).toNat) (cn (Int.ofNat a1_1).toNat)) 0 then bif !ieq (s_turn_Check_0 (cn (Int.ofNat a2_0).toNat) (cn (Int.ofNat a2_1).toNat)) 0 then endP (AV.bool true) [] else bif s_turn_Unit_2 (cn (Int.ofNat a1_0).toNat) (cn (Int.ofNat a1_1).toNat) then bif ieq (s_turn_Check_0 (s_turn_Back_0 (cn (Int.ofNat a1_0).toNat) (cn (Int.ofNat a1_1).toNat)) (s_turn_Back_1 (cn (Int.ofNat a1_0).toNat) (cn (Int.ofNat a1_1).toNat))) 0 then bif fle 4607182418799984640 (s_law03_square_0 (s_turn_Then_0 (cn (Int.ofNat a1_0).toNat) (cn (Int.ofNat a1_1).toNat) (cn (Int.ofNat a2_0).toNat) (cn (Int.ofNat a2_1).toNat)) (s_turn_Then_1 (cn (Int.ofNat a1_0).toNat) (cn (Int.ofNat a1_1).toNat) (cn (Int.ofNat a2_0).toNat) (cn (Int.ofNat a2_1).toNat))) then endP (AV.bool (fle (s_law03_square_0 (s_turn_Then_0 (cn (Int.ofNat a1_0).toNat) (cn (Int.ofNat a1_1).toNat) (cn (Int.ofNat a2_0).toNat) (cn (Int.ofNat a2_1).toNat)) (s_turn_Then_1 (cn (Int.ofNat a1_0).toNat) (cn (Int.ofNat a1_1).toNat) (cn (Int.ofNat a2_0).toNat) (cn (Int.ofNat a2_1).toNat))) 4607182418800033792)) [] else endP (AV.bool false) [] else endP (AV.bool false) [] else endP (AV.bool false) [] else endP (AV.bool true) [] else bif !!ieq (s_turn_Check_0 (cn (Int.ofNat a1_0).toNat) (cn (Int.ofNat a1_1).toNat)) 0 then bif !ieq (s_turn_Check_0 (cn (Int.ofNat a2_0).toNat) (cn (Int.ofNat a2_1).toNat)) 0 then endP (AV.bool true) [] else bif s_turn_Unit_2 (cn (Int.ofNat a1_0).toNat) (cn (Int.ofNat a1_1).toNat) then bif ieq (s_turn_Check_0 (s_turn_Back_0 (cn (Int.ofNat a1_0).toNat) (cn (Int.ofNat a1_1).toNat)) (s_turn_Back_1 (cn (Int.ofNat a1_0).toNat) (cn (Int.ofNat a1_1).toNat))) 0 then bif fle 4607182418799984640 (s_law03_square_0 (s_turn_Then_0 (cn (Int.ofNat a1_0).toNat) (cn (Int.ofNat a1_1).toNat) (cn (Int.ofNat a2_0).toNat) (cn (Int.ofNat a2_1).toNat)) (s_turn_Then_1 (cn (Int.ofNat a1_0).toNat) (cn (Int.ofNat a1_1).toNat) (cn (Int.ofNat a2_0).toNat) (cn (Int.ofNat a2_1).toNat))) then endP (AV.bool (fle (s_law03_square_0 (s_turn_Then_0 (cn (Int.ofNat a1_0).toNat) (cn (Int.ofNat a1_1).toNat) (cn (Int.ofNat a2_0).toNat) (cn (Int.ofNat a2_1).toNat)) (s_turn_Then_1 (cn (Int.ofNat a1_0).toNat) (cn (Int.ofNat a1_1).toNat) (cn (Int.ofNat a2_0).toNat) (cn (Int.ofNat a2_1).toNat))) 4607182418800033792)) [] else endP (AV.bool false) [] else endP (AV.bool false) [] else endP (AV.bool false) [] else endP (AV.bool true) [] else endP (AV.bool false) [] else bif !s_turn_Unit_2 (cn (Int.ofNat a1_0).toNat) (cn (Int.ofNat a1_1).toNat) then bif !(feq (s_turn_Unit_0 (cn (Int.ofNat a1_0).toNat) (cn (Int.ofNat a1_1).toNat)) 0 && feq (s_turn_Unit_1 (cn (Int.ofNat a1_0).toNat) (cn (Int.ofNat a1_1).toNat)) 0) then endP (AV.bool false) [] else bif !!ieq (s_turn_Check_0 (cn (Int.ofNat a1_0).toNat) (cn (Int.ofNat a1_1).toNat)) 0 then bif !ieq (s_turn_Check_0 (cn (Int.ofNat a2_0).toNat) (cn (Int.ofNat a2_1).toNat)) 0 then endP (AV.bool true) [] else bif s_turn_Unit_2 (cn (Int.ofNat a1_0).toNat) (cn (Int.ofNat a1_1).toNat) then bif ieq (s_turn_Check_0 (s_turn_Back_0 (cn (Int.ofNat a1_0).toNat) (cn (Int.ofNat a1_1).toNat)) (s_turn_Back_1 (cn (Int.ofNat a1_0).toNat) (cn (Int.ofNat a1_1).toNat))) 0 then bif fle 4607182418799984640 (s_law03_square_0 (s_turn_Then_0 (cn (Int.ofNat a1_0).toNat) (cn (Int.ofNat a1_1).toNat) (cn (Int.ofNat a2_0).toNat) (cn (Int.ofNat a2_1).toNat)) (s_turn_Then_1 (cn (Int.ofNat a1_0).toNat) (cn (Int.ofNat a1_1).toNat) (cn (Int.ofNat a2_0).toNat) (cn (Int.ofNat a2_1).toNat))) then endP (AV.bool (fle (s_law03_square_0 (s_turn_Then_0 (cn (Int.ofNat a1_0).toNat) (cn (Int.ofNat a1_1).toNat) (cn (Int.ofNat a2_0).toNat) (cn (Int.ofNat a2_1).toNat)) (s_turn_Then_1 (cn (Int.ofNat a1_0).toNat) (cn (Int.ofNat a1_1).toNat) (cn (Int.ofNat a2_0).toNat) (cn (Int.ofNat a2_1).toNat))) 4607182418800033792)) [] else endP (AV.bool false) [] else endP (AV.bool false) [] else endP (AV.bool false) [] else endP (AV.bool true) [] else bif !!ieq (s_turn_Check_0 (cn (Int.ofNat a1_0).toNat) (cn (Int.ofNat a1_1).toNat)) 0 then bif !ieq (s_turn_Check_0 (cn (Int.ofNat a2_0).toNat) (cn (Int.ofNat a2_1).toNat)) 0 then endP (AV.bool true) [] else bif s_turn_Unit_2 (cn (Int.ofNat a1_0).toNat) (cn (Int.ofNat a1_1).toNat) then bif ieq (s_turn_Check_0 (s_turn_Back_0 (cn (Int.ofNat a1_0).toNat) (cn (Int.ofNat a1_1).toNat)) (s_turn_Back_1 (cn (Int.ofNat a1_0).toNat) (cn (Int.ofNat a1_1).toNat))) 0 then bif fle 4607182418799984640 (s_law03_square_0 (s_turn_Then_0 (cn (Int.ofNat a1_0).toNat) (cn (Int.ofNat a1_1).toNat) (cn (Int.ofNat a2_0).toNat) (cn (Int.ofNat a2_1).toNat)) (s_turn_Then_1 (cn (Int.ofNat a1_0).toNat) (cn (Int.ofNat a1_1).toNat) (cn (Int.ofNat a2_0).toNat) (cn (Int.ofNat a2_1).toNat))) then endP (AV.bool (fle (s_law03_square_0 (s_turn_Then_0 (cn (Int.ofNat a1_0).toNat) (cn (Int.ofNat a1_1).toNat) (cn (Int.ofNat a2_0).toNat) (cn (Int.ofNat a2_1).toNat)) (s_turn_Then_1 (cn (Int.ofNat a1_0).toNat) (cn (Int.ofNat a1_1).toNat) (cn (Int.ofNat a2_0).toNat) (cn (Int.ofNat a2_1).toNat))) 4607182418800033792)) [] else endP (AV.bool false) [] else endP (AV.bool false) [] else endP (AV.bool false) [] else endP (AV.bool true) [] else none else none else none else none else none
theorem tree_law03_TurnLong (a0_0 : Nat) (a1_0 : Nat) (a1_1 : Nat) (a2_0 : Nat) (a2_1 : Nat) : evFn Try.prog false env23 64 Try.f5 [AV.int .u64 (Int.ofNat a0_0), AV.agg [.int .u64 (Int.ofNat a1_0), .int .u64 (Int.ofNat a1_1)], AV.agg [.int .u64 (Int.ofNat a2_0), .int .u64 (Int.ofNat a2_1)]] [] endP = T_law03_TurnLong a0_0 a1_0 a1_1 a2_0 a2_1 := by kernel_rfl
-- tumble/tumblelaw03.small
noncomputable def s_law03_small_0 (a0_0 : Nat) : Bool := bif !feq (fabs a0_0) 0 then fle 3256102530588868608 (fabs a0_0) && fle (fabs a0_0) 5958262307011166208 else true
noncomputable def S_law03_small : List AV → Option AV
  | [AV.float a0_0] => some (AV.bool (s_law03_small_0 a0_0))
  | _ => none
theorem t_law03_small : ROk Try.prog false (27, pureF S_law03_small) := ROk.pure (N := 64) env23_ok Try.func27 Try.call27 fun args v h => by
  unfold S_law03_small at h
  split at h
  · rename_i a0_0
    cases h
    refine ⟨rfl, rfl, ?_⟩
    rw [show evFn Try.prog false env23 64 Try.f27 [AV.float a0_0] [] endP = bif !feq (fabs a0_0) 0 then bif fle 3256102530588868608 (fabs a0_0) then endP (AV.bool (fle (fabs a0_0) 5958262307011166208)) [] else endP (AV.bool false) [] else endP (AV.bool true) [] from by kernel_rfl]
    refine node_eq (fun h0 => ?_) (fun h0 => ?_)
    · skip
      refine node_eq (fun h1 => ?_) (fun h1 => ?_)
      · skip
        first | (simp only [endP, s_law03_small_0, h1, h0]; done) | (simp only [endP, s_law03_small_0, h1, h0]; rfl) | (simp only [endP, s_law03_small_0, h1, h0, cond_true, cond_false, Bool.true_and, Bool.false_and, Bool.and_true, Bool.and_false, Bool.true_or, Bool.false_or, Bool.or_true, Bool.or_false, Bool.not_true, Bool.not_false]; done) | (simp_all; done) | simp_all [feq_self, endP, s_law03_small_0]
      · skip
        first | (simp only [endP, s_law03_small_0, h1, h0]; done) | (simp only [endP, s_law03_small_0, h1, h0]; rfl) | (simp only [endP, s_law03_small_0, h1, h0, cond_true, cond_false, Bool.true_and, Bool.false_and, Bool.and_true, Bool.and_false, Bool.true_or, Bool.false_or, Bool.or_true, Bool.or_false, Bool.not_true, Bool.not_false]; done) | (simp_all; done) | simp_all [feq_self, endP, s_law03_small_0]
    · skip
      first | (simp only [endP, s_law03_small_0, h0]; done) | (simp only [endP, s_law03_small_0, h0]; rfl) | (simp only [endP, s_law03_small_0, h0, cond_true, cond_false, Bool.true_and, Bool.false_and, Bool.and_true, Bool.and_false, Bool.true_or, Bool.false_or, Bool.or_true, Bool.or_false, Bool.not_true, Bool.not_false]; done) | (simp_all; done) | simp_all [feq_self, endP, s_law03_small_0]
  · cases h
noncomputable def rs24 : List (FuncId × RF) := (27, pureF S_law03_small) :: rs23
noncomputable def env24 : Env := mkEnv xs rs24 ws0
theorem rs24_ok : All (ROk Try.prog false) rs24 := All.cons t_law03_small rs23_ok
theorem env24_ok : env24.Ok Try.prog false := mkEnv_ok xs_ok rs24_ok ws0_ok
-- tumble/turn.Angle
noncomputable def s_turn_Angle_0 (a0_0r : Nat) (a0_0i : Nat) (a1_0r : Nat) (a1_0i : Nat) : Nat := fsub (fmul a0_0r a1_0i) (fmul a0_0i a1_0r)
noncomputable def S_turn_Angle : List AV → Option AV
  | [AV.complex a0_0r a0_0i, AV.complex a1_0r a1_0i] => some (AV.float (s_turn_Angle_0 a0_0r a0_0i a1_0r a1_0i))
  | _ => none
theorem t_turn_Angle : ROk Try.prog false (28, pureF S_turn_Angle) := ROk.pure (N := 64) env24_ok Try.func28 Try.call28 fun args v h => by
  unfold S_turn_Angle at h
  split at h
  · rename_i a0_0r a0_0i a1_0r a1_0i
    cases h
    exact ⟨rfl, rfl, by kernel_rfl⟩
  · cases h
noncomputable def rs25 : List (FuncId × RF) := (28, pureF S_turn_Angle) :: rs24
noncomputable def env25 : Env := mkEnv xs rs25 ws0
theorem rs25_ok : All (ROk Try.prog false) rs25 := All.cons t_turn_Angle rs24_ok
theorem env25_ok : env25.Ok Try.prog false := mkEnv_ok xs_ok rs25_ok ws0_ok
-- tumble/tumblelaw03.TurnBack
noncomputable def T_law03_TurnBack (a0_0 : Nat) (a0_1 : Nat) (a1_0 : Nat) (a1_1 : Nat) (a2_0 : Nat) (a2_1 : Nat) : Option Res := bif u64ok (Int.ofNat a0_0) then bif u64ok (Int.ofNat a0_1) then bif u64ok (Int.ofNat a2_0) then bif u64ok (Int.ofNat a2_1) then bif !!ieq (s_turn_Check_0 (cn (Int.ofNat a0_0).toNat) (cn (Int.ofNat a0_1).toNat)) 0 then bif !!s_law03_small_0 (cn (Int.ofNat a2_0).toNat) then bif !s_law03_small_0 (cn (Int.ofNat a2_1).toNat) then endP (AV.bool true) [] else bif !flt (fmul 4436045632959938560 (fadd (fabs (cn (Int.ofNat a2_0).toNat)) (fabs (cn (Int.ofNat a2_1).toNat)))) (fabs (fsub (s_turn_Undo_0 (cn (Int.ofNat a0_0).toNat) (cn (Int.ofNat a0_1).toNat) (s_turn_Apply_0 (cn (Int.ofNat a0_0).toNat) (cn (Int.ofNat a0_1).toNat) (cn (Int.ofNat a2_0).toNat) (cn (Int.ofNat a2_1).toNat)) (s_turn_Apply_1 (cn (Int.ofNat a0_0).toNat) (cn (Int.ofNat a0_1).toNat) (cn (Int.ofNat a2_0).toNat) (cn (Int.ofNat a2_1).toNat))) (cn (Int.ofNat a2_0).toNat))) then bif !flt (fmul 4436045632959938560 (fadd (fabs (cn (Int.ofNat a2_0).toNat)) (fabs (cn (Int.ofNat a2_1).toNat)))) (fabs (fsub (s_turn_Undo_1 (cn (Int.ofNat a0_0).toNat) (cn (Int.ofNat a0_1).toNat) (s_turn_Apply_0 (cn (Int.ofNat a0_0).toNat) (cn (Int.ofNat a0_1).toNat) (cn (Int.ofNat a2_0).toNat) (cn (Int.ofNat a2_1).toNat)) (s_turn_Apply_1 (cn (Int.ofNat a0_0).toNat) (cn (Int.ofNat a0_1).toNat) (cn (Int.ofNat a2_0).toNat) (cn (Int.ofNat a2_1).toNat))) (cn (Int.ofNat a2_1).toNat))) then bif !flt (fmul 4436045632959938560 (fadd (fabs (cn (Int.ofNat a2_0).toNat)) (fabs (cn (Int.ofNat a2_1).toNat)))) (fabs (fsub (s_turn_Apply_0 (s_turn_Back_0 (cn (Int.ofNat a0_0).toNat) (cn (Int.ofNat a0_1).toNat)) (s_turn_Back_1 (cn (Int.ofNat a0_0).toNat) (cn (Int.ofNat a0_1).toNat)) (s_turn_Apply_0 (cn (Int.ofNat a0_0).toNat) (cn (Int.ofNat a0_1).toNat) (cn (Int.ofNat a2_0).toNat) (cn (Int.ofNat a2_1).toNat)) (s_turn_Apply_1 (cn (Int.ofNat a0_0).toNat) (cn (Int.ofNat a0_1).toNat) (cn (Int.ofNat a2_0).toNat) (cn (Int.ofNat a2_1).toNat))) (cn (Int.ofNat a2_0).toNat))) then bif !flt (fmul 4436045632959938560 (fadd (fabs (cn (Int.ofNat a2_0).toNat)) (fabs (cn (Int.ofNat a2_1).toNat)))) (fabs (fsub (s_turn_Apply_1 (s_turn_Back_0 (cn (Int.ofNat a0_0).toNat) (cn (Int.ofNat a0_1).toNat)) (s_turn_Back_1 (cn (Int.ofNat a0_0).toNat) (cn (Int.ofNat a0_1).toNat)) (s_turn_Apply_0 (cn (Int.ofNat a0_0).toNat) (cn (Int.ofNat a0_1).toNat) (cn (Int.ofNat a2_0).toNat) (cn (Int.ofNat a2_1).toNat)) (s_turn_Apply_1 (cn (Int.ofNat a0_0).toNat) (cn (Int.ofNat a0_1).toNat) (cn (Int.ofNat a2_0).toNat) (cn (Int.ofNat a2_1).toNat))) (cn (Int.ofNat a2_1).toNat))) then bif !!feq (s_turn_Undo_0 (cn (Int.ofNat a0_0).toNat) (cn (Int.ofNat a0_1).toNat) (s_turn_Apply_0 (cn (Int.ofNat a0_0).toNat) (cn (Int.ofNat a0_1).toNat) (cn (Int.ofNat a2_0).toNat) (cn (Int.ofNat a2_1).toNat)) (s_turn_Apply_1 (cn (Int.ofNat a0_0).toNat) (cn (Int.ofNat a0_1).toNat) (cn (Int.ofNat a2_0).toNat) (cn (Int.ofNat a2_1).toNat))) (s_turn_Undo_0 (cn (Int.ofNat a0_0).toNat) (cn (Int.ofNat a0_1).toNat) (s_turn_Apply_0 (cn (Int.ofNat a0_0).toNat) (cn (Int.ofNat a0_1).toNat) (cn (Int.ofNat a2_0).toNat) (cn (Int.ofNat a2_1).toNat)) (s_turn_Apply_1 (cn (Int.ofNat a0_0).toNat) (cn (Int.ofNat a0_1).toNat) (cn (Int.ofNat a2_0).toNat) (cn (Int.ofNat a2_1).toNat))) then bif !feq (s_turn_Undo_1 (cn (Int.ofNat a0_0).toNat) (cn (Int.ofNat a0_1).toNat) (s_turn_Apply_0 (cn (Int.ofNat a0_0).toNat) (cn (Int.ofNat a0_1).toNat) (cn (Int.ofNat a2_0).toNat) (cn (Int.ofNat a2_1).toNat)) (s_turn_Apply_1 (cn (Int.ofNat a0_0).toNat) (cn (Int.ofNat a0_1).toNat) (cn (Int.ofNat a2_0).toNat) (cn (Int.ofNat a2_1).toNat))) (s_turn_Undo_1 (cn (Int.ofNat a0_0).toNat) (cn (Int.ofNat a0_1).toNat) (s_turn_Apply_0 (cn (Int.ofNat a0_0).toNat) (cn (Int.ofNat a0_1).toNat) (cn (Int.ofNat a2_0).toNat) (cn (Int.ofNat a2_1).toNat)) (s_turn_Apply_1 (cn (Int.ofNat a0_0).toNat) (cn (Int.ofNat a0_1).toNat) (cn (Int.ofNat a2_0).toNat) (cn (Int.ofNat a2_1).toNat))) then endP (AV.bool false) [] else bif u64ok (Int.ofNat a1_0) then bif u64ok (Int.ofNat a1_1) then bif !ieq (s_turn_Check_0 (cn (Int.ofNat a1_0).toNat) (cn (Int.ofNat a1_1).toNat)) 0 then endP (AV.bool true) [] else bif feq (s_turn_Angle_0 (cn (Int.ofNat a0_0).toNat) (cn (Int.ofNat a0_1).toNat) (cn (Int.ofNat a1_0).toNat) (cn (Int.ofNat a1_1).toNat)) (fneg (s_turn_Angle_0 (cn (Int.ofNat a1_0).toNat) (cn (Int.ofNat a1_1).toNat) (cn (Int.ofNat a0_0).toNat) (cn (Int.ofNat a0_1).toNat))) then endP (AV.bool (feq (s_turn_Angle_0 (cn (Int.ofNat a0_0).toNat) (cn (Int.ofNat a0_1).toNat) (cn (Int.ofNat a0_0).toNat) (cn (Int.ofNat a0_1).toNat)) 0)) [] else endP (AV.bool false) [] else none else none else endP (AV.bool false) [] else endP (AV.bool false) [] else endP (AV.bool false) [] else endP (AV.bool false) [] else endP (AV.bool false) [] else endP (AV.bool true) [] else endP (AV.bool true) [] else none else none else none else none
theorem tree_law03_TurnBack (a0_0 : Nat) (a0_1 : Nat) (a1_0 : Nat) (a1_1 : Nat) (a2_0 : Nat) (a2_1 : Nat) : evFn Try.prog false env25 64 Try.f6 [AV.agg [.int .u64 (Int.ofNat a0_0), .int .u64 (Int.ofNat a0_1)], AV.agg [.int .u64 (Int.ofNat a1_0), .int .u64 (Int.ofNat a1_1)], AV.agg [.int .u64 (Int.ofNat a2_0), .int .u64 (Int.ofNat a2_1)]] [] endP = T_law03_TurnBack a0_0 a0_1 a1_0 a1_1 a2_0 a2_1 := by kernel_rfl
-- tumble/num.minus[float64]
noncomputable def s_num_minus_float64__0 (a0_0 : Nat) : Bool := flt (fdiv 4607182418800017408 a0_0) 0
noncomputable def S_num_minus_float64_ : List AV → Option AV
  | [AV.float a0_0] => some (AV.bool (s_num_minus_float64__0 a0_0))
  | _ => none
theorem t_num_minus_float64_ : ROk Try.prog false (45, pureF S_num_minus_float64_) := ROk.pure (N := 64) env25_ok Try.func45 Try.call45 fun args v h => by
  unfold S_num_minus_float64_ at h
  split at h
  · rename_i a0_0
    cases h
    exact ⟨rfl, rfl, by kernel_rfl⟩
  · cases h
noncomputable def rs26 : List (FuncId × RF) := (45, pureF S_num_minus_float64_) :: rs25
noncomputable def env26 : Env := mkEnv xs rs26 ws0
theorem rs26_ok : All (ROk Try.prog false) rs26 := All.cons t_num_minus_float64_ rs25_ok
theorem env26_ok : env26.Ok Try.prog false := mkEnv_ok xs_ok rs26_ok ws0_ok
-- tumble/num.none[float64]
noncomputable def s_num_none_float64__0 (a0_0 : Nat) : Bool := !feq a0_0 a0_0
noncomputable def S_num_none_float64_ : List AV → Option AV
  | [AV.float a0_0] => some (AV.bool (s_num_none_float64__0 a0_0))
  | _ => none
theorem t_num_none_float64_ : ROk Try.prog false (46, pureF S_num_none_float64_) := ROk.pure (N := 64) env26_ok Try.func46 Try.call46 fun args v h => by
  unfold S_num_none_float64_ at h
  split at h
  · rename_i a0_0
    cases h
    exact ⟨rfl, rfl, by kernel_rfl⟩
  · cases h
noncomputable def rs27 : List (FuncId × RF) := (46, pureF S_num_none_float64_) :: rs26
noncomputable def env27 : Env := mkEnv xs rs27 ws0
theorem rs27_ok : All (ROk Try.prog false) rs27 := All.cons t_num_none_float64_ rs26_ok
theorem env27_ok : env27.Ok Try.prog false := mkEnv_ok xs_ok rs27_ok ws0_ok
-- tumble/num.Same[float64]
noncomputable def s_num_Same_float64__0 (a0_0 : Nat) (a1_0 : Nat) : Bool := bif feq a0_0 0 then bif feq a1_0 0 then s_num_minus_float64__0 a0_0 == s_num_minus_float64__0 a1_0 else bif !feq a0_0 a1_0 then s_num_none_float64__0 a0_0 && s_num_none_float64__0 a1_0 else true else bif !feq a0_0 a1_0 then s_num_none_float64__0 a0_0 && s_num_none_float64__0 a1_0 else true
noncomputable def S_num_Same_float64_ : List AV → Option AV
  | [AV.float a0_0, AV.float a1_0] => some (AV.bool (s_num_Same_float64__0 a0_0 a1_0))
  | _ => none
theorem t_num_Same_float64_ : ROk Try.prog false (41, pureF S_num_Same_float64_) := ROk.pure (N := 64) env27_ok Try.func41 Try.call41 fun args v h => by
  unfold S_num_Same_float64_ at h
  split at h
  · rename_i a0_0 a1_0
    cases h
    refine ⟨rfl, rfl, ?_⟩
    rw [show evFn Try.prog false env27 64 Try.f41 [AV.float a0_0, AV.float a1_0] [] endP = bif feq a0_0 0 then bif feq a1_0 0 then endP (AV.bool (s_num_minus_float64__0 a0_0 == s_num_minus_float64__0 a1_0)) [] else bif !feq a0_0 a1_0 then bif s_num_none_float64__0 a0_0 then endP (AV.bool (s_num_none_float64__0 a1_0)) [] else endP (AV.bool false) [] else endP (AV.bool true) [] else bif !feq a0_0 a1_0 then bif s_num_none_float64__0 a0_0 then endP (AV.bool (s_num_none_float64__0 a1_0)) [] else endP (AV.bool false) [] else endP (AV.bool true) [] from by kernel_rfl]
    refine node_eq (fun h0 => ?_) (fun h0 => ?_)
    · skip
      refine node_eq (fun h1 => ?_) (fun h1 => ?_)
      · skip
        first | (simp only [endP, s_num_Same_float64__0, h1, h0]; done) | (simp only [endP, s_num_Same_float64__0, h1, h0]; rfl) | (simp only [endP, s_num_Same_float64__0, h1, h0, cond_true, cond_false, Bool.true_and, Bool.false_and, Bool.and_true, Bool.and_false, Bool.true_or, Bool.false_or, Bool.or_true, Bool.or_false, Bool.not_true, Bool.not_false]; done) | (simp_all; done) | simp_all [feq_self, endP, s_num_Same_float64__0, s_num_none_float64__0]
      · skip
        refine node_eq (fun h2 => ?_) (fun h2 => ?_)
        · skip
          refine node_eq (fun h3 => ?_) (fun h3 => ?_)
          · skip
            first | (simp only [endP, s_num_Same_float64__0, h3, h2, h1, h0]; done) | (simp only [endP, s_num_Same_float64__0, h3, h2, h1, h0]; rfl) | (simp only [endP, s_num_Same_float64__0, h3, h2, h1, h0, cond_true, cond_false, Bool.true_and, Bool.false_and, Bool.and_true, Bool.and_false, Bool.true_or, Bool.false_or, Bool.or_true, Bool.or_false, Bool.not_true, Bool.not_false]; done) | (simp_all; done) | simp_all [feq_self, endP, s_num_Same_float64__0, s_num_none_float64__0]
          · skip
            first | (simp only [endP, s_num_Same_float64__0, h3, h2, h1, h0]; done) | (simp only [endP, s_num_Same_float64__0, h3, h2, h1, h0]; rfl) | (simp only [endP, s_num_Same_float64__0, h3, h2, h1, h0, cond_true, cond_false, Bool.true_and, Bool.false_and, Bool.and_true, Bool.and_false, Bool.true_or, Bool.false_or, Bool.or_true, Bool.or_false, Bool.not_true, Bool.not_false]; done) | (simp_all; done) | simp_all [feq_self, endP, s_num_Same_float64__0, s_num_none_float64__0]
        · skip
          first | (simp only [endP, s_num_Same_float64__0, h2, h1, h0]; done) | (simp only [endP, s_num_Same_float64__0, h2, h1, h0]; rfl) | (simp only [endP, s_num_Same_float64__0, h2, h1, h0, cond_true, cond_false, Bool.true_and, Bool.false_and, Bool.and_true, Bool.and_false, Bool.true_or, Bool.false_or, Bool.or_true, Bool.or_false, Bool.not_true, Bool.not_false]; done) | (simp_all; done) | simp_all [feq_self, endP, s_num_Same_float64__0, s_num_none_float64__0]
    · skip
      refine node_eq (fun h1 => ?_) (fun h1 => ?_)
      · skip
        refine node_eq (fun h2 => ?_) (fun h2 => ?_)
        · skip
          first | (simp only [endP, s_num_Same_float64__0, h2, h1, h0]; done) | (simp only [endP, s_num_Same_float64__0, h2, h1, h0]; rfl) | (simp only [endP, s_num_Same_float64__0, h2, h1, h0, cond_true, cond_false, Bool.true_and, Bool.false_and, Bool.and_true, Bool.and_false, Bool.true_or, Bool.false_or, Bool.or_true, Bool.or_false, Bool.not_true, Bool.not_false]; done) | (simp_all; done) | simp_all [feq_self, endP, s_num_Same_float64__0, s_num_none_float64__0]
        · skip
          first | (simp only [endP, s_num_Same_float64__0, h2, h1, h0]; done) | (simp only [endP, s_num_Same_float64__0, h2, h1, h0]; rfl) | (simp only [endP, s_num_Same_float64__0, h2, h1, h0, cond_true, cond_false, Bool.true_and, Bool.false_and, Bool.and_true, Bool.and_false, Bool.true_or, Bool.false_or, Bool.or_true, Bool.or_false, Bool.not_true, Bool.not_false]; done) | (simp_all; done) | simp_all [feq_self, endP, s_num_Same_float64__0, s_num_none_float64__0]
      · skip
        first | (simp only [endP, s_num_Same_float64__0, h1, h0]; done) | (simp only [endP, s_num_Same_float64__0, h1, h0]; rfl) | (simp only [endP, s_num_Same_float64__0, h1, h0, cond_true, cond_false, Bool.true_and, Bool.false_and, Bool.and_true, Bool.and_false, Bool.true_or, Bool.false_or, Bool.or_true, Bool.or_false, Bool.not_true, Bool.not_false]; done) | (simp_all; done) | simp_all [feq_self, endP, s_num_Same_float64__0, s_num_none_float64__0]
  · cases h
noncomputable def rs28 : List (FuncId × RF) := (41, pureF S_num_Same_float64_) :: rs27
noncomputable def env28 : Env := mkEnv xs rs28 ws0
theorem rs28_ok : All (ROk Try.prog false) rs28 := All.cons t_num_Same_float64_ rs27_ok
theorem env28_ok : env28.Ok Try.prog false := mkEnv_ok xs_ok rs28_ok ws0_ok
-- tumble/turn.Same
noncomputable def s_turn_Same_0 (a0_0r : Nat) (a0_0i : Nat) (a1_0r : Nat) (a1_0i : Nat) : Bool := s_num_Same_float64__0 a0_0r a1_0r && s_num_Same_float64__0 a0_0i a1_0i
noncomputable def S_turn_Same : List AV → Option AV
  | [AV.complex a0_0r a0_0i, AV.complex a1_0r a1_0i] => some (AV.bool (s_turn_Same_0 a0_0r a0_0i a1_0r a1_0i))
  | _ => none
theorem t_turn_Same : ROk Try.prog false (30, pureF S_turn_Same) := ROk.pure (N := 64) env28_ok Try.func30 Try.call30 fun args v h => by
  unfold S_turn_Same at h
  split at h
  · rename_i a0_0r a0_0i a1_0r a1_0i
    cases h
    refine ⟨rfl, rfl, ?_⟩
    rw [show evFn Try.prog false env28 64 Try.f30 [AV.complex a0_0r a0_0i, AV.complex a1_0r a1_0i] [] endP = bif s_num_Same_float64__0 a0_0r a1_0r then endP (AV.bool (s_num_Same_float64__0 a0_0i a1_0i)) [] else endP (AV.bool false) [] from by kernel_rfl]
    refine node_eq (fun h0 => ?_) (fun h0 => ?_)
    · skip
      first | (simp only [endP, s_turn_Same_0, h0]; done) | (simp only [endP, s_turn_Same_0, h0]; rfl) | (simp only [endP, s_turn_Same_0, h0, cond_true, cond_false, Bool.true_and, Bool.false_and, Bool.and_true, Bool.and_false, Bool.true_or, Bool.false_or, Bool.or_true, Bool.or_false, Bool.not_true, Bool.not_false]; done) | (simp_all; done) | simp_all [feq_self, endP, s_turn_Same_0, s_num_Same_float64__0]
    · skip
      first | (simp only [endP, s_turn_Same_0, h0]; done) | (simp only [endP, s_turn_Same_0, h0]; rfl) | (simp only [endP, s_turn_Same_0, h0, cond_true, cond_false, Bool.true_and, Bool.false_and, Bool.and_true, Bool.and_false, Bool.true_or, Bool.false_or, Bool.or_true, Bool.or_false, Bool.not_true, Bool.not_false]; done) | (simp_all; done) | simp_all [feq_self, endP, s_turn_Same_0, s_num_Same_float64__0]
  · cases h
noncomputable def rs29 : List (FuncId × RF) := (30, pureF S_turn_Same) :: rs28
noncomputable def env29 : Env := mkEnv xs rs29 ws0
theorem rs29_ok : All (ROk Try.prog false) rs29 := All.cons t_turn_Same rs28_ok
theorem env29_ok : env29.Ok Try.prog false := mkEnv_ok xs_ok rs29_ok ws0_ok
-- tumble/tumblelaw03.TurnRow
noncomputable def T_law03_TurnRow (a0_0 : Nat) (a0_1 : Nat) (a1_0 : Nat) (a1_1 : Nat) (a2_0 : Nat) (a2_1 : Nat) : Option Res := bif u64ok (Int.ofNat a0_0) then bif u64ok (Int.ofNat a0_1) then bif u64ok (Int.ofNat a1_0) then bif u64ok (Int.ofNat a1_1) then bif u64ok (Int.ofNat a2_0) then bif u64ok (Int.ofNat a2_1) then bif !!ieq (s_turn_Order_0 (cn (Int.ofNat a0_0).toNat) (cn (Int.ofNat a0_1).toNat) (cn (Int.ofNat a0_0).toNat) (cn (Int.ofNat a0_1).toNat)) 0 then bif !!ieq (s_turn_Order_0 (cn (Int.ofNat a1_0).toNat) (cn (Int.ofNat a1_1).toNat) (cn (Int.ofNat a0_0).toNat) (cn (Int.ofNat a0_1).toNat)) (IntKind.i64.wrap (0 - s_turn_Order_0 (cn (Int.ofNat a0_0).toNat) (cn (Int.ofNat a0_1).toNat) (cn (Int.ofNat a1_0).toNat) (cn (Int.ofNat a1_1).toNat))) then bif !ilt (s_turn_Order_0 (cn (Int.ofNat a0_0).toNat) (cn (Int.ofNat a0_1).toNat) (cn (Int.ofNat a1_0).toNat) (cn (Int.ofNat a1_1).toNat)) (-1) then bif ilt 1 (s_turn_Order_0 (cn (Int.ofNat a0_0).toNat) (cn (Int.ofNat a0_1).toNat) (cn (Int.ofNat a1_0).toNat) (cn (Int.ofNat a1_1).toNat)) then endP (AV.bool false) [] else bif ile (s_turn_Order_0 (cn (Int.ofNat a0_0).toNat) (cn (Int.ofNat a0_1).toNat) (cn (Int.ofNat a1_0).toNat) (cn (Int.ofNat a1_1).toNat)) 0 then bif ile (s_turn_Order_0 (cn (Int.ofNat a1_0).toNat) (cn (Int.ofNat a1_1).toNat) (cn (Int.ofNat a2_0).toNat) (cn (Int.ofNat a2_1).toNat)) 0 then bif !ilt 0 (s_turn_Order_0 (cn (Int.ofNat a0_0).toNat) (cn (Int.ofNat a0_1).toNat) (cn (Int.ofNat a2_0).toNat) (cn (Int.ofNat a2_1).toNat)) then bif ile 0 (s_turn_Order_0 (cn (Int.ofNat a0_0).toNat) (cn (Int.ofNat a0_1).toNat) (cn (Int.ofNat a1_0).toNat) (cn (Int.ofNat a1_1).toNat)) then bif ile 0 (s_turn_Order_0 (cn (Int.ofNat a1_0).toNat) (cn (Int.ofNat a1_1).toNat) (cn (Int.ofNat a2_0).toNat) (cn (Int.ofNat a2_1).toNat)) then bif !ilt (s_turn_Order_0 (cn (Int.ofNat a0_0).toNat) (cn (Int.ofNat a0_1).toNat) (cn (Int.ofNat a2_0).toNat) (cn (Int.ofNat a2_1).toNat)) 0 then bif ieq (s_turn_Order_0 (cn (Int.ofNat a0_0).toNat) (cn (Int.ofNat a0_1).toNat) (cn (Int.ofNat a1_0).toNat) (cn (Int.ofNat a1_1).toNat)) 0 then bif ieq (s_turn_Order_0 (cn (Int.ofNat a1_0).toNat) (cn (Int.ofNat a1_1).toNat) (cn (Int.ofNat a2_0).toNat) (cn (Int.ofNat a2_1).toNat)) 0 then bif !ieq (s_turn_Order_0 (cn (Int.ofNat a0_0).toNat) (cn (Int.ofNat a0_1).toNat) (cn (Int.ofNat a2_0).toNat) (cn (Int.ofNat a2_1).toNat)) 0 then endP (AV.bool false) [] else bif !!s_turn_Same_0 (cn (Int.ofNat a0_0).toNat) (cn (Int.ofNat a0_1).toNat) (cn (Int.ofNat a1_0).toNat) (cn (Int.ofNat a1_1).toNat) then endP (AV.bool (ieq (s_turn_Order_0 (cn (Int.ofNat a0_0).toNat) (cn (Int.ofNat a0_1).toNat) (cn (Int.ofNat a1_0).toNat) (cn (Int.ofNat a1_1).toNat)) 0)) [] else endP (AV.bool true) [] else bif !!s_turn_Same_0 (cn (Int.ofNat a0_0).toNat) (cn (Int.ofNat a0_1).toNat) (cn (Int.ofNat a1_0).toNat) (cn (Int.ofNat a1_1).toNat) then endP (AV.bool (ieq (s_turn_Order_0 (cn (Int.ofNat a0_0).toNat) (cn (Int.ofNat a0_1).toNat) (cn (Int.ofNat a1_0).toNat) (cn (Int.ofNat a1_1).toNat)) 0)) [] else endP (AV.bool true) [] else bif !!s_turn_Same_0 (cn (Int.ofNat a0_0).toNat) (cn (Int.ofNat a0_1).toNat) (cn (Int.ofNat a1_0).toNat) (cn (Int.ofNat a1_1).toNat) then endP (AV.bool (ieq (s_turn_Order_0 (cn (Int.ofNat a0_0).toNat) (cn (Int.ofNat a0_1).toNat) (cn (Int.ofNat a1_0).toNat) (cn (Int.ofNat a1_1).toNat)) 0)) [] else endP (AV.bool true) [] else endP (AV.bool false) [] else bif ieq (s_turn_Order_0 (cn (Int.ofNat a0_0).toNat) (cn (Int.ofNat a0_1).toNat) (cn (Int.ofNat a1_0).toNat) (cn (Int.ofNat a1_1).toNat)) 0 then bif ieq (s_turn_Order_0 (cn (Int.ofNat a1_0).toNat) (cn (Int.ofNat a1_1).toNat) (cn (Int.ofNat a2_0).toNat) (cn (Int.ofNat a2_1).toNat)) 0 then bif !ieq (s_turn_Order_0 (cn (Int.ofNat a0_0).toNat) (cn (Int.ofNat a0_1).toNat) (cn (Int.ofNat a2_0).toNat) (cn (Int.ofNat a2_1).toNat)) 0 then endP (AV.bool false) [] else bif !!s_turn_Same_0 (cn (Int.ofNat a0_0).toNat) (cn (Int.ofNat a0_1).toNat) (cn (Int.ofNat a1_0).toNat) (cn (Int.ofNat a1_1).toNat) then endP (AV.bool (ieq (s_turn_Order_0 (cn (Int.ofNat a0_0).toNat) (cn (Int.ofNat a0_1).toNat) (cn (Int.ofNat a1_0).toNat) (cn (Int.ofNat a1_1).toNat)) 0)) [] else endP (AV.bool true) [] else bif !!s_turn_Same_0 (cn (Int.ofNat a0_0).toNat) (cn (Int.ofNat a0_1).toNat) (cn (Int.ofNat a1_0).toNat) (cn (Int.ofNat a1_1).toNat) then endP (AV.bool (ieq (s_turn_Order_0 (cn (Int.ofNat a0_0).toNat) (cn (Int.ofNat a0_1).toNat) (cn (Int.ofNat a1_0).toNat) (cn (Int.ofNat a1_1).toNat)) 0)) [] else endP (AV.bool true) [] else bif !!s_turn_Same_0 (cn (Int.ofNat a0_0).toNat) (cn (Int.ofNat a0_1).toNat) (cn (Int.ofNat a1_0).toNat) (cn (Int.ofNat a1_1).toNat) then endP (AV.bool (ieq (s_turn_Order_0 (cn (Int.ofNat a0_0).toNat) (cn (Int.ofNat a0_1).toNat) (cn (Int.ofNat a1_0).toNat) (cn (Int.ofNat a1_1).toNat)) 0)) [] else endP (AV.bool true) [] else bif ieq (s_turn_Order_0 (cn (Int.ofNat a0_0).toNat) (cn (Int.ofNat a0_1).toNat) (cn (Int.ofNat a1_0).toNat) (cn (Int.ofNat a1_1).toNat)) 0 then bif ieq (s_turn_Order_0 (cn (Int.ofNat a1_0).toNat) (cn (Int.ofNat a1_1).toNat) (cn (Int.ofNat a2_0).toNat) (cn (Int.ofNat a2_1).toNat)) 0 then bif !ieq (s_turn_Order_0 (cn (Int.ofNat a0_0).toNat) (cn (Int.ofNat a0_1).toNat) (cn (Int.ofNat a2_0).toNat) (cn (Int.ofNat a2_1).toNat)) 0 then endP (AV.bool false) [] else bif !!s_turn_Same_0 (cn (Int.ofNat a0_0).toNat) (cn (Int.ofNat a0_1).toNat) (cn (Int.ofNat a1_0).toNat) (cn (Int.ofNat a1_1).toNat) then endP (AV.bool (ieq (s_turn_Order_0 (cn (Int.ofNat a0_0).toNat) (cn (Int.ofNat a0_1).toNat) (cn (Int.ofNat a1_0).toNat) (cn (Int.ofNat a1_1).toNat)) 0)) [] else endP (AV.bool true) [] else bif !!s_turn_Same_0 (cn (Int.ofNat a0_0).toNat) (cn (Int.ofNat a0_1).toNat) (cn (Int.ofNat a1_0).toNat) (cn (Int.ofNat a1_1).toNat) then endP (AV.bool (ieq (s_turn_Order_0 (cn (Int.ofNat a0_0).toNat) (cn (Int.ofNat a0_1).toNat) (cn (Int.ofNat a1_0).toNat) (cn (Int.ofNat a1_1).toNat)) 0)) [] else endP (AV.bool true) [] else bif !!s_turn_Same_0 (cn (Int.ofNat a0_0).toNat) (cn (Int.ofNat a0_1).toNat) (cn (Int.ofNat a1_0).toNat) (cn (Int.ofNat a1_1).toNat) then endP (AV.bool (ieq (s_turn_Order_0 (cn (Int.ofNat a0_0).toNat) (cn (Int.ofNat a0_1).toNat) (cn (Int.ofNat a1_0).toNat) (cn (Int.ofNat a1_1).toNat)) 0)) [] else endP (AV.bool true) [] else endP (AV.bool false) [] else bif ile 0 (s_turn_Order_0 (cn (Int.ofNat a0_0).toNat) (cn (Int.ofNat a0_1).toNat) (cn (Int.ofNat a1_0).toNat) (cn (Int.ofNat a1_1).toNat)) then bif ile 0 (s_turn_Order_0 (cn (Int.ofNat a1_0).toNat) (cn (Int.ofNat a1_1).toNat) (cn (Int.ofNat a2_0).toNat) (cn (Int.ofNat a2_1).toNat)) then bif !ilt (s_turn_Order_0 (cn (Int.ofNat a0_0).toNat) (cn (Int.ofNat a0_1).toNat) (cn (Int.ofNat a2_0).toNat) (cn (Int.ofNat a2_1).toNat)) 0 then bif ieq (s_turn_Order_0 (cn (Int.ofNat a0_0).toNat) (cn (Int.ofNat a0_1).toNat) (cn (Int.ofNat a1_0).toNat) (cn (Int.ofNat a1_1).toNat)) 0 then bif ieq (s_turn_Order_0 (cn (Int.ofNat a1_0).toNat) (cn (Int.ofNat a1_1).toNat) (cn (Int.ofNat a2_0).toNat) (cn (Int.ofNat a2_1).toNat)) 0 then bif !ieq (s_turn_Order_0 (cn (Int.ofNat a0_0).toNat) (cn (Int.ofNat a0_1).toNat) (cn (Int.ofNat a2_0).toNat) (cn (Int.ofNat a2_1).toNat)) 0 then endP (AV.bool false) [] else bif !!s_turn_Same_0 (cn (Int.ofNat a0_0).toNat) (cn (Int.ofNat a0_1).toNat) (cn (Int.ofNat a1_0).toNat) (cn (Int.ofNat a1_1).toNat) then endP (AV.bool (ieq (s_turn_Order_0 (cn (Int.ofNat a0_0).toNat) (cn (Int.ofNat a0_1).toNat) (cn (Int.ofNat a1_0).toNat) (cn (Int.ofNat a1_1).toNat)) 0)) [] else endP (AV.bool true) [] else bif !!s_turn_Same_0 (cn (Int.ofNat a0_0).toNat) (cn (Int.ofNat a0_1).toNat) (cn (Int.ofNat a1_0).toNat) (cn (Int.ofNat a1_1).toNat) then endP (AV.bool (ieq (s_turn_Order_0 (cn (Int.ofNat a0_0).toNat) (cn (Int.ofNat a0_1).toNat) (cn (Int.ofNat a1_0).toNat) (cn (Int.ofNat a1_1).toNat)) 0)) [] else endP (AV.bool true) [] else bif !!s_turn_Same_0 (cn (Int.ofNat a0_0).toNat) (cn (Int.ofNat a0_1).toNat) (cn (Int.ofNat a1_0).toNat) (cn (Int.ofNat a1_1).toNat) then endP (AV.bool (ieq (s_turn_Order_0 (cn (Int.ofNat a0_0).toNat) (cn (Int.ofNat a0_1).toNat) (cn (Int.ofNat a1_0).toNat) (cn (Int.ofNat a1_1).toNat)) 0)) [] else endP (AV.bool true) [] else endP (AV.bool false) [] else bif ieq (s_turn_Order_0 (cn (Int.ofNat a0_0).toNat) (cn (Int.ofNat a0_1).toNat) (cn (Int.ofNat a1_0).toNat) (cn (Int.ofNat a1_1).toNat)) 0 then bif ieq (s_turn_Order_0 (cn (Int.ofNat a1_0).toNat) (cn (Int.ofNat a1_1).toNat) (cn (Int.ofNat a2_0).toNat) (cn (Int.ofNat a2_1).toNat)) 0 then bif !ieq (s_turn_Order_0 (cn (Int.ofNat a0_0).toNat) (cn (Int.ofNat a0_1).toNat) (cn (Int.ofNat a2_0).toNat) (cn (Int.ofNat a2_1).toNat)) 0 then endP (AV.bool false) [] else bif !!s_turn_Same_0 (cn (Int.ofNat a0_0).toNat) (cn (Int.ofNat a0_1).toNat) (cn (Int.ofNat a1_0).toNat) (cn (Int.ofNat a1_1).toNat) then endP (AV.bool (ieq (s_turn_Order_0 (cn (Int.ofNat a0_0).toNat) (cn (Int.ofNat a0_1).toNat) (cn (Int.ofNat a1_0).toNat) (cn (Int.ofNat a1_1).toNat)) 0)) [] else endP (AV.bool true) [] else bif !!s_turn_Same_0 (cn (Int.ofNat a0_0).toNat) (cn (Int.ofNat a0_1).toNat) (cn (Int.ofNat a1_0).toNat) (cn (Int.ofNat a1_1).toNat) then endP (AV.bool (ieq (s_turn_Order_0 (cn (Int.ofNat a0_0).toNat) (cn (Int.ofNat a0_1).toNat) (cn (Int.ofNat a1_0).toNat) (cn (Int.ofNat a1_1).toNat)) 0)) [] else endP (AV.bool true) [] else bif !!s_turn_Same_0 (cn (Int.ofNat a0_0).toNat) (cn (Int.ofNat a0_1).toNat) (cn (Int.ofNat a1_0).toNat) (cn (Int.ofNat a1_1).toNat) then endP (AV.bool (ieq (s_turn_Order_0 (cn (Int.ofNat a0_0).toNat) (cn (Int.ofNat a0_1).toNat) (cn (Int.ofNat a1_0).toNat) (cn (Int.ofNat a1_1).toNat)) 0)) [] else endP (AV.bool true) [] else bif ieq (s_turn_Order_0 (cn (Int.ofNat a0_0).toNat) (cn (Int.ofNat a0_1).toNat) (cn (Int.ofNat a1_0).toNat) (cn (Int.ofNat a1_1).toNat)) 0 then bif ieq (s_turn_Order_0 (cn (Int.ofNat a1_0).toNat) (cn (Int.ofNat a1_1).toNat) (cn (Int.ofNat a2_0).toNat) (cn (Int.ofNat a2_1).toNat)) 0 then bif !ieq (s_turn_Order_0 (cn (Int.ofNat a0_0).toNat) (cn (Int.ofNat a0_1).toNat) (cn (Int.ofNat a2_0).toNat) (cn (Int.ofNat a2_1).toNat)) 0 then endP (AV.bool false) [] else bif !!s_turn_Same_0 (cn (Int.ofNat a0_0).toNat) (cn (Int.ofNat a0_1).toNat) (cn (Int.ofNat a1_0).toNat) (cn (Int.ofNat a1_1).toNat) then endP (AV.bool (ieq (s_turn_Order_0 (cn (Int.ofNat a0_0).toNat) (cn (Int.ofNat a0_1).toNat) (cn (Int.ofNat a1_0).toNat) (cn (Int.ofNat a1_1).toNat)) 0)) [] else endP (AV.bool true) [] else bif !!s_turn_Same_0 (cn (Int.ofNat a0_0).toNat) (cn (Int.ofNat a0_1).toNat) (cn (Int.ofNat a1_0).toNat) (cn (Int.ofNat a1_1).toNat) then endP (AV.bool (ieq (s_turn_Order_0 (cn (Int.ofNat a0_0).toNat) (cn (Int.ofNat a0_1).toNat) (cn (Int.ofNat a1_0).toNat) (cn (Int.ofNat a1_1).toNat)) 0)) [] else endP (AV.bool true) [] else bif !!s_turn_Same_0 (cn (Int.ofNat a0_0).toNat) (cn (Int.ofNat a0_1).toNat) (cn (Int.ofNat a1_0).toNat) (cn (Int.ofNat a1_1).toNat) then endP (AV.bool (ieq (s_turn_Order_0 (cn (Int.ofNat a0_0).toNat) (cn (Int.ofNat a0_1).toNat) (cn (Int.ofNat a1_0).toNat) (cn (Int.ofNat a1_1).toNat)) 0)) [] else endP (AV.bool true) [] else bif ile 0 (s_turn_Order_0 (cn (Int.ofNat a0_0).toNat) (cn (Int.ofNat a0_1).toNat) (cn (Int.ofNat a1_0).toNat) (cn (Int.ofNat a1_1).toNat)) then bif ile 0 (s_turn_Order_0 (cn (Int.ofNat a1_0).toNat) (cn (Int.ofNat a1_1).toNat) (cn (Int.ofNat a2_0).toNat) (cn (Int.ofNat a2_1).toNat)) then bif !ilt (s_turn_Order_0 (cn (Int.ofNat a0_0).toNat) (cn (Int.ofNat a0_1).toNat) (cn (Int.ofNat a2_0).toNat) (cn (Int.ofNat a2_1).toNat)) 0 then bif ieq (s_turn_Order_0 (cn (Int.ofNat a0_0).toNat) (cn (Int.ofNat a0_1).toNat) (cn (Int.ofNat a1_0).toNat) (cn (Int.ofNat a1_1).toNat)) 0 then bif ieq (s_turn_Order_0 (cn (Int.ofNat a1_0).toNat) (cn (Int.ofNat a1_1).toNat) (cn (Int.ofNat a2_0).toNat) (cn (Int.ofNat a2_1).toNat)) 0 then bif !ieq (s_turn_Order_0 (cn (Int.ofNat a0_0).toNat) (cn (Int.ofNat a0_1).toNat) (cn (Int.ofNat a2_0).toNat) (cn (Int.ofNat a2_1).toNat)) 0 then endP (AV.bool false) [] else bif !!s_turn_Same_0 (cn (Int.ofNat a0_0).toNat) (cn (Int.ofNat a0_1).toNat) (cn (Int.ofNat a1_0).toNat) (cn (Int.ofNat a1_1).toNat) then endP (AV.bool (ieq (s_turn_Order_0 (cn (Int.ofNat a0_0).toNat) (cn (Int.ofNat a0_1).toNat) (cn (Int.ofNat a1_0).toNat) (cn (Int.ofNat a1_1).toNat)) 0)) [] else endP (AV.bool true) [] else bif !!s_turn_Same_0 (cn (Int.ofNat a0_0).toNat) (cn (Int.ofNat a0_1).toNat) (cn (Int.ofNat a1_0).toNat) (cn (Int.ofNat a1_1).toNat) then endP (AV.bool (ieq (s_turn_Order_0 (cn (Int.ofNat a0_0).toNat) (cn (Int.ofNat a0_1).toNat) (cn (Int.ofNat a1_0).toNat) (cn (Int.ofNat a1_1).toNat)) 0)) [] else endP (AV.bool true) [] else bif !!s_turn_Same_0 (cn (Int.ofNat a0_0).toNat) (cn (Int.ofNat a0_1).toNat) (cn (Int.ofNat a1_0).toNat) (cn (Int.ofNat a1_1).toNat) then endP (AV.bool (ieq (s_turn_Order_0 (cn (Int.ofNat a0_0).toNat) (cn (Int.ofNat a0_1).toNat) (cn (Int.ofNat a1_0).toNat) (cn (Int.ofNat a1_1).toNat)) 0)) [] else endP (AV.bool true) [] else endP (AV.bool false) [] else bif ieq (s_turn_Order_0 (cn (Int.ofNat a0_0).toNat) (cn (Int.ofNat a0_1).toNat) (cn (Int.ofNat a1_0).toNat) (cn (Int.ofNat a1_1).toNat)) 0 then bif ieq (s_turn_Order_0 (cn (Int.ofNat a1_0).toNat) (cn (Int.ofNat a1_1).toNat) (cn (Int.ofNat a2_0).toNat) (cn (Int.ofNat a2_1).toNat)) 0 then bif !ieq (s_turn_Order_0 (cn (Int.ofNat a0_0).toNat) (cn (Int.ofNat a0_1).toNat) (cn (Int.ofNat a2_0).toNat) (cn (Int.ofNat a2_1).toNat)) 0 then endP (AV.bool false) [] else bif !!s_turn_Same_0 (cn (Int.ofNat a0_0).toNat) (cn (Int.ofNat a0_1).toNat) (cn (Int.ofNat a1_0).toNat) (cn (Int.ofNat a1_1).toNat) then endP (AV.bool (ieq (s_turn_Order_0 (cn (Int.ofNat a0_0).toNat) (cn (Int.ofNat a0_1).toNat) (cn (Int.ofNat a1_0).toNat) (cn (Int.ofNat a1_1).toNat)) 0)) [] else endP (AV.bool true) [] else bif !!s_turn_Same_0 (cn (Int.ofNat a0_0).toNat) (cn (Int.ofNat a0_1).toNat) (cn (Int.ofNat a1_0).toNat) (cn (Int.ofNat a1_1).toNat) then endP (AV.bool (ieq (s_turn_Order_0 (cn (Int.ofNat a0_0).toNat) (cn (Int.ofNat a0_1).toNat) (cn (Int.ofNat a1_0).toNat) (cn (Int.ofNat a1_1).toNat)) 0)) [] else endP (AV.bool true) [] else bif !!s_turn_Same_0 (cn (Int.ofNat a0_0).toNat) (cn (Int.ofNat a0_1).toNat) (cn (Int.ofNat a1_0).toNat) (cn (Int.ofNat a1_1).toNat) then endP (AV.bool (ieq (s_turn_Order_0 (cn (Int.ofNat a0_0).toNat) (cn (Int.ofNat a0_1).toNat) (cn (Int.ofNat a1_0).toNat) (cn (Int.ofNat a1_1).toNat)) 0)) [] else endP (AV.bool true) [] else bif ieq (s_turn_Order_0 (cn (Int.ofNat a0_0).toNat) (cn (Int.ofNat a0_1).toNat) (cn (Int.ofNat a1_0).toNat) (cn (Int.ofNat a1_1).toNat)) 0 then bif ieq (s_turn_Order_0 (cn (Int.ofNat a1_0).toNat) (cn (Int.ofNat a1_1).toNat) (cn (Int.ofNat a2_0).toNat) (cn (Int.ofNat a2_1).toNat)) 0 then bif !ieq (s_turn_Order_0 (cn (Int.ofNat a0_0).toNat) (cn (Int.ofNat a0_1).toNat) (cn (Int.ofNat a2_0).toNat) (cn (Int.ofNat a2_1).toNat)) 0 then endP (AV.bool false) [] else bif !!s_turn_Same_0 (cn (Int.ofNat a0_0).toNat) (cn (Int.ofNat a0_1).toNat) (cn (Int.ofNat a1_0).toNat) (cn (Int.ofNat a1_1).toNat) then endP (AV.bool (ieq (s_turn_Order_0 (cn (Int.ofNat a0_0).toNat) (cn (Int.ofNat a0_1).toNat) (cn (Int.ofNat a1_0).toNat) (cn (Int.ofNat a1_1).toNat)) 0)) [] else endP (AV.bool true) [] else bif !!s_turn_Same_0 (cn (Int.ofNat a0_0).toNat) (cn (Int.ofNat a0_1).toNat) (cn (Int.ofNat a1_0).toNat) (cn (Int.ofNat a1_1).toNat) then endP (AV.bool (ieq (s_turn_Order_0 (cn (Int.ofNat a0_0).toNat) (cn (Int.ofNat a0_1).toNat) (cn (Int.ofNat a1_0).toNat) (cn (Int.ofNat a1_1).toNat)) 0)) [] else endP (AV.bool true) [] else bif !!s_turn_Same_0 (cn (Int.ofNat a0_0).toNat) (cn (Int.ofNat a0_1).toNat) (cn (Int.ofNat a1_0).toNat) (cn (Int.ofNat a1_1).toNat) then endP (AV.bool (ieq (s_turn_Order_0 (cn (Int.ofNat a0_0).toNat) (cn (Int.ofNat a0_1).toNat) (cn (Int.ofNat a1_0).toNat) (cn (Int.ofNat a1_1).toNat)) 0)) [] else endP (AV.bool true) [] else endP (AV.bool false) [] else endP (AV.bool false) [] else endP (AV.bool false) [] else none else none else none else none else none else none
theorem tree_law03_TurnRow (a0_0 : Nat) (a0_1 : Nat) (a1_0 : Nat) (a1_1 : Nat) (a2_0 : Nat) (a2_1 : Nat) : evFn Try.prog false env29 64 Try.f7 [AV.agg [.int .u64 (Int.ofNat a0_0), .int .u64 (Int.ofNat a0_1)], AV.agg [.int .u64 (Int.ofNat a1_0), .int .u64 (Int.ofNat a1_1)], AV.agg [.int .u64 (Int.ofNat a2_0), .int .u64 (Int.ofNat a2_1)]] [] endP = T_law03_TurnRow a0_0 a0_1 a1_0 a1_1 a2_0 a2_1 := by kernel_rfl
-- tumble/tumbleref03.Then
noncomputable def s_ref03_Then_0 (a0_0r : Nat) (a0_0i : Nat) (a1_0r : Nat) (a1_0i : Nat) : Nat := fsub (fmul a0_0r a1_0r) (fmul a0_0i a1_0i)
noncomputable def s_ref03_Then_1 (a0_0r : Nat) (a0_0i : Nat) (a1_0r : Nat) (a1_0i : Nat) : Nat := fadd (fmul a0_0r a1_0i) (fmul a0_0i a1_0r)
noncomputable def S_ref03_Then : List AV → Option AV
  | [AV.complex a0_0r a0_0i, AV.complex a1_0r a1_0i] => some (AV.complex (s_ref03_Then_0 a0_0r a0_0i a1_0r a1_0i) (s_ref03_Then_1 a0_0r a0_0i a1_0r a1_0i))
  | _ => none
theorem t_ref03_Then : ROk Try.prog false (32, pureF S_ref03_Then) := ROk.pure (N := 64) env29_ok Try.func32 Try.call32 fun args v h => by
  unfold S_ref03_Then at h
  split at h
  · rename_i a0_0r a0_0i a1_0r a1_0i
    cases h
    exact ⟨rfl, rfl, by kernel_rfl⟩
  · cases h
noncomputable def rs30 : List (FuncId × RF) := (32, pureF S_ref03_Then) :: rs29
noncomputable def env30 : Env := mkEnv xs rs30 ws0
theorem rs30_ok : All (ROk Try.prog false) rs30 := All.cons t_ref03_Then rs29_ok
theorem env30_ok : env30.Ok Try.prog false := mkEnv_ok xs_ok rs30_ok ws0_ok
-- tumble/tumbleref03.Same
noncomputable def s_ref03_Same_0 (a0_0r : Nat) (a0_0i : Nat) (a1_0r : Nat) (a1_0i : Nat) : Bool := fsame a0_0r a1_0r && fsame a0_0i a1_0i
noncomputable def S_ref03_Same : List AV → Option AV
  | [AV.complex a0_0r a0_0i, AV.complex a1_0r a1_0i] => some (AV.bool (s_ref03_Same_0 a0_0r a0_0i a1_0r a1_0i))
  | _ => none
theorem t_ref03_Same : ROk Try.prog false (31, pureF S_ref03_Same) := ROk.pure (N := 64) env30_ok Try.func31 Try.call31 fun args v h => by
  unfold S_ref03_Same at h
  split at h
  · rename_i a0_0r a0_0i a1_0r a1_0i
    cases h
    refine ⟨rfl, rfl, ?_⟩
    rw [show evFn Try.prog false env30 64 Try.f31 [AV.complex a0_0r a0_0i, AV.complex a1_0r a1_0i] [] endP = bif fsame a0_0r a1_0r then endP (AV.bool (fsame a0_0i a1_0i)) [] else endP (AV.bool false) [] from by kernel_rfl]
    refine node_eq (fun h0 => ?_) (fun h0 => ?_)
    · skip
      first | (simp only [endP, s_ref03_Same_0, h0]; done) | (simp only [endP, s_ref03_Same_0, h0]; rfl) | (simp only [endP, s_ref03_Same_0, h0, cond_true, cond_false, Bool.true_and, Bool.false_and, Bool.and_true, Bool.and_false, Bool.true_or, Bool.false_or, Bool.or_true, Bool.or_false, Bool.not_true, Bool.not_false]; done) | (simp_all; done) | simp_all [feq_self, endP, s_ref03_Same_0]
    · skip
      first | (simp only [endP, s_ref03_Same_0, h0]; done) | (simp only [endP, s_ref03_Same_0, h0]; rfl) | (simp only [endP, s_ref03_Same_0, h0, cond_true, cond_false, Bool.true_and, Bool.false_and, Bool.and_true, Bool.and_false, Bool.true_or, Bool.false_or, Bool.or_true, Bool.or_false, Bool.not_true, Bool.not_false]; done) | (simp_all; done) | simp_all [feq_self, endP, s_ref03_Same_0]
  · cases h
noncomputable def rs31 : List (FuncId × RF) := (31, pureF S_ref03_Same) :: rs30
noncomputable def env31 : Env := mkEnv xs rs31 ws0
theorem rs31_ok : All (ROk Try.prog false) rs31 := All.cons t_ref03_Same rs30_ok
theorem env31_ok : env31.Ok Try.prog false := mkEnv_ok xs_ok rs31_ok ws0_ok
-- tumble/tumbleref03.half
noncomputable def s_ref03_half_0 (a0_0r : Nat) (a0_0i : Nat) : Int := bif !!feq a0_0r a0_0r then bif !feq a0_0i a0_0i then 2 else bif !flt 0 a0_0i then bif feq a0_0i 0 then bif fle 0 a0_0r then 0 else 1 else 1 else 0 else 2
noncomputable def S_ref03_half : List AV → Option AV
  | [AV.complex a0_0r a0_0i] => some (AV.int IntKind.i64 (s_ref03_half_0 a0_0r a0_0i))
  | _ => none
theorem t_ref03_half : ROk Try.prog false (42, pureF S_ref03_half) := ROk.pure (N := 64) env31_ok Try.func42 Try.call42 fun args v h => by
  unfold S_ref03_half at h
  split at h
  · rename_i a0_0r a0_0i
    cases h
    refine ⟨rfl, rfl, ?_⟩
    rw [show evFn Try.prog false env31 64 Try.f42 [AV.complex a0_0r a0_0i] [] endP = bif !!feq a0_0r a0_0r then bif !feq a0_0i a0_0i then endP (AV.int IntKind.i64 2) [] else bif !flt 0 a0_0i then bif feq a0_0i 0 then bif fle 0 a0_0r then endP (AV.int IntKind.i64 0) [] else endP (AV.int IntKind.i64 1) [] else endP (AV.int IntKind.i64 1) [] else endP (AV.int IntKind.i64 0) [] else endP (AV.int IntKind.i64 2) [] from by kernel_rfl]
    refine node_eq (fun h0 => ?_) (fun h0 => ?_)
    · skip
      refine node_eq (fun h1 => ?_) (fun h1 => ?_)
      · skip
        first | (simp only [endP, s_ref03_half_0, h1, h0]; done) | (simp only [endP, s_ref03_half_0, h1, h0]; rfl) | (simp only [endP, s_ref03_half_0, h1, h0, cond_true, cond_false, Bool.true_and, Bool.false_and, Bool.and_true, Bool.and_false, Bool.true_or, Bool.false_or, Bool.or_true, Bool.or_false, Bool.not_true, Bool.not_false]; done) | (simp_all; done) | simp_all [feq_self, endP, s_ref03_half_0]
      · skip
        refine node_eq (fun h2 => ?_) (fun h2 => ?_)
        · skip
          refine node_eq (fun h3 => ?_) (fun h3 => ?_)
          · skip
            refine node_eq (fun h4 => ?_) (fun h4 => ?_)
            · skip
              first | (simp only [endP, s_ref03_half_0, h4, h3, h2, h1, h0]; done) | (simp only [endP, s_ref03_half_0, h4, h3, h2, h1, h0]; rfl) | (simp only [endP, s_ref03_half_0, h4, h3, h2, h1, h0, cond_true, cond_false, Bool.true_and, Bool.false_and, Bool.and_true, Bool.and_false, Bool.true_or, Bool.false_or, Bool.or_true, Bool.or_false, Bool.not_true, Bool.not_false]; done) | (simp_all; done) | simp_all [feq_self, endP, s_ref03_half_0]
            · skip
              first | (simp only [endP, s_ref03_half_0, h4, h3, h2, h1, h0]; done) | (simp only [endP, s_ref03_half_0, h4, h3, h2, h1, h0]; rfl) | (simp only [endP, s_ref03_half_0, h4, h3, h2, h1, h0, cond_true, cond_false, Bool.true_and, Bool.false_and, Bool.and_true, Bool.and_false, Bool.true_or, Bool.false_or, Bool.or_true, Bool.or_false, Bool.not_true, Bool.not_false]; done) | (simp_all; done) | simp_all [feq_self, endP, s_ref03_half_0]
          · skip
            first | (simp only [endP, s_ref03_half_0, h3, h2, h1, h0]; done) | (simp only [endP, s_ref03_half_0, h3, h2, h1, h0]; rfl) | (simp only [endP, s_ref03_half_0, h3, h2, h1, h0, cond_true, cond_false, Bool.true_and, Bool.false_and, Bool.and_true, Bool.and_false, Bool.true_or, Bool.false_or, Bool.or_true, Bool.or_false, Bool.not_true, Bool.not_false]; done) | (simp_all; done) | simp_all [feq_self, endP, s_ref03_half_0]
        · skip
          first | (simp only [endP, s_ref03_half_0, h2, h1, h0]; done) | (simp only [endP, s_ref03_half_0, h2, h1, h0]; rfl) | (simp only [endP, s_ref03_half_0, h2, h1, h0, cond_true, cond_false, Bool.true_and, Bool.false_and, Bool.and_true, Bool.and_false, Bool.true_or, Bool.false_or, Bool.or_true, Bool.or_false, Bool.not_true, Bool.not_false]; done) | (simp_all; done) | simp_all [feq_self, endP, s_ref03_half_0]
    · skip
      first | (simp only [endP, s_ref03_half_0, h0]; done) | (simp only [endP, s_ref03_half_0, h0]; rfl) | (simp only [endP, s_ref03_half_0, h0, cond_true, cond_false, Bool.true_and, Bool.false_and, Bool.and_true, Bool.and_false, Bool.true_or, Bool.false_or, Bool.or_true, Bool.or_false, Bool.not_true, Bool.not_false]; done) | (simp_all; done) | simp_all [feq_self, endP, s_ref03_half_0]
  · cases h
noncomputable def rs32 : List (FuncId × RF) := (42, pureF S_ref03_half) :: rs31
noncomputable def env32 : Env := mkEnv xs rs32 ws0
theorem rs32_ok : All (ROk Try.prog false) rs32 := All.cons t_ref03_half rs31_ok
theorem env32_ok : env32.Ok Try.prog false := mkEnv_ok xs_ok rs32_ok ws0_ok
-- tumble/tumbleref03.sign
noncomputable def s_ref03_sign_0 (a0_0 : Nat) (a1_0 : Nat) : Int := bif flt a0_0 a1_0 then -1 else bif flt a1_0 a0_0 then 1 else 0
noncomputable def S_ref03_sign : List AV → Option AV
  | [AV.float a0_0, AV.float a1_0] => some (AV.int IntKind.i64 (s_ref03_sign_0 a0_0 a1_0))
  | _ => none
theorem t_ref03_sign : ROk Try.prog false (43, pureF S_ref03_sign) := ROk.pure (N := 64) env32_ok Try.func43 Try.call43 fun args v h => by
  unfold S_ref03_sign at h
  split at h
  · rename_i a0_0 a1_0
    cases h
    refine ⟨rfl, rfl, ?_⟩
    rw [show evFn Try.prog false env32 64 Try.f43 [AV.float a0_0, AV.float a1_0] [] endP = bif flt a0_0 a1_0 then endP (AV.int IntKind.i64 (-1)) [] else bif flt a1_0 a0_0 then endP (AV.int IntKind.i64 1) [] else endP (AV.int IntKind.i64 0) [] from by kernel_rfl]
    refine node_eq (fun h0 => ?_) (fun h0 => ?_)
    · skip
      first | (simp only [endP, s_ref03_sign_0, h0]; done) | (simp only [endP, s_ref03_sign_0, h0]; rfl) | (simp only [endP, s_ref03_sign_0, h0, cond_true, cond_false, Bool.true_and, Bool.false_and, Bool.and_true, Bool.and_false, Bool.true_or, Bool.false_or, Bool.or_true, Bool.or_false, Bool.not_true, Bool.not_false]; done) | (simp_all; done) | simp_all [feq_self, endP, s_ref03_sign_0]
    · skip
      refine node_eq (fun h1 => ?_) (fun h1 => ?_)
      · skip
        first | (simp only [endP, s_ref03_sign_0, h1, h0]; done) | (simp only [endP, s_ref03_sign_0, h1, h0]; rfl) | (simp only [endP, s_ref03_sign_0, h1, h0, cond_true, cond_false, Bool.true_and, Bool.false_and, Bool.and_true, Bool.and_false, Bool.true_or, Bool.false_or, Bool.or_true, Bool.or_false, Bool.not_true, Bool.not_false]; done) | (simp_all; done) | simp_all [feq_self, endP, s_ref03_sign_0]
      · skip
        first | (simp only [endP, s_ref03_sign_0, h1, h0]; done) | (simp only [endP, s_ref03_sign_0, h1, h0]; rfl) | (simp only [endP, s_ref03_sign_0, h1, h0, cond_true, cond_false, Bool.true_and, Bool.false_and, Bool.and_true, Bool.and_false, Bool.true_or, Bool.false_or, Bool.or_true, Bool.or_false, Bool.not_true, Bool.not_false]; done) | (simp_all; done) | simp_all [feq_self, endP, s_ref03_sign_0]
  · cases h
noncomputable def rs33 : List (FuncId × RF) := (43, pureF S_ref03_sign) :: rs32
noncomputable def env33 : Env := mkEnv xs rs33 ws0
theorem rs33_ok : All (ROk Try.prog false) rs33 := All.cons t_ref03_sign rs32_ok
theorem env33_ok : env33.Ok Try.prog false := mkEnv_ok xs_ok rs33_ok ws0_ok
-- tumble/tumbleref03.Order
noncomputable def s_ref03_Order_0 (a0_0r : Nat) (a0_0i : Nat) (a1_0r : Nat) (a1_0i : Nat) : Int := bif !ieq (s_ref03_half_0 a0_0r a0_0i) (s_ref03_half_0 a1_0r a1_0i) then s_ref03_sign_0 (FloatKind.f64.nearest (s_ref03_half_0 a0_0r a0_0i)) (FloatKind.f64.nearest (s_ref03_half_0 a1_0r a1_0i)) else bif ieq (s_ref03_half_0 a0_0r a0_0i) 2 then 0 else bif ieq (s_ref03_half_0 a0_0r a0_0i) 0 then bif !ieq (IntKind.i64.wrap (0 - s_ref03_sign_0 a0_0r a1_0r)) 0 then IntKind.i64.wrap (0 - s_ref03_sign_0 a0_0r a1_0r) else s_ref03_sign_0 a0_0i a1_0i else bif !ieq (s_ref03_sign_0 a0_0r a1_0r) 0 then s_ref03_sign_0 a0_0r a1_0r else s_ref03_sign_0 a0_0i a1_0i
noncomputable def S_ref03_Order : List AV → Option AV
  | [AV.complex a0_0r a0_0i, AV.complex a1_0r a1_0i] => some (AV.int IntKind.i64 (s_ref03_Order_0 a0_0r a0_0i a1_0r a1_0i))
  | _ => none
theorem t_ref03_Order : ROk Try.prog false (33, pureF S_ref03_Order) := ROk.pure (N := 64) env33_ok Try.func33 Try.call33 fun args v h => by
  unfold S_ref03_Order at h
  split at h
  · rename_i a0_0r a0_0i a1_0r a1_0i
    cases h
    refine ⟨rfl, rfl, ?_⟩
    rw [show evFn Try.prog false env33 64 Try.f33 [AV.complex a0_0r a0_0i, AV.complex a1_0r a1_0i] [] endP = bif !ieq (s_ref03_half_0 a0_0r a0_0i) (s_ref03_half_0 a1_0r a1_0i) then endP (AV.int IntKind.i64 (s_ref03_sign_0 (FloatKind.f64.nearest (s_ref03_half_0 a0_0r a0_0i)) (FloatKind.f64.nearest (s_ref03_half_0 a1_0r a1_0i)))) [] else bif ieq (s_ref03_half_0 a0_0r a0_0i) 2 then endP (AV.int IntKind.i64 0) [] else bif ieq (s_ref03_half_0 a0_0r a0_0i) 0 then bif !ieq (IntKind.i64.wrap (0 - s_ref03_sign_0 a0_0r a1_0r)) 0 then endP (AV.int IntKind.i64 (IntKind.i64.wrap (0 - s_ref03_sign_0 a0_0r a1_0r))) [] else endP (AV.int IntKind.i64 (s_ref03_sign_0 a0_0i a1_0i)) [] else bif !ieq (s_ref03_sign_0 a0_0r a1_0r) 0 then endP (AV.int IntKind.i64 (s_ref03_sign_0 a0_0r a1_0r)) [] else endP (AV.int IntKind.i64 (s_ref03_sign_0 a0_0i a1_0i)) [] from by kernel_rfl]
    refine node_eq (fun h0 => ?_) (fun h0 => ?_)
    · skip
      first | (simp only [endP, s_ref03_Order_0, h0]; done) | (simp only [endP, s_ref03_Order_0, h0]; rfl) | (simp only [endP, s_ref03_Order_0, h0, cond_true, cond_false, Bool.true_and, Bool.false_and, Bool.and_true, Bool.and_false, Bool.true_or, Bool.false_or, Bool.or_true, Bool.or_false, Bool.not_true, Bool.not_false]; done) | (simp_all; done) | simp_all [feq_self, endP, s_ref03_Order_0, s_ref03_half_0, s_ref03_sign_0]
    · skip
      refine node_eq (fun h1 => ?_) (fun h1 => ?_)
      · skip
        first | (simp only [endP, s_ref03_Order_0, h1, h0]; done) | (simp only [endP, s_ref03_Order_0, h1, h0]; rfl) | (simp only [endP, s_ref03_Order_0, h1, h0, cond_true, cond_false, Bool.true_and, Bool.false_and, Bool.and_true, Bool.and_false, Bool.true_or, Bool.false_or, Bool.or_true, Bool.or_false, Bool.not_true, Bool.not_false]; done) | (simp_all; done) | simp_all [feq_self, endP, s_ref03_Order_0, s_ref03_half_0, s_ref03_sign_0]
      · skip
        refine node_eq (fun h2 => ?_) (fun h2 => ?_)
        · skip
          refine node_eq (fun h3 => ?_) (fun h3 => ?_)
          · skip
            first | (simp only [endP, s_ref03_Order_0, h3, h2, h1, h0]; done) | (simp only [endP, s_ref03_Order_0, h3, h2, h1, h0]; rfl) | (simp only [endP, s_ref03_Order_0, h3, h2, h1, h0, cond_true, cond_false, Bool.true_and, Bool.false_and, Bool.and_true, Bool.and_false, Bool.true_or, Bool.false_or, Bool.or_true, Bool.or_false, Bool.not_true, Bool.not_false]; done) | (simp_all; done) | simp_all [feq_self, endP, s_ref03_Order_0, s_ref03_half_0, s_ref03_sign_0]
          · skip
            first | (simp only [endP, s_ref03_Order_0, h3, h2, h1, h0]; done) | (simp only [endP, s_ref03_Order_0, h3, h2, h1, h0]; rfl) | (simp only [endP, s_ref03_Order_0, h3, h2, h1, h0, cond_true, cond_false, Bool.true_and, Bool.false_and, Bool.and_true, Bool.and_false, Bool.true_or, Bool.false_or, Bool.or_true, Bool.or_false, Bool.not_true, Bool.not_false]; done) | (simp_all; done) | simp_all [feq_self, endP, s_ref03_Order_0, s_ref03_half_0, s_ref03_sign_0]
        · skip
          refine node_eq (fun h3 => ?_) (fun h3 => ?_)
          · skip
            first | (simp only [endP, s_ref03_Order_0, h3, h2, h1, h0]; done) | (simp only [endP, s_ref03_Order_0, h3, h2, h1, h0]; rfl) | (simp only [endP, s_ref03_Order_0, h3, h2, h1, h0, cond_true, cond_false, Bool.true_and, Bool.false_and, Bool.and_true, Bool.and_false, Bool.true_or, Bool.false_or, Bool.or_true, Bool.or_false, Bool.not_true, Bool.not_false]; done) | (simp_all; done) | simp_all [feq_self, endP, s_ref03_Order_0, s_ref03_half_0, s_ref03_sign_0]
          · skip
            first | (simp only [endP, s_ref03_Order_0, h3, h2, h1, h0]; done) | (simp only [endP, s_ref03_Order_0, h3, h2, h1, h0]; rfl) | (simp only [endP, s_ref03_Order_0, h3, h2, h1, h0, cond_true, cond_false, Bool.true_and, Bool.false_and, Bool.and_true, Bool.and_false, Bool.true_or, Bool.false_or, Bool.or_true, Bool.or_false, Bool.not_true, Bool.not_false]; done) | (simp_all; done) | simp_all [feq_self, endP, s_ref03_Order_0, s_ref03_half_0, s_ref03_sign_0]
  · cases h
noncomputable def rs34 : List (FuncId × RF) := (33, pureF S_ref03_Order) :: rs33
noncomputable def env34 : Env := mkEnv xs rs34 ws0
theorem rs34_ok : All (ROk Try.prog false) rs34 := All.cons t_ref03_Order rs33_ok
theorem env34_ok : env34.Ok Try.prog false := mkEnv_ok xs_ok rs34_ok ws0_ok
-- tumble/tumbleref03.Angle
noncomputable def s_ref03_Angle_0 (a0_0r : Nat) (a0_0i : Nat) (a1_0r : Nat) (a1_0i : Nat) : Nat := fsub (fmul a0_0r a1_0i) (fmul a0_0i a1_0r)
noncomputable def S_ref03_Angle : List AV → Option AV
  | [AV.complex a0_0r a0_0i, AV.complex a1_0r a1_0i] => some (AV.float (s_ref03_Angle_0 a0_0r a0_0i a1_0r a1_0i))
  | _ => none
theorem t_ref03_Angle : ROk Try.prog false (35, pureF S_ref03_Angle) := ROk.pure (N := 64) env34_ok Try.func35 Try.call35 fun args v h => by
  unfold S_ref03_Angle at h
  split at h
  · rename_i a0_0r a0_0i a1_0r a1_0i
    cases h
    exact ⟨rfl, rfl, by kernel_rfl⟩
  · cases h
noncomputable def rs35 : List (FuncId × RF) := (35, pureF S_ref03_Angle) :: rs34
noncomputable def env35 : Env := mkEnv xs rs35 ws0
theorem rs35_ok : All (ROk Try.prog false) rs35 := All.cons t_ref03_Angle rs34_ok
theorem env35_ok : env35.Ok Try.prog false := mkEnv_ok xs_ok rs35_ok ws0_ok
-- tumble/tumblelaw03.TurnTwo
noncomputable def T_law03_TurnTwo (a0_0 : Nat) (a0_1 : Nat) (a1_0 : Nat) (a1_1 : Nat) : Option Res := bif u64ok (Int.ofNat a0_0) then bif u64ok (Int.ofNat a0_1) then bif u64ok (Int.ofNat a1_0) then bif u64ok (Int.ofNat a1_1) then bif s_ref03_Same_0 (s_turn_Then_0 (cn (Int.ofNat a0_0).toNat) (cn (Int.ofNat a0_1).toNat) (cn (Int.ofNat a1_0).toNat) (cn (Int.ofNat a1_1).toNat)) (s_turn_Then_1 (cn (Int.ofNat a0_0).toNat) (cn (Int.ofNat a0_1).toNat) (cn (Int.ofNat a1_0).toNat) (cn (Int.ofNat a1_1).toNat)) (s_ref03_Then_0 (cn (Int.ofNat a0_0).toNat) (cn (Int.ofNat a0_1).toNat) (cn (Int.ofNat a1_0).toNat) (cn (Int.ofNat a1_1).toNat)) (s_ref03_Then_1 (cn (Int.ofNat a0_0).toNat) (cn (Int.ofNat a0_1).toNat) (cn (Int.ofNat a1_0).toNat) (cn (Int.ofNat a1_1).toNat)) then bif ieq (s_turn_Order_0 (cn (Int.ofNat a0_0).toNat) (cn (Int.ofNat a0_1).toNat) (cn (Int.ofNat a1_0).toNat) (cn (Int.ofNat a1_1).toNat)) (s_ref03_Order_0 (cn (Int.ofNat a0_0).toNat) (cn (Int.ofNat a0_1).toNat) (cn (Int.ofNat a1_0).toNat) (cn (Int.ofNat a1_1).toNat)) then bif s_turn_Same_0 (cn (Int.ofNat a0_0).toNat) (cn (Int.ofNat a0_1).toNat) (cn (Int.ofNat a1_0).toNat) (cn (Int.ofNat a1_1).toNat) == s_ref03_Same_0 (cn (Int.ofNat a0_0).toNat) (cn (Int.ofNat a0_1).toNat) (cn (Int.ofNat a1_0).toNat) (cn (Int.ofNat a1_1).toNat) then endP (AV.bool (fsame (s_turn_Angle_0 (cn (Int.ofNat a0_0).toNat) (cn (Int.ofNat a0_1).toNat) (cn (Int.ofNat a1_0).toNat) (cn (Int.ofNat a1_1).toNat)) (s_ref03_Angle_0 (cn (Int.ofNat a0_0).toNat) (cn (Int.ofNat a0_1).toNat) (cn (Int.ofNat a1_0).toNat) (cn (Int.ofNat a1_1).toNat)))) [] else endP (AV.bool false) [] else endP (AV.bool false) [] else endP (AV.bool false) [] else none else none else none else none
theorem tree_law03_TurnTwo (a0_0 : Nat) (a0_1 : Nat) (a1_0 : Nat) (a1_1 : Nat) : evFn Try.prog false env35 64 Try.f8 [AV.agg [.int .u64 (Int.ofNat a0_0), .int .u64 (Int.ofNat a0_1)], AV.agg [.int .u64 (Int.ofNat a1_0), .int .u64 (Int.ofNat a1_1)]] [] endP = T_law03_TurnTwo a0_0 a0_1 a1_0 a1_1 := by kernel_rfl
end Go.Proofs.Ythaalobnckdjoaa
