/- The contracts of the functions that these laws reach, printed by a program of this work: each says what the Go function gives, up to which NaN. -/
import Derived.Test.YthaalobnckdjoaaProg
import Derived.KernelRfl
import Derived.Test.YthaalobnckdjoaaSimDEnv
set_option linter.unusedVariables false
set_option linter.unusedSimpArgs false
namespace Go.Proofs.Ythaalobnckdjoaa
open Go.Sim
def xxs : List (FuncId × XF) := [(44, xF true .sqrt), (37, xF true .tobits), (22, xF true .frombits)]
def xenv : Env := mkEnv xxs [] []
theorem xxs_ok : All (XOk Try.prog true) xxs := All.cons (x_ok (f := 44) .sqrt fun args w => run_callFunc_extern Try.func44 (by kernel_rfl) (by kernel_rfl) (by kernel_rfl) (by kernel_rfl) args w)
  (All.cons (x_ok (f := 37) .tobits fun args w => run_callFunc_extern Try.func37 (by kernel_rfl) (by kernel_rfl) (by kernel_rfl) (by kernel_rfl) args w)
  (All.cons (x_ok (f := 22) .frombits fun args w => run_callFunc_extern Try.func22 (by kernel_rfl) (by kernel_rfl) (by kernel_rfl) (by kernel_rfl) args w)
  (All.nil)))
theorem xenv_ok : xenv.Ok Try.prog true := mkEnv_ok xxs_ok All.nil All.nil
def mxs : List (FuncId × XFM) := [(44, xFM false .sqrt), (37, xFM false .tobits), (22, xFM false .frombits)]
theorem mxs_ok : All (XOkM Try.prog false) mxs := All.cons (xM_ok (f := 44) .sqrt fun args w => run_callFunc_extern Try.func44 (by kernel_rfl) (by kernel_rfl) (by kernel_rfl) (by kernel_rfl) args w)
  (All.cons (xM_ok (f := 37) .tobits fun args w => run_callFunc_extern Try.func37 (by kernel_rfl) (by kernel_rfl) (by kernel_rfl) (by kernel_rfl) args w)
  (All.cons (xM_ok (f := 22) .frombits fun args w => run_callFunc_extern Try.func22 (by kernel_rfl) (by kernel_rfl) (by kernel_rfl) (by kernel_rfl) args w)
  (All.nil)))
def mrs0 : List (FuncId × RFM) := []
def mws0 : List (FuncId × WFM) := []
def menv0 : EnvM := mkEnvM mxs mrs0 mws0
theorem mrs0_ok : All (ROkM Try.prog false) mrs0 := All.nil
theorem mws0_ok : All (WOkM Try.prog false) mws0 := All.nil
theorem menv0_ok : menv0.Ok Try.prog false := mkEnvM_ok mxs_ok mrs0_ok mws0_ok
-- tumble/turn.square
noncomputable def s_turn_square_0 (a0_0r : Nat) (a0_0i : Nat) : Nat := (fadd (fmul a0_0r a0_0r) (fmul a0_0i a0_0i))
theorem e_turn_square (a0_0r : Nat) (a0_0i : Nat) : outB (evFnM Try.prog false menv0 [] [] 64 Try.f36 [AV.complex a0_0r a0_0i] []) = some ((true), AV.float (s_turn_square_0 a0_0r a0_0i)) := by kernel_rfl
noncomputable def S_turn_square : List AV → Option (Ob × AV)
  | [AV.complex a0_0r a0_0i] => some (Ob.tt, AV.float (s_turn_square_0 a0_0r a0_0i))
  | _ => none
theorem t_turn_square : ROkM Try.prog false (36, pureM S_turn_square) := ROkM.pure (N := 64) menv0_ok Try.func36 Try.call36 fun args o v h => by
  unfold S_turn_square at h
  split at h
  · rename_i a0_0r a0_0i
    cases h
    exact ⟨rfl, rfl, _, e_turn_square a0_0r a0_0i, fun _ => rfl⟩
  · cases h
noncomputable def mrs1 : List (FuncId × RFM) := (36, pureM S_turn_square) :: mrs0
noncomputable def menv1 : EnvM := mkEnvM mxs mrs1 mws0
theorem mrs1_ok : All (ROkM Try.prog false) mrs1 := All.cons t_turn_square mrs0_ok
theorem menv1_ok : menv1.Ok Try.prog false := mkEnvM_ok mxs_ok mrs1_ok mws0_ok
-- math.Sqrt
noncomputable def s_math_Sqrt_0 (a0_0 : Nat) : Nat := (fsqrt a0_0)
theorem e_math_Sqrt (a0_0 : Nat) : outB (evFnM Try.prog false menv1 [] [] 64 Try.f39 [AV.float a0_0] []) = some ((true), AV.float (s_math_Sqrt_0 a0_0)) := by kernel_rfl
noncomputable def S_math_Sqrt : List AV → Option (Ob × AV)
  | [AV.float a0_0] => some (Ob.tt, AV.float (s_math_Sqrt_0 a0_0))
  | _ => none
theorem t_math_Sqrt : ROkM Try.prog false (39, pureM S_math_Sqrt) := ROkM.pure (N := 64) menv1_ok Try.func39 Try.call39 fun args o v h => by
  unfold S_math_Sqrt at h
  split at h
  · rename_i a0_0
    cases h
    exact ⟨rfl, rfl, _, e_math_Sqrt a0_0, fun _ => rfl⟩
  · cases h
noncomputable def mrs2 : List (FuncId × RFM) := (39, pureM S_math_Sqrt) :: mrs1
noncomputable def menv2 : EnvM := mkEnvM mxs mrs2 mws0
theorem mrs2_ok : All (ROkM Try.prog false) mrs2 := All.cons t_math_Sqrt mrs1_ok
theorem menv2_ok : menv2.Ok Try.prog false := mkEnvM_ok mxs_ok mrs2_ok mws0_ok
-- tumble/turn.Check
noncomputable def s_turn_Check_0 (a0_0r : Nat) (a0_0i : Nat) : Int := (bif ((fle 4607182418800009216 (s_turn_square_0 a0_0r a0_0i)) && (fle (s_turn_square_0 a0_0r a0_0i) 4607182418800021504)) then (0 : Int) else (30 : Int))
theorem e_turn_Check (a0_0r : Nat) (a0_0i : Nat) : outB (evFnM Try.prog false menv2 [] [] 64 Try.f11 [AV.complex a0_0r a0_0i] []) = some ((true), AV.int .i64 (s_turn_Check_0 a0_0r a0_0i)) := by kernel_rfl
noncomputable def S_turn_Check : List AV → Option (Ob × AV)
  | [AV.complex a0_0r a0_0i] => some (Ob.tt, AV.int .i64 (s_turn_Check_0 a0_0r a0_0i))
  | _ => none
theorem t_turn_Check : ROkM Try.prog false (11, pureM S_turn_Check) := ROkM.pure (N := 64) menv2_ok Try.func11 Try.call11 fun args o v h => by
  unfold S_turn_Check at h
  split at h
  · rename_i a0_0r a0_0i
    cases h
    exact ⟨rfl, rfl, _, e_turn_Check a0_0r a0_0i, fun _ => rfl⟩
  · cases h
noncomputable def mrs3 : List (FuncId × RFM) := (11, pureM S_turn_Check) :: mrs2
noncomputable def menv3 : EnvM := mkEnvM mxs mrs3 mws0
theorem mrs3_ok : All (ROkM Try.prog false) mrs3 := All.cons t_turn_Check mrs2_ok
theorem menv3_ok : menv3.Ok Try.prog false := mkEnvM_ok mxs_ok mrs3_ok mws0_ok
-- tumble/turn.Unit
noncomputable def s_turn_Unit_0 (a0_0r : Nat) (a0_0i : Nat) : Nat := (bif (!(ieq (s_turn_Check_0 (fdiv a0_0r (s_math_Sqrt_0 (s_turn_square_0 a0_0r a0_0i))) (fdiv a0_0i (s_math_Sqrt_0 (s_turn_square_0 a0_0r a0_0i)))) (0 : Int))) then 0 else (fdiv a0_0r (s_math_Sqrt_0 (s_turn_square_0 a0_0r a0_0i))))
noncomputable def s_turn_Unit_1 (a0_0r : Nat) (a0_0i : Nat) : Nat := (bif (!(ieq (s_turn_Check_0 (fdiv a0_0r (s_math_Sqrt_0 (s_turn_square_0 a0_0r a0_0i))) (fdiv a0_0i (s_math_Sqrt_0 (s_turn_square_0 a0_0r a0_0i)))) (0 : Int))) then 0 else (fdiv a0_0i (s_math_Sqrt_0 (s_turn_square_0 a0_0r a0_0i))))
noncomputable def s_turn_Unit_2 (a0_0r : Nat) (a0_0i : Nat) : Bool := (bif (!(ieq (s_turn_Check_0 (fdiv a0_0r (s_math_Sqrt_0 (s_turn_square_0 a0_0r a0_0i))) (fdiv a0_0i (s_math_Sqrt_0 (s_turn_square_0 a0_0r a0_0i)))) (0 : Int))) then false else true)
theorem e_turn_Unit (a0_0r : Nat) (a0_0i : Nat) : outB (evFnM Try.prog false menv3 [] [] 64 Try.f24 [AV.complex a0_0r a0_0i] []) = some ((true), AV.tup [AV.complex (s_turn_Unit_0 a0_0r a0_0i) (s_turn_Unit_1 a0_0r a0_0i), AV.bool (s_turn_Unit_2 a0_0r a0_0i)]) := by kernel_rfl
noncomputable def S_turn_Unit : List AV → Option (Ob × AV)
  | [AV.complex a0_0r a0_0i] => some (Ob.tt, AV.tup [AV.complex (s_turn_Unit_0 a0_0r a0_0i) (s_turn_Unit_1 a0_0r a0_0i), AV.bool (s_turn_Unit_2 a0_0r a0_0i)])
  | _ => none
theorem t_turn_Unit : ROkM Try.prog false (24, pureM S_turn_Unit) := ROkM.pure (N := 64) menv3_ok Try.func24 Try.call24 fun args o v h => by
  unfold S_turn_Unit at h
  split at h
  · rename_i a0_0r a0_0i
    cases h
    exact ⟨rfl, rfl, _, e_turn_Unit a0_0r a0_0i, fun _ => rfl⟩
  · cases h
noncomputable def mrs4 : List (FuncId × RFM) := (24, pureM S_turn_Unit) :: mrs3
noncomputable def menv4 : EnvM := mkEnvM mxs mrs4 mws0
theorem mrs4_ok : All (ROkM Try.prog false) mrs4 := All.cons t_turn_Unit mrs3_ok
theorem menv4_ok : menv4.Ok Try.prog false := mkEnvM_ok mxs_ok mrs4_ok mws0_ok
-- tumble/turn.One
noncomputable def s_turn_One_0 : Nat := 4607182418800017408
noncomputable def s_turn_One_1 : Nat := 0
theorem e_turn_One : outB (evFnM Try.prog false menv4 [] [] 64 Try.f14 [] []) = some ((true), AV.complex (s_turn_One_0) (s_turn_One_1)) := by kernel_rfl
noncomputable def S_turn_One : List AV → Option (Ob × AV)
  | [] => some (Ob.tt, AV.complex (s_turn_One_0) (s_turn_One_1))
  | _ => none
theorem t_turn_One : ROkM Try.prog false (14, pureM S_turn_One) := ROkM.pure (N := 64) menv4_ok Try.func14 Try.call14 fun args o v h => by
  unfold S_turn_One at h
  split at h
  · skip
    cases h
    exact ⟨rfl, rfl, _, e_turn_One, fun _ => rfl⟩
  · cases h
noncomputable def mrs5 : List (FuncId × RFM) := (14, pureM S_turn_One) :: mrs4
noncomputable def menv5 : EnvM := mkEnvM mxs mrs5 mws0
theorem mrs5_ok : All (ROkM Try.prog false) mrs5 := All.cons t_turn_One mrs4_ok
theorem menv5_ok : menv5.Ok Try.prog false := mkEnvM_ok mxs_ok mrs5_ok mws0_ok
-- tumble/turn.Quarter
noncomputable def s_turn_Quarter_0 : Nat := 0
noncomputable def s_turn_Quarter_1 : Nat := 4607182418800017408
theorem e_turn_Quarter : outB (evFnM Try.prog false menv5 [] [] 64 Try.f13 [] []) = some ((true), AV.complex (s_turn_Quarter_0) (s_turn_Quarter_1)) := by kernel_rfl
noncomputable def S_turn_Quarter : List AV → Option (Ob × AV)
  | [] => some (Ob.tt, AV.complex (s_turn_Quarter_0) (s_turn_Quarter_1))
  | _ => none
theorem t_turn_Quarter : ROkM Try.prog false (13, pureM S_turn_Quarter) := ROkM.pure (N := 64) menv5_ok Try.func13 Try.call13 fun args o v h => by
  unfold S_turn_Quarter at h
  split at h
  · skip
    cases h
    exact ⟨rfl, rfl, _, e_turn_Quarter, fun _ => rfl⟩
  · cases h
noncomputable def mrs6 : List (FuncId × RFM) := (13, pureM S_turn_Quarter) :: mrs5
noncomputable def menv6 : EnvM := mkEnvM mxs mrs6 mws0
theorem mrs6_ok : All (ROkM Try.prog false) mrs6 := All.cons t_turn_Quarter mrs5_ok
theorem menv6_ok : menv6.Ok Try.prog false := mkEnvM_ok mxs_ok mrs6_ok mws0_ok
-- math.Abs
noncomputable def S_math_Abs : List AV → Option AV
  | [AV.float a] => some (AV.float (fabs a))
  | _ => none
theorem t_math_Abs : ROk Try.prog false (16, pureF S_math_Abs) := exact1f (N := 64) xenv_ok Try.func16 Try.call16 fabs (fun args v h => by
    unfold S_math_Abs at h
    split at h
    · cases h; exact ⟨_, rfl, rfl⟩
    · cases h) fun b hb => ⟨_, by refine Eq.trans ?_ (abs_tree hb); kernel_rfl, (fabs_cn b).symm⟩
noncomputable def mrs7 : List (FuncId × RFM) := (16, pureM fun args => match S_math_Abs args with | some v => some (.tt, v) | none => none) :: mrs6
noncomputable def menv7 : EnvM := mkEnvM mxs mrs7 mws0
theorem mrs7_ok : All (ROkM Try.prog false) mrs7 := All.cons t_math_Abs.toM mrs6_ok
theorem menv7_ok : menv7.Ok Try.prog false := mkEnvM_ok mxs_ok mrs7_ok mws0_ok
-- math.IsInf
noncomputable def s_math_IsInf_0 (a0_0 : Nat) (a1_0 : Int) : Bool := (flt 9218868437227405311 (bif (ieq a1_0 (0 : Int)) then (fabs a0_0) else (bif (ilt a1_0 (0 : Int)) then (fneg a0_0) else a0_0)))
theorem e_math_IsInf (a0_0 : Nat) (a1_0 : Int) : outB (evFnM Try.prog false menv7 [] [] 64 Try.f38 [AV.float a0_0, AV.int .i64 a1_0] []) = some ((true), AV.bool (s_math_IsInf_0 a0_0 a1_0)) := by kernel_rfl
noncomputable def S_math_IsInf : List AV → Option (Ob × AV)
  | [AV.float a0_0, AV.int .i64 a1_0] => some (Ob.tt, AV.bool (s_math_IsInf_0 a0_0 a1_0))
  | _ => none
theorem t_math_IsInf : ROkM Try.prog false (38, pureM S_math_IsInf) := ROkM.pure (N := 64) menv7_ok Try.func38 Try.call38 fun args o v h => by
  unfold S_math_IsInf at h
  split at h
  · rename_i a0_0 a1_0
    cases h
    exact ⟨rfl, rfl, _, e_math_IsInf a0_0 a1_0, fun _ => rfl⟩
  · cases h
noncomputable def mrs8 : List (FuncId × RFM) := (38, pureM S_math_IsInf) :: mrs7
noncomputable def menv8 : EnvM := mkEnvM mxs mrs8 mws0
theorem mrs8_ok : All (ROkM Try.prog false) mrs8 := All.cons t_math_IsInf mrs7_ok
theorem menv8_ok : menv8.Ok Try.prog false := mkEnvM_ok mxs_ok mrs8_ok mws0_ok
-- tumble/turn.By
noncomputable def s_turn_By_0 (a0_0 : Nat) : Nat := (bif (s_math_IsInf_0 (fmul a0_0 a0_0) (1 : Int)) then 13830554455654793216 else (fdiv (fsub 4607182418800017408 (fmul a0_0 a0_0)) (fadd 4607182418800017408 (fmul a0_0 a0_0))))
noncomputable def s_turn_By_1 (a0_0 : Nat) : Nat := (bif (s_math_IsInf_0 (fmul a0_0 a0_0) (1 : Int)) then 0 else (fdiv (fadd a0_0 a0_0) (fadd 4607182418800017408 (fmul a0_0 a0_0))))
theorem e_turn_By (a0_0 : Nat) : outB (evFnM Try.prog false menv8 [] [] 64 Try.f23 [AV.float a0_0] []) = some ((true), AV.complex (s_turn_By_0 a0_0) (s_turn_By_1 a0_0)) := by kernel_rfl
noncomputable def S_turn_By : List AV → Option (Ob × AV)
  | [AV.float a0_0] => some (Ob.tt, AV.complex (s_turn_By_0 a0_0) (s_turn_By_1 a0_0))
  | _ => none
theorem t_turn_By : ROkM Try.prog false (23, pureM S_turn_By) := ROkM.pure (N := 64) menv8_ok Try.func23 Try.call23 fun args o v h => by
  unfold S_turn_By at h
  split at h
  · rename_i a0_0
    cases h
    exact ⟨rfl, rfl, _, e_turn_By a0_0, fun _ => rfl⟩
  · cases h
noncomputable def mrs9 : List (FuncId × RFM) := (23, pureM S_turn_By) :: mrs8
noncomputable def menv9 : EnvM := mkEnvM mxs mrs9 mws0
theorem mrs9_ok : All (ROkM Try.prog false) mrs9 := All.cons t_turn_By mrs8_ok
theorem menv9_ok : menv9.Ok Try.prog false := mkEnvM_ok mxs_ok mrs9_ok mws0_ok
-- tumble/turn.Apply
noncomputable def s_turn_Apply_0 (a0_0r : Nat) (a0_0i : Nat) (a1_0 : Nat) (a1_1 : Nat) : Nat := (fsub (fmul a0_0r a1_0) (fmul a0_0i a1_1))
noncomputable def s_turn_Apply_1 (a0_0r : Nat) (a0_0i : Nat) (a1_0 : Nat) (a1_1 : Nat) : Nat := (fadd (fmul a0_0i a1_0) (fmul a0_0r a1_1))
theorem e_turn_Apply (a0_0r : Nat) (a0_0i : Nat) (a1_0 : Nat) (a1_1 : Nat) : outB (evFnM Try.prog false menv9 [] [] 64 Try.f17 [AV.complex a0_0r a0_0i, AV.agg [.float a1_0, .float a1_1]] []) = some ((true), AV.agg [AV.float (s_turn_Apply_0 a0_0r a0_0i a1_0 a1_1), AV.float (s_turn_Apply_1 a0_0r a0_0i a1_0 a1_1)]) := by kernel_rfl
noncomputable def S_turn_Apply : List AV → Option (Ob × AV)
  | [AV.complex a0_0r a0_0i, AV.agg [.float a1_0, .float a1_1]] => some (Ob.tt, AV.agg [AV.float (s_turn_Apply_0 a0_0r a0_0i a1_0 a1_1), AV.float (s_turn_Apply_1 a0_0r a0_0i a1_0 a1_1)])
  | _ => none
theorem t_turn_Apply : ROkM Try.prog false (17, pureM S_turn_Apply) := ROkM.pure (N := 64) menv9_ok Try.func17 Try.call17 fun args o v h => by
  unfold S_turn_Apply at h
  split at h
  · rename_i a0_0r a0_0i a1_0 a1_1
    cases h
    exact ⟨rfl, rfl, _, e_turn_Apply a0_0r a0_0i a1_0 a1_1, fun _ => rfl⟩
  · cases h
noncomputable def mrs10 : List (FuncId × RFM) := (17, pureM S_turn_Apply) :: mrs9
noncomputable def menv10 : EnvM := mkEnvM mxs mrs10 mws0
theorem mrs10_ok : All (ROkM Try.prog false) mrs10 := All.cons t_turn_Apply mrs9_ok
theorem menv10_ok : menv10.Ok Try.prog false := mkEnvM_ok mxs_ok mrs10_ok mws0_ok
-- tumble/turn.side
noncomputable def s_turn_side_0 (a0_0r : Nat) (a0_0i : Nat) : Int := (bif (((!(feq a0_0r a0_0r)) || (!(feq a0_0i a0_0i))) || ((flt 0 a0_0i) || ((feq a0_0i 0) && (fle 0 a0_0r)))) then (bif ((!(feq a0_0r a0_0r)) || (!(feq a0_0i a0_0i))) then (2 : Int) else (0 : Int)) else (1 : Int))
theorem e_turn_side (a0_0r : Nat) (a0_0i : Nat) : outB (evFnM Try.prog false menv10 [] [] 64 Try.f40 [AV.complex a0_0r a0_0i] []) = some ((true), AV.int .i64 (s_turn_side_0 a0_0r a0_0i)) := by kernel_rfl
noncomputable def S_turn_side : List AV → Option (Ob × AV)
  | [AV.complex a0_0r a0_0i] => some (Ob.tt, AV.int .i64 (s_turn_side_0 a0_0r a0_0i))
  | _ => none
theorem t_turn_side : ROkM Try.prog false (40, pureM S_turn_side) := ROkM.pure (N := 64) menv10_ok Try.func40 Try.call40 fun args o v h => by
  unfold S_turn_side at h
  split at h
  · rename_i a0_0r a0_0i
    cases h
    exact ⟨rfl, rfl, _, e_turn_side a0_0r a0_0i, fun _ => rfl⟩
  · cases h
noncomputable def mrs11 : List (FuncId × RFM) := (40, pureM S_turn_side) :: mrs10
noncomputable def menv11 : EnvM := mkEnvM mxs mrs11 mws0
theorem mrs11_ok : All (ROkM Try.prog false) mrs11 := All.cons t_turn_side mrs10_ok
theorem menv11_ok : menv11.Ok Try.prog false := mkEnvM_ok mxs_ok mrs11_ok mws0_ok
-- tumble/turn.Order
noncomputable def s_turn_Order_0 (a0_0r : Nat) (a0_0i : Nat) (a1_0r : Nat) (a1_0i : Nat) : Int := let x0 : Bool := ((feq a0_0r a1_0r) && (flt a0_0i a1_0i)); let x1 : Bool := ((ieq (s_turn_side_0 a0_0r a0_0i) (2 : Int)) || ((feq a0_0r a1_0r) && (feq a0_0i a1_0i))); let x2 : Bool := (ilt (s_turn_side_0 a1_0r a1_0i) (s_turn_side_0 a0_0r a0_0i)); let x3 : Bool := (ilt (s_turn_side_0 a0_0r a0_0i) (s_turn_side_0 a1_0r a1_0i)); (bif (x3 || (x2 || (x1 || (x0 || ((!(feq a0_0r a1_0r)) && ((flt a1_0r a0_0r) == (ieq (s_turn_side_0 a0_0r a0_0i) (0 : Int)))))))) then (bif x3 then (-1 : Int) else (bif x2 then (1 : Int) else (bif x1 then (0 : Int) else (bif x0 then (-1 : Int) else (-1 : Int))))) else (1 : Int))
theorem e_turn_Order (a0_0r : Nat) (a0_0i : Nat) (a1_0r : Nat) (a1_0i : Nat) : outB (evFnM Try.prog false menv11 [] [] 64 Try.f29 [AV.complex a0_0r a0_0i, AV.complex a1_0r a1_0i] []) = some ((true), AV.int .i64 (s_turn_Order_0 a0_0r a0_0i a1_0r a1_0i)) := by kernel_rfl
noncomputable def S_turn_Order : List AV → Option (Ob × AV)
  | [AV.complex a0_0r a0_0i, AV.complex a1_0r a1_0i] => some (Ob.tt, AV.int .i64 (s_turn_Order_0 a0_0r a0_0i a1_0r a1_0i))
  | _ => none
theorem t_turn_Order : ROkM Try.prog false (29, pureM S_turn_Order) := ROkM.pure (N := 64) menv11_ok Try.func29 Try.call29 fun args o v h => by
  unfold S_turn_Order at h
  split at h
  · rename_i a0_0r a0_0i a1_0r a1_0i
    cases h
    exact ⟨rfl, rfl, _, e_turn_Order a0_0r a0_0i a1_0r a1_0i, fun _ => rfl⟩
  · cases h
noncomputable def mrs12 : List (FuncId × RFM) := (29, pureM S_turn_Order) :: mrs11
noncomputable def menv12 : EnvM := mkEnvM mxs mrs12 mws0
theorem mrs12_ok : All (ROkM Try.prog false) mrs12 := All.cons t_turn_Order mrs11_ok
theorem menv12_ok : menv12.Ok Try.prog false := mkEnvM_ok mxs_ok mrs12_ok mws0_ok
-- tumble/tumblelaw03.awake
noncomputable def s_law03_awake_0 : Bool := true
theorem e_law03_awake : outB (evFnM Try.prog false menv12 [] [] 64 Try.f9 [] []) = some ((true), AV.bool (s_law03_awake_0)) := by kernel_rfl
noncomputable def S_law03_awake : List AV → Option (Ob × AV)
  | [] => some (Ob.tt, AV.bool (s_law03_awake_0))
  | _ => none
theorem t_law03_awake : ROkM Try.prog false (9, pureM S_law03_awake) := ROkM.pure (N := 64) menv12_ok Try.func9 Try.call9 fun args o v h => by
  unfold S_law03_awake at h
  split at h
  · skip
    cases h
    exact ⟨rfl, rfl, _, e_law03_awake, fun _ => rfl⟩
  · cases h
noncomputable def mrs13 : List (FuncId × RFM) := (9, pureM S_law03_awake) :: mrs12
noncomputable def menv13 : EnvM := mkEnvM mxs mrs13 mws0
theorem mrs13_ok : All (ROkM Try.prog false) mrs13 := All.cons t_law03_awake mrs12_ok
theorem menv13_ok : menv13.Ok Try.prog false := mkEnvM_ok mxs_ok mrs13_ok mws0_ok
-- (tumble/tumblelaw03.Pair).number
noncomputable def s__law03_Pair__number_0 (a0_0 : Int) (a0_1 : Int) : Nat := (cn (Int.toNat a0_0))
noncomputable def s__law03_Pair__number_1 (a0_0 : Int) (a0_1 : Int) : Nat := (cn (Int.toNat a0_1))
theorem e__law03_Pair__number (a0_0 : Int) (a0_1 : Int) : outB (evFnM Try.prog false menv13 [] [] 64 Try.f10 [AV.agg [.int .u64 a0_0, .int .u64 a0_1]] []) = some ((((u64ok a0_1) && (u64ok a0_0))), AV.complex (s__law03_Pair__number_0 a0_0 a0_1) (s__law03_Pair__number_1 a0_0 a0_1)) := by kernel_rfl
noncomputable def S__law03_Pair__number : List AV → Option (Ob × AV)
  | [AV.agg [.int .u64 a0_0, .int .u64 a0_1]] => some (Ob.bit (((u64ok a0_1) && (u64ok a0_0))), AV.complex (s__law03_Pair__number_0 a0_0 a0_1) (s__law03_Pair__number_1 a0_0 a0_1))
  | _ => none
theorem t__law03_Pair__number : ROkM Try.prog false (10, pureM S__law03_Pair__number) := ROkM.pure (N := 64) menv13_ok Try.func10 Try.call10 fun args o v h => by
  unfold S__law03_Pair__number at h
  split at h
  · rename_i a0_0 a0_1
    cases h
    exact ⟨rfl, rfl, _, e__law03_Pair__number a0_0 a0_1, fun h => h⟩
  · cases h
noncomputable def mrs14 : List (FuncId × RFM) := (10, pureM S__law03_Pair__number) :: mrs13
noncomputable def menv14 : EnvM := mkEnvM mxs mrs14 mws0
theorem mrs14_ok : All (ROkM Try.prog false) mrs14 := All.cons t__law03_Pair__number mrs13_ok
theorem menv14_ok : menv14.Ok Try.prog false := mkEnvM_ok mxs_ok mrs14_ok mws0_ok
-- tumble/turn.Then
noncomputable def s_turn_Then_0 (a0_0r : Nat) (a0_0i : Nat) (a1_0r : Nat) (a1_0i : Nat) : Nat := (fsub (fmul a0_0r a1_0r) (fmul a0_0i a1_0i))
noncomputable def s_turn_Then_1 (a0_0r : Nat) (a0_0i : Nat) (a1_0r : Nat) (a1_0i : Nat) : Nat := (fadd (fmul a0_0r a1_0i) (fmul a0_0i a1_0r))
theorem e_turn_Then (a0_0r : Nat) (a0_0i : Nat) (a1_0r : Nat) (a1_0i : Nat) : outB (evFnM Try.prog false menv14 [] [] 64 Try.f12 [AV.complex a0_0r a0_0i, AV.complex a1_0r a1_0i] []) = some ((true), AV.complex (s_turn_Then_0 a0_0r a0_0i a1_0r a1_0i) (s_turn_Then_1 a0_0r a0_0i a1_0r a1_0i)) := by kernel_rfl
noncomputable def S_turn_Then : List AV → Option (Ob × AV)
  | [AV.complex a0_0r a0_0i, AV.complex a1_0r a1_0i] => some (Ob.tt, AV.complex (s_turn_Then_0 a0_0r a0_0i a1_0r a1_0i) (s_turn_Then_1 a0_0r a0_0i a1_0r a1_0i))
  | _ => none
theorem t_turn_Then : ROkM Try.prog false (12, pureM S_turn_Then) := ROkM.pure (N := 64) menv14_ok Try.func12 Try.call12 fun args o v h => by
  unfold S_turn_Then at h
  split at h
  · rename_i a0_0r a0_0i a1_0r a1_0i
    cases h
    exact ⟨rfl, rfl, _, e_turn_Then a0_0r a0_0i a1_0r a1_0i, fun _ => rfl⟩
  · cases h
noncomputable def mrs15 : List (FuncId × RFM) := (12, pureM S_turn_Then) :: mrs14
noncomputable def menv15 : EnvM := mkEnvM mxs mrs15 mws0
theorem mrs15_ok : All (ROkM Try.prog false) mrs15 := All.cons t_turn_Then mrs14_ok
theorem menv15_ok : menv15.Ok Try.prog false := mkEnvM_ok mxs_ok mrs15_ok mws0_ok
-- tumble/tumblelaw03.square
noncomputable def s_law03_square_0 (a0_0r : Nat) (a0_0i : Nat) : Nat := (fadd (fmul a0_0r a0_0r) (fmul a0_0i a0_0i))
theorem e_law03_square (a0_0r : Nat) (a0_0i : Nat) : outB (evFnM Try.prog false menv15 [] [] 64 Try.f25 [AV.complex a0_0r a0_0i] []) = some ((true), AV.float (s_law03_square_0 a0_0r a0_0i)) := by kernel_rfl
noncomputable def S_law03_square : List AV → Option (Ob × AV)
  | [AV.complex a0_0r a0_0i] => some (Ob.tt, AV.float (s_law03_square_0 a0_0r a0_0i))
  | _ => none
theorem t_law03_square : ROkM Try.prog false (25, pureM S_law03_square) := ROkM.pure (N := 64) menv15_ok Try.func25 Try.call25 fun args o v h => by
  unfold S_law03_square at h
  split at h
  · rename_i a0_0r a0_0i
    cases h
    exact ⟨rfl, rfl, _, e_law03_square a0_0r a0_0i, fun _ => rfl⟩
  · cases h
noncomputable def mrs16 : List (FuncId × RFM) := (25, pureM S_law03_square) :: mrs15
noncomputable def menv16 : EnvM := mkEnvM mxs mrs16 mws0
theorem mrs16_ok : All (ROkM Try.prog false) mrs16 := All.cons t_law03_square mrs15_ok
theorem menv16_ok : menv16.Ok Try.prog false := mkEnvM_ok mxs_ok mrs16_ok mws0_ok
-- tumble/turn.Back
noncomputable def s_turn_Back_0 (a0_0r : Nat) (a0_0i : Nat) : Nat := a0_0r
noncomputable def s_turn_Back_1 (a0_0r : Nat) (a0_0i : Nat) : Nat := (fneg a0_0i)
theorem e_turn_Back (a0_0r : Nat) (a0_0i : Nat) : outB (evFnM Try.prog false menv16 [] [] 64 Try.f26 [AV.complex a0_0r a0_0i] []) = some ((true), AV.complex (s_turn_Back_0 a0_0r a0_0i) (s_turn_Back_1 a0_0r a0_0i)) := by kernel_rfl
noncomputable def S_turn_Back : List AV → Option (Ob × AV)
  | [AV.complex a0_0r a0_0i] => some (Ob.tt, AV.complex (s_turn_Back_0 a0_0r a0_0i) (s_turn_Back_1 a0_0r a0_0i))
  | _ => none
theorem t_turn_Back : ROkM Try.prog false (26, pureM S_turn_Back) := ROkM.pure (N := 64) menv16_ok Try.func26 Try.call26 fun args o v h => by
  unfold S_turn_Back at h
  split at h
  · rename_i a0_0r a0_0i
    cases h
    exact ⟨rfl, rfl, _, e_turn_Back a0_0r a0_0i, fun _ => rfl⟩
  · cases h
noncomputable def mrs17 : List (FuncId × RFM) := (26, pureM S_turn_Back) :: mrs16
noncomputable def menv17 : EnvM := mkEnvM mxs mrs17 mws0
theorem mrs17_ok : All (ROkM Try.prog false) mrs17 := All.cons t_turn_Back mrs16_ok
theorem menv17_ok : menv17.Ok Try.prog false := mkEnvM_ok mxs_ok mrs17_ok mws0_ok
-- tumble/tumblelaw03.TurnLong
noncomputable def T_law03_TurnLong (a0_0 : Nat) (a1_0 : Nat) (a1_1 : Nat) (a2_0 : Nat) (a2_1 : Nat) : Bool := let x0 : Nat := (s__law03_Pair__number_1 (Int.ofNat a2_0) (Int.ofNat a2_1)); let x1 : Nat := (s__law03_Pair__number_0 (Int.ofNat a2_0) (Int.ofNat a2_1)); let x2 : Nat := (s__law03_Pair__number_1 (Int.ofNat a1_0) (Int.ofNat a1_1)); let x3 : Nat := (s__law03_Pair__number_0 (Int.ofNat a1_0) (Int.ofNat a1_1)); let x4 : Nat := (s_law03_square_0 (s_turn_Then_0 x3 x2 x1 x0) (s_turn_Then_1 x3 x2 x1 x0)); let x5 : Bool := (s_turn_Unit_2 x3 x2); let x6 : Nat := (s_turn_Unit_1 x3 x2); let x7 : Nat := (s_turn_Unit_0 x3 x2); (bif ((feq (cn a0_0) (cn a0_0)) && (!(ieq (s_turn_Check_0 (s_turn_By_0 (cn a0_0)) (s_turn_By_1 (cn a0_0))) (0 : Int)))) then false else (bif ((x5 && (!(ieq (s_turn_Check_0 x7 x6) (0 : Int)))) || ((!x5) && (!((feq x7 0) && (feq x6 0))))) then false else (((!(ieq (s_turn_Check_0 x3 x2) (0 : Int))) || (!(ieq (s_turn_Check_0 x1 x0) (0 : Int)))) || (((x5 && (ieq (s_turn_Check_0 (s_turn_Back_0 x3 x2) (s_turn_Back_1 x3 x2)) (0 : Int))) && (fle 4607182418799984640 x4)) && (fle x4 4607182418800033792)))))
noncomputable def O_law03_TurnLong (a0_0 : Nat) (a1_0 : Nat) (a1_1 : Nat) (a2_0 : Nat) (a2_1 : Nat) : Bool := let x0 : Bool := (feq (cn a0_0) (cn a0_0)); let x1 : Bool := (bif x0 then (Nat.blt a0_0 18446744073709551616) else (Nat.blt a0_0 18446744073709551616)); let x2 : Bool := (((u64ok (Int.ofNat a2_1)) && (u64ok (Int.ofNat a2_0))) && (((u64ok (Int.ofNat a1_1)) && (u64ok (Int.ofNat a1_0))) && x1)); let x3 : Nat := (s__law03_Pair__number_1 (Int.ofNat a1_0) (Int.ofNat a1_1)); let x4 : Nat := (s__law03_Pair__number_0 (Int.ofNat a1_0) (Int.ofNat a1_1)); let x5 : Bool := (s_turn_Unit_2 x4 x3); let x6 : Bool := (bif x5 then x2 else x2); let x7 : Bool := (!x5); let x8 : Nat := (s_turn_Unit_1 x4 x3); let x9 : Nat := (s_turn_Unit_0 x4 x3); let x10 : Bool := (x5 && (!(ieq (s_turn_Check_0 x9 x8) (0 : Int)))); let x11 : Bool := (bif x10 then x6 else (bif x7 then x6 else x6)); let x12 : Bool := (!(ieq (s_turn_Check_0 x4 x3) (0 : Int))); let x13 : Bool := (bif x12 then x11 else x11); let x14 : Bool := (bif x5 then x13 else x13); let x15 : Bool := (x5 && (ieq (s_turn_Check_0 (s_turn_Back_0 x4 x3) (s_turn_Back_1 x4 x3)) (0 : Int))); let x16 : Bool := (bif x15 then x14 else x14); let x17 : Nat := (s__law03_Pair__number_1 (Int.ofNat a2_0) (Int.ofNat a2_1)); let x18 : Nat := (s__law03_Pair__number_0 (Int.ofNat a2_0) (Int.ofNat a2_1)); (bif (x0 && (!(ieq (s_turn_Check_0 (s_turn_By_0 (cn a0_0)) (s_turn_By_1 (cn a0_0))) (0 : Int)))) then x1 else (bif (x10 || (x7 && (!((feq x9 0) && (feq x8 0))))) then x11 else (bif (x12 || (!(ieq (s_turn_Check_0 x18 x17) (0 : Int)))) then x13 else (bif (x15 && (fle 4607182418799984640 (s_law03_square_0 (s_turn_Then_0 x4 x3 x18 x17) (s_turn_Then_1 x4 x3 x18 x17)))) then x16 else x16))))
theorem tree_law03_TurnLong (a0_0 : Nat) (a1_0 : Nat) (a1_1 : Nat) (a2_0 : Nat) (a2_1 : Nat) : outB (evFnM Try.prog false menv17 [16] [] 64 Try.f5 [AV.int .u64 (Int.ofNat a0_0), AV.agg [.int .u64 (Int.ofNat a1_0), .int .u64 (Int.ofNat a1_1)], AV.agg [.int .u64 (Int.ofNat a2_0), .int .u64 (Int.ofNat a2_1)]] []) = some (O_law03_TurnLong a0_0 a1_0 a1_1 a2_0 a2_1, AV.bool (T_law03_TurnLong a0_0 a1_0 a1_1 a2_0 a2_1)) := by kernel_rfl

end Go.Proofs.Ythaalobnckdjoaa
