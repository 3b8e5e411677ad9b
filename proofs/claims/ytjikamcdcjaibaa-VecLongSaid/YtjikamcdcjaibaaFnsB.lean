/- The contracts of the functions that these laws reach, printed by a program of this work: each says what the Go function gives, up to which NaN. -/
import Derived.Test.YtjikamcdcjaibaaProg
import Derived.KernelRfl
import Derived.Test.YtjikamcdcjaibaaSimDEnv
set_option linter.unusedVariables false
set_option linter.unusedSimpArgs false
namespace Go.Proofs.Ytjikamcdcjaibaa
open Go.Sim
def xxs : List (FuncId × XF) := [(65, xF true .sqrt), (63, xF true .tobits), (62, xF true .frombits)]
def xenv : Env := mkEnv xxs [] []
theorem xxs_ok : All (XOk Try.prog true) xxs := All.cons (x_ok (f := 65) .sqrt fun args w => run_callFunc_extern Try.func65 (by kernel_rfl) (by kernel_rfl) (by kernel_rfl) (by kernel_rfl) args w)
  (All.cons (x_ok (f := 63) .tobits fun args w => run_callFunc_extern Try.func63 (by kernel_rfl) (by kernel_rfl) (by kernel_rfl) (by kernel_rfl) args w)
  (All.cons (x_ok (f := 62) .frombits fun args w => run_callFunc_extern Try.func62 (by kernel_rfl) (by kernel_rfl) (by kernel_rfl) (by kernel_rfl) args w)
  (All.nil)))
theorem xenv_ok : xenv.Ok Try.prog true := mkEnv_ok xxs_ok All.nil All.nil
def mxs : List (FuncId × XFM) := [(65, xFM false .sqrt), (63, xFM false .tobits), (62, xFM false .frombits)]
theorem mxs_ok : All (XOkM Try.prog false) mxs := All.cons (xM_ok (f := 65) .sqrt fun args w => run_callFunc_extern Try.func65 (by kernel_rfl) (by kernel_rfl) (by kernel_rfl) (by kernel_rfl) args w)
  (All.cons (xM_ok (f := 63) .tobits fun args w => run_callFunc_extern Try.func63 (by kernel_rfl) (by kernel_rfl) (by kernel_rfl) (by kernel_rfl) args w)
  (All.cons (xM_ok (f := 62) .frombits fun args w => run_callFunc_extern Try.func62 (by kernel_rfl) (by kernel_rfl) (by kernel_rfl) (by kernel_rfl) args w)
  (All.nil)))
def mrs0 : List (FuncId × RFM) := []
def mws0 : List (FuncId × WFM) := []
def menv0 : EnvM := mkEnvM mxs mrs0 mws0
theorem mrs0_ok : All (ROkM Try.prog false) mrs0 := All.nil
theorem mws0_ok : All (WOkM Try.prog false) mws0 := All.nil
theorem menv0_ok : menv0.Ok Try.prog false := mkEnvM_ok mxs_ok mrs0_ok mws0_ok
-- tumble/vec.Dot
noncomputable def s_vec_Dot_0 (a0_0 : Nat) (a0_1 : Nat) (a1_0 : Nat) (a1_1 : Nat) : Nat := (fadd (fmul a0_0 a1_0) (fmul a0_1 a1_1))
theorem e_vec_Dot (a0_0 : Nat) (a0_1 : Nat) (a1_0 : Nat) (a1_1 : Nat) : outB (evFnM Try.prog false menv0 [] [] 64 Try.f12 [AV.agg [.float a0_0, .float a0_1], AV.agg [.float a1_0, .float a1_1]] []) = some ((true), AV.float (s_vec_Dot_0 a0_0 a0_1 a1_0 a1_1)) := by kernel_rfl
noncomputable def S_vec_Dot : List AV → Option (Ob × AV)
  | [AV.agg [.float a0_0, .float a0_1], AV.agg [.float a1_0, .float a1_1]] => some (Ob.tt, AV.float (s_vec_Dot_0 a0_0 a0_1 a1_0 a1_1))
  | _ => none
theorem t_vec_Dot : ROkM Try.prog false (12, pureM S_vec_Dot) := ROkM.pure (N := 64) menv0_ok Try.func12 Try.call12 fun args o v h => by
  unfold S_vec_Dot at h
  split at h
  · rename_i a0_0 a0_1 a1_0 a1_1
    cases h
    exact ⟨rfl, rfl, _, e_vec_Dot a0_0 a0_1 a1_0 a1_1, fun _ => rfl⟩
  · cases h
noncomputable def mrs1 : List (FuncId × RFM) := (12, pureM S_vec_Dot) :: mrs0
noncomputable def menv1 : EnvM := mkEnvM mxs mrs1 mws0
theorem mrs1_ok : All (ROkM Try.prog false) mrs1 := All.cons t_vec_Dot mrs0_ok
theorem menv1_ok : menv1.Ok Try.prog false := mkEnvM_ok mxs_ok mrs1_ok mws0_ok
-- tumble/vec.Square
noncomputable def s_vec_Square_0 (a0_0 : Nat) (a0_1 : Nat) : Nat := (s_vec_Dot_0 a0_0 a0_1 a0_0 a0_1)
theorem e_vec_Square (a0_0 : Nat) (a0_1 : Nat) : outB (evFnM Try.prog false menv1 [] [] 64 Try.f16 [AV.agg [.float a0_0, .float a0_1]] []) = some ((true), AV.float (s_vec_Square_0 a0_0 a0_1)) := by kernel_rfl
noncomputable def S_vec_Square : List AV → Option (Ob × AV)
  | [AV.agg [.float a0_0, .float a0_1]] => some (Ob.tt, AV.float (s_vec_Square_0 a0_0 a0_1))
  | _ => none
theorem t_vec_Square : ROkM Try.prog false (16, pureM S_vec_Square) := ROkM.pure (N := 64) menv1_ok Try.func16 Try.call16 fun args o v h => by
  unfold S_vec_Square at h
  split at h
  · rename_i a0_0 a0_1
    cases h
    exact ⟨rfl, rfl, _, e_vec_Square a0_0 a0_1, fun _ => rfl⟩
  · cases h
noncomputable def mrs2 : List (FuncId × RFM) := (16, pureM S_vec_Square) :: mrs1
noncomputable def menv2 : EnvM := mkEnvM mxs mrs2 mws0
theorem mrs2_ok : All (ROkM Try.prog false) mrs2 := All.cons t_vec_Square mrs1_ok
theorem menv2_ok : menv2.Ok Try.prog false := mkEnvM_ok mxs_ok mrs2_ok mws0_ok
-- math.Sqrt
noncomputable def s_math_Sqrt_0 (a0_0 : Nat) : Nat := (fsqrt a0_0)
theorem e_math_Sqrt (a0_0 : Nat) : outB (evFnM Try.prog false menv2 [] [] 64 Try.f51 [AV.float a0_0] []) = some ((true), AV.float (s_math_Sqrt_0 a0_0)) := by kernel_rfl
noncomputable def S_math_Sqrt : List AV → Option (Ob × AV)
  | [AV.float a0_0] => some (Ob.tt, AV.float (s_math_Sqrt_0 a0_0))
  | _ => none
theorem t_math_Sqrt : ROkM Try.prog false (51, pureM S_math_Sqrt) := ROkM.pure (N := 64) menv2_ok Try.func51 Try.call51 fun args o v h => by
  unfold S_math_Sqrt at h
  split at h
  · rename_i a0_0
    cases h
    exact ⟨rfl, rfl, _, e_math_Sqrt a0_0, fun _ => rfl⟩
  · cases h
noncomputable def mrs3 : List (FuncId × RFM) := (51, pureM S_math_Sqrt) :: mrs2
noncomputable def menv3 : EnvM := mkEnvM mxs mrs3 mws0
theorem mrs3_ok : All (ROkM Try.prog false) mrs3 := All.cons t_math_Sqrt mrs2_ok
theorem menv3_ok : menv3.Ok Try.prog false := mkEnvM_ok mxs_ok mrs3_ok mws0_ok
-- tumble/vec.Length
noncomputable def s_vec_Length_0 (a0_0 : Nat) (a0_1 : Nat) : Nat := (s_math_Sqrt_0 (s_vec_Square_0 a0_0 a0_1))
theorem e_vec_Length (a0_0 : Nat) (a0_1 : Nat) : outB (evFnM Try.prog false menv3 [] [] 64 Try.f18 [AV.agg [.float a0_0, .float a0_1]] []) = some ((true), AV.float (s_vec_Length_0 a0_0 a0_1)) := by kernel_rfl
noncomputable def S_vec_Length : List AV → Option (Ob × AV)
  | [AV.agg [.float a0_0, .float a0_1]] => some (Ob.tt, AV.float (s_vec_Length_0 a0_0 a0_1))
  | _ => none
theorem t_vec_Length : ROkM Try.prog false (18, pureM S_vec_Length) := ROkM.pure (N := 64) menv3_ok Try.func18 Try.call18 fun args o v h => by
  unfold S_vec_Length at h
  split at h
  · rename_i a0_0 a0_1
    cases h
    exact ⟨rfl, rfl, _, e_vec_Length a0_0 a0_1, fun _ => rfl⟩
  · cases h
noncomputable def mrs4 : List (FuncId × RFM) := (18, pureM S_vec_Length) :: mrs3
noncomputable def menv4 : EnvM := mkEnvM mxs mrs4 mws0
theorem mrs4_ok : All (ROkM Try.prog false) mrs4 := All.cons t_vec_Length mrs3_ok
theorem menv4_ok : menv4.Ok Try.prog false := mkEnvM_ok mxs_ok mrs4_ok mws0_ok
-- tumble/num.Finite[float64]
noncomputable def s_num_Finite_float64__0 (a0_0 : Nat) : Bool := (feq (fsub a0_0 a0_0) 0)
theorem e_num_Finite_float64_ (a0_0 : Nat) : outB (evFnM Try.prog false menv4 [] [] 64 Try.f54 [AV.float a0_0] []) = some ((true), AV.bool (s_num_Finite_float64__0 a0_0)) := by kernel_rfl
noncomputable def S_num_Finite_float64_ : List AV → Option (Ob × AV)
  | [AV.float a0_0] => some (Ob.tt, AV.bool (s_num_Finite_float64__0 a0_0))
  | _ => none
theorem t_num_Finite_float64_ : ROkM Try.prog false (54, pureM S_num_Finite_float64_) := ROkM.pure (N := 64) menv4_ok Try.func54 Try.call54 fun args o v h => by
  unfold S_num_Finite_float64_ at h
  split at h
  · rename_i a0_0
    cases h
    exact ⟨rfl, rfl, _, e_num_Finite_float64_ a0_0, fun _ => rfl⟩
  · cases h
noncomputable def mrs5 : List (FuncId × RFM) := (54, pureM S_num_Finite_float64_) :: mrs4
noncomputable def menv5 : EnvM := mkEnvM mxs mrs5 mws0
theorem mrs5_ok : All (ROkM Try.prog false) mrs5 := All.cons t_num_Finite_float64_ mrs4_ok
theorem menv5_ok : menv5.Ok Try.prog false := mkEnvM_ok mxs_ok mrs5_ok mws0_ok
-- tumble/vec.Unit
noncomputable def s_vec_Unit_0 (a0_0 : Nat) (a0_1 : Nat) : Nat := (bif ((!(s_num_Finite_float64__0 (s_vec_Length_0 a0_0 a0_1))) || (feq (s_vec_Length_0 a0_0 a0_1) 0)) then 0 else (fdiv a0_0 (s_vec_Length_0 a0_0 a0_1)))
noncomputable def s_vec_Unit_1 (a0_0 : Nat) (a0_1 : Nat) : Nat := (bif ((!(s_num_Finite_float64__0 (s_vec_Length_0 a0_0 a0_1))) || (feq (s_vec_Length_0 a0_0 a0_1) 0)) then 0 else (fdiv a0_1 (s_vec_Length_0 a0_0 a0_1)))
noncomputable def s_vec_Unit_2 (a0_0 : Nat) (a0_1 : Nat) : Bool := (bif ((!(s_num_Finite_float64__0 (s_vec_Length_0 a0_0 a0_1))) || (feq (s_vec_Length_0 a0_0 a0_1) 0)) then false else true)
theorem e_vec_Unit (a0_0 : Nat) (a0_1 : Nat) : outB (evFnM Try.prog false menv5 [] [] 64 Try.f26 [AV.agg [.float a0_0, .float a0_1]] []) = some ((true), AV.tup [AV.agg [AV.float (s_vec_Unit_0 a0_0 a0_1), AV.float (s_vec_Unit_1 a0_0 a0_1)], AV.bool (s_vec_Unit_2 a0_0 a0_1)]) := by kernel_rfl
noncomputable def S_vec_Unit : List AV → Option (Ob × AV)
  | [AV.agg [.float a0_0, .float a0_1]] => some (Ob.tt, AV.tup [AV.agg [AV.float (s_vec_Unit_0 a0_0 a0_1), AV.float (s_vec_Unit_1 a0_0 a0_1)], AV.bool (s_vec_Unit_2 a0_0 a0_1)])
  | _ => none
theorem t_vec_Unit : ROkM Try.prog false (26, pureM S_vec_Unit) := ROkM.pure (N := 64) menv5_ok Try.func26 Try.call26 fun args o v h => by
  unfold S_vec_Unit at h
  split at h
  · rename_i a0_0 a0_1
    cases h
    exact ⟨rfl, rfl, _, e_vec_Unit a0_0 a0_1, fun _ => rfl⟩
  · cases h
noncomputable def mrs6 : List (FuncId × RFM) := (26, pureM S_vec_Unit) :: mrs5
noncomputable def menv6 : EnvM := mkEnvM mxs mrs6 mws0
theorem mrs6_ok : All (ROkM Try.prog false) mrs6 := All.cons t_vec_Unit mrs5_ok
theorem menv6_ok : menv6.Ok Try.prog false := mkEnvM_ok mxs_ok mrs6_ok mws0_ok
-- tumble/vec.Cross
noncomputable def s_vec_Cross_0 (a0_0 : Nat) (a0_1 : Nat) (a1_0 : Nat) (a1_1 : Nat) : Nat := (fsub (fmul a0_0 a1_1) (fmul a0_1 a1_0))
theorem e_vec_Cross (a0_0 : Nat) (a0_1 : Nat) (a1_0 : Nat) (a1_1 : Nat) : outB (evFnM Try.prog false menv6 [] [] 64 Try.f14 [AV.agg [.float a0_0, .float a0_1], AV.agg [.float a1_0, .float a1_1]] []) = some ((true), AV.float (s_vec_Cross_0 a0_0 a0_1 a1_0 a1_1)) := by kernel_rfl
noncomputable def S_vec_Cross : List AV → Option (Ob × AV)
  | [AV.agg [.float a0_0, .float a0_1], AV.agg [.float a1_0, .float a1_1]] => some (Ob.tt, AV.float (s_vec_Cross_0 a0_0 a0_1 a1_0 a1_1))
  | _ => none
theorem t_vec_Cross : ROkM Try.prog false (14, pureM S_vec_Cross) := ROkM.pure (N := 64) menv6_ok Try.func14 Try.call14 fun args o v h => by
  unfold S_vec_Cross at h
  split at h
  · rename_i a0_0 a0_1 a1_0 a1_1
    cases h
    exact ⟨rfl, rfl, _, e_vec_Cross a0_0 a0_1 a1_0 a1_1, fun _ => rfl⟩
  · cases h
noncomputable def mrs7 : List (FuncId × RFM) := (14, pureM S_vec_Cross) :: mrs6
noncomputable def menv7 : EnvM := mkEnvM mxs mrs7 mws0
theorem mrs7_ok : All (ROkM Try.prog false) mrs7 := All.cons t_vec_Cross mrs6_ok
theorem menv7_ok : menv7.Ok Try.prog false := mkEnvM_ok mxs_ok mrs7_ok mws0_ok
-- tumble/vec.Left
noncomputable def s_vec_Left_0 (a0_0 : Nat) (a0_1 : Nat) : Nat := (fneg a0_1)
noncomputable def s_vec_Left_1 (a0_0 : Nat) (a0_1 : Nat) : Nat := a0_0
theorem e_vec_Left (a0_0 : Nat) (a0_1 : Nat) : outB (evFnM Try.prog false menv7 [] [] 64 Try.f28 [AV.agg [.float a0_0, .float a0_1]] []) = some ((true), AV.agg [AV.float (s_vec_Left_0 a0_0 a0_1), AV.float (s_vec_Left_1 a0_0 a0_1)]) := by kernel_rfl
noncomputable def S_vec_Left : List AV → Option (Ob × AV)
  | [AV.agg [.float a0_0, .float a0_1]] => some (Ob.tt, AV.agg [AV.float (s_vec_Left_0 a0_0 a0_1), AV.float (s_vec_Left_1 a0_0 a0_1)])
  | _ => none
theorem t_vec_Left : ROkM Try.prog false (28, pureM S_vec_Left) := ROkM.pure (N := 64) menv7_ok Try.func28 Try.call28 fun args o v h => by
  unfold S_vec_Left at h
  split at h
  · rename_i a0_0 a0_1
    cases h
    exact ⟨rfl, rfl, _, e_vec_Left a0_0 a0_1, fun _ => rfl⟩
  · cases h
noncomputable def mrs8 : List (FuncId × RFM) := (28, pureM S_vec_Left) :: mrs7
noncomputable def menv8 : EnvM := mkEnvM mxs mrs8 mws0
theorem mrs8_ok : All (ROkM Try.prog false) mrs8 := All.cons t_vec_Left mrs7_ok
theorem menv8_ok : menv8.Ok Try.prog false := mkEnvM_ok mxs_ok mrs8_ok mws0_ok
-- tumble/vec.Add
noncomputable def s_vec_Add_0 (a0_0 : Nat) (a0_1 : Nat) (a1_0 : Nat) (a1_1 : Nat) : Nat := (fadd a0_0 a1_0)
noncomputable def s_vec_Add_1 (a0_0 : Nat) (a0_1 : Nat) (a1_0 : Nat) (a1_1 : Nat) : Nat := (fadd a0_1 a1_1)
theorem e_vec_Add (a0_0 : Nat) (a0_1 : Nat) (a1_0 : Nat) (a1_1 : Nat) : outB (evFnM Try.prog false menv8 [] [] 64 Try.f30 [AV.agg [.float a0_0, .float a0_1], AV.agg [.float a1_0, .float a1_1]] []) = some ((true), AV.agg [AV.float (s_vec_Add_0 a0_0 a0_1 a1_0 a1_1), AV.float (s_vec_Add_1 a0_0 a0_1 a1_0 a1_1)]) := by kernel_rfl
noncomputable def S_vec_Add : List AV → Option (Ob × AV)
  | [AV.agg [.float a0_0, .float a0_1], AV.agg [.float a1_0, .float a1_1]] => some (Ob.tt, AV.agg [AV.float (s_vec_Add_0 a0_0 a0_1 a1_0 a1_1), AV.float (s_vec_Add_1 a0_0 a0_1 a1_0 a1_1)])
  | _ => none
theorem t_vec_Add : ROkM Try.prog false (30, pureM S_vec_Add) := ROkM.pure (N := 64) menv8_ok Try.func30 Try.call30 fun args o v h => by
  unfold S_vec_Add at h
  split at h
  · rename_i a0_0 a0_1 a1_0 a1_1
    cases h
    exact ⟨rfl, rfl, _, e_vec_Add a0_0 a0_1 a1_0 a1_1, fun _ => rfl⟩
  · cases h
noncomputable def mrs9 : List (FuncId × RFM) := (30, pureM S_vec_Add) :: mrs8
noncomputable def menv9 : EnvM := mkEnvM mxs mrs9 mws0
theorem mrs9_ok : All (ROkM Try.prog false) mrs9 := All.cons t_vec_Add mrs8_ok
theorem menv9_ok : menv9.Ok Try.prog false := mkEnvM_ok mxs_ok mrs9_ok mws0_ok
-- tumble/vec.Scale
noncomputable def s_vec_Scale_0 (a0_0 : Nat) (a0_1 : Nat) (a1_0 : Nat) : Nat := (fmul a0_0 a1_0)
noncomputable def s_vec_Scale_1 (a0_0 : Nat) (a0_1 : Nat) (a1_0 : Nat) : Nat := (fmul a0_1 a1_0)
theorem e_vec_Scale (a0_0 : Nat) (a0_1 : Nat) (a1_0 : Nat) : outB (evFnM Try.prog false menv9 [] [] 64 Try.f34 [AV.agg [.float a0_0, .float a0_1], AV.float a1_0] []) = some ((true), AV.agg [AV.float (s_vec_Scale_0 a0_0 a0_1 a1_0), AV.float (s_vec_Scale_1 a0_0 a0_1 a1_0)]) := by kernel_rfl
noncomputable def S_vec_Scale : List AV → Option (Ob × AV)
  | [AV.agg [.float a0_0, .float a0_1], AV.float a1_0] => some (Ob.tt, AV.agg [AV.float (s_vec_Scale_0 a0_0 a0_1 a1_0), AV.float (s_vec_Scale_1 a0_0 a0_1 a1_0)])
  | _ => none
theorem t_vec_Scale : ROkM Try.prog false (34, pureM S_vec_Scale) := ROkM.pure (N := 64) menv9_ok Try.func34 Try.call34 fun args o v h => by
  unfold S_vec_Scale at h
  split at h
  · rename_i a0_0 a0_1 a1_0
    cases h
    exact ⟨rfl, rfl, _, e_vec_Scale a0_0 a0_1 a1_0, fun _ => rfl⟩
  · cases h
noncomputable def mrs10 : List (FuncId × RFM) := (34, pureM S_vec_Scale) :: mrs9
noncomputable def menv10 : EnvM := mkEnvM mxs mrs10 mws0
theorem mrs10_ok : All (ROkM Try.prog false) mrs10 := All.cons t_vec_Scale mrs9_ok
theorem menv10_ok : menv10.Ok Try.prog false := mkEnvM_ok mxs_ok mrs10_ok mws0_ok
-- tumble/vec.Middle
noncomputable def s_vec_Middle_0 (a0_0 : Nat) (a0_1 : Nat) (a1_0 : Nat) (a1_1 : Nat) : Nat := (s_vec_Scale_0 (s_vec_Add_0 a0_0 a0_1 a1_0 a1_1) (s_vec_Add_1 a0_0 a0_1 a1_0 a1_1) 4602678819172646912)
noncomputable def s_vec_Middle_1 (a0_0 : Nat) (a0_1 : Nat) (a1_0 : Nat) (a1_1 : Nat) : Nat := (s_vec_Scale_1 (s_vec_Add_0 a0_0 a0_1 a1_0 a1_1) (s_vec_Add_1 a0_0 a0_1 a1_0 a1_1) 4602678819172646912)
theorem e_vec_Middle (a0_0 : Nat) (a0_1 : Nat) (a1_0 : Nat) (a1_1 : Nat) : outB (evFnM Try.prog false menv10 [] [] 64 Try.f39 [AV.agg [.float a0_0, .float a0_1], AV.agg [.float a1_0, .float a1_1]] []) = some ((true), AV.agg [AV.float (s_vec_Middle_0 a0_0 a0_1 a1_0 a1_1), AV.float (s_vec_Middle_1 a0_0 a0_1 a1_0 a1_1)]) := by kernel_rfl
noncomputable def S_vec_Middle : List AV → Option (Ob × AV)
  | [AV.agg [.float a0_0, .float a0_1], AV.agg [.float a1_0, .float a1_1]] => some (Ob.tt, AV.agg [AV.float (s_vec_Middle_0 a0_0 a0_1 a1_0 a1_1), AV.float (s_vec_Middle_1 a0_0 a0_1 a1_0 a1_1)])
  | _ => none
theorem t_vec_Middle : ROkM Try.prog false (39, pureM S_vec_Middle) := ROkM.pure (N := 64) menv10_ok Try.func39 Try.call39 fun args o v h => by
  unfold S_vec_Middle at h
  split at h
  · rename_i a0_0 a0_1 a1_0 a1_1
    cases h
    exact ⟨rfl, rfl, _, e_vec_Middle a0_0 a0_1 a1_0 a1_1, fun _ => rfl⟩
  · cases h
noncomputable def mrs11 : List (FuncId × RFM) := (39, pureM S_vec_Middle) :: mrs10
noncomputable def menv11 : EnvM := mkEnvM mxs mrs11 mws0
theorem mrs11_ok : All (ROkM Try.prog false) mrs11 := All.cons t_vec_Middle mrs10_ok
theorem menv11_ok : menv11.Ok Try.prog false := mkEnvM_ok mxs_ok mrs11_ok mws0_ok
-- tumble/num.Within[float64]
noncomputable def s_num_Within_float64__0 (a0_0 : Nat) (a1_0 : Nat) : Bool := ((fle (fneg a1_0) a0_0) && (fle a0_0 a1_0))
theorem e_num_Within_float64_ (a0_0 : Nat) (a1_0 : Nat) : outB (evFnM Try.prog false menv11 [] [] 64 Try.f56 [AV.float a0_0, AV.float a1_0] []) = some ((true), AV.bool (s_num_Within_float64__0 a0_0 a1_0)) := by kernel_rfl
noncomputable def S_num_Within_float64_ : List AV → Option (Ob × AV)
  | [AV.float a0_0, AV.float a1_0] => some (Ob.tt, AV.bool (s_num_Within_float64__0 a0_0 a1_0))
  | _ => none
theorem t_num_Within_float64_ : ROkM Try.prog false (56, pureM S_num_Within_float64_) := ROkM.pure (N := 64) menv11_ok Try.func56 Try.call56 fun args o v h => by
  unfold S_num_Within_float64_ at h
  split at h
  · rename_i a0_0 a1_0
    cases h
    exact ⟨rfl, rfl, _, e_num_Within_float64_ a0_0 a1_0, fun _ => rfl⟩
  · cases h
noncomputable def mrs12 : List (FuncId × RFM) := (56, pureM S_num_Within_float64_) :: mrs11
noncomputable def menv12 : EnvM := mkEnvM mxs mrs12 mws0
theorem mrs12_ok : All (ROkM Try.prog false) mrs12 := All.cons t_num_Within_float64_ mrs11_ok
theorem menv12_ok : menv12.Ok Try.prog false := mkEnvM_ok mxs_ok mrs12_ok mws0_ok
-- tumble/vec.Within
noncomputable def s_vec_Within_0 (a0_0 : Nat) (a0_1 : Nat) (a1_0 : Nat) : Bool := ((s_num_Within_float64__0 a0_0 a1_0) && (s_num_Within_float64__0 a0_1 a1_0))
theorem e_vec_Within (a0_0 : Nat) (a0_1 : Nat) (a1_0 : Nat) : outB (evFnM Try.prog false menv12 [] [] 64 Try.f24 [AV.agg [.float a0_0, .float a0_1], AV.float a1_0] []) = some ((true), AV.bool (s_vec_Within_0 a0_0 a0_1 a1_0)) := by kernel_rfl
noncomputable def S_vec_Within : List AV → Option (Ob × AV)
  | [AV.agg [.float a0_0, .float a0_1], AV.float a1_0] => some (Ob.tt, AV.bool (s_vec_Within_0 a0_0 a0_1 a1_0))
  | _ => none
theorem t_vec_Within : ROkM Try.prog false (24, pureM S_vec_Within) := ROkM.pure (N := 64) menv12_ok Try.func24 Try.call24 fun args o v h => by
  unfold S_vec_Within at h
  split at h
  · rename_i a0_0 a0_1 a1_0
    cases h
    exact ⟨rfl, rfl, _, e_vec_Within a0_0 a0_1 a1_0, fun _ => rfl⟩
  · cases h
noncomputable def mrs13 : List (FuncId × RFM) := (24, pureM S_vec_Within) :: mrs12
noncomputable def menv13 : EnvM := mkEnvM mxs mrs13 mws0
theorem mrs13_ok : All (ROkM Try.prog false) mrs13 := All.cons t_vec_Within mrs12_ok
theorem menv13_ok : menv13.Ok Try.prog false := mkEnvM_ok mxs_ok mrs13_ok mws0_ok
-- math.Copysign
noncomputable def S_math_Copysign : List AV → Option AV
  | [AV.float a, AV.float c] => cond (nanb c) none (some (AV.float (fcps a c)))
  | _ => none
theorem t_math_Copysign : ROk Try.prog false (49, pureF S_math_Copysign) := exact2f (N := 64) xenv_ok Try.func49 Try.call49 fcps (fun args v h => by
    unfold S_math_Copysign at h
    split at h
    · obtain ⟨hn, h⟩ := cond_some' h rfl; cases h; exact ⟨_, _, rfl, hn, rfl⟩
    · cases h) fun b d hb hd _ => ⟨_, by refine Eq.trans ?_ (cps_tree hb hd); kernel_rfl, cps_cn⟩
noncomputable def mrs14 : List (FuncId × RFM) := (49, pureM fun args => match S_math_Copysign args with | some v => some (.tt, v) | none => none) :: mrs13
noncomputable def menv14 : EnvM := mkEnvM mxs mrs14 mws0
theorem mrs14_ok : All (ROkM Try.prog false) mrs14 := All.cons t_math_Copysign.toM mrs13_ok
theorem menv14_ok : menv14.Ok Try.prog false := mkEnvM_ok mxs_ok mrs14_ok mws0_ok
-- tumble/num.none[float64]
noncomputable def s_num_none_float64__0 (a0_0 : Nat) : Bool := (!(feq a0_0 a0_0))
theorem e_num_none_float64_ (a0_0 : Nat) : outB (evFnM Try.prog false menv14 [] [] 64 Try.f66 [AV.float a0_0] []) = some ((true), AV.bool (s_num_none_float64__0 a0_0)) := by kernel_rfl
noncomputable def S_num_none_float64_ : List AV → Option (Ob × AV)
  | [AV.float a0_0] => some (Ob.tt, AV.bool (s_num_none_float64__0 a0_0))
  | _ => none
theorem t_num_none_float64_ : ROkM Try.prog false (66, pureM S_num_none_float64_) := ROkM.pure (N := 64) menv14_ok Try.func66 Try.call66 fun args o v h => by
  unfold S_num_none_float64_ at h
  split at h
  · rename_i a0_0
    cases h
    exact ⟨rfl, rfl, _, e_num_none_float64_ a0_0, fun _ => rfl⟩
  · cases h
noncomputable def mrs15 : List (FuncId × RFM) := (66, pureM S_num_none_float64_) :: mrs14
noncomputable def menv15 : EnvM := mkEnvM mxs mrs15 mws0
theorem mrs15_ok : All (ROkM Try.prog false) mrs15 := All.cons t_num_none_float64_ mrs14_ok
theorem menv15_ok : menv15.Ok Try.prog false := mkEnvM_ok mxs_ok mrs15_ok mws0_ok
-- tumble/num.Bits
noncomputable def s_num_Bits_0 (a0_0 : Nat) : Int := (bif (s_num_none_float64__0 a0_0) then (9221120237041090560 : Int) else (Int.ofNat a0_0))
theorem e_num_Bits (a0_0 : Nat) : outB (evFnM Try.prog false menv15 [] [] 64 Try.f52 [AV.float a0_0] []) = some ((((s_num_none_float64__0 a0_0) || (!(nanb a0_0)))), AV.int .u64 (s_num_Bits_0 a0_0)) := by kernel_rfl
noncomputable def S_num_Bits : List AV → Option (Ob × AV)
  | [AV.float a0_0] => some (Ob.bit (((s_num_none_float64__0 a0_0) || (!(nanb a0_0)))), AV.int .u64 (s_num_Bits_0 a0_0))
  | _ => none
theorem t_num_Bits : ROkM Try.prog false (52, pureM S_num_Bits) := ROkM.pure (N := 64) menv15_ok Try.func52 Try.call52 fun args o v h => by
  unfold S_num_Bits at h
  split at h
  · rename_i a0_0
    cases h
    exact ⟨rfl, rfl, _, e_num_Bits a0_0, fun h => h⟩
  · cases h
noncomputable def mrs16 : List (FuncId × RFM) := (52, pureM S_num_Bits) :: mrs15
noncomputable def menv16 : EnvM := mkEnvM mxs mrs16 mws0
theorem mrs16_ok : All (ROkM Try.prog false) mrs16 := All.cons t_num_Bits mrs15_ok
theorem menv16_ok : menv16.Ok Try.prog false := mkEnvM_ok mxs_ok mrs16_ok mws0_ok
-- tumble/num.minus[float64]
noncomputable def s_num_minus_float64__0 (a0_0 : Nat) : Bool := (flt (fdiv 4607182418800017408 a0_0) 0)
theorem e_num_minus_float64_ (a0_0 : Nat) : outB (evFnM Try.prog false menv16 [] [] 64 Try.f72 [AV.float a0_0] []) = some ((true), AV.bool (s_num_minus_float64__0 a0_0)) := by kernel_rfl
noncomputable def S_num_minus_float64_ : List AV → Option (Ob × AV)
  | [AV.float a0_0] => some (Ob.tt, AV.bool (s_num_minus_float64__0 a0_0))
  | _ => none
theorem t_num_minus_float64_ : ROkM Try.prog false (72, pureM S_num_minus_float64_) := ROkM.pure (N := 64) menv16_ok Try.func72 Try.call72 fun args o v h => by
  unfold S_num_minus_float64_ at h
  split at h
  · rename_i a0_0
    cases h
    exact ⟨rfl, rfl, _, e_num_minus_float64_ a0_0, fun _ => rfl⟩
  · cases h
noncomputable def mrs17 : List (FuncId × RFM) := (72, pureM S_num_minus_float64_) :: mrs16
noncomputable def menv17 : EnvM := mkEnvM mxs mrs17 mws0
theorem mrs17_ok : All (ROkM Try.prog false) mrs17 := All.cons t_num_minus_float64_ mrs16_ok
theorem menv17_ok : menv17.Ok Try.prog false := mkEnvM_ok mxs_ok mrs17_ok mws0_ok
-- tumble/num.Same[float64]
noncomputable def s_num_Same_float64__0 (a0_0 : Nat) (a1_0 : Nat) : Bool := (bif ((feq a0_0 0) && (feq a1_0 0)) then ((s_num_minus_float64__0 a0_0) == (s_num_minus_float64__0 a1_0)) else ((feq a0_0 a1_0) || ((s_num_none_float64__0 a0_0) && (s_num_none_float64__0 a1_0))))
theorem e_num_Same_float64_ (a0_0 : Nat) (a1_0 : Nat) : outB (evFnM Try.prog false menv17 [] [] 64 Try.f67 [AV.float a0_0, AV.float a1_0] []) = some ((true), AV.bool (s_num_Same_float64__0 a0_0 a1_0)) := by kernel_rfl
noncomputable def S_num_Same_float64_ : List AV → Option (Ob × AV)
  | [AV.float a0_0, AV.float a1_0] => some (Ob.tt, AV.bool (s_num_Same_float64__0 a0_0 a1_0))
  | _ => none
theorem t_num_Same_float64_ : ROkM Try.prog false (67, pureM S_num_Same_float64_) := ROkM.pure (N := 64) menv17_ok Try.func67 Try.call67 fun args o v h => by
  unfold S_num_Same_float64_ at h
  split at h
  · rename_i a0_0 a1_0
    cases h
    exact ⟨rfl, rfl, _, e_num_Same_float64_ a0_0 a1_0, fun _ => rfl⟩
  · cases h
noncomputable def mrs18 : List (FuncId × RFM) := (67, pureM S_num_Same_float64_) :: mrs17
noncomputable def menv18 : EnvM := mkEnvM mxs mrs18 mws0
theorem mrs18_ok : All (ROkM Try.prog false) mrs18 := All.cons t_num_Same_float64_ mrs17_ok
theorem menv18_ok : menv18.Ok Try.prog false := mkEnvM_ok mxs_ok mrs18_ok mws0_ok
-- tumble/vec.both
noncomputable def s_vec_both_0 (a0_0 : Nat) (a0_1 : Nat) (a1_0 : Nat) (a1_1 : Nat) : Bool := ((s_num_Same_float64__0 a0_0 a1_0) && (s_num_Same_float64__0 a0_1 a1_1))
theorem e_vec_both (a0_0 : Nat) (a0_1 : Nat) (a1_0 : Nat) (a1_1 : Nat) : outB (evFnM Try.prog false menv18 [] [] 64 Try.f53 [AV.agg [.float a0_0, .float a0_1], AV.agg [.float a1_0, .float a1_1]] []) = some ((true), AV.bool (s_vec_both_0 a0_0 a0_1 a1_0 a1_1)) := by kernel_rfl
noncomputable def S_vec_both : List AV → Option (Ob × AV)
  | [AV.agg [.float a0_0, .float a0_1], AV.agg [.float a1_0, .float a1_1]] => some (Ob.tt, AV.bool (s_vec_both_0 a0_0 a0_1 a1_0 a1_1))
  | _ => none
theorem t_vec_both : ROkM Try.prog false (53, pureM S_vec_both) := ROkM.pure (N := 64) menv18_ok Try.func53 Try.call53 fun args o v h => by
  unfold S_vec_both at h
  split at h
  · rename_i a0_0 a0_1 a1_0 a1_1
    cases h
    exact ⟨rfl, rfl, _, e_vec_both a0_0 a0_1 a1_0 a1_1, fun _ => rfl⟩
  · cases h
noncomputable def mrs19 : List (FuncId × RFM) := (53, pureM S_vec_both) :: mrs18
noncomputable def menv19 : EnvM := mkEnvM mxs mrs19 mws0
theorem mrs19_ok : All (ROkM Try.prog false) mrs19 := All.cons t_vec_both mrs18_ok
theorem menv19_ok : menv19.Ok Try.prog false := mkEnvM_ok mxs_ok mrs19_ok mws0_ok
-- tumble/vec.Same
noncomputable def s_vec_Same_0 (a0_0 : Nat) (a0_1 : Nat) (a1_0 : Nat) (a1_1 : Nat) : Bool := (((((feq a0_0 a1_0) && ((feq a0_1 a1_1) && true)) && (ieq (s_num_Bits_0 a0_0) (s_num_Bits_0 a1_0))) && (ieq (s_num_Bits_0 a0_1) (s_num_Bits_0 a1_1))) || (s_vec_both_0 a0_0 a0_1 a1_0 a1_1))
theorem e_vec_Same (a0_0 : Nat) (a0_1 : Nat) (a1_0 : Nat) (a1_1 : Nat) : outB (evFnM Try.prog false menv19 [] [] 64 Try.f20 [AV.agg [.float a0_0, .float a0_1], AV.agg [.float a1_0, .float a1_1]] []) = some ((let x0 : Bool := ((feq a0_0 a1_0) && ((feq a0_1 a1_1) && true)); let x1 : Bool := (bif x0 then (((s_num_none_float64__0 a1_0) || (!(nanb a1_0))) && ((s_num_none_float64__0 a0_0) || (!(nanb a0_0)))) else true); let x2 : Bool := (x0 && (ieq (s_num_Bits_0 a0_0) (s_num_Bits_0 a1_0))); let x3 : Bool := (bif x2 then (((s_num_none_float64__0 a1_1) || (!(nanb a1_1))) && (((s_num_none_float64__0 a0_1) || (!(nanb a0_1))) && x1)) else x1); (bif (x2 && (ieq (s_num_Bits_0 a0_1) (s_num_Bits_0 a1_1))) then x3 else x3)), AV.bool (s_vec_Same_0 a0_0 a0_1 a1_0 a1_1)) := by kernel_rfl
noncomputable def S_vec_Same : List AV → Option (Ob × AV)
  | [AV.agg [.float a0_0, .float a0_1], AV.agg [.float a1_0, .float a1_1]] => some (Ob.bit (let x0 : Bool := ((feq a0_0 a1_0) && ((feq a0_1 a1_1) && true)); let x1 : Bool := (bif x0 then (((s_num_none_float64__0 a1_0) || (!(nanb a1_0))) && ((s_num_none_float64__0 a0_0) || (!(nanb a0_0)))) else true); let x2 : Bool := (x0 && (ieq (s_num_Bits_0 a0_0) (s_num_Bits_0 a1_0))); let x3 : Bool := (bif x2 then (((s_num_none_float64__0 a1_1) || (!(nanb a1_1))) && (((s_num_none_float64__0 a0_1) || (!(nanb a0_1))) && x1)) else x1); (bif (x2 && (ieq (s_num_Bits_0 a0_1) (s_num_Bits_0 a1_1))) then x3 else x3)), AV.bool (s_vec_Same_0 a0_0 a0_1 a1_0 a1_1))
  | _ => none
theorem t_vec_Same : ROkM Try.prog false (20, pureM S_vec_Same) := ROkM.pure (N := 64) menv19_ok Try.func20 Try.call20 fun args o v h => by
  unfold S_vec_Same at h
  split at h
  · rename_i a0_0 a0_1 a1_0 a1_1
    cases h
    exact ⟨rfl, rfl, _, e_vec_Same a0_0 a0_1 a1_0 a1_1, fun h => h⟩
  · cases h
noncomputable def mrs20 : List (FuncId × RFM) := (20, pureM S_vec_Same) :: mrs19
noncomputable def menv20 : EnvM := mkEnvM mxs mrs20 mws0
theorem mrs20_ok : All (ROkM Try.prog false) mrs20 := All.cons t_vec_Same mrs19_ok
theorem menv20_ok : menv20.Ok Try.prog false := mkEnvM_ok mxs_ok mrs20_ok mws0_ok
-- tumble/vec.Finite
noncomputable def s_vec_Finite_0 (a0_0 : Nat) (a0_1 : Nat) : Bool := ((s_num_Finite_float64__0 a0_0) && (s_num_Finite_float64__0 a0_1))
theorem e_vec_Finite (a0_0 : Nat) (a0_1 : Nat) : outB (evFnM Try.prog false menv20 [] [] 64 Try.f22 [AV.agg [.float a0_0, .float a0_1]] []) = some ((true), AV.bool (s_vec_Finite_0 a0_0 a0_1)) := by kernel_rfl
noncomputable def S_vec_Finite : List AV → Option (Ob × AV)
  | [AV.agg [.float a0_0, .float a0_1]] => some (Ob.tt, AV.bool (s_vec_Finite_0 a0_0 a0_1))
  | _ => none
theorem t_vec_Finite : ROkM Try.prog false (22, pureM S_vec_Finite) := ROkM.pure (N := 64) menv20_ok Try.func22 Try.call22 fun args o v h => by
  unfold S_vec_Finite at h
  split at h
  · rename_i a0_0 a0_1
    cases h
    exact ⟨rfl, rfl, _, e_vec_Finite a0_0 a0_1, fun _ => rfl⟩
  · cases h
noncomputable def mrs21 : List (FuncId × RFM) := (22, pureM S_vec_Finite) :: mrs20
noncomputable def menv21 : EnvM := mkEnvM mxs mrs21 mws0
theorem mrs21_ok : All (ROkM Try.prog false) mrs21 := All.cons t_vec_Finite mrs20_ok
theorem menv21_ok : menv21.Ok Try.prog false := mkEnvM_ok mxs_ok mrs21_ok mws0_ok
-- tumble/tumblelaw02.alive
noncomputable def s_law02_alive_0 : Bool := true
theorem e_law02_alive : outB (evFnM Try.prog false menv21 [] [] 64 Try.f10 [] []) = some ((true), AV.bool (s_law02_alive_0)) := by kernel_rfl
noncomputable def S_law02_alive : List AV → Option (Ob × AV)
  | [] => some (Ob.tt, AV.bool (s_law02_alive_0))
  | _ => none
theorem t_law02_alive : ROkM Try.prog false (10, pureM S_law02_alive) := ROkM.pure (N := 64) menv21_ok Try.func10 Try.call10 fun args o v h => by
  unfold S_law02_alive at h
  split at h
  · skip
    cases h
    exact ⟨rfl, rfl, _, e_law02_alive, fun _ => rfl⟩
  · cases h
noncomputable def mrs22 : List (FuncId × RFM) := (10, pureM S_law02_alive) :: mrs21
noncomputable def menv22 : EnvM := mkEnvM mxs mrs22 mws0
theorem mrs22_ok : All (ROkM Try.prog false) mrs22 := All.cons t_law02_alive mrs21_ok
theorem menv22_ok : menv22.Ok Try.prog false := mkEnvM_ok mxs_ok mrs22_ok mws0_ok
-- tumble/vec.Neg
noncomputable def s_vec_Neg_0 (a0_0 : Nat) (a0_1 : Nat) : Nat := (fneg a0_0)
noncomputable def s_vec_Neg_1 (a0_0 : Nat) (a0_1 : Nat) : Nat := (fneg a0_1)
theorem e_vec_Neg (a0_0 : Nat) (a0_1 : Nat) : outB (evFnM Try.prog false menv22 [] [] 64 Try.f27 [AV.agg [.float a0_0, .float a0_1]] []) = some ((true), AV.agg [AV.float (s_vec_Neg_0 a0_0 a0_1), AV.float (s_vec_Neg_1 a0_0 a0_1)]) := by kernel_rfl
noncomputable def S_vec_Neg : List AV → Option (Ob × AV)
  | [AV.agg [.float a0_0, .float a0_1]] => some (Ob.tt, AV.agg [AV.float (s_vec_Neg_0 a0_0 a0_1), AV.float (s_vec_Neg_1 a0_0 a0_1)])
  | _ => none
theorem t_vec_Neg : ROkM Try.prog false (27, pureM S_vec_Neg) := ROkM.pure (N := 64) menv22_ok Try.func27 Try.call27 fun args o v h => by
  unfold S_vec_Neg at h
  split at h
  · rename_i a0_0 a0_1
    cases h
    exact ⟨rfl, rfl, _, e_vec_Neg a0_0 a0_1, fun _ => rfl⟩
  · cases h
noncomputable def mrs23 : List (FuncId × RFM) := (27, pureM S_vec_Neg) :: mrs22
noncomputable def menv23 : EnvM := mkEnvM mxs mrs23 mws0
theorem mrs23_ok : All (ROkM Try.prog false) mrs23 := All.cons t_vec_Neg mrs22_ok
theorem menv23_ok : menv23.Ok Try.prog false := mkEnvM_ok mxs_ok mrs23_ok mws0_ok
-- tumble/tumbleref02.Bits
noncomputable def s_ref02_Bits_0 (a0_0 : Nat) : Int := (bif (!(feq a0_0 a0_0)) then (9221120237041090561 : Int) else (Int.ofNat a0_0))
theorem e_ref02_Bits (a0_0 : Nat) : outB (evFnM Try.prog false menv23 [] [] 64 Try.f64 [AV.float a0_0] []) = some ((((!(feq a0_0 a0_0)) || (!(nanb a0_0)))), AV.int .u64 (s_ref02_Bits_0 a0_0)) := by kernel_rfl
noncomputable def S_ref02_Bits : List AV → Option (Ob × AV)
  | [AV.float a0_0] => some (Ob.tt, AV.int .u64 (s_ref02_Bits_0 a0_0))
  | _ => none
theorem t_ref02_Bits : ROkM Try.prog false (64, pureM S_ref02_Bits) := ROkM.pure (N := 64) menv23_ok Try.func64 Try.call64 fun args o v h => by
  unfold S_ref02_Bits at h
  split at h
  · rename_i a0_0
    cases h
    exact ⟨rfl, rfl, _, e_ref02_Bits a0_0, fun _ => by show (((!(feq a0_0 a0_0)) || (!(nanb a0_0)))) = true; simp only [feq_self]; generalize (nanb a0_0) = q0; cases q0 <;> rfl⟩
  · cases h
noncomputable def mrs24 : List (FuncId × RFM) := (64, pureM S_ref02_Bits) :: mrs23
noncomputable def menv24 : EnvM := mkEnvM mxs mrs24 mws0
theorem mrs24_ok : All (ROkM Try.prog false) mrs24 := All.cons t_ref02_Bits mrs23_ok
theorem menv24_ok : menv24.Ok Try.prog false := mkEnvM_ok mxs_ok mrs24_ok mws0_ok
-- tumble/tumbleref02.Is
noncomputable def s_ref02_Is_0 (a0_0 : Nat) (a1_0 : Nat) : Bool := (ieq (s_ref02_Bits_0 a0_0) (s_ref02_Bits_0 a1_0))
theorem e_ref02_Is (a0_0 : Nat) (a1_0 : Nat) : outB (evFnM Try.prog false menv24 [] [] 64 Try.f50 [AV.float a0_0, AV.float a1_0] []) = some ((true), AV.bool (s_ref02_Is_0 a0_0 a1_0)) := by kernel_rfl
noncomputable def S_ref02_Is : List AV → Option (Ob × AV)
  | [AV.float a0_0, AV.float a1_0] => some (Ob.tt, AV.bool (s_ref02_Is_0 a0_0 a1_0))
  | _ => none
theorem t_ref02_Is : ROkM Try.prog false (50, pureM S_ref02_Is) := ROkM.pure (N := 64) menv24_ok Try.func50 Try.call50 fun args o v h => by
  unfold S_ref02_Is at h
  split at h
  · rename_i a0_0 a1_0
    cases h
    exact ⟨rfl, rfl, _, e_ref02_Is a0_0 a1_0, fun _ => rfl⟩
  · cases h
noncomputable def mrs25 : List (FuncId × RFM) := (50, pureM S_ref02_Is) :: mrs24
noncomputable def menv25 : EnvM := mkEnvM mxs mrs25 mws0
theorem mrs25_ok : All (ROkM Try.prog false) mrs25 := All.cons t_ref02_Is mrs24_ok
theorem menv25_ok : menv25.Ok Try.prog false := mkEnvM_ok mxs_ok mrs25_ok mws0_ok
-- tumble/tumbleref02.Same
noncomputable def s_ref02_Same_0 (a0_0 : Nat) (a0_1 : Nat) (a1_0 : Nat) (a1_1 : Nat) : Bool := ((s_ref02_Is_0 a0_0 a1_0) && (s_ref02_Is_0 a0_1 a1_1))
theorem e_ref02_Same (a0_0 : Nat) (a0_1 : Nat) (a1_0 : Nat) (a1_1 : Nat) : outB (evFnM Try.prog false menv25 [] [] 64 Try.f21 [AV.agg [.float a0_0, .float a0_1], AV.agg [.float a1_0, .float a1_1]] []) = some ((true), AV.bool (s_ref02_Same_0 a0_0 a0_1 a1_0 a1_1)) := by kernel_rfl
noncomputable def S_ref02_Same : List AV → Option (Ob × AV)
  | [AV.agg [.float a0_0, .float a0_1], AV.agg [.float a1_0, .float a1_1]] => some (Ob.tt, AV.bool (s_ref02_Same_0 a0_0 a0_1 a1_0 a1_1))
  | _ => none
theorem t_ref02_Same : ROkM Try.prog false (21, pureM S_ref02_Same) := ROkM.pure (N := 64) menv25_ok Try.func21 Try.call21 fun args o v h => by
  unfold S_ref02_Same at h
  split at h
  · rename_i a0_0 a0_1 a1_0 a1_1
    cases h
    exact ⟨rfl, rfl, _, e_ref02_Same a0_0 a0_1 a1_0 a1_1, fun _ => rfl⟩
  · cases h
noncomputable def mrs26 : List (FuncId × RFM) := (21, pureM S_ref02_Same) :: mrs25
noncomputable def menv26 : EnvM := mkEnvM mxs mrs26 mws0
theorem mrs26_ok : All (ROkM Try.prog false) mrs26 := All.cons t_ref02_Same mrs25_ok
theorem menv26_ok : menv26.Ok Try.prog false := mkEnvM_ok mxs_ok mrs26_ok mws0_ok
-- tumble/tumblelaw02.is
noncomputable def s_law02_is_0 (a0_0 : Nat) (a0_1 : Nat) (a1_0 : Nat) (a1_1 : Nat) : Bool := (s_ref02_Same_0 a0_0 a0_1 a1_0 a1_1)
theorem e_law02_is (a0_0 : Nat) (a0_1 : Nat) (a1_0 : Nat) (a1_1 : Nat) : outB (evFnM Try.prog false menv26 [] [] 64 Try.f29 [AV.agg [.float a0_0, .float a0_1], AV.agg [.float a1_0, .float a1_1]] []) = some ((true), AV.bool (s_law02_is_0 a0_0 a0_1 a1_0 a1_1)) := by kernel_rfl
noncomputable def S_law02_is : List AV → Option (Ob × AV)
  | [AV.agg [.float a0_0, .float a0_1], AV.agg [.float a1_0, .float a1_1]] => some (Ob.tt, AV.bool (s_law02_is_0 a0_0 a0_1 a1_0 a1_1))
  | _ => none
theorem t_law02_is : ROkM Try.prog false (29, pureM S_law02_is) := ROkM.pure (N := 64) menv26_ok Try.func29 Try.call29 fun args o v h => by
  unfold S_law02_is at h
  split at h
  · rename_i a0_0 a0_1 a1_0 a1_1
    cases h
    exact ⟨rfl, rfl, _, e_law02_is a0_0 a0_1 a1_0 a1_1, fun _ => rfl⟩
  · cases h
noncomputable def mrs27 : List (FuncId × RFM) := (29, pureM S_law02_is) :: mrs26
noncomputable def menv27 : EnvM := mkEnvM mxs mrs27 mws0
theorem mrs27_ok : All (ROkM Try.prog false) mrs27 := All.cons t_law02_is mrs26_ok
theorem menv27_ok : menv27.Ok Try.prog false := mkEnvM_ok mxs_ok mrs27_ok mws0_ok
-- tumble/tumblelaw02.VecLong
noncomputable def T_law02_VecLong (a0_0 : Nat) (a0_1 : Nat) : Bool := let x0 : Nat := (s_vec_Square_0 (s_vec_Unit_0 a0_0 a0_1) (s_vec_Unit_1 a0_0 a0_1)); (bif (((!((s_vec_Unit_2 a0_0 a0_1) == (s_vec_Unit_2 (s_vec_Neg_0 a0_0 a0_1) (s_vec_Neg_1 a0_0 a0_1)))) || (!((s_vec_Unit_2 a0_0 a0_1) == (s_vec_Unit_2 (s_vec_Left_0 a0_0 a0_1) (s_vec_Left_1 a0_0 a0_1))))) || (!((s_vec_Unit_2 a0_0 a0_1) == ((flt 0 (s_vec_Square_0 a0_0 a0_1)) && (fle (s_vec_Square_0 a0_0 a0_1) 9218868437227405311))))) then false else (bif (!(s_vec_Unit_2 a0_0 a0_1)) then ((feq (s_vec_Unit_0 a0_0 a0_1) 0) && ((feq (s_vec_Unit_1 a0_0 a0_1) 0) && true)) else (bif ((((((!(s_law02_is_0 (s_vec_Unit_0 (s_vec_Neg_0 a0_0 a0_1) (s_vec_Neg_1 a0_0 a0_1)) (s_vec_Unit_1 (s_vec_Neg_0 a0_0 a0_1) (s_vec_Neg_1 a0_0 a0_1)) (s_vec_Neg_0 (s_vec_Unit_0 a0_0 a0_1) (s_vec_Unit_1 a0_0 a0_1)) (s_vec_Neg_1 (s_vec_Unit_0 a0_0 a0_1) (s_vec_Unit_1 a0_0 a0_1)))) || (!(s_law02_is_0 (s_vec_Unit_0 (s_vec_Left_0 a0_0 a0_1) (s_vec_Left_1 a0_0 a0_1)) (s_vec_Unit_1 (s_vec_Left_0 a0_0 a0_1) (s_vec_Left_1 a0_0 a0_1)) (s_vec_Left_0 (s_vec_Unit_0 a0_0 a0_1) (s_vec_Unit_1 a0_0 a0_1)) (s_vec_Left_1 (s_vec_Unit_0 a0_0 a0_1) (s_vec_Unit_1 a0_0 a0_1))))) || ((flt 0 (s_vec_Unit_0 a0_0 a0_1)) && (fle a0_0 0))) || ((flt (s_vec_Unit_0 a0_0 a0_1) 0) && (fle 0 a0_0))) || ((flt 0 (s_vec_Unit_1 a0_0 a0_1)) && (fle a0_1 0))) || ((flt (s_vec_Unit_1 a0_0 a0_1) 0) && (fle 0 a0_1))) then false else ((flt (s_vec_Square_0 a0_0 a0_1) 553942754166571008) || ((fle 4607182418800017376 x0) && (fle x0 4607182418800017424))))))
noncomputable def O_law02_VecLong (a0_0 : Nat) (a0_1 : Nat) : Bool := true
theorem tree_law02_VecLong (a0_0 : Nat) (a0_1 : Nat) : outB (evFnM Try.prog false menv27 [14] [] 64 Try.f5 [AV.agg [.float a0_0, .float a0_1]] []) = some (O_law02_VecLong a0_0 a0_1, AV.bool (T_law02_VecLong a0_0 a0_1)) := by kernel_rfl

end Go.Proofs.Ytjikamcdcjaibaa
