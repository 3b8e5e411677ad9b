/- The contracts of the functions that these laws reach, printed by a program of this work: each says what the Go function gives, up to which NaN. -/
import Derived.Test.YtjikamcdcjaibaaProg
import Derived.KernelRfl
import Derived.Test.YtjikamcdcjaibaaSimDEnv
set_option linter.unusedVariables false
set_option linter.unusedSimpArgs false
namespace Go.Proofs.Ytjikamcdcjaibaa
open Go.Sim
def xxs : List (FuncId × XF) := [(65, xF true .sqrt), (63, xF true .tobits), (62, xF true .frombits)]
def xenv : Env := mkEnv xxs [] []
theorem xxs_ok : All (XOk Try.prog true) xxs := All.cons (x_ok (f := 65) .sqrt fun args w => run_callFunc_extern Try.func65 (by kernel_rfl) (by kernel_rfl) (by kernel_rfl) (by kernel_rfl) args w)
  (All.cons (x_ok (f := 63) .tobits fun args w => run_callFunc_extern Try.func63 (by kernel_rfl) (by kernel_rfl) (by kernel_rfl) (by kernel_rfl) args w)
  (All.cons (x_ok (f := 62) .frombits fun args w => run_callFunc_extern Try.func62 (by kernel_rfl) (by kernel_rfl) (by kernel_rfl) (by kernel_rfl) args w)
  (All.nil)))
theorem xenv_ok : xenv.Ok Try.prog true := mkEnv_ok xxs_ok All.nil All.nil
def mxs : List (FuncId × XFM) := [(65, xFM false .sqrt), (63, xFM false .tobits), (62, xFM false .frombits)]
theorem mxs_ok : All (XOkM Try.prog false) mxs := All.cons (xM_ok (f := 65) .sqrt fun args w => run_callFunc_extern Try.func65 (by kernel_rfl) (by kernel_rfl) (by kernel_rfl) (by kernel_rfl) args w)
  (All.cons (xM_ok (f := 63) .tobits fun args w => run_callFunc_extern Try.func63 (by kernel_rfl) (by kernel_rfl) (by kernel_rfl) (by kernel_rfl) args w)
  (All.cons (xM_ok (f := 62) .frombits fun args w => run_callFunc_extern Try.func62 (by kernel_rfl) (by kernel_rfl) (by kernel_rfl) (by kernel_rfl) args w)
  (All.nil)))
def mrs0 : List (FuncId × RFM) := []
def mws0 : List (FuncId × WFM) := []
def menv0 : EnvM := mkEnvM mxs mrs0 mws0
theorem mrs0_ok : All (ROkM Try.prog false) mrs0 := All.nil
theorem mws0_ok : All (WOkM Try.prog false) mws0 := All.nil
theorem menv0_ok : menv0.Ok Try.prog false := mkEnvM_ok mxs_ok mrs0_ok mws0_ok
-- tumble/vec.Dot
noncomputable def s_vec_Dot_0 (a0_0 : Nat) (a0_1 : Nat) (a1_0 : Nat) (a1_1 : Nat) : Nat := (fadd (fmul a0_0 a1_0) (fmul a0_1 a1_1))
theorem e_vec_Dot (a0_0 : Nat) (a0_1 : Nat) (a1_0 : Nat) (a1_1 : Nat) : outB (evFnM Try.prog false menv0 [] [] 64 Try.f12 [AV.agg [.float a0_0, .float a0_1], AV.agg [.float a1_0, .float a1_1]] []) = some ((true), AV.float (s_vec_Dot_0 a0_0 a0_1 a1_0 a1_1)) := by kernel_rfl
noncomputable def S_vec_Dot : List AV → Option (Ob × AV)
  | [AV.agg [.float a0_0, .float a0_1], AV.agg [.float a1_0, .float a1_1]] => some (Ob.tt, AV.float (s_vec_Dot_0 a0_0 a0_1 a1_0 a1_1))
  | _ => none
theorem t_vec_Dot : ROkM Try.prog false (12, pureM S_vec_Dot) := ROkM.pure (N := 64) menv0_ok Try.func12 Try.call12 fun args o v h => by
  unfold S_vec_Dot at h
  split at h
  · rename_i a0_0 a0_1 a1_0 a1_1
    cases h
    exact ⟨rfl, rfl, _, e_vec_Dot a0_0 a0_1 a1_0 a1_1, fun _ => rfl⟩
  · cases h
noncomputable def mrs1 : List (FuncId × RFM) := (12, pureM S_vec_Dot) :: mrs0
noncomputable def menv1 : EnvM := mkEnvM mxs mrs1 mws0
theorem mrs1_ok : All (ROkM Try.prog false) mrs1 := All.cons t_vec_Dot mrs0_ok
theorem menv1_ok : menv1.Ok Try.prog false := mkEnvM_ok mxs_ok mrs1_ok mws0_ok
-- tumble/vec.Square
noncomputable def s_vec_Square_0 (a0_0 : Nat) (a0_1 : Nat) : Nat := (s_vec_Dot_0 a0_0 a0_1 a0_0 a0_1)
theorem e_vec_Square (a0_0 : Nat) (a0_1 : Nat) : outB (evFnM Try.prog false menv1 [] [] 64 Try.f16 [AV.agg [.float a0_0, .float a0_1]] []) = some ((true), AV.float (s_vec_Square_0 a0_0 a0_1)) := by kernel_rfl
noncomputable def S_vec_Square : List AV → Option (Ob × AV)
  | [AV.agg [.float a0_0, .float a0_1]] => some (Ob.tt, AV.float (s_vec_Square_0 a0_0 a0_1))
  | _ => none
theorem t_vec_Square : ROkM Try.prog false (16, pureM S_vec_Square) := ROkM.pure (N := 64) menv1_ok Try.func16 Try.call16 fun args o v h => by
  unfold S_vec_Square at h
  split at h
  · rename_i a0_0 a0_1
    cases h
    exact ⟨rfl, rfl, _, e_vec_Square a0_0 a0_1, fun _ => rfl⟩
  · cases h
noncomputable def mrs2 : List (FuncId × RFM) := (16, pureM S_vec_Square) :: mrs1
noncomputable def menv2 : EnvM := mkEnvM mxs mrs2 mws0
theorem mrs2_ok : All (ROkM Try.prog false) mrs2 := All.cons t_vec_Square mrs1_ok
theorem menv2_ok : menv2.Ok Try.prog false := mkEnvM_ok mxs_ok mrs2_ok mws0_ok
-- math.Sqrt
noncomputable def s_math_Sqrt_0 (a0_0 : Nat) : Nat := (fsqrt a0_0)
theorem e_math_Sqrt (a0_0 : Nat) : outB (evFnM Try.prog false menv2 [] [] 64 Try.f51 [AV.float a0_0] []) = some ((true), AV.float (s_math_Sqrt_0 a0_0)) := by kernel_rfl
noncomputable def S_math_Sqrt : List AV → Option (Ob × AV)
  | [AV.float a0_0] => some (Ob.tt, AV.float (s_math_Sqrt_0 a0_0))
  | _ => none
theorem t_math_Sqrt : ROkM Try.prog false (51, pureM S_math_Sqrt) := ROkM.pure (N := 64) menv2_ok Try.func51 Try.call51 fun args o v h => by
  unfold S_math_Sqrt at h
  split at h
  · rename_i a0_0
    cases h
    exact ⟨rfl, rfl, _, e_math_Sqrt a0_0, fun _ => rfl⟩
  · cases h
noncomputable def mrs3 : List (FuncId × RFM) := (51, pureM S_math_Sqrt) :: mrs2
noncomputable def menv3 : EnvM := mkEnvM mxs mrs3 mws0
theorem mrs3_ok : All (ROkM Try.prog false) mrs3 := All.cons t_math_Sqrt mrs2_ok
theorem menv3_ok : menv3.Ok Try.prog false := mkEnvM_ok mxs_ok mrs3_ok mws0_ok
-- tumble/vec.Length
noncomputable def s_vec_Length_0 (a0_0 : Nat) (a0_1 : Nat) : Nat := (s_math_Sqrt_0 (s_vec_Square_0 a0_0 a0_1))
theorem e_vec_Length (a0_0 : Nat) (a0_1 : Nat) : outB (evFnM Try.prog false menv3 [] [] 64 Try.f18 [AV.agg [.float a0_0, .float a0_1]] []) = some ((true), AV.float (s_vec_Length_0 a0_0 a0_1)) := by kernel_rfl
noncomputable def S_vec_Length : List AV → Option (Ob × AV)
  | [AV.agg [.float a0_0, .float a0_1]] => some (Ob.tt, AV.float (s_vec_Length_0 a0_0 a0_1))
  | _ => none
theorem t_vec_Length : ROkM Try.prog false (18, pureM S_vec_Length) := ROkM.pure (N := 64) menv3_ok Try.func18 Try.call18 fun args o v h => by
  unfold S_vec_Length at h
  split at h
  · rename_i a0_0 a0_1
    cases h
    exact ⟨rfl, rfl, _, e_vec_Length a0_0 a0_1, fun _ => rfl⟩
  · cases h
noncomputable def mrs4 : List (FuncId × RFM) := (18, pureM S_vec_Length) :: mrs3
noncomputable def menv4 : EnvM := mkEnvM mxs mrs4 mws0
theorem mrs4_ok : All (ROkM Try.prog false) mrs4 := All.cons t_vec_Length mrs3_ok
theorem menv4_ok : menv4.Ok Try.prog false := mkEnvM_ok mxs_ok mrs4_ok mws0_ok
-- tumble/num.Finite[float64]
noncomputable def s_num_Finite_float64__0 (a0_0 : Nat) : Bool := (feq (fsub a0_0 a0_0) 0)
theorem e_num_Finite_float64_ (a0_0 : Nat) : outB (evFnM Try.prog false menv4 [] [] 64 Try.f54 [AV.float a0_0] []) = some ((true), AV.bool (s_num_Finite_float64__0 a0_0)) := by kernel_rfl
noncomputable def S_num_Finite_float64_ : List AV → Option (Ob × AV)
  | [AV.float a0_0] => some (Ob.tt, AV.bool (s_num_Finite_float64__0 a0_0))
  | _ => none
theorem t_num_Finite_float64_ : ROkM Try.prog false (54, pureM S_num_Finite_float64_) := ROkM.pure (N := 64) menv4_ok Try.func54 Try.call54 fun args o v h => by
  unfold S_num_Finite_float64_ at h
  split at h
  · rename_i a0_0
    cases h
    exact ⟨rfl, rfl, _, e_num_Finite_float64_ a0_0, fun _ => rfl⟩
  · cases h
noncomputable def mrs5 : List (FuncId × RFM) := (54, pureM S_num_Finite_float64_) :: mrs4
noncomputable def menv5 : EnvM := mkEnvM mxs mrs5 mws0
theorem mrs5_ok : All (ROkM Try.prog false) mrs5 := All.cons t_num_Finite_float64_ mrs4_ok
theorem menv5_ok : menv5.Ok Try.prog false := mkEnvM_ok mxs_ok mrs5_ok mws0_ok
-- tumble/vec.Unit
noncomputable def s_vec_Unit_0 (a0_0 : Nat) (a0_1 : Nat) : Nat := (bif ((!(s_num_Finite_float64__0 (s_vec_Length_0 a0_0 a0_1))) || (feq (s_vec_Length_0 a0_0 a0_1) 0)) then 0 else (fdiv a0_0 (s_vec_Length_0 a0_0 a0_1)))
noncomputable def s_vec_Unit_1 (a0_0 : Nat) (a0_1 : Nat) : Nat := (bif ((!(s_num_Finite_float64__0 (s_vec_Length_0 a0_0 a0_1))) || (feq (s_vec_Length_0 a0_0 a0_1) 0)) then 0 else (fdiv a0_1 (s_vec_Length_0 a0_0 a0_1)))
noncomputable def s_vec_Unit_2 (a0_0 : Nat) (a0_1 : Nat) : Bool := (bif ((!(s_num_Finite_float64__0 (s_vec_Length_0 a0_0 a0_1))) || (feq (s_vec_Length_0 a0_0 a0_1) 0)) then false else true)
theorem e_vec_Unit (a0_0 : Nat) (a0_1 : Nat) : outB (evFnM Try.prog false menv5 [] [] 64 Try.f26 [AV.agg [.float a0_0, .float a0_1]] []) = some ((true), AV.tup [AV.agg [AV.float (s_vec_Unit_0 a0_0 a0_1), AV.float (s_vec_Unit_1 a0_0 a0_1)], AV.bool (s_vec_Unit_2 a0_0 a0_1)]) := by kernel_rfl
noncomputable def S_vec_Unit : List AV → Option (Ob × AV)
  | [AV.agg [.float a0_0, .float a0_1]] => some (Ob.tt, AV.tup [AV.agg [AV.float (s_vec_Unit_0 a0_0 a0_1), AV.float (s_vec_Unit_1 a0_0 a0_1)], AV.bool (s_vec_Unit_2 a0_0 a0_1)])
  | _ => none
theorem t_vec_Unit : ROkM Try.prog false (26, pureM S_vec_Unit) := ROkM.pure (N := 64) menv5_ok Try.func26 Try.call26 fun args o v h => by
  unfold S_vec_Unit at h
  split at h
  · rename_i a0_0 a0_1
    cases h
    exact ⟨rfl, rfl, _, e_vec_Unit a0_0 a0_1, fun _ => rfl⟩
  · cases h
noncomputable def mrs6 : List (FuncId × RFM) := (26, pureM S_vec_Unit) :: mrs5
noncomputable def menv6 : EnvM := mkEnvM mxs mrs6 mws0
theorem mrs6_ok : All (ROkM Try.prog false) mrs6 := All.cons t_vec_Unit mrs5_ok
theorem menv6_ok : menv6.Ok Try.prog false := mkEnvM_ok mxs_ok mrs6_ok mws0_ok
-- tumble/vec.Cross
noncomputable def s_vec_Cross_0 (a0_0 : Nat) (a0_1 : Nat) (a1_0 : Nat) (a1_1 : Nat) : Nat := (fsub (fmul a0_0 a1_1) (fmul a0_1 a1_0))
theorem e_vec_Cross (a0_0 : Nat) (a0_1 : Nat) (a1_0 : Nat) (a1_1 : Nat) : outB (evFnM Try.prog false menv6 [] [] 64 Try.f14 [AV.agg [.float a0_0, .float a0_1], AV.agg [.float a1_0, .float a1_1]] []) = some ((true), AV.float (s_vec_Cross_0 a0_0 a0_1 a1_0 a1_1)) := by kernel_rfl
noncomputable def S_vec_Cross : List AV → Option (Ob × AV)
  | [AV.agg [.float a0_0, .float a0_1], AV.agg [.float a1_0, .float a1_1]] => some (Ob.tt, AV.float (s_vec_Cross_0 a0_0 a0_1 a1_0 a1_1))
  | _ => none
theorem t_vec_Cross : ROkM Try.prog false (14, pureM S_vec_Cross) := ROkM.pure (N := 64) menv6_ok Try.func14 Try.call14 fun args o v h => by
  unfold S_vec_Cross at h
  split at h
  · rename_i a0_0 a0_1 a1_0 a1_1
    cases h
    exact ⟨rfl, rfl, _, e_vec_Cross a0_0 a0_1 a1_0 a1_1, fun _ => rfl⟩
  · cases h
noncomputable def mrs7 : List (FuncId × RFM) := (14, pureM S_vec_Cross) :: mrs6
noncomputable def menv7 : EnvM := mkEnvM mxs mrs7 mws0
theorem mrs7_ok : All (ROkM Try.prog false) mrs7 := All.cons t_vec_Cross mrs6_ok
theorem menv7_ok : menv7.Ok Try.prog false := mkEnvM_ok mxs_ok mrs7_ok mws0_ok
-- tumble/vec.Left
noncomputable def s_vec_Left_0 (a0_0 : Nat) (a0_1 : Nat) : Nat := (fneg a0_1)
noncomputable def s_vec_Left_1 (a0_0 : Nat) (a0_1 : Nat) : Nat := a0_0
theorem e_vec_Left (a0_0 : Nat) (a0_1 : Nat) : outB (evFnM Try.prog false menv7 [] [] 64 Try.f28 [AV.agg [.float a0_0, .float a0_1]] []) = some ((true), AV.agg [AV.float (s_vec_Left_0 a0_0 a0_1), AV.float (s_vec_Left_1 a0_0 a0_1)]) := by kernel_rfl
noncomputable def S_vec_Left : List AV → Option (Ob × AV)
  | [AV.agg [.float a0_0, .float a0_1]] => some (Ob.tt, AV.agg [AV.float (s_vec_Left_0 a0_0 a0_1), AV.float (s_vec_Left_1 a0_0 a0_1)])
  | _ => none
theorem t_vec_Left : ROkM Try.prog false (28, pureM S_vec_Left) := ROkM.pure (N := 64) menv7_ok Try.func28 Try.call28 fun args o v h => by
  unfold S_vec_Left at h
  split at h
  · rename_i a0_0 a0_1
    cases h
    exact ⟨rfl, rfl, _, e_vec_Left a0_0 a0_1, fun _ => rfl⟩
  · cases h
noncomputable def mrs8 : List (FuncId × RFM) := (28, pureM S_vec_Left) :: mrs7
noncomputable def menv8 : EnvM := mkEnvM mxs mrs8 mws0
theorem mrs8_ok : All (ROkM Try.prog false) mrs8 := All.cons t_vec_Left mrs7_ok
theorem menv8_ok : menv8.Ok Try.prog false := mkEnvM_ok mxs_ok mrs8_ok mws0_ok
-- tumble/vec.Add
noncomputable def s_vec_Add_0 (a0_0 : Nat) (a0_1 : Nat) (a1_0 : Nat) (a1_1 : Nat) : Nat := (fadd a0_0 a1_0)
noncomputable def s_vec_Add_1 (a0_0 : Nat) (a0_1 : Nat) (a1_0 : Nat) (a1_1 : Nat) : Nat := (fadd a0_1 a1_1)
theorem e_vec_Add (a0_0 : Nat) (a0_1 : Nat) (a1_0 : Nat) (a1_1 : Nat) : outB (evFnM Try.prog false menv8 [] [] 64 Try.f30 [AV.agg [.float a0_0, .float a0_1], AV.agg [.float a1_0, .float a1_1]] []) = some ((true), AV.agg [AV.float (s_vec_Add_0 a0_0 a0_1 a1_0 a1_1), AV.float (s_vec_Add_1 a0_0 a0_1 a1_0 a1_1)]) := by kernel_rfl
noncomputable def S_vec_Add : List AV → Option (Ob × AV)
  | [AV.agg [.float a0_0, .float a0_1], AV.agg [.float a1_0, .float a1_1]] => some (Ob.tt, AV.agg [AV.float (s_vec_Add_0 a0_0 a0_1 a1_0 a1_1), AV.float (s_vec_Add_1 a0_0 a0_1 a1_0 a1_1)])
  | _ => none
theorem t_vec_Add : ROkM Try.prog false (30, pureM S_vec_Add) := ROkM.pure (N := 64) menv8_ok Try.func30 Try.call30 fun args o v h => by
  unfold S_vec_Add at h
  split at h
  · rename_i a0_0 a0_1 a1_0 a1_1
    cases h
    exact ⟨rfl, rfl, _, e_vec_Add a0_0 a0_1 a1_0 a1_1, fun _ => rfl⟩
  · cases h
noncomputable def mrs9 : List (FuncId × RFM) := (30, pureM S_vec_Add) :: mrs8
noncomputable def menv9 : EnvM := mkEnvM mxs mrs9 mws0
theorem mrs9_ok : All (ROkM Try.prog false) mrs9 := All.cons t_vec_Add mrs8_ok
theorem menv9_ok : menv9.Ok Try.prog false := mkEnvM_ok mxs_ok mrs9_ok mws0_ok
-- tumble/vec.Scale
noncomputable def s_vec_Scale_0 (a0_0 : Nat) (a0_1 : Nat) (a1_0 : Nat) : Nat := (fmul a0_0 a1_0)
noncomputable def s_vec_Scale_1 (a0_0 : Nat) (a0_1 : Nat) (a1_0 : Nat) : Nat := (fmul a0_1 a1_0)
theorem e_vec_Scale (a0_0 : Nat) (a0_1 : Nat) (a1_0 : Nat) : outB (evFnM Try.prog false menv9 [] [] 64 Try.f34 [AV.agg [.float a0_0, .float a0_1], AV.float a1_0] []) = some ((true), AV.agg [AV.float (s_vec_Scale_0 a0_0 a0_1 a1_0), AV.float (s_vec_Scale_1 a0_0 a0_1 a1_0)]) := by kernel_rfl
noncomputable def S_vec_Scale : List AV → Option (Ob × AV)
  | [AV.agg [.float a0_0, .float a0_1], AV.float a1_0] => some (Ob.tt, AV.agg [AV.float (s_vec_Scale_0 a0_0 a0_1 a1_0), AV.float (s_vec_Scale_1 a0_0 a0_1 a1_0)])
  | _ => none
theorem t_vec_Scale : ROkM Try.prog false (34, pureM S_vec_Scale) := ROkM.pure (N := 64) menv9_ok Try.func34 Try.call34 fun args o v h => by
  unfold S_vec_Scale at h
  split at h
  · rename_i a0_0 a0_1 a1_0
    cases h
    exact ⟨rfl, rfl, _, e_vec_Scale a0_0 a0_1 a1_0, fun _ => rfl⟩
  · cases h
noncomputable def mrs10 : List (FuncId × RFM) := (34, pureM S_vec_Scale) :: mrs9
noncomputable def menv10 : EnvM := mkEnvM mxs mrs10 mws0
theorem mrs10_ok : All (ROkM Try.prog false) mrs10 := All.cons t_vec_Scale mrs9_ok
theorem menv10_ok : menv10.Ok Try.prog false := mkEnvM_ok mxs_ok mrs10_ok mws0_ok
-- tumble/vec.Middle
noncomputable def s_vec_Middle_0 (a0_0 : Nat) (a0_1 : Nat) (a1_0 : Nat) (a1_1 : Nat) : Nat := (s_vec_Scale_0 (s_vec_Add_0 a0_0 a0_1 a1_0 a1_1) (s_vec_Add_1 a0_0 a0_1 a1_0 a1_1) 4602678819172646912)
noncomputable def s_vec_Middle_1 (a0_0 : Nat) (a0_1 : Nat) (a1_0 : Nat) (a1_1 : Nat) : Nat := (s_vec_Scale_1 (s_vec_Add_0 a0_0 a0_1 a1_0 a1_1) (s_vec_Add_1 a0_0 a0_1 a1_0 a1_1) 4602678819172646912)
theorem e_vec_Middle (a0_0 : Nat) (a0_1 : Nat) (a1_0 : Nat) (a1_1 : Nat) : outB (evFnM Try.prog false menv10 [] [] 64 Try.f39 [AV.agg [.float a0_0, .float a0_1], AV.agg [.float a1_0, .float a1_1]] []) = some ((true), AV.agg [AV.float (s_vec_Middle_0 a0_0 a0_1 a1_0 a1_1), AV.float (s_vec_Middle_1 a0_0 a0_1 a1_0 a1_1)]) := by kernel_rfl
noncomputable def S_vec_Middle : List AV → Option (Ob × AV)
  | [AV.agg [.float a0_0, .float a0_1], AV.agg [.float a1_0, .float a1_1]] => some (Ob.tt, AV.agg [AV.float (s_vec_Middle_0 a0_0 a0_1 a1_0 a1_1), AV.float (s_vec_Middle_1 a0_0 a0_1 a1_0 a1_1)])
  | _ => none
theorem t_vec_Middle : ROkM Try.prog false (39, pureM S_vec_Middle) := ROkM.pure (N := 64) menv10_ok Try.func39 Try.call39 fun args o v h => by
  unfold S_vec_Middle at h
  split at h
  · rename_i a0_0 a0_1 a1_0 a1_1
    cases h
    exact ⟨rfl, rfl, _, e_vec_Middle a0_0 a0_1 a1_0 a1_1, fun _ => rfl⟩
  · cases h
noncomputable def mrs11 : List (FuncId × RFM) := (39, pureM S_vec_Middle) :: mrs10
noncomputable def menv11 : EnvM := mkEnvM mxs mrs11 mws0
theorem mrs11_ok : All (ROkM Try.prog false) mrs11 := All.cons t_vec_Middle mrs10_ok
theorem menv11_ok : menv11.Ok Try.prog false := mkEnvM_ok mxs_ok mrs11_ok mws0_ok
-- tumble/num.Within[float64]
noncomputable def s_num_Within_float64__0 (a0_0 : Nat) (a1_0 : Nat) : Bool := ((fle (fneg a1_0) a0_0) && (fle a0_0 a1_0))
theorem e_num_Within_float64_ (a0_0 : Nat) (a1_0 : Nat) : outB (evFnM Try.prog false menv11 [] [] 64 Try.f56 [AV.float a0_0, AV.float a1_0] []) = some ((true), AV.bool (s_num_Within_float64__0 a0_0 a1_0)) := by kernel_rfl
noncomputable def S_num_Within_float64_ : List AV → Option (Ob × AV)
  | [AV.float a0_0, AV.float a1_0] => some (Ob.tt, AV.bool (s_num_Within_float64__0 a0_0 a1_0))
  | _ => none
theorem t_num_Within_float64_ : ROkM Try.prog false (56, pureM S_num_Within_float64_) := ROkM.pure (N := 64) menv11_ok Try.func56 Try.call56 fun args o v h => by
  unfold S_num_Within_float64_ at h
  split at h
  · rename_i a0_0 a1_0
    cases h
    exact ⟨rfl, rfl, _, e_num_Within_float64_ a0_0 a1_0, fun _ => rfl⟩
  · cases h
noncomputable def mrs12 : List (FuncId × RFM) := (56, pureM S_num_Within_float64_) :: mrs11
noncomputable def menv12 : EnvM := mkEnvM mxs mrs12 mws0
theorem mrs12_ok : All (ROkM Try.prog false) mrs12 := All.cons t_num_Within_float64_ mrs11_ok
theorem menv12_ok : menv12.Ok Try.prog false := mkEnvM_ok mxs_ok mrs12_ok mws0_ok
-- tumble/vec.Within
noncomputable def s_vec_Within_0 (a0_0 : Nat) (a0_1 : Nat) (a1_0 : Nat) : Bool := ((s_num_Within_float64__0 a0_0 a1_0) && (s_num_Within_float64__0 a0_1 a1_0))
theorem e_vec_Within (a0_0 : Nat) (a0_1 : Nat) (a1_0 : Nat) : outB (evFnM Try.prog false menv12 [] [] 64 Try.f24 [AV.agg [.float a0_0, .float a0_1], AV.float a1_0] []) = some ((true), AV.bool (s_vec_Within_0 a0_0 a0_1 a1_0)) := by kernel_rfl
noncomputable def S_vec_Within : List AV → Option (Ob × AV)
  | [AV.agg [.float a0_0, .float a0_1], AV.float a1_0] => some (Ob.tt, AV.bool (s_vec_Within_0 a0_0 a0_1 a1_0))
  | _ => none
theorem t_vec_Within : ROkM Try.prog false (24, pureM S_vec_Within) := ROkM.pure (N := 64) menv12_ok Try.func24 Try.call24 fun args o v h => by
  unfold S_vec_Within at h
  split at h
  · rename_i a0_0 a0_1 a1_0
    cases h
    exact ⟨rfl, rfl, _, e_vec_Within a0_0 a0_1 a1_0, fun _ => rfl⟩
  · cases h
noncomputable def mrs13 : List (FuncId × RFM) := (24, pureM S_vec_Within) :: mrs12
noncomputable def menv13 : EnvM := mkEnvM mxs mrs13 mws0
theorem mrs13_ok : All (ROkM Try.prog false) mrs13 := All.cons t_vec_Within mrs12_ok
theorem menv13_ok : menv13.Ok Try.prog false := mkEnvM_ok mxs_ok mrs13_ok mws0_ok
-- math.Copysign
noncomputable def S_math_Copysign : List AV → Option AV
  | [AV.float a, AV.float c] => cond (nanb c) none (some (AV.float (fcps a c)))
  | _ => none
theorem t_math_Copysign : ROk Try.prog false (49, pureF S_math_Copysign) := exact2f (N := 64) xenv_ok Try.func49 Try.call49 fcps (fun args v h => by
    unfold S_math_Copysign at h
    split at h
    · obtain ⟨hn, h⟩ := cond_some' h rfl; cases h; exact ⟨_, _, rfl, hn, rfl⟩
    · cases h) fun b d hb hd _ => ⟨_, by refine Eq.trans ?_ (cps_tree hb hd); kernel_rfl, cps_cn⟩
noncomputable def mrs14 : List (FuncId × RFM) := (49, pureM fun args => match S_math_Copysign args with | some v => some (.tt, v) | none => none) :: mrs13
noncomputable def menv14 : EnvM := mkEnvM mxs mrs14 mws0
theorem mrs14_ok : All (ROkM Try.prog false) mrs14 := All.cons t_math_Copysign.toM mrs13_ok
theorem menv14_ok : menv14.Ok Try.prog false := mkEnvM_ok mxs_ok mrs14_ok mws0_ok
-- tumble/num.none[float64]
noncomputable def s_num_none_float64__0 (a0_0 : Nat) : Bool := (!(feq a0_0 a0_0))
theorem e_num_none_float64_ (a0_0 : Nat) : outB (evFnM Try.prog false menv14 [] [] 64 Try.f66 [AV.float a0_0] []) = some ((true), AV.bool (s_num_none_float64__0 a0_0)) := by kernel_rfl
noncomputable def S_num_none_float64_ : List AV → Option (Ob × AV)
  | [AV.float a0_0] => some (Ob.tt, AV.bool (s_num_none_float64__0 a0_0))
  | _ => none
theorem t_num_none_float64_ : ROkM Try.prog false (66, pureM S_num_none_float64_) := ROkM.pure (N := 64) menv14_ok Try.func66 Try.call66 fun args o v h => by
  unfold S_num_none_float64_ at h
  split at h
  · rename_i a0_0
    cases h
    exact ⟨rfl, rfl, _, e_num_none_float64_ a0_0, fun _ => rfl⟩
  · cases h
noncomputable def mrs15 : List (FuncId × RFM) := (66, pureM S_num_none_float64_) :: mrs14
noncomputable def menv15 : EnvM := mkEnvM mxs mrs15 mws0
theorem mrs15_ok : All (ROkM Try.prog false) mrs15 := All.cons t_num_none_float64_ mrs14_ok
theorem menv15_ok : menv15.Ok Try.prog false := mkEnvM_ok mxs_ok mrs15_ok mws0_ok
-- tumble/num.Bits
noncomputable def s_num_Bits_0 (a0_0 : Nat) : Int := (bif (s_num_none_float64__0 a0_0) then (9221120237041090560 : Int) else (Int.ofNat a0_0))
theorem e_num_Bits (a0_0 : Nat) : outB (evFnM Try.prog false menv15 [] [] 64 Try.f52 [AV.float a0_0] []) = some ((((s_num_none_float64__0 a0_0) || (!(nanb a0_0)))), AV.int .u64 (s_num_Bits_0 a0_0)) := by kernel_rfl
noncomputable def S_num_Bits : List AV → Option (Ob × AV)
  | [AV.float a0_0] => some (Ob.bit (((s_num_none_float64__0 a0_0) || (!(nanb a0_0)))), AV.int .u64 (s_num_Bits_0 a0_0))
  | _ => none
theorem t_num_Bits : ROkM Try.prog false (52, pureM S_num_Bits) := ROkM.pure (N := 64) menv15_ok Try.func52 Try.call52 fun args o v h => by
  unfold S_num_Bits at h
  split at h
  · rename_i a0_0
    cases h
    exact ⟨rfl, rfl, _, e_num_Bits a0_0, fun h => h⟩
  · cases h
noncomputable def mrs16 : List (FuncId × RFM) := (52, pureM S_num_Bits) :: mrs15
noncomputable def menv16 : EnvM := mkEnvM mxs mrs16 mws0
theorem mrs16_ok : All (ROkM Try.prog false) mrs16 := All.cons t_num_Bits mrs15_ok
theorem menv16_ok : menv16.Ok Try.prog false := mkEnvM_ok mxs_ok mrs16_ok mws0_ok
-- tumble/num.minus[float64]
noncomputable def s_num_minus_float64__0 (a0_0 : Nat) : Bool := (flt (fdiv 4607182418800017408 a0_0) 0)
theorem e_num_minus_float64_ (a0_0 : Nat) : outB (evFnM Try.prog false menv16 [] [] 64 Try.f72 [AV.float a0_0] []) = some ((true), AV.bool (s_num_minus_float64__0 a0_0)) := by kernel_rfl
noncomputable def S_num_minus_float64_ : List AV → Option (Ob × AV)
  | [AV.float a0_0] => some (Ob.tt, AV.bool (s_num_minus_float64__0 a0_0))
  | _ => none
theorem t_num_minus_float64_ : ROkM Try.prog false (72, pureM S_num_minus_float64_) := ROkM.pure (N := 64) menv16_ok Try.func72 Try.call72 fun args o v h => by
  unfold S_num_minus_float64_ at h
  split at h
  · rename_i a0_0
    cases h
    exact ⟨rfl, rfl, _, e_num_minus_float64_ a0_0, fun _ => rfl⟩
  · cases h
noncomputable def mrs17 : List (FuncId × RFM) := (72, pureM S_num_minus_float64_) :: mrs16
noncomputable def menv17 : EnvM := mkEnvM mxs mrs17 mws0
theorem mrs17_ok : All (ROkM Try.prog false) mrs17 := All.cons t_num_minus_float64_ mrs16_ok
theorem menv17_ok : menv17.Ok Try.prog false := mkEnvM_ok mxs_ok mrs17_ok mws0_ok
-- tumble/num.Same[float64]
noncomputable def s_num_Same_float64__0 (a0_0 : Nat) (a1_0 : Nat) : Bool := (bif ((feq a0_0 0) && (feq a1_0 0)) then ((s_num_minus_float64__0 a0_0) == (s_num_minus_float64__0 a1_0)) else ((feq a0_0 a1_0) || ((s_num_none_float64__0 a0_0) && (s_num_none_float64__0 a1_0))))
theorem e_num_Same_float64_ (a0_0 : Nat) (a1_0 : Nat) : outB (evFnM Try.prog false menv17 [] [] 64 Try.f67 [AV.float a0_0, AV.float a1_0] []) = some ((true), AV.bool (s_num_Same_float64__0 a0_0 a1_0)) := by kernel_rfl
noncomputable def S_num_Same_float64_ : List AV → Option (Ob × AV)
  | [AV.float a0_0, AV.float a1_0] => some (Ob.tt, AV.bool (s_num_Same_float64__0 a0_0 a1_0))
  | _ => none
theorem t_num_Same_float64_ : ROkM Try.prog false (67, pureM S_num_Same_float64_) := ROkM.pure (N := 64) menv17_ok Try.func67 Try.call67 fun args o v h => by
  unfold S_num_Same_float64_ at h
  split at h
  · rename_i a0_0 a1_0
    cases h
    exact ⟨rfl, rfl, _, e_num_Same_float64_ a0_0 a1_0, fun _ => rfl⟩
  · cases h
noncomputable def mrs18 : List (FuncId × RFM) := (67, pureM S_num_Same_float64_) :: mrs17
noncomputable def menv18 : EnvM := mkEnvM mxs mrs18 mws0
theorem mrs18_ok : All (ROkM Try.prog false) mrs18 := All.cons t_num_Same_float64_ mrs17_ok
theorem menv18_ok : menv18.Ok Try.prog false := mkEnvM_ok mxs_ok mrs18_ok mws0_ok
-- tumble/vec.both
noncomputable def s_vec_both_0 (a0_0 : Nat) (a0_1 : Nat) (a1_0 : Nat) (a1_1 : Nat) : Bool := ((s_num_Same_float64__0 a0_0 a1_0) && (s_num_Same_float64__0 a0_1 a1_1))
theorem e_vec_both (a0_0 : Nat) (a0_1 : Nat) (a1_0 : Nat) (a1_1 : Nat) : outB (evFnM Try.prog false menv18 [] [] 64 Try.f53 [AV.agg [.float a0_0, .float a0_1], AV.agg [.float a1_0, .float a1_1]] []) = some ((true), AV.bool (s_vec_both_0 a0_0 a0_1 a1_0 a1_1)) := by kernel_rfl
noncomputable def S_vec_both : List AV → Option (Ob × AV)
  | [AV.agg [.float a0_0, .float a0_1], AV.agg [.float a1_0, .float a1_1]] => some (Ob.tt, AV.bool (s_vec_both_0 a0_0 a0_1 a1_0 a1_1))
  | _ => none
theorem t_vec_both : ROkM Try.prog false (53, pureM S_vec_both) := ROkM.pure (N := 64) menv18_ok Try.func53 Try.call53 fun args o v h => by
  unfold S_vec_both at h
  split at h
  · rename_i a0_0 a0_1 a1_0 a1_1
    cases h
    exact ⟨rfl, rfl, _, e_vec_both a0_0 a0_1 a1_0 a1_1, fun _ => rfl⟩
  · cases h
noncomputable def mrs19 : List (FuncId × RFM) := (53, pureM S_vec_both) :: mrs18
noncomputable def menv19 : EnvM := mkEnvM mxs mrs19 mws0
theorem mrs19_ok : All (ROkM Try.prog false) mrs19 := All.cons t_vec_both mrs18_ok
theorem menv19_ok : menv19.Ok Try.prog false := mkEnvM_ok mxs_ok mrs19_ok mws0_ok
-- tumble/vec.Same
noncomputable def s_vec_Same_0 (a0_0 : Nat) (a0_1 : Nat) (a1_0 : Nat) (a1_1 : Nat) : Bool := (((((feq a0_0 a1_0) && ((feq a0_1 a1_1) && true)) && (ieq (s_num_Bits_0 a0_0) (s_num_Bits_0 a1_0))) && (ieq (s_num_Bits_0 a0_1) (s_num_Bits_0 a1_1))) || (s_vec_both_0 a0_0 a0_1 a1_0 a1_1))
theorem e_vec_Same (a0_0 : Nat) (a0_1 : Nat) (a1_0 : Nat) (a1_1 : Nat) : outB (evFnM Try.prog false menv19 [] [] 64 Try.f20 [AV.agg [.float a0_0, .float a0_1], AV.agg [.float a1_0, .float a1_1]] []) = some ((let x0 : Bool := ((feq a0_0 a1_0) && ((feq a0_1 a1_1) && true)); let x1 : Bool := (bif x0 then (((s_num_none_float64__0 a1_0) || (!(nanb a1_0))) && ((s_num_none_float64__0 a0_0) || (!(nanb a0_0)))) else true); let x2 : Bool := (x0 && (ieq (s_num_Bits_0 a0_0) (s_num_Bits_0 a1_0))); let x3 : Bool := (bif x2 then (((s_num_none_float64__0 a1_1) || (!(nanb a1_1))) && (((s_num_none_float64__0 a0_1) || (!(nanb a0_1))) && x1)) else x1); (bif (x2 && (ieq (s_num_Bits_0 a0_1) (s_num_Bits_0 a1_1))) then x3 else x3)), AV.bool (s_vec_Same_0 a0_0 a0_1 a1_0 a1_1)) := by kernel_rfl
noncomputable def S_vec_Same : List AV → Option (Ob × AV)
  | [AV.agg [.float a0_0, .float a0_1], AV.agg [.float a1_0, .float a1_1]] => some (Ob.bit (let x0 : Bool := ((feq a0_0 a1_0) && ((feq a0_1 a1_1) && true)); let x1 : Bool := (bif x0 then (((s_num_none_float64__0 a1_0) || (!(nanb a1_0))) && ((s_num_none_float64__0 a0_0) || (!(nanb a0_0)))) else true); let x2 : Bool := (x0 && (ieq (s_num_Bits_0 a0_0) (s_num_Bits_0 a1_0))); let x3 : Bool := (bif x2 then (((s_num_none_float64__0 a1_1) || (!(nanb a1_1))) && (((s_num_none_float64__0 a0_1) || (!(nanb a0_1))) && x1)) else x1); (bif (x2 && (ieq (s_num_Bits_0 a0_1) (s_num_Bits_0 a1_1))) then x3 else x3)), AV.bool (s_vec_Same_0 a0_0 a0_1 a1_0 a1_1))
  | _ => none
theorem t_vec_Same : ROkM Try.prog false (20, pureM S_vec_Same) := ROkM.pure (N := 64) menv19_ok Try.func20 Try.call20 fun args o v h => by
  unfold S_vec_Same at h
  split at h
  · rename_i a0_0 a0_1 a1_0 a1_1
    cases h
    exact ⟨rfl, rfl, _, e_vec_Same a0_0 a0_1 a1_0 a1_1, fun h => h⟩
  · cases h
noncomputable def mrs20 : List (FuncId × RFM) := (20, pureM S_vec_Same) :: mrs19
noncomputable def menv20 : EnvM := mkEnvM mxs mrs20 mws0
theorem mrs20_ok : All (ROkM Try.prog false) mrs20 := All.cons t_vec_Same mrs19_ok
theorem menv20_ok : menv20.Ok Try.prog false := mkEnvM_ok mxs_ok mrs20_ok mws0_ok
-- tumble/vec.Finite
noncomputable def s_vec_Finite_0 (a0_0 : Nat) (a0_1 : Nat) : Bool := ((s_num_Finite_float64__0 a0_0) && (s_num_Finite_float64__0 a0_1))
theorem e_vec_Finite (a0_0 : Nat) (a0_1 : Nat) : outB (evFnM Try.prog false menv20 [] [] 64 Try.f22 [AV.agg [.float a0_0, .float a0_1]] []) = some ((true), AV.bool (s_vec_Finite_0 a0_0 a0_1)) := by kernel_rfl
noncomputable def S_vec_Finite : List AV → Option (Ob × AV)
  | [AV.agg [.float a0_0, .float a0_1]] => some (Ob.tt, AV.bool (s_vec_Finite_0 a0_0 a0_1))
  | _ => none
theorem t_vec_Finite : ROkM Try.prog false (22, pureM S_vec_Finite) := ROkM.pure (N := 64) menv20_ok Try.func22 Try.call22 fun args o v h => by
  unfold S_vec_Finite at h
  split at h
  · rename_i a0_0 a0_1
    cases h
    exact ⟨rfl, rfl, _, e_vec_Finite a0_0 a0_1, fun _ => rfl⟩
  · cases h
noncomputable def mrs21 : List (FuncId × RFM) := (22, pureM S_vec_Finite) :: mrs20
noncomputable def menv21 : EnvM := mkEnvM mxs mrs21 mws0
theorem mrs21_ok : All (ROkM Try.prog false) mrs21 := All.cons t_vec_Finite mrs20_ok
theorem menv21_ok : menv21.Ok Try.prog false := mkEnvM_ok mxs_ok mrs21_ok mws0_ok
-- tumble/tumblelaw02.alive
noncomputable def s_law02_alive_0 : Bool := true
theorem e_law02_alive : outB (evFnM Try.prog false menv21 [] [] 64 Try.f10 [] []) = some ((true), AV.bool (s_law02_alive_0)) := by kernel_rfl
noncomputable def S_law02_alive : List AV → Option (Ob × AV)
  | [] => some (Ob.tt, AV.bool (s_law02_alive_0))
  | _ => none
theorem t_law02_alive : ROkM Try.prog false (10, pureM S_law02_alive) := ROkM.pure (N := 64) menv21_ok Try.func10 Try.call10 fun args o v h => by
  unfold S_law02_alive at h
  split at h
  · skip
    cases h
    exact ⟨rfl, rfl, _, e_law02_alive, fun _ => rfl⟩
  · cases h
noncomputable def mrs22 : List (FuncId × RFM) := (10, pureM S_law02_alive) :: mrs21
noncomputable def menv22 : EnvM := mkEnvM mxs mrs22 mws0
theorem mrs22_ok : All (ROkM Try.prog false) mrs22 := All.cons t_law02_alive mrs21_ok
theorem menv22_ok : menv22.Ok Try.prog false := mkEnvM_ok mxs_ok mrs22_ok mws0_ok
-- math.Abs
noncomputable def S_math_Abs : List AV → Option AV
  | [AV.float a] => some (AV.float (fabs a))
  | _ => none
theorem t_math_Abs : ROk Try.prog false (57, pureF S_math_Abs) := exact1f (N := 64) xenv_ok Try.func57 Try.call57 fabs (fun args v h => by
    unfold S_math_Abs at h
    split at h
    · cases h; exact ⟨_, rfl, rfl⟩
    · cases h) fun b hb => ⟨_, by refine Eq.trans ?_ (abs_tree hb); kernel_rfl, (fabs_cn b).symm⟩
noncomputable def mrs23 : List (FuncId × RFM) := (57, pureM fun args => match S_math_Abs args with | some v => some (.tt, v) | none => none) :: mrs22
noncomputable def menv23 : EnvM := mkEnvM mxs mrs23 mws0
theorem mrs23_ok : All (ROkM Try.prog false) mrs23 := All.cons t_math_Abs.toM mrs22_ok
theorem menv23_ok : menv23.Ok Try.prog false := mkEnvM_ok mxs_ok mrs23_ok mws0_ok
-- tumble/tumblelaw02.plain
noncomputable def s_law02_plain_0 (a0_0 : Nat) : Bool := ((feq a0_0 0) || ((fle 3706462493325918208 (fabs a0_0)) && (fle (fabs a0_0) 5507902344274116608)))
theorem e_law02_plain (a0_0 : Nat) : outB (evFnM Try.prog false menv23 [] [] 64 Try.f47 [AV.float a0_0] []) = some ((true), AV.bool (s_law02_plain_0 a0_0)) := by kernel_rfl
noncomputable def S_law02_plain : List AV → Option (Ob × AV)
  | [AV.float a0_0] => some (Ob.tt, AV.bool (s_law02_plain_0 a0_0))
  | _ => none
theorem t_law02_plain : ROkM Try.prog false (47, pureM S_law02_plain) := ROkM.pure (N := 64) menv23_ok Try.func47 Try.call47 fun args o v h => by
  unfold S_law02_plain at h
  split at h
  · rename_i a0_0
    cases h
    exact ⟨rfl, rfl, _, e_law02_plain a0_0, fun _ => rfl⟩
  · cases h
noncomputable def mrs24 : List (FuncId × RFM) := (47, pureM S_law02_plain) :: mrs23
noncomputable def menv24 : EnvM := mkEnvM mxs mrs24 mws0
theorem mrs24_ok : All (ROkM Try.prog false) mrs24 := All.cons t_law02_plain mrs23_ok
theorem menv24_ok : menv24.Ok Try.prog false := mkEnvM_ok mxs_ok mrs24_ok mws0_ok
-- math.archLdexp
noncomputable def mws1 : List (FuncId × WFM) := (60, inlWM Try.prog false menv24 [] [] 64 Try.f60) :: mws0
noncomputable def menv25 : EnvM := mkEnvM mxs mrs24 mws1
theorem mws1_ok : All (WOkM Try.prog false) mws1 := All.cons (WOkM.inl menv24_ok Try.func60 Try.call60) mws0_ok
theorem menv25_ok : menv25.Ok Try.prog false := mkEnvM_ok mxs_ok mrs24_ok mws1_ok
-- math.IsInf
noncomputable def s_math_IsInf_0 (a0_0 : Nat) (a1_0 : Int) : Bool := (flt 9218868437227405311 (bif (ieq a1_0 (0 : Int)) then (fabs a0_0) else (bif (ilt a1_0 (0 : Int)) then (fneg a0_0) else a0_0)))
theorem e_math_IsInf (a0_0 : Nat) (a1_0 : Int) : outB (evFnM Try.prog false menv25 [] [] 64 Try.f68 [AV.float a0_0, AV.int .i64 a1_0] []) = some ((true), AV.bool (s_math_IsInf_0 a0_0 a1_0)) := by kernel_rfl
noncomputable def S_math_IsInf : List AV → Option (Ob × AV)
  | [AV.float a0_0, AV.int .i64 a1_0] => some (Ob.tt, AV.bool (s_math_IsInf_0 a0_0 a1_0))
  | _ => none
theorem t_math_IsInf : ROkM Try.prog false (68, pureM S_math_IsInf) := ROkM.pure (N := 64) menv25_ok Try.func68 Try.call68 fun args o v h => by
  unfold S_math_IsInf at h
  split at h
  · rename_i a0_0 a1_0
    cases h
    exact ⟨rfl, rfl, _, e_math_IsInf a0_0 a1_0, fun _ => rfl⟩
  · cases h
noncomputable def mrs25 : List (FuncId × RFM) := (68, pureM S_math_IsInf) :: mrs24
noncomputable def menv26 : EnvM := mkEnvM mxs mrs25 mws1
theorem mrs25_ok : All (ROkM Try.prog false) mrs25 := All.cons t_math_IsInf mrs24_ok
theorem menv26_ok : menv26.Ok Try.prog false := mkEnvM_ok mxs_ok mrs25_ok mws1_ok
-- math.IsNaN
noncomputable def s_math_IsNaN_0 (a0_0 : Nat) : Bool := (!(feq a0_0 a0_0))
theorem e_math_IsNaN (a0_0 : Nat) : outB (evFnM Try.prog false menv26 [] [] 64 Try.f69 [AV.float a0_0] []) = some ((true), AV.bool (s_math_IsNaN_0 a0_0)) := by kernel_rfl
noncomputable def S_math_IsNaN : List AV → Option (Ob × AV)
  | [AV.float a0_0] => some (Ob.tt, AV.bool (s_math_IsNaN_0 a0_0))
  | _ => none
theorem t_math_IsNaN : ROkM Try.prog false (69, pureM S_math_IsNaN) := ROkM.pure (N := 64) menv26_ok Try.func69 Try.call69 fun args o v h => by
  unfold S_math_IsNaN at h
  split at h
  · rename_i a0_0
    cases h
    exact ⟨rfl, rfl, _, e_math_IsNaN a0_0, fun _ => rfl⟩
  · cases h
noncomputable def mrs26 : List (FuncId × RFM) := (69, pureM S_math_IsNaN) :: mrs25
noncomputable def menv27 : EnvM := mkEnvM mxs mrs26 mws1
theorem mrs26_ok : All (ROkM Try.prog false) mrs26 := All.cons t_math_IsNaN mrs25_ok
theorem menv27_ok : menv27.Ok Try.prog false := mkEnvM_ok mxs_ok mrs26_ok mws1_ok
-- math.normalize
noncomputable def s_math_normalize_0 (a0_0 : Nat) : Nat := (bif (flt (fabs a0_0) 4503599627370496) then (fmul a0_0 4841369599423283200) else a0_0)
noncomputable def s_math_normalize_1 (a0_0 : Nat) : Int := (bif (flt (fabs a0_0) 4503599627370496) then (-52 : Int) else (0 : Int))
theorem e_math_normalize (a0_0 : Nat) : outB (evFnM Try.prog false menv27 [] [] 64 Try.f70 [AV.float a0_0] []) = some ((true), AV.tup [AV.float (s_math_normalize_0 a0_0), AV.int .i64 (s_math_normalize_1 a0_0)]) := by kernel_rfl
noncomputable def S_math_normalize : List AV → Option (Ob × AV)
  | [AV.float a0_0] => some (Ob.tt, AV.tup [AV.float (s_math_normalize_0 a0_0), AV.int .i64 (s_math_normalize_1 a0_0)])
  | _ => none
theorem t_math_normalize : ROkM Try.prog false (70, pureM S_math_normalize) := ROkM.pure (N := 64) menv27_ok Try.func70 Try.call70 fun args o v h => by
  unfold S_math_normalize at h
  split at h
  · rename_i a0_0
    cases h
    exact ⟨rfl, rfl, _, e_math_normalize a0_0, fun _ => rfl⟩
  · cases h
noncomputable def mrs27 : List (FuncId × RFM) := (70, pureM S_math_normalize) :: mrs26
noncomputable def menv28 : EnvM := mkEnvM mxs mrs27 mws1
theorem mrs27_ok : All (ROkM Try.prog false) mrs27 := All.cons t_math_normalize mrs26_ok
theorem menv28_ok : menv28.Ok Try.prog false := mkEnvM_ok mxs_ok mrs27_ok mws1_ok
-- math.Inf
noncomputable def s_math_Inf_0 (a0_0 : Int) : Nat := (cn (Int.toNat (bif (ile (0 : Int) a0_0) then (9218868437227405312 : Int) else (18442240474082181120 : Int))))
theorem e_math_Inf (a0_0 : Int) : outB (evFnM Try.prog false menv28 [] [] 64 Try.f71 [AV.int .i64 a0_0] []) = some (((u64ok (bif (ile (0 : Int) a0_0) then (9218868437227405312 : Int) else (18442240474082181120 : Int)))), AV.float (s_math_Inf_0 a0_0)) := by kernel_rfl
noncomputable def S_math_Inf : List AV → Option (Ob × AV)
  | [AV.int .i64 a0_0] => some (Ob.tt, AV.float (s_math_Inf_0 a0_0))
  | _ => none
theorem t_math_Inf : ROkM Try.prog false (71, pureM S_math_Inf) := ROkM.pure (N := 64) menv28_ok Try.func71 Try.call71 fun args o v h => by
  unfold S_math_Inf at h
  split at h
  · rename_i a0_0
    cases h
    exact ⟨rfl, rfl, _, e_math_Inf a0_0, fun _ => by show ((u64ok (bif (ile (0 : Int) a0_0) then (9218868437227405312 : Int) else (18442240474082181120 : Int)))) = true; generalize (ile (0 : Int) a0_0) = q0; cases q0 <;> rfl⟩
  · cases h
noncomputable def mrs28 : List (FuncId × RFM) := (71, pureM S_math_Inf) :: mrs27
noncomputable def menv29 : EnvM := mkEnvM mxs mrs28 mws1
theorem mrs28_ok : All (ROkM Try.prog false) mrs28 := All.cons t_math_Inf mrs27_ok
theorem menv29_ok : menv29.Ok Try.prog false := mkEnvM_ok mxs_ok mrs28_ok mws1_ok
-- math.ldexp
noncomputable def mws2 : List (FuncId × WFM) := (61, inlWM Try.prog false menv29 [] [] 64 Try.f61) :: mws1
noncomputable def menv30 : EnvM := mkEnvM mxs mrs28 mws2
theorem mws2_ok : All (WOkM Try.prog false) mws2 := All.cons (WOkM.inl menv29_ok Try.func61 Try.call61) mws1_ok
theorem menv30_ok : menv30.Ok Try.prog false := mkEnvM_ok mxs_ok mrs28_ok mws2_ok
-- math.Ldexp
noncomputable def mws3 : List (FuncId × WFM) := (48, inlWM Try.prog false menv30 [] [] 64 Try.f48) :: mws2
noncomputable def menv31 : EnvM := mkEnvM mxs mrs28 mws3
theorem mws3_ok : All (WOkM Try.prog false) mws3 := All.cons (WOkM.inl menv30_ok Try.func48 Try.call48) mws2_ok
theorem menv31_ok : menv31.Ok Try.prog false := mkEnvM_ok mxs_ok mrs28_ok mws3_ok
-- tumble/tumbleref02.Bits
noncomputable def s_ref02_Bits_0 (a0_0 : Nat) : Int := (bif (!(feq a0_0 a0_0)) then (9221120237041090561 : Int) else (Int.ofNat a0_0))
theorem e_ref02_Bits (a0_0 : Nat) : outB (evFnM Try.prog false menv31 [] [] 64 Try.f64 [AV.float a0_0] []) = some ((((!(feq a0_0 a0_0)) || (!(nanb a0_0)))), AV.int .u64 (s_ref02_Bits_0 a0_0)) := by kernel_rfl
noncomputable def S_ref02_Bits : List AV → Option (Ob × AV)
  | [AV.float a0_0] => some (Ob.tt, AV.int .u64 (s_ref02_Bits_0 a0_0))
  | _ => none
theorem t_ref02_Bits : ROkM Try.prog false (64, pureM S_ref02_Bits) := ROkM.pure (N := 64) menv31_ok Try.func64 Try.call64 fun args o v h => by
  unfold S_ref02_Bits at h
  split at h
  · rename_i a0_0
    cases h
    exact ⟨rfl, rfl, _, e_ref02_Bits a0_0, fun _ => by show (((!(feq a0_0 a0_0)) || (!(nanb a0_0)))) = true; simp only [feq_self]; generalize (nanb a0_0) = q0; cases q0 <;> rfl⟩
  · cases h
noncomputable def mrs29 : List (FuncId × RFM) := (64, pureM S_ref02_Bits) :: mrs28
noncomputable def menv32 : EnvM := mkEnvM mxs mrs29 mws3
theorem mrs29_ok : All (ROkM Try.prog false) mrs29 := All.cons t_ref02_Bits mrs28_ok
theorem menv32_ok : menv32.Ok Try.prog false := mkEnvM_ok mxs_ok mrs29_ok mws3_ok
-- tumble/tumbleref02.Is
noncomputable def s_ref02_Is_0 (a0_0 : Nat) (a1_0 : Nat) : Bool := (ieq (s_ref02_Bits_0 a0_0) (s_ref02_Bits_0 a1_0))
theorem e_ref02_Is (a0_0 : Nat) (a1_0 : Nat) : outB (evFnM Try.prog false menv32 [] [] 64 Try.f50 [AV.float a0_0, AV.float a1_0] []) = some ((true), AV.bool (s_ref02_Is_0 a0_0 a1_0)) := by kernel_rfl
noncomputable def S_ref02_Is : List AV → Option (Ob × AV)
  | [AV.float a0_0, AV.float a1_0] => some (Ob.tt, AV.bool (s_ref02_Is_0 a0_0 a1_0))
  | _ => none
theorem t_ref02_Is : ROkM Try.prog false (50, pureM S_ref02_Is) := ROkM.pure (N := 64) menv32_ok Try.func50 Try.call50 fun args o v h => by
  unfold S_ref02_Is at h
  split at h
  · rename_i a0_0 a1_0
    cases h
    exact ⟨rfl, rfl, _, e_ref02_Is a0_0 a1_0, fun _ => rfl⟩
  · cases h
noncomputable def mrs30 : List (FuncId × RFM) := (50, pureM S_ref02_Is) :: mrs29
noncomputable def menv33 : EnvM := mkEnvM mxs mrs30 mws3
theorem mrs30_ok : All (ROkM Try.prog false) mrs30 := All.cons t_ref02_Is mrs29_ok
theorem menv33_ok : menv33.Ok Try.prog false := mkEnvM_ok mxs_ok mrs30_ok mws3_ok
-- tumble/tumbleref02.Same
noncomputable def s_ref02_Same_0 (a0_0 : Nat) (a0_1 : Nat) (a1_0 : Nat) (a1_1 : Nat) : Bool := ((s_ref02_Is_0 a0_0 a1_0) && (s_ref02_Is_0 a0_1 a1_1))
theorem e_ref02_Same (a0_0 : Nat) (a0_1 : Nat) (a1_0 : Nat) (a1_1 : Nat) : outB (evFnM Try.prog false menv33 [] [] 64 Try.f21 [AV.agg [.float a0_0, .float a0_1], AV.agg [.float a1_0, .float a1_1]] []) = some ((true), AV.bool (s_ref02_Same_0 a0_0 a0_1 a1_0 a1_1)) := by kernel_rfl
noncomputable def S_ref02_Same : List AV → Option (Ob × AV)
  | [AV.agg [.float a0_0, .float a0_1], AV.agg [.float a1_0, .float a1_1]] => some (Ob.tt, AV.bool (s_ref02_Same_0 a0_0 a0_1 a1_0 a1_1))
  | _ => none
theorem t_ref02_Same : ROkM Try.prog false (21, pureM S_ref02_Same) := ROkM.pure (N := 64) menv33_ok Try.func21 Try.call21 fun args o v h => by
  unfold S_ref02_Same at h
  split at h
  · rename_i a0_0 a0_1 a1_0 a1_1
    cases h
    exact ⟨rfl, rfl, _, e_ref02_Same a0_0 a0_1 a1_0 a1_1, fun _ => rfl⟩
  · cases h
noncomputable def mrs31 : List (FuncId × RFM) := (21, pureM S_ref02_Same) :: mrs30
noncomputable def menv34 : EnvM := mkEnvM mxs mrs31 mws3
theorem mrs31_ok : All (ROkM Try.prog false) mrs31 := All.cons t_ref02_Same mrs30_ok
theorem menv34_ok : menv34.Ok Try.prog false := mkEnvM_ok mxs_ok mrs31_ok mws3_ok
-- tumble/tumblelaw02.is
noncomputable def s_law02_is_0 (a0_0 : Nat) (a0_1 : Nat) (a1_0 : Nat) (a1_1 : Nat) : Bool := (s_ref02_Same_0 a0_0 a0_1 a1_0 a1_1)
theorem e_law02_is (a0_0 : Nat) (a0_1 : Nat) (a1_0 : Nat) (a1_1 : Nat) : outB (evFnM Try.prog false menv34 [] [] 64 Try.f29 [AV.agg [.float a0_0, .float a0_1], AV.agg [.float a1_0, .float a1_1]] []) = some ((true), AV.bool (s_law02_is_0 a0_0 a0_1 a1_0 a1_1)) := by kernel_rfl
noncomputable def S_law02_is : List AV → Option (Ob × AV)
  | [AV.agg [.float a0_0, .float a0_1], AV.agg [.float a1_0, .float a1_1]] => some (Ob.tt, AV.bool (s_law02_is_0 a0_0 a0_1 a1_0 a1_1))
  | _ => none
theorem t_law02_is : ROkM Try.prog false (29, pureM S_law02_is) := ROkM.pure (N := 64) menv34_ok Try.func29 Try.call29 fun args o v h => by
  unfold S_law02_is at h
  split at h
  · rename_i a0_0 a0_1 a1_0 a1_1
    cases h
    exact ⟨rfl, rfl, _, e_law02_is a0_0 a0_1 a1_0 a1_1, fun _ => rfl⟩
  · cases h
noncomputable def mrs32 : List (FuncId × RFM) := (29, pureM S_law02_is) :: mrs31
noncomputable def menv35 : EnvM := mkEnvM mxs mrs32 mws3
theorem mrs32_ok : All (ROkM Try.prog false) mrs32 := All.cons t_law02_is mrs31_ok
theorem menv35_ok : menv35.Ok Try.prog false := mkEnvM_ok mxs_ok mrs32_ok mws3_ok
-- tumble/vec.Sub
noncomputable def s_vec_Sub_0 (a0_0 : Nat) (a0_1 : Nat) (a1_0 : Nat) (a1_1 : Nat) : Nat := (fsub a0_0 a1_0)
noncomputable def s_vec_Sub_1 (a0_0 : Nat) (a0_1 : Nat) (a1_0 : Nat) (a1_1 : Nat) : Nat := (fsub a0_1 a1_1)
theorem e_vec_Sub (a0_0 : Nat) (a0_1 : Nat) (a1_0 : Nat) (a1_1 : Nat) : outB (evFnM Try.prog false menv35 [] [] 64 Try.f32 [AV.agg [.float a0_0, .float a0_1], AV.agg [.float a1_0, .float a1_1]] []) = some ((true), AV.agg [AV.float (s_vec_Sub_0 a0_0 a0_1 a1_0 a1_1), AV.float (s_vec_Sub_1 a0_0 a0_1 a1_0 a1_1)]) := by kernel_rfl
noncomputable def S_vec_Sub : List AV → Option (Ob × AV)
  | [AV.agg [.float a0_0, .float a0_1], AV.agg [.float a1_0, .float a1_1]] => some (Ob.tt, AV.agg [AV.float (s_vec_Sub_0 a0_0 a0_1 a1_0 a1_1), AV.float (s_vec_Sub_1 a0_0 a0_1 a1_0 a1_1)])
  | _ => none
theorem t_vec_Sub : ROkM Try.prog false (32, pureM S_vec_Sub) := ROkM.pure (N := 64) menv35_ok Try.func32 Try.call32 fun args o v h => by
  unfold S_vec_Sub at h
  split at h
  · rename_i a0_0 a0_1 a1_0 a1_1
    cases h
    exact ⟨rfl, rfl, _, e_vec_Sub a0_0 a0_1 a1_0 a1_1, fun _ => rfl⟩
  · cases h
noncomputable def mrs33 : List (FuncId × RFM) := (32, pureM S_vec_Sub) :: mrs32
noncomputable def menv36 : EnvM := mkEnvM mxs mrs33 mws3
theorem mrs33_ok : All (ROkM Try.prog false) mrs33 := All.cons t_vec_Sub mrs32_ok
theorem menv36_ok : menv36.Ok Try.prog false := mkEnvM_ok mxs_ok mrs33_ok mws3_ok
-- tumble/vec.More
noncomputable def s_vec_More_0 (a0_0 : Nat) (a0_1 : Nat) (a1_0 : Nat) (a2_0 : Nat) (a2_1 : Nat) : Nat := (fadd a0_0 (fmul a1_0 a2_0))
noncomputable def s_vec_More_1 (a0_0 : Nat) (a0_1 : Nat) (a1_0 : Nat) (a2_0 : Nat) (a2_1 : Nat) : Nat := (fadd a0_1 (fmul a1_0 a2_1))
theorem e_vec_More (a0_0 : Nat) (a0_1 : Nat) (a1_0 : Nat) (a2_0 : Nat) (a2_1 : Nat) : outB (evFnM Try.prog false menv36 [] [] 64 Try.f37 [AV.agg [.float a0_0, .float a0_1], AV.float a1_0, AV.agg [.float a2_0, .float a2_1]] []) = some ((true), AV.agg [AV.float (s_vec_More_0 a0_0 a0_1 a1_0 a2_0 a2_1), AV.float (s_vec_More_1 a0_0 a0_1 a1_0 a2_0 a2_1)]) := by kernel_rfl
noncomputable def S_vec_More : List AV → Option (Ob × AV)
  | [AV.agg [.float a0_0, .float a0_1], AV.float a1_0, AV.agg [.float a2_0, .float a2_1]] => some (Ob.tt, AV.agg [AV.float (s_vec_More_0 a0_0 a0_1 a1_0 a2_0 a2_1), AV.float (s_vec_More_1 a0_0 a0_1 a1_0 a2_0 a2_1)])
  | _ => none
theorem t_vec_More : ROkM Try.prog false (37, pureM S_vec_More) := ROkM.pure (N := 64) menv36_ok Try.func37 Try.call37 fun args o v h => by
  unfold S_vec_More at h
  split at h
  · rename_i a0_0 a0_1 a1_0 a2_0 a2_1
    cases h
    exact ⟨rfl, rfl, _, e_vec_More a0_0 a0_1 a1_0 a2_0 a2_1, fun _ => rfl⟩
  · cases h
noncomputable def mrs34 : List (FuncId × RFM) := (37, pureM S_vec_More) :: mrs33
noncomputable def menv37 : EnvM := mkEnvM mxs mrs34 mws3
theorem mrs34_ok : All (ROkM Try.prog false) mrs34 := All.cons t_vec_More mrs33_ok
theorem menv37_ok : menv37.Ok Try.prog false := mkEnvM_ok mxs_ok mrs34_ok mws3_ok
-- tumble/tumblelaw02.one
noncomputable def s_law02_one_0 (a0_0 : Nat) (a1_0 : Nat) : Bool := (s_ref02_Is_0 a0_0 a1_0)
theorem e_law02_one (a0_0 : Nat) (a1_0 : Nat) : outB (evFnM Try.prog false menv37 [] [] 64 Try.f11 [AV.float a0_0, AV.float a1_0] []) = some ((true), AV.bool (s_law02_one_0 a0_0 a1_0)) := by kernel_rfl
noncomputable def S_law02_one : List AV → Option (Ob × AV)
  | [AV.float a0_0, AV.float a1_0] => some (Ob.tt, AV.bool (s_law02_one_0 a0_0 a1_0))
  | _ => none
theorem t_law02_one : ROkM Try.prog false (11, pureM S_law02_one) := ROkM.pure (N := 64) menv37_ok Try.func11 Try.call11 fun args o v h => by
  unfold S_law02_one at h
  split at h
  · rename_i a0_0 a1_0
    cases h
    exact ⟨rfl, rfl, _, e_law02_one a0_0 a1_0, fun _ => rfl⟩
  · cases h
noncomputable def mrs35 : List (FuncId × RFM) := (11, pureM S_law02_one) :: mrs34
noncomputable def menv38 : EnvM := mkEnvM mxs mrs35 mws3
theorem mrs35_ok : All (ROkM Try.prog false) mrs35 := All.cons t_law02_one mrs34_ok
theorem menv38_ok : menv38.Ok Try.prog false := mkEnvM_ok mxs_ok mrs35_ok mws3_ok
-- tumble/tumbleref02.End
noncomputable def s_ref02_End_0 (a0_0 : Nat) : Bool := (feq (fsub a0_0 a0_0) 0)
theorem e_ref02_End (a0_0 : Nat) : outB (evFnM Try.prog false menv38 [] [] 64 Try.f55 [AV.float a0_0] []) = some ((true), AV.bool (s_ref02_End_0 a0_0)) := by kernel_rfl
noncomputable def S_ref02_End : List AV → Option (Ob × AV)
  | [AV.float a0_0] => some (Ob.tt, AV.bool (s_ref02_End_0 a0_0))
  | _ => none
theorem t_ref02_End : ROkM Try.prog false (55, pureM S_ref02_End) := ROkM.pure (N := 64) menv38_ok Try.func55 Try.call55 fun args o v h => by
  unfold S_ref02_End at h
  split at h
  · rename_i a0_0
    cases h
    exact ⟨rfl, rfl, _, e_ref02_End a0_0, fun _ => rfl⟩
  · cases h
noncomputable def mrs36 : List (FuncId × RFM) := (55, pureM S_ref02_End) :: mrs35
noncomputable def menv39 : EnvM := mkEnvM mxs mrs36 mws3
theorem mrs36_ok : All (ROkM Try.prog false) mrs36 := All.cons t_ref02_End mrs35_ok
theorem menv39_ok : menv39.Ok Try.prog false := mkEnvM_ok mxs_ok mrs36_ok mws3_ok
-- tumble/tumbleref02.Finite
noncomputable def s_ref02_Finite_0 (a0_0 : Nat) (a0_1 : Nat) : Bool := ((s_ref02_End_0 a0_0) && (s_ref02_End_0 a0_1))
theorem e_ref02_Finite (a0_0 : Nat) (a0_1 : Nat) : outB (evFnM Try.prog false menv39 [] [] 64 Try.f23 [AV.agg [.float a0_0, .float a0_1]] []) = some ((true), AV.bool (s_ref02_Finite_0 a0_0 a0_1)) := by kernel_rfl
noncomputable def S_ref02_Finite : List AV → Option (Ob × AV)
  | [AV.agg [.float a0_0, .float a0_1]] => some (Ob.tt, AV.bool (s_ref02_Finite_0 a0_0 a0_1))
  | _ => none
theorem t_ref02_Finite : ROkM Try.prog false (23, pureM S_ref02_Finite) := ROkM.pure (N := 64) menv39_ok Try.func23 Try.call23 fun args o v h => by
  unfold S_ref02_Finite at h
  split at h
  · rename_i a0_0 a0_1
    cases h
    exact ⟨rfl, rfl, _, e_ref02_Finite a0_0 a0_1, fun _ => rfl⟩
  · cases h
noncomputable def mrs37 : List (FuncId × RFM) := (23, pureM S_ref02_Finite) :: mrs36
noncomputable def menv40 : EnvM := mkEnvM mxs mrs37 mws3
theorem mrs37_ok : All (ROkM Try.prog false) mrs37 := All.cons t_ref02_Finite mrs36_ok
theorem menv40_ok : menv40.Ok Try.prog false := mkEnvM_ok mxs_ok mrs37_ok mws3_ok
-- tumble/tumblelaw02.VecScaled
noncomputable def T_law02_VecScaled (a0_0 : Nat) (a0_1 : Nat) (a1_0 : Nat) (a1_1 : Nat) (a2_0 : Int) : Bool := let x0 : Int := (IntKind.wrap .i64 ((IntKind.wrap .i64 ((Int.tmod a2_0 (101 : Int)) + (0 : Int))) + (0 : Int))); let x1 : Bool := (ilt x0 (-1022 : Int)); let x2 : Nat := (bif (ilt x0 (-1075 : Int)) then 0 else (bif (ilt (1023 : Int) x0) then 9218868437227405312 else (fmul (bif x1 then 4368491638549381120 else 4607182418800017408) (cn (Int.toNat (IntKind.wrap .u64 ((((0 : Int) % (18446744073709551616 : Int)).toNat ||| ((IntKind.wrap .u64 ((IntKind.wrap .u64 (IntKind.wrap .i64 ((bif x1 then (IntKind.wrap .i64 (x0 + (53 : Int))) else x0) + (1023 : Int)))) * (4503599627370496 : Int))) % (18446744073709551616 : Int)).toNat : Nat) : Int))))))); let x3 : Nat := (s_vec_Scale_1 a0_0 a0_1 x2); let x4 : Nat := (s_vec_Scale_0 a0_0 a0_1 x2); let x5 : Nat := (s_vec_Scale_1 a1_0 a1_1 x2); let x6 : Nat := (s_vec_Scale_0 a1_0 a1_1 x2); let x7 : Nat := (s_vec_More_1 a0_0 a0_1 4613937818241073152 a1_0 a1_1); let x8 : Nat := (s_vec_More_0 a0_0 a0_1 4613937818241073152 a1_0 a1_1); let x9 : Nat := (s_vec_Middle_1 a0_0 a0_1 a1_0 a1_1); let x10 : Nat := (s_vec_Middle_0 a0_0 a0_1 a1_0 a1_1); let x11 : Nat := (s_vec_Sub_1 a0_0 a0_1 a1_0 a1_1); let x12 : Nat := (s_vec_Sub_0 a0_0 a0_1 a1_0 a1_1); let x13 : Nat := (s_vec_Add_1 a0_0 a0_1 a1_0 a1_1); let x14 : Nat := (s_vec_Add_0 a0_0 a0_1 a1_0 a1_1); (((((!(s_law02_plain_0 a0_0)) || (!(s_law02_plain_0 a0_1))) || (!(s_law02_plain_0 a1_0))) || (!(s_law02_plain_0 a1_1))) || (((((((((s_law02_is_0 (s_vec_Add_0 x4 x3 x6 x5) (s_vec_Add_1 x4 x3 x6 x5) (s_vec_Scale_0 x14 x13 x2) (s_vec_Scale_1 x14 x13 x2)) && (s_law02_is_0 (s_vec_Sub_0 x4 x3 x6 x5) (s_vec_Sub_1 x4 x3 x6 x5) (s_vec_Scale_0 x12 x11 x2) (s_vec_Scale_1 x12 x11 x2))) && (s_law02_is_0 (s_vec_Middle_0 x4 x3 x6 x5) (s_vec_Middle_1 x4 x3 x6 x5) (s_vec_Scale_0 x10 x9 x2) (s_vec_Scale_1 x10 x9 x2))) && (s_law02_is_0 (s_vec_Left_0 x4 x3) (s_vec_Left_1 x4 x3) (s_vec_Scale_0 (s_vec_Left_0 a0_0 a0_1) (s_vec_Left_1 a0_0 a0_1) x2) (s_vec_Scale_1 (s_vec_Left_0 a0_0 a0_1) (s_vec_Left_1 a0_0 a0_1) x2))) && (s_law02_is_0 (s_vec_More_0 x4 x3 4613937818241073152 x6 x5) (s_vec_More_1 x4 x3 4613937818241073152 x6 x5) (s_vec_Scale_0 x8 x7 x2) (s_vec_Scale_1 x8 x7 x2))) && ((((s_law02_one_0 (s_vec_Dot_0 x4 x3 x6 x5) (fmul (fmul (s_vec_Dot_0 a0_0 a0_1 a1_0 a1_1) x2) x2)) && (s_law02_one_0 (s_vec_Cross_0 x4 x3 x6 x5) (fmul (fmul (s_vec_Cross_0 a0_0 a0_1 a1_0 a1_1) x2) x2))) && (s_law02_one_0 (s_vec_Square_0 x4 x3) (fmul (fmul (s_vec_Square_0 a0_0 a0_1) x2) x2))) && (s_law02_one_0 (s_vec_Length_0 x4 x3) (fmul (s_vec_Length_0 a0_0 a0_1) x2)))) && ((s_vec_Unit_2 a0_0 a0_1) == (s_vec_Unit_2 x4 x3))) && (s_law02_is_0 (s_vec_Unit_0 a0_0 a0_1) (s_vec_Unit_1 a0_0 a0_1) (s_vec_Unit_0 x4 x3) (s_vec_Unit_1 x4 x3))) && (s_ref02_Finite_0 x4 x3)))
noncomputable def O_law02_VecScaled (a0_0 : Nat) (a0_1 : Nat) (a1_0 : Nat) (a1_1 : Nat) (a2_0 : Int) : Bool := let x0 : Int := (IntKind.wrap .i64 ((IntKind.wrap .i64 ((Int.tmod a2_0 (101 : Int)) + (0 : Int))) + (0 : Int))); let x1 : Bool := (ilt x0 (-1022 : Int)); let x2 : Int := (IntKind.wrap .u64 ((((0 : Int) % (18446744073709551616 : Int)).toNat ||| ((IntKind.wrap .u64 ((IntKind.wrap .u64 (IntKind.wrap .i64 ((bif x1 then (IntKind.wrap .i64 (x0 + (53 : Int))) else x0) + (1023 : Int)))) * (4503599627370496 : Int))) % (18446744073709551616 : Int)).toNat : Nat) : Int)); let x3 : Bool := (ilt (1023 : Int) x0); let x4 : Bool := (ilt x0 (-1075 : Int)); let x5 : Bool := (x4 || (x3 || ((u64ok x2) && (x1 || true)))); let x6 : Nat := (bif x4 then 0 else (bif x3 then 9218868437227405312 else (fmul (bif x1 then 4368491638549381120 else 4607182418800017408) (cn (Int.toNat x2))))); let x7 : Nat := (s_vec_Add_1 a0_0 a0_1 a1_0 a1_1); let x8 : Nat := (s_vec_Add_0 a0_0 a0_1 a1_0 a1_1); let x9 : Nat := (s_vec_Scale_1 a1_0 a1_1 x6); let x10 : Nat := (s_vec_Scale_0 a1_0 a1_1 x6); let x11 : Nat := (s_vec_Scale_1 a0_0 a0_1 x6); let x12 : Nat := (s_vec_Scale_0 a0_0 a0_1 x6); let x13 : Bool := (s_law02_is_0 (s_vec_Add_0 x12 x11 x10 x9) (s_vec_Add_1 x12 x11 x10 x9) (s_vec_Scale_0 x8 x7 x6) (s_vec_Scale_1 x8 x7 x6)); let x14 : Bool := (bif x13 then x5 else x5); let x15 : Nat := (s_vec_Sub_1 a0_0 a0_1 a1_0 a1_1); let x16 : Nat := (s_vec_Sub_0 a0_0 a0_1 a1_0 a1_1); let x17 : Bool := (x13 && (s_law02_is_0 (s_vec_Sub_0 x12 x11 x10 x9) (s_vec_Sub_1 x12 x11 x10 x9) (s_vec_Scale_0 x16 x15 x6) (s_vec_Scale_1 x16 x15 x6))); let x18 : Bool := (bif x17 then x14 else x14); let x19 : Nat := (s_vec_Middle_1 a0_0 a0_1 a1_0 a1_1); let x20 : Nat := (s_vec_Middle_0 a0_0 a0_1 a1_0 a1_1); let x21 : Bool := (x17 && (s_law02_is_0 (s_vec_Middle_0 x12 x11 x10 x9) (s_vec_Middle_1 x12 x11 x10 x9) (s_vec_Scale_0 x20 x19 x6) (s_vec_Scale_1 x20 x19 x6))); let x22 : Bool := (bif x21 then x18 else x18); let x23 : Bool := (x21 && (s_law02_is_0 (s_vec_Left_0 x12 x11) (s_vec_Left_1 x12 x11) (s_vec_Scale_0 (s_vec_Left_0 a0_0 a0_1) (s_vec_Left_1 a0_0 a0_1) x6) (s_vec_Scale_1 (s_vec_Left_0 a0_0 a0_1) (s_vec_Left_1 a0_0 a0_1) x6))); let x24 : Bool := (bif x23 then x22 else x22); let x25 : Bool := (s_law02_one_0 (s_vec_Dot_0 x12 x11 x10 x9) (fmul (fmul (s_vec_Dot_0 a0_0 a0_1 a1_0 a1_1) x6) x6)); let x26 : Bool := (bif x25 then x24 else x24); let x27 : Bool := (x25 && (s_law02_one_0 (s_vec_Cross_0 x12 x11 x10 x9) (fmul (fmul (s_vec_Cross_0 a0_0 a0_1 a1_0 a1_1) x6) x6))); let x28 : Bool := (bif x27 then x26 else x26); let x29 : Bool := (x27 && (s_law02_one_0 (s_vec_Square_0 x12 x11) (fmul (fmul (s_vec_Square_0 a0_0 a0_1) x6) x6))); let x30 : Bool := (bif x29 then x28 else x28); let x31 : Nat := (s_vec_More_1 a0_0 a0_1 4613937818241073152 a1_0 a1_1); let x32 : Nat := (s_vec_More_0 a0_0 a0_1 4613937818241073152 a1_0 a1_1); let x33 : Bool := (x23 && (s_law02_is_0 (s_vec_More_0 x12 x11 4613937818241073152 x10 x9) (s_vec_More_1 x12 x11 4613937818241073152 x10 x9) (s_vec_Scale_0 x32 x31 x6) (s_vec_Scale_1 x32 x31 x6))); let x34 : Bool := (bif x33 then x30 else x30); let x35 : Bool := (x33 && (x29 && (s_law02_one_0 (s_vec_Length_0 x12 x11) (fmul (s_vec_Length_0 a0_0 a0_1) x6)))); let x36 : Bool := (bif x35 then x34 else x34); let x37 : Bool := (x35 && ((s_vec_Unit_2 a0_0 a0_1) == (s_vec_Unit_2 x12 x11))); let x38 : Bool := (bif x37 then x36 else x36); (((((!(s_law02_plain_0 a0_0)) || (!(s_law02_plain_0 a0_1))) || (!(s_law02_plain_0 a1_0))) || (!(s_law02_plain_0 a1_1))) || (bif (x37 && (s_law02_is_0 (s_vec_Unit_0 a0_0 a0_1) (s_vec_Unit_1 a0_0 a0_1) (s_vec_Unit_0 x12 x11) (s_vec_Unit_1 x12 x11))) then x38 else x38))
theorem tree_law02_VecScaled (a0_0 : Nat) (a0_1 : Nat) (a1_0 : Nat) (a1_1 : Nat) (a2_0 : Int) : outB (evFnM Try.prog false menv40 [19] [] 64 Try.f9 [AV.agg [.float a0_0, .float a0_1], AV.agg [.float a1_0, .float a1_1], AV.int .i64 a2_0] []) = some (O_law02_VecScaled a0_0 a0_1 a1_0 a1_1 a2_0, AV.bool (T_law02_VecScaled a0_0 a0_1 a1_0 a1_1 a2_0)) := by kernel_rfl

end Go.Proofs.Ytjikamcdcjaibaa
