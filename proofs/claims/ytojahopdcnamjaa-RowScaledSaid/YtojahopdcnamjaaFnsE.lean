/- The contracts of the functions that these laws reach, printed by a program of this work: each says what the Go function gives, up to which NaN. -/
import Derived.Test.YtojahopdcnamjaaProg
import Derived.KernelRfl
import Derived.Test.YtojahopdcnamjaaSimDEnv
set_option linter.unusedVariables false
set_option linter.unusedSimpArgs false
namespace Go.Proofs.Ytojahopdcnamjaa
open Go.Sim
def xxs : List (FuncId × XF) := [(53, xF true .frombits), (74, xF true .sqrt), (54, xF true .tobits)]
def xenv : Env := mkEnv xxs [] []
theorem xxs_ok : All (XOk Try.prog true) xxs := All.cons (x_ok (f := 53) .frombits fun args w => run_callFunc_extern Try.func53 (by kernel_rfl) (by kernel_rfl) (by kernel_rfl) (by kernel_rfl) args w)
  (All.cons (x_ok (f := 74) .sqrt fun args w => run_callFunc_extern Try.func74 (by kernel_rfl) (by kernel_rfl) (by kernel_rfl) (by kernel_rfl) args w)
  (All.cons (x_ok (f := 54) .tobits fun args w => run_callFunc_extern Try.func54 (by kernel_rfl) (by kernel_rfl) (by kernel_rfl) (by kernel_rfl) args w)
  (All.nil)))
theorem xenv_ok : xenv.Ok Try.prog true := mkEnv_ok xxs_ok All.nil All.nil
def mxs : List (FuncId × XFM) := [(53, xFM false .frombits), (74, xFM false .sqrt), (54, xFM false .tobits)]
theorem mxs_ok : All (XOkM Try.prog false) mxs := All.cons (xM_ok (f := 53) .frombits fun args w => run_callFunc_extern Try.func53 (by kernel_rfl) (by kernel_rfl) (by kernel_rfl) (by kernel_rfl) args w)
  (All.cons (xM_ok (f := 74) .sqrt fun args w => run_callFunc_extern Try.func74 (by kernel_rfl) (by kernel_rfl) (by kernel_rfl) (by kernel_rfl) args w)
  (All.cons (xM_ok (f := 54) .tobits fun args w => run_callFunc_extern Try.func54 (by kernel_rfl) (by kernel_rfl) (by kernel_rfl) (by kernel_rfl) args w)
  (All.nil)))
def mrs0 : List (FuncId × RFM) := []
def mws0 : List (FuncId × WFM) := []
def menv0 : EnvM := mkEnvM mxs mrs0 mws0
theorem mrs0_ok : All (ROkM Try.prog false) mrs0 := All.nil
theorem mws0_ok : All (WOkM Try.prog false) mws0 := All.nil
theorem menv0_ok : menv0.Ok Try.prog false := mkEnvM_ok mxs_ok mrs0_ok mws0_ok
-- math.Inf
noncomputable def s_math_Inf_0 (a0_0 : Int) : Nat := (cn (Int.toNat (bif (ile (0 : Int) a0_0) then (9218868437227405312 : Int) else (18442240474082181120 : Int))))
theorem e_math_Inf (a0_0 : Int) : outB (evFnM Try.prog false menv0 [] [] 64 Try.f73 [AV.int .i64 a0_0] []) = some (((u64ok (bif (ile (0 : Int) a0_0) then (9218868437227405312 : Int) else (18442240474082181120 : Int)))), AV.float (s_math_Inf_0 a0_0)) := by kernel_rfl
noncomputable def S_math_Inf : List AV → Option (Ob × AV)
  | [AV.int .i64 a0_0] => some (Ob.tt, AV.float (s_math_Inf_0 a0_0))
  | _ => none
theorem t_math_Inf : ROkM Try.prog false (73, pureM S_math_Inf) := ROkM.pure (N := 64) menv0_ok Try.func73 Try.call73 fun args o v h => by
  unfold S_math_Inf at h
  split at h
  · rename_i a0_0
    cases h
    exact ⟨rfl, rfl, _, e_math_Inf a0_0, fun _ => by show ((u64ok (bif (ile (0 : Int) a0_0) then (9218868437227405312 : Int) else (18442240474082181120 : Int)))) = true; generalize (ile (0 : Int) a0_0) = q0; cases q0 <;> rfl⟩
  · cases h
noncomputable def mrs1 : List (FuncId × RFM) := (73, pureM S_math_Inf) :: mrs0
noncomputable def menv1 : EnvM := mkEnvM mxs mrs1 mws0
theorem mrs1_ok : All (ROkM Try.prog false) mrs1 := All.cons t_math_Inf mrs0_ok
theorem menv1_ok : menv1.Ok Try.prog false := mkEnvM_ok mxs_ok mrs1_ok mws0_ok
-- tumble/tumblelaw20.plain
noncomputable def s_law20_plain_0 : Int := (0 : Int)
noncomputable def s_law20_plain_1 : Int := (1 : Int)
noncomputable def s_law20_plain_2 : Nat := 0
noncomputable def s_law20_plain_3 : Nat := 13830554455654793216
noncomputable def s_law20_plain_4 : Nat := 0
noncomputable def s_law20_plain_5 : Nat := 4607182418800017408
noncomputable def s_law20_plain_6 : Nat := 0
noncomputable def s_law20_plain_7 : Nat := 0
noncomputable def s_law20_plain_8 : Nat := 0
noncomputable def s_law20_plain_9 : Nat := 0
noncomputable def s_law20_plain_10 : Nat := 9218868437227405312
noncomputable def s_law20_plain_11 : Nat := 0
noncomputable def s_law20_plain_12 : Int := (-1 : Int)
noncomputable def s_law20_plain_13 : Nat := 0
noncomputable def s_law20_plain_14 : Nat := 4607182418800017408
noncomputable def s_law20_plain_15 : Nat := 4602678819172646912
noncomputable def s_law20_plain_16 : Nat := 0
noncomputable def s_law20_plain_17 : Nat := 13835058055282163712
noncomputable def s_law20_plain_18 : Nat := 0
theorem e_law20_plain : outB (evFnM Try.prog false menv1 [] [] 64 Try.f40 [] []) = some ((true), AV.tup [AV.agg [AV.int .i64 (s_law20_plain_0), AV.int .i64 (s_law20_plain_1), AV.float (s_law20_plain_2), AV.float (s_law20_plain_3), AV.float (s_law20_plain_4), AV.float (s_law20_plain_5), AV.float (s_law20_plain_6), AV.float (s_law20_plain_7), AV.float (s_law20_plain_8), AV.float (s_law20_plain_9), AV.float (s_law20_plain_10), AV.float (s_law20_plain_11), AV.int .i64 (s_law20_plain_12), AV.float (s_law20_plain_13)], AV.agg [AV.float (s_law20_plain_14), AV.float (s_law20_plain_15), AV.float (s_law20_plain_16), AV.float (s_law20_plain_17), AV.float (s_law20_plain_18)]]) := by kernel_rfl
noncomputable def S_law20_plain : List AV → Option (Ob × AV)
  | [] => some (Ob.tt, AV.tup [AV.agg [AV.int .i64 (s_law20_plain_0), AV.int .i64 (s_law20_plain_1), AV.float (s_law20_plain_2), AV.float (s_law20_plain_3), AV.float (s_law20_plain_4), AV.float (s_law20_plain_5), AV.float (s_law20_plain_6), AV.float (s_law20_plain_7), AV.float (s_law20_plain_8), AV.float (s_law20_plain_9), AV.float (s_law20_plain_10), AV.float (s_law20_plain_11), AV.int .i64 (s_law20_plain_12), AV.float (s_law20_plain_13)], AV.agg [AV.float (s_law20_plain_14), AV.float (s_law20_plain_15), AV.float (s_law20_plain_16), AV.float (s_law20_plain_17), AV.float (s_law20_plain_18)]])
  | _ => none
theorem t_law20_plain : ROkM Try.prog false (40, pureM S_law20_plain) := ROkM.pure (N := 64) menv1_ok Try.func40 Try.call40 fun args o v h => by
  unfold S_law20_plain at h
  split at h
  · skip
    cases h
    exact ⟨rfl, rfl, _, e_law20_plain, fun _ => rfl⟩
  · cases h
noncomputable def mrs2 : List (FuncId × RFM) := (40, pureM S_law20_plain) :: mrs1
noncomputable def menv2 : EnvM := mkEnvM mxs mrs2 mws0
theorem mrs2_ok : All (ROkM Try.prog false) mrs2 := All.cons t_law20_plain mrs1_ok
theorem menv2_ok : menv2.Ok Try.prog false := mkEnvM_ok mxs_ok mrs2_ok mws0_ok
-- tumble/num.Finite[float64]
noncomputable def s_num_Finite_float64__0 (a0_0 : Nat) : Bool := (feq (fsub a0_0 a0_0) 0)
theorem e_num_Finite_float64_ (a0_0 : Nat) : outB (evFnM Try.prog false menv2 [] [] 64 Try.f83 [AV.float a0_0] []) = some ((true), AV.bool (s_num_Finite_float64__0 a0_0)) := by kernel_rfl
noncomputable def S_num_Finite_float64_ : List AV → Option (Ob × AV)
  | [AV.float a0_0] => some (Ob.tt, AV.bool (s_num_Finite_float64__0 a0_0))
  | _ => none
theorem t_num_Finite_float64_ : ROkM Try.prog false (83, pureM S_num_Finite_float64_) := ROkM.pure (N := 64) menv2_ok Try.func83 Try.call83 fun args o v h => by
  unfold S_num_Finite_float64_ at h
  split at h
  · rename_i a0_0
    cases h
    exact ⟨rfl, rfl, _, e_num_Finite_float64_ a0_0, fun _ => rfl⟩
  · cases h
noncomputable def mrs3 : List (FuncId × RFM) := (83, pureM S_num_Finite_float64_) :: mrs2
noncomputable def menv3 : EnvM := mkEnvM mxs mrs3 mws0
theorem mrs3_ok : All (ROkM Try.prog false) mrs3 := All.cons t_num_Finite_float64_ mrs2_ok
theorem menv3_ok : menv3.Ok Try.prog false := mkEnvM_ok mxs_ok mrs3_ok mws0_ok
-- tumble/vec.Finite
noncomputable def s_vec_Finite_0 (a0_0 : Nat) (a0_1 : Nat) : Bool := ((s_num_Finite_float64__0 a0_0) && (s_num_Finite_float64__0 a0_1))
theorem e_vec_Finite (a0_0 : Nat) (a0_1 : Nat) : outB (evFnM Try.prog false menv3 [] [] 64 Try.f90 [AV.agg [.float a0_0, .float a0_1]] []) = some ((true), AV.bool (s_vec_Finite_0 a0_0 a0_1)) := by kernel_rfl
noncomputable def S_vec_Finite : List AV → Option (Ob × AV)
  | [AV.agg [.float a0_0, .float a0_1]] => some (Ob.tt, AV.bool (s_vec_Finite_0 a0_0 a0_1))
  | _ => none
theorem t_vec_Finite : ROkM Try.prog false (90, pureM S_vec_Finite) := ROkM.pure (N := 64) menv3_ok Try.func90 Try.call90 fun args o v h => by
  unfold S_vec_Finite at h
  split at h
  · rename_i a0_0 a0_1
    cases h
    exact ⟨rfl, rfl, _, e_vec_Finite a0_0 a0_1, fun _ => rfl⟩
  · cases h
noncomputable def mrs4 : List (FuncId × RFM) := (90, pureM S_vec_Finite) :: mrs3
noncomputable def menv4 : EnvM := mkEnvM mxs mrs4 mws0
theorem mrs4_ok : All (ROkM Try.prog false) mrs4 := All.cons t_vec_Finite mrs3_ok
theorem menv4_ok : menv4.Ok Try.prog false := mkEnvM_ok mxs_ok mrs4_ok mws0_ok
-- tumble/rows.finite$1
noncomputable def s_rows_finite_1_0 (a0_0 : Nat) : Bool := (!(s_num_Finite_float64__0 a0_0))
theorem e_rows_finite_1 (a0_0 : Nat) : outB (evFnM Try.prog false menv4 [] [] 64 Try.f82 [AV.float a0_0] []) = some ((true), AV.bool (s_rows_finite_1_0 a0_0)) := by kernel_rfl
noncomputable def S_rows_finite_1 : List AV → Option (Ob × AV)
  | [AV.float a0_0] => some (Ob.tt, AV.bool (s_rows_finite_1_0 a0_0))
  | _ => none
theorem t_rows_finite_1 : ROkM Try.prog false (82, pureM S_rows_finite_1) := ROkM.pure (N := 64) menv4_ok Try.func82 Try.call82 fun args o v h => by
  unfold S_rows_finite_1 at h
  split at h
  · rename_i a0_0
    cases h
    exact ⟨rfl, rfl, _, e_rows_finite_1 a0_0, fun _ => rfl⟩
  · cases h
noncomputable def mrs5 : List (FuncId × RFM) := (82, pureM S_rows_finite_1) :: mrs4
noncomputable def menv5 : EnvM := mkEnvM mxs mrs5 mws0
theorem mrs5_ok : All (ROkM Try.prog false) mrs5 := All.cons t_rows_finite_1 mrs4_ok
theorem menv5_ok : menv5.Ok Try.prog false := mkEnvM_ok mxs_ok mrs5_ok mws0_ok
-- slices.IndexFunc[[]float64,float64]
noncomputable def mws1 : List (FuncId × WFM) := (106, inlWM Try.prog false menv5 [9] [] 64 Try.f106) :: mws0
noncomputable def menv6 : EnvM := mkEnvM mxs mrs5 mws1
theorem mws1_ok : All (WOkM Try.prog false) mws1 := All.cons (WOkM.inl menv5_ok Try.func106 Try.call106) mws0_ok
theorem menv6_ok : menv6.Ok Try.prog false := mkEnvM_ok mxs_ok mrs5_ok mws1_ok
-- slices.ContainsFunc[[]float64,float64]
noncomputable def mws2 : List (FuncId × WFM) := (81, inlWM Try.prog false menv6 [] [] 64 Try.f81) :: mws1
noncomputable def menv7 : EnvM := mkEnvM mxs mrs5 mws2
theorem mws2_ok : All (WOkM Try.prog false) mws2 := All.cons (WOkM.inl menv6_ok Try.func81 Try.call81) mws1_ok
theorem menv7_ok : menv7.Ok Try.prog false := mkEnvM_ok mxs_ok mrs5_ok mws2_ok
-- tumble/rows.finite
noncomputable def mws3 : List (FuncId × WFM) := (49, inlWM Try.prog false menv7 [] [] 64 Try.f49) :: mws2
noncomputable def menv8 : EnvM := mkEnvM mxs mrs5 mws3
theorem mws3_ok : All (WOkM Try.prog false) mws3 := All.cons (WOkM.inl menv7_ok Try.func49 Try.call49) mws2_ok
theorem menv8_ok : menv8.Ok Try.prog false := mkEnvM_ok mxs_ok mrs5_ok mws3_ok
-- tumble/rows.fits
noncomputable def s_rows_fits_0 (a0_0 : Int) (a0_1 : Int) (a0_2 : Nat) (a0_3 : Nat) (a0_4 : Nat) (a0_5 : Nat) (a0_6 : Nat) (a0_7 : Nat) (a0_8 : Nat) (a0_9 : Nat) (a0_10 : Nat) (a0_11 : Nat) (a0_12 : Int) (a0_13 : Nat) : Bool := ((((((ile (0 : Int) a0_0) && (ile (0 : Int) a0_1)) && (!(ieq a0_0 a0_1))) && (s_vec_Finite_0 a0_2 a0_3)) && (s_vec_Finite_0 a0_4 a0_5)) && ((((!(ile (0 : Int) (bif ((s_rows_finite_1_0 a0_6) || ((s_rows_finite_1_0 a0_7) || ((s_rows_finite_1_0 a0_8) || ((s_rows_finite_1_0 a0_11) || (s_rows_finite_1_0 a0_13))))) then (bif (s_rows_finite_1_0 a0_6) then (0 : Int) else (bif (s_rows_finite_1_0 a0_7) then (1 : Int) else (bif (s_rows_finite_1_0 a0_8) then (2 : Int) else (bif (s_rows_finite_1_0 a0_11) then (3 : Int) else (4 : Int))))) else (-1 : Int)))) && (fle 0 a0_13)) && (fle a0_9 a0_10)) && (ile (-1 : Int) a0_12)))
theorem e_rows_fits (a0_0 : Int) (a0_1 : Int) (a0_2 : Nat) (a0_3 : Nat) (a0_4 : Nat) (a0_5 : Nat) (a0_6 : Nat) (a0_7 : Nat) (a0_8 : Nat) (a0_9 : Nat) (a0_10 : Nat) (a0_11 : Nat) (a0_12 : Int) (a0_13 : Nat) : outB (evFnM Try.prog false menv8 [] [] 64 Try.f62 [AV.agg [.int .i64 a0_0, .int .i64 a0_1, .float a0_2, .float a0_3, .float a0_4, .float a0_5, .float a0_6, .float a0_7, .float a0_8, .float a0_9, .float a0_10, .float a0_11, .int .i64 a0_12, .float a0_13]] []) = some ((true), AV.bool (s_rows_fits_0 a0_0 a0_1 a0_2 a0_3 a0_4 a0_5 a0_6 a0_7 a0_8 a0_9 a0_10 a0_11 a0_12 a0_13)) := by kernel_rfl
noncomputable def S_rows_fits : List AV → Option (Ob × AV)
  | [AV.agg [.int .i64 a0_0, .int .i64 a0_1, .float a0_2, .float a0_3, .float a0_4, .float a0_5, .float a0_6, .float a0_7, .float a0_8, .float a0_9, .float a0_10, .float a0_11, .int .i64 a0_12, .float a0_13]] => some (Ob.tt, AV.bool (s_rows_fits_0 a0_0 a0_1 a0_2 a0_3 a0_4 a0_5 a0_6 a0_7 a0_8 a0_9 a0_10 a0_11 a0_12 a0_13))
  | _ => none
theorem t_rows_fits : ROkM Try.prog false (62, pureM S_rows_fits) := ROkM.pure (N := 64) menv8_ok Try.func62 Try.call62 fun args o v h => by
  unfold S_rows_fits at h
  split at h
  · rename_i a0_0 a0_1 a0_2 a0_3 a0_4 a0_5 a0_6 a0_7 a0_8 a0_9 a0_10 a0_11 a0_12 a0_13
    cases h
    exact ⟨rfl, rfl, _, e_rows_fits a0_0 a0_1 a0_2 a0_3 a0_4 a0_5 a0_6 a0_7 a0_8 a0_9 a0_10 a0_11 a0_12 a0_13, fun _ => rfl⟩
  · cases h
noncomputable def mrs6 : List (FuncId × RFM) := (62, pureM S_rows_fits) :: mrs5
noncomputable def menv9 : EnvM := mkEnvM mxs mrs6 mws3
theorem mrs6_ok : All (ROkM Try.prog false) mrs6 := All.cons t_rows_fits mrs5_ok
theorem menv9_ok : menv9.Ok Try.prog false := mkEnvM_ok mxs_ok mrs6_ok mws3_ok
-- tumble/rows.rests
noncomputable def s_rows_rests_0 (a0_0 : Nat) (a0_1 : Nat) (a0_2 : Nat) (a0_3 : Nat) (a0_4 : Nat) : Bool := (((!(ile (0 : Int) (bif ((s_rows_finite_1_0 a0_0) || (s_rows_finite_1_0 a0_1)) then (bif (s_rows_finite_1_0 a0_0) then (0 : Int) else (1 : Int)) else (-1 : Int)))) && (fle 0 a0_0)) && (fle 0 a0_1))
theorem e_rows_rests (a0_0 : Nat) (a0_1 : Nat) (a0_2 : Nat) (a0_3 : Nat) (a0_4 : Nat) : outB (evFnM Try.prog false menv9 [] [] 64 Try.f79 [AV.agg [.float a0_0, .float a0_1, .float a0_2, .float a0_3, .float a0_4]] []) = some ((true), AV.bool (s_rows_rests_0 a0_0 a0_1 a0_2 a0_3 a0_4)) := by kernel_rfl
noncomputable def S_rows_rests : List AV → Option (Ob × AV)
  | [AV.agg [.float a0_0, .float a0_1, .float a0_2, .float a0_3, .float a0_4]] => some (Ob.tt, AV.bool (s_rows_rests_0 a0_0 a0_1 a0_2 a0_3 a0_4))
  | _ => none
theorem t_rows_rests : ROkM Try.prog false (79, pureM S_rows_rests) := ROkM.pure (N := 64) menv9_ok Try.func79 Try.call79 fun args o v h => by
  unfold S_rows_rests at h
  split at h
  · rename_i a0_0 a0_1 a0_2 a0_3 a0_4
    cases h
    exact ⟨rfl, rfl, _, e_rows_rests a0_0 a0_1 a0_2 a0_3 a0_4, fun _ => rfl⟩
  · cases h
noncomputable def mrs7 : List (FuncId × RFM) := (79, pureM S_rows_rests) :: mrs6
noncomputable def menv10 : EnvM := mkEnvM mxs mrs7 mws3
theorem mrs7_ok : All (ROkM Try.prog false) mrs7 := All.cons t_rows_rests mrs6_ok
theorem menv10_ok : menv10.Ok Try.prog false := mkEnvM_ok mxs_ok mrs7_ok mws3_ok
-- tumble/rows.asked
noncomputable def s_rows_asked_0 (a0_0 : Int) (a0_1 : Int) (a0_2 : Nat) (a0_3 : Nat) (a0_4 : Nat) (a0_5 : Nat) (a0_6 : Nat) (a0_7 : Nat) (a0_8 : Nat) (a0_9 : Nat) (a0_10 : Nat) (a0_11 : Nat) (a0_12 : Int) (a0_13 : Nat) (a1_0 : Nat) (a1_1 : Nat) (a1_2 : Nat) (a1_3 : Nat) (a1_4 : Nat) (a2_0 : Nat) (a2_1 : Nat) (a2_2 : Nat) (a2_3 : Nat) (a2_4 : Nat) : Int := (bif (((!(s_rows_fits_0 a0_0 a0_1 a0_2 a0_3 a0_4 a0_5 a0_6 a0_7 a0_8 a0_9 a0_10 a0_11 a0_12 a0_13)) || (!(s_rows_rests_0 a1_0 a1_1 a1_2 a1_3 a1_4))) || (!(s_rows_rests_0 a2_0 a2_1 a2_2 a2_3 a2_4))) then (200 : Int) else (0 : Int))
theorem e_rows_asked (a0_0 : Int) (a0_1 : Int) (a0_2 : Nat) (a0_3 : Nat) (a0_4 : Nat) (a0_5 : Nat) (a0_6 : Nat) (a0_7 : Nat) (a0_8 : Nat) (a0_9 : Nat) (a0_10 : Nat) (a0_11 : Nat) (a0_12 : Int) (a0_13 : Nat) (a1_0 : Nat) (a1_1 : Nat) (a1_2 : Nat) (a1_3 : Nat) (a1_4 : Nat) (a2_0 : Nat) (a2_1 : Nat) (a2_2 : Nat) (a2_3 : Nat) (a2_4 : Nat) : outB (evFnM Try.prog false menv10 [] [] 64 Try.f46 [AV.agg [.int .i64 a0_0, .int .i64 a0_1, .float a0_2, .float a0_3, .float a0_4, .float a0_5, .float a0_6, .float a0_7, .float a0_8, .float a0_9, .float a0_10, .float a0_11, .int .i64 a0_12, .float a0_13], AV.agg [.float a1_0, .float a1_1, .float a1_2, .float a1_3, .float a1_4], AV.agg [.float a2_0, .float a2_1, .float a2_2, .float a2_3, .float a2_4]] []) = some ((true), AV.int .i64 (s_rows_asked_0 a0_0 a0_1 a0_2 a0_3 a0_4 a0_5 a0_6 a0_7 a0_8 a0_9 a0_10 a0_11 a0_12 a0_13 a1_0 a1_1 a1_2 a1_3 a1_4 a2_0 a2_1 a2_2 a2_3 a2_4)) := by kernel_rfl
noncomputable def S_rows_asked : List AV → Option (Ob × AV)
  | [AV.agg [.int .i64 a0_0, .int .i64 a0_1, .float a0_2, .float a0_3, .float a0_4, .float a0_5, .float a0_6, .float a0_7, .float a0_8, .float a0_9, .float a0_10, .float a0_11, .int .i64 a0_12, .float a0_13], AV.agg [.float a1_0, .float a1_1, .float a1_2, .float a1_3, .float a1_4], AV.agg [.float a2_0, .float a2_1, .float a2_2, .float a2_3, .float a2_4]] => some (Ob.tt, AV.int .i64 (s_rows_asked_0 a0_0 a0_1 a0_2 a0_3 a0_4 a0_5 a0_6 a0_7 a0_8 a0_9 a0_10 a0_11 a0_12 a0_13 a1_0 a1_1 a1_2 a1_3 a1_4 a2_0 a2_1 a2_2 a2_3 a2_4))
  | _ => none
theorem t_rows_asked : ROkM Try.prog false (46, pureM S_rows_asked) := ROkM.pure (N := 64) menv10_ok Try.func46 Try.call46 fun args o v h => by
  unfold S_rows_asked at h
  split at h
  · rename_i a0_0 a0_1 a0_2 a0_3 a0_4 a0_5 a0_6 a0_7 a0_8 a0_9 a0_10 a0_11 a0_12 a0_13 a1_0 a1_1 a1_2 a1_3 a1_4 a2_0 a2_1 a2_2 a2_3 a2_4
    cases h
    exact ⟨rfl, rfl, _, e_rows_asked a0_0 a0_1 a0_2 a0_3 a0_4 a0_5 a0_6 a0_7 a0_8 a0_9 a0_10 a0_11 a0_12 a0_13 a1_0 a1_1 a1_2 a1_3 a1_4 a2_0 a2_1 a2_2 a2_3 a2_4, fun _ => rfl⟩
  · cases h
noncomputable def mrs8 : List (FuncId × RFM) := (46, pureM S_rows_asked) :: mrs7
noncomputable def menv11 : EnvM := mkEnvM mxs mrs8 mws3
theorem mrs8_ok : All (ROkM Try.prog false) mrs8 := All.cons t_rows_asked mrs7_ok
theorem menv11_ok : menv11.Ok Try.prog false := mkEnvM_ok mxs_ok mrs8_ok mws3_ok
-- tumble/vec.Dot
noncomputable def s_vec_Dot_0 (a0_0 : Nat) (a0_1 : Nat) (a1_0 : Nat) (a1_1 : Nat) : Nat := (fadd (fmul a0_0 a1_0) (fmul a0_1 a1_1))
theorem e_vec_Dot (a0_0 : Nat) (a0_1 : Nat) (a1_0 : Nat) (a1_1 : Nat) : outB (evFnM Try.prog false menv11 [] [] 64 Try.f80 [AV.agg [.float a0_0, .float a0_1], AV.agg [.float a1_0, .float a1_1]] []) = some ((true), AV.float (s_vec_Dot_0 a0_0 a0_1 a1_0 a1_1)) := by kernel_rfl
noncomputable def S_vec_Dot : List AV → Option (Ob × AV)
  | [AV.agg [.float a0_0, .float a0_1], AV.agg [.float a1_0, .float a1_1]] => some (Ob.tt, AV.float (s_vec_Dot_0 a0_0 a0_1 a1_0 a1_1))
  | _ => none
theorem t_vec_Dot : ROkM Try.prog false (80, pureM S_vec_Dot) := ROkM.pure (N := 64) menv11_ok Try.func80 Try.call80 fun args o v h => by
  unfold S_vec_Dot at h
  split at h
  · rename_i a0_0 a0_1 a1_0 a1_1
    cases h
    exact ⟨rfl, rfl, _, e_vec_Dot a0_0 a0_1 a1_0 a1_1, fun _ => rfl⟩
  · cases h
noncomputable def mrs9 : List (FuncId × RFM) := (80, pureM S_vec_Dot) :: mrs8
noncomputable def menv12 : EnvM := mkEnvM mxs mrs9 mws3
theorem mrs9_ok : All (ROkM Try.prog false) mrs9 := All.cons t_vec_Dot mrs8_ok
theorem menv12_ok : menv12.Ok Try.prog false := mkEnvM_ok mxs_ok mrs9_ok mws3_ok
-- tumble/rows.speed
noncomputable def s_rows_speed_0 (a0_0 : Int) (a0_1 : Int) (a0_2 : Nat) (a0_3 : Nat) (a0_4 : Nat) (a0_5 : Nat) (a0_6 : Nat) (a0_7 : Nat) (a0_8 : Nat) (a0_9 : Nat) (a0_10 : Nat) (a0_11 : Nat) (a0_12 : Int) (a0_13 : Nat) (a1_0 : Nat) (a1_1 : Nat) (a1_2 : Nat) (a1_3 : Nat) (a1_4 : Nat) (a2_0 : Nat) (a2_1 : Nat) (a2_2 : Nat) (a2_3 : Nat) (a2_4 : Nat) : Nat := (fadd (fadd (fadd (s_vec_Dot_0 a0_2 a0_3 a1_2 a1_3) (fmul a0_6 a1_4)) (s_vec_Dot_0 a0_4 a0_5 a2_2 a2_3)) (fmul a0_7 a2_4))
theorem e_rows_speed (a0_0 : Int) (a0_1 : Int) (a0_2 : Nat) (a0_3 : Nat) (a0_4 : Nat) (a0_5 : Nat) (a0_6 : Nat) (a0_7 : Nat) (a0_8 : Nat) (a0_9 : Nat) (a0_10 : Nat) (a0_11 : Nat) (a0_12 : Int) (a0_13 : Nat) (a1_0 : Nat) (a1_1 : Nat) (a1_2 : Nat) (a1_3 : Nat) (a1_4 : Nat) (a2_0 : Nat) (a2_1 : Nat) (a2_2 : Nat) (a2_3 : Nat) (a2_4 : Nat) : outB (evFnM Try.prog false menv12 [] [] 64 Try.f48 [AV.agg [.int .i64 a0_0, .int .i64 a0_1, .float a0_2, .float a0_3, .float a0_4, .float a0_5, .float a0_6, .float a0_7, .float a0_8, .float a0_9, .float a0_10, .float a0_11, .int .i64 a0_12, .float a0_13], AV.agg [.float a1_0, .float a1_1, .float a1_2, .float a1_3, .float a1_4], AV.agg [.float a2_0, .float a2_1, .float a2_2, .float a2_3, .float a2_4]] []) = some ((true), AV.float (s_rows_speed_0 a0_0 a0_1 a0_2 a0_3 a0_4 a0_5 a0_6 a0_7 a0_8 a0_9 a0_10 a0_11 a0_12 a0_13 a1_0 a1_1 a1_2 a1_3 a1_4 a2_0 a2_1 a2_2 a2_3 a2_4)) := by kernel_rfl
noncomputable def S_rows_speed : List AV → Option (Ob × AV)
  | [AV.agg [.int .i64 a0_0, .int .i64 a0_1, .float a0_2, .float a0_3, .float a0_4, .float a0_5, .float a0_6, .float a0_7, .float a0_8, .float a0_9, .float a0_10, .float a0_11, .int .i64 a0_12, .float a0_13], AV.agg [.float a1_0, .float a1_1, .float a1_2, .float a1_3, .float a1_4], AV.agg [.float a2_0, .float a2_1, .float a2_2, .float a2_3, .float a2_4]] => some (Ob.tt, AV.float (s_rows_speed_0 a0_0 a0_1 a0_2 a0_3 a0_4 a0_5 a0_6 a0_7 a0_8 a0_9 a0_10 a0_11 a0_12 a0_13 a1_0 a1_1 a1_2 a1_3 a1_4 a2_0 a2_1 a2_2 a2_3 a2_4))
  | _ => none
theorem t_rows_speed : ROkM Try.prog false (48, pureM S_rows_speed) := ROkM.pure (N := 64) menv12_ok Try.func48 Try.call48 fun args o v h => by
  unfold S_rows_speed at h
  split at h
  · rename_i a0_0 a0_1 a0_2 a0_3 a0_4 a0_5 a0_6 a0_7 a0_8 a0_9 a0_10 a0_11 a0_12 a0_13 a1_0 a1_1 a1_2 a1_3 a1_4 a2_0 a2_1 a2_2 a2_3 a2_4
    cases h
    exact ⟨rfl, rfl, _, e_rows_speed a0_0 a0_1 a0_2 a0_3 a0_4 a0_5 a0_6 a0_7 a0_8 a0_9 a0_10 a0_11 a0_12 a0_13 a1_0 a1_1 a1_2 a1_3 a1_4 a2_0 a2_1 a2_2 a2_3 a2_4, fun _ => rfl⟩
  · cases h
noncomputable def mrs10 : List (FuncId × RFM) := (48, pureM S_rows_speed) :: mrs9
noncomputable def menv13 : EnvM := mkEnvM mxs mrs10 mws3
theorem mrs10_ok : All (ROkM Try.prog false) mrs10 := All.cons t_rows_speed mrs9_ok
theorem menv13_ok : menv13.Ok Try.prog false := mkEnvM_ok mxs_ok mrs10_ok mws3_ok
-- tumble/rows.Speed
noncomputable def s_rows_Speed_0 (a0_0 : Int) (a0_1 : Int) (a0_2 : Nat) (a0_3 : Nat) (a0_4 : Nat) (a0_5 : Nat) (a0_6 : Nat) (a0_7 : Nat) (a0_8 : Nat) (a0_9 : Nat) (a0_10 : Nat) (a0_11 : Nat) (a0_12 : Int) (a0_13 : Nat) (a1_0 : Nat) (a1_1 : Nat) (a1_2 : Nat) (a1_3 : Nat) (a1_4 : Nat) (a2_0 : Nat) (a2_1 : Nat) (a2_2 : Nat) (a2_3 : Nat) (a2_4 : Nat) : Nat := (bif (!(ieq (s_rows_asked_0 a0_0 a0_1 a0_2 a0_3 a0_4 a0_5 a0_6 a0_7 a0_8 a0_9 a0_10 a0_11 a0_12 a0_13 a1_0 a1_1 a1_2 a1_3 a1_4 a2_0 a2_1 a2_2 a2_3 a2_4) (0 : Int))) then 0 else (s_rows_speed_0 a0_0 a0_1 a0_2 a0_3 a0_4 a0_5 a0_6 a0_7 a0_8 a0_9 a0_10 a0_11 a0_12 a0_13 a1_0 a1_1 a1_2 a1_3 a1_4 a2_0 a2_1 a2_2 a2_3 a2_4))
noncomputable def s_rows_Speed_1 (a0_0 : Int) (a0_1 : Int) (a0_2 : Nat) (a0_3 : Nat) (a0_4 : Nat) (a0_5 : Nat) (a0_6 : Nat) (a0_7 : Nat) (a0_8 : Nat) (a0_9 : Nat) (a0_10 : Nat) (a0_11 : Nat) (a0_12 : Int) (a0_13 : Nat) (a1_0 : Nat) (a1_1 : Nat) (a1_2 : Nat) (a1_3 : Nat) (a1_4 : Nat) (a2_0 : Nat) (a2_1 : Nat) (a2_2 : Nat) (a2_3 : Nat) (a2_4 : Nat) : Int := (bif (!(ieq (s_rows_asked_0 a0_0 a0_1 a0_2 a0_3 a0_4 a0_5 a0_6 a0_7 a0_8 a0_9 a0_10 a0_11 a0_12 a0_13 a1_0 a1_1 a1_2 a1_3 a1_4 a2_0 a2_1 a2_2 a2_3 a2_4) (0 : Int))) then (s_rows_asked_0 a0_0 a0_1 a0_2 a0_3 a0_4 a0_5 a0_6 a0_7 a0_8 a0_9 a0_10 a0_11 a0_12 a0_13 a1_0 a1_1 a1_2 a1_3 a1_4 a2_0 a2_1 a2_2 a2_3 a2_4) else (0 : Int))
theorem e_rows_Speed (a0_0 : Int) (a0_1 : Int) (a0_2 : Nat) (a0_3 : Nat) (a0_4 : Nat) (a0_5 : Nat) (a0_6 : Nat) (a0_7 : Nat) (a0_8 : Nat) (a0_9 : Nat) (a0_10 : Nat) (a0_11 : Nat) (a0_12 : Int) (a0_13 : Nat) (a1_0 : Nat) (a1_1 : Nat) (a1_2 : Nat) (a1_3 : Nat) (a1_4 : Nat) (a2_0 : Nat) (a2_1 : Nat) (a2_2 : Nat) (a2_3 : Nat) (a2_4 : Nat) : outB (evFnM Try.prog false menv13 [] [] 64 Try.f18 [AV.agg [.int .i64 a0_0, .int .i64 a0_1, .float a0_2, .float a0_3, .float a0_4, .float a0_5, .float a0_6, .float a0_7, .float a0_8, .float a0_9, .float a0_10, .float a0_11, .int .i64 a0_12, .float a0_13], AV.agg [.float a1_0, .float a1_1, .float a1_2, .float a1_3, .float a1_4], AV.agg [.float a2_0, .float a2_1, .float a2_2, .float a2_3, .float a2_4]] []) = some ((true), AV.tup [AV.float (s_rows_Speed_0 a0_0 a0_1 a0_2 a0_3 a0_4 a0_5 a0_6 a0_7 a0_8 a0_9 a0_10 a0_11 a0_12 a0_13 a1_0 a1_1 a1_2 a1_3 a1_4 a2_0 a2_1 a2_2 a2_3 a2_4), AV.int .i64 (s_rows_Speed_1 a0_0 a0_1 a0_2 a0_3 a0_4 a0_5 a0_6 a0_7 a0_8 a0_9 a0_10 a0_11 a0_12 a0_13 a1_0 a1_1 a1_2 a1_3 a1_4 a2_0 a2_1 a2_2 a2_3 a2_4)]) := by kernel_rfl
noncomputable def S_rows_Speed : List AV → Option (Ob × AV)
  | [AV.agg [.int .i64 a0_0, .int .i64 a0_1, .float a0_2, .float a0_3, .float a0_4, .float a0_5, .float a0_6, .float a0_7, .float a0_8, .float a0_9, .float a0_10, .float a0_11, .int .i64 a0_12, .float a0_13], AV.agg [.float a1_0, .float a1_1, .float a1_2, .float a1_3, .float a1_4], AV.agg [.float a2_0, .float a2_1, .float a2_2, .float a2_3, .float a2_4]] => some (Ob.tt, AV.tup [AV.float (s_rows_Speed_0 a0_0 a0_1 a0_2 a0_3 a0_4 a0_5 a0_6 a0_7 a0_8 a0_9 a0_10 a0_11 a0_12 a0_13 a1_0 a1_1 a1_2 a1_3 a1_4 a2_0 a2_1 a2_2 a2_3 a2_4), AV.int .i64 (s_rows_Speed_1 a0_0 a0_1 a0_2 a0_3 a0_4 a0_5 a0_6 a0_7 a0_8 a0_9 a0_10 a0_11 a0_12 a0_13 a1_0 a1_1 a1_2 a1_3 a1_4 a2_0 a2_1 a2_2 a2_3 a2_4)])
  | _ => none
theorem t_rows_Speed : ROkM Try.prog false (18, pureM S_rows_Speed) := ROkM.pure (N := 64) menv13_ok Try.func18 Try.call18 fun args o v h => by
  unfold S_rows_Speed at h
  split at h
  · rename_i a0_0 a0_1 a0_2 a0_3 a0_4 a0_5 a0_6 a0_7 a0_8 a0_9 a0_10 a0_11 a0_12 a0_13 a1_0 a1_1 a1_2 a1_3 a1_4 a2_0 a2_1 a2_2 a2_3 a2_4
    cases h
    exact ⟨rfl, rfl, _, e_rows_Speed a0_0 a0_1 a0_2 a0_3 a0_4 a0_5 a0_6 a0_7 a0_8 a0_9 a0_10 a0_11 a0_12 a0_13 a1_0 a1_1 a1_2 a1_3 a1_4 a2_0 a2_1 a2_2 a2_3 a2_4, fun _ => rfl⟩
  · cases h
noncomputable def mrs11 : List (FuncId × RFM) := (18, pureM S_rows_Speed) :: mrs10
noncomputable def menv14 : EnvM := mkEnvM mxs mrs11 mws3
theorem mrs11_ok : All (ROkM Try.prog false) mrs11 := All.cons t_rows_Speed mrs10_ok
theorem menv14_ok : menv14.Ok Try.prog false := mkEnvM_ok mxs_ok mrs11_ok mws3_ok
-- tumble/vec.Square
noncomputable def s_vec_Square_0 (a0_0 : Nat) (a0_1 : Nat) : Nat := (s_vec_Dot_0 a0_0 a0_1 a0_0 a0_1)
theorem e_vec_Square (a0_0 : Nat) (a0_1 : Nat) : outB (evFnM Try.prog false menv14 [] [] 64 Try.f55 [AV.agg [.float a0_0, .float a0_1]] []) = some ((true), AV.float (s_vec_Square_0 a0_0 a0_1)) := by kernel_rfl
noncomputable def S_vec_Square : List AV → Option (Ob × AV)
  | [AV.agg [.float a0_0, .float a0_1]] => some (Ob.tt, AV.float (s_vec_Square_0 a0_0 a0_1))
  | _ => none
theorem t_vec_Square : ROkM Try.prog false (55, pureM S_vec_Square) := ROkM.pure (N := 64) menv14_ok Try.func55 Try.call55 fun args o v h => by
  unfold S_vec_Square at h
  split at h
  · rename_i a0_0 a0_1
    cases h
    exact ⟨rfl, rfl, _, e_vec_Square a0_0 a0_1, fun _ => rfl⟩
  · cases h
noncomputable def mrs12 : List (FuncId × RFM) := (55, pureM S_vec_Square) :: mrs11
noncomputable def menv15 : EnvM := mkEnvM mxs mrs12 mws3
theorem mrs12_ok : All (ROkM Try.prog false) mrs12 := All.cons t_vec_Square mrs11_ok
theorem menv15_ok : menv15.Ok Try.prog false := mkEnvM_ok mxs_ok mrs12_ok mws3_ok
-- tumble/rows.weight
noncomputable def s_rows_weight_0 (a0_0 : Int) (a0_1 : Int) (a0_2 : Nat) (a0_3 : Nat) (a0_4 : Nat) (a0_5 : Nat) (a0_6 : Nat) (a0_7 : Nat) (a0_8 : Nat) (a0_9 : Nat) (a0_10 : Nat) (a0_11 : Nat) (a0_12 : Int) (a0_13 : Nat) (a1_0 : Nat) (a1_1 : Nat) (a1_2 : Nat) (a1_3 : Nat) (a1_4 : Nat) (a2_0 : Nat) (a2_1 : Nat) (a2_2 : Nat) (a2_3 : Nat) (a2_4 : Nat) : Nat := (fadd (fadd (fadd (fmul a1_0 (s_vec_Square_0 a0_2 a0_3)) (fmul a1_1 (fmul a0_6 a0_6))) (fmul a2_0 (s_vec_Square_0 a0_4 a0_5))) (fmul a2_1 (fmul a0_7 a0_7)))
theorem e_rows_weight (a0_0 : Int) (a0_1 : Int) (a0_2 : Nat) (a0_3 : Nat) (a0_4 : Nat) (a0_5 : Nat) (a0_6 : Nat) (a0_7 : Nat) (a0_8 : Nat) (a0_9 : Nat) (a0_10 : Nat) (a0_11 : Nat) (a0_12 : Int) (a0_13 : Nat) (a1_0 : Nat) (a1_1 : Nat) (a1_2 : Nat) (a1_3 : Nat) (a1_4 : Nat) (a2_0 : Nat) (a2_1 : Nat) (a2_2 : Nat) (a2_3 : Nat) (a2_4 : Nat) : outB (evFnM Try.prog false menv15 [] [] 64 Try.f47 [AV.agg [.int .i64 a0_0, .int .i64 a0_1, .float a0_2, .float a0_3, .float a0_4, .float a0_5, .float a0_6, .float a0_7, .float a0_8, .float a0_9, .float a0_10, .float a0_11, .int .i64 a0_12, .float a0_13], AV.agg [.float a1_0, .float a1_1, .float a1_2, .float a1_3, .float a1_4], AV.agg [.float a2_0, .float a2_1, .float a2_2, .float a2_3, .float a2_4]] []) = some ((true), AV.float (s_rows_weight_0 a0_0 a0_1 a0_2 a0_3 a0_4 a0_5 a0_6 a0_7 a0_8 a0_9 a0_10 a0_11 a0_12 a0_13 a1_0 a1_1 a1_2 a1_3 a1_4 a2_0 a2_1 a2_2 a2_3 a2_4)) := by kernel_rfl
noncomputable def S_rows_weight : List AV → Option (Ob × AV)
  | [AV.agg [.int .i64 a0_0, .int .i64 a0_1, .float a0_2, .float a0_3, .float a0_4, .float a0_5, .float a0_6, .float a0_7, .float a0_8, .float a0_9, .float a0_10, .float a0_11, .int .i64 a0_12, .float a0_13], AV.agg [.float a1_0, .float a1_1, .float a1_2, .float a1_3, .float a1_4], AV.agg [.float a2_0, .float a2_1, .float a2_2, .float a2_3, .float a2_4]] => some (Ob.tt, AV.float (s_rows_weight_0 a0_0 a0_1 a0_2 a0_3 a0_4 a0_5 a0_6 a0_7 a0_8 a0_9 a0_10 a0_11 a0_12 a0_13 a1_0 a1_1 a1_2 a1_3 a1_4 a2_0 a2_1 a2_2 a2_3 a2_4))
  | _ => none
theorem t_rows_weight : ROkM Try.prog false (47, pureM S_rows_weight) := ROkM.pure (N := 64) menv15_ok Try.func47 Try.call47 fun args o v h => by
  unfold S_rows_weight at h
  split at h
  · rename_i a0_0 a0_1 a0_2 a0_3 a0_4 a0_5 a0_6 a0_7 a0_8 a0_9 a0_10 a0_11 a0_12 a0_13 a1_0 a1_1 a1_2 a1_3 a1_4 a2_0 a2_1 a2_2 a2_3 a2_4
    cases h
    exact ⟨rfl, rfl, _, e_rows_weight a0_0 a0_1 a0_2 a0_3 a0_4 a0_5 a0_6 a0_7 a0_8 a0_9 a0_10 a0_11 a0_12 a0_13 a1_0 a1_1 a1_2 a1_3 a1_4 a2_0 a2_1 a2_2 a2_3 a2_4, fun _ => rfl⟩
  · cases h
noncomputable def mrs13 : List (FuncId × RFM) := (47, pureM S_rows_weight) :: mrs12
noncomputable def menv16 : EnvM := mkEnvM mxs mrs13 mws3
theorem mrs13_ok : All (ROkM Try.prog false) mrs13 := All.cons t_rows_weight mrs12_ok
theorem menv16_ok : menv16.Ok Try.prog false := mkEnvM_ok mxs_ok mrs13_ok mws3_ok
-- tumble/rows.Weight
noncomputable def s_rows_Weight_0 (a0_0 : Int) (a0_1 : Int) (a0_2 : Nat) (a0_3 : Nat) (a0_4 : Nat) (a0_5 : Nat) (a0_6 : Nat) (a0_7 : Nat) (a0_8 : Nat) (a0_9 : Nat) (a0_10 : Nat) (a0_11 : Nat) (a0_12 : Int) (a0_13 : Nat) (a1_0 : Nat) (a1_1 : Nat) (a1_2 : Nat) (a1_3 : Nat) (a1_4 : Nat) (a2_0 : Nat) (a2_1 : Nat) (a2_2 : Nat) (a2_3 : Nat) (a2_4 : Nat) : Nat := (bif (!(ieq (s_rows_asked_0 a0_0 a0_1 a0_2 a0_3 a0_4 a0_5 a0_6 a0_7 a0_8 a0_9 a0_10 a0_11 a0_12 a0_13 a1_0 a1_1 a1_2 a1_3 a1_4 a2_0 a2_1 a2_2 a2_3 a2_4) (0 : Int))) then 0 else (s_rows_weight_0 a0_0 a0_1 a0_2 a0_3 a0_4 a0_5 a0_6 a0_7 a0_8 a0_9 a0_10 a0_11 a0_12 a0_13 a1_0 a1_1 a1_2 a1_3 a1_4 a2_0 a2_1 a2_2 a2_3 a2_4))
noncomputable def s_rows_Weight_1 (a0_0 : Int) (a0_1 : Int) (a0_2 : Nat) (a0_3 : Nat) (a0_4 : Nat) (a0_5 : Nat) (a0_6 : Nat) (a0_7 : Nat) (a0_8 : Nat) (a0_9 : Nat) (a0_10 : Nat) (a0_11 : Nat) (a0_12 : Int) (a0_13 : Nat) (a1_0 : Nat) (a1_1 : Nat) (a1_2 : Nat) (a1_3 : Nat) (a1_4 : Nat) (a2_0 : Nat) (a2_1 : Nat) (a2_2 : Nat) (a2_3 : Nat) (a2_4 : Nat) : Int := (bif (!(ieq (s_rows_asked_0 a0_0 a0_1 a0_2 a0_3 a0_4 a0_5 a0_6 a0_7 a0_8 a0_9 a0_10 a0_11 a0_12 a0_13 a1_0 a1_1 a1_2 a1_3 a1_4 a2_0 a2_1 a2_2 a2_3 a2_4) (0 : Int))) then (s_rows_asked_0 a0_0 a0_1 a0_2 a0_3 a0_4 a0_5 a0_6 a0_7 a0_8 a0_9 a0_10 a0_11 a0_12 a0_13 a1_0 a1_1 a1_2 a1_3 a1_4 a2_0 a2_1 a2_2 a2_3 a2_4) else (0 : Int))
theorem e_rows_Weight (a0_0 : Int) (a0_1 : Int) (a0_2 : Nat) (a0_3 : Nat) (a0_4 : Nat) (a0_5 : Nat) (a0_6 : Nat) (a0_7 : Nat) (a0_8 : Nat) (a0_9 : Nat) (a0_10 : Nat) (a0_11 : Nat) (a0_12 : Int) (a0_13 : Nat) (a1_0 : Nat) (a1_1 : Nat) (a1_2 : Nat) (a1_3 : Nat) (a1_4 : Nat) (a2_0 : Nat) (a2_1 : Nat) (a2_2 : Nat) (a2_3 : Nat) (a2_4 : Nat) : outB (evFnM Try.prog false menv16 [] [] 64 Try.f15 [AV.agg [.int .i64 a0_0, .int .i64 a0_1, .float a0_2, .float a0_3, .float a0_4, .float a0_5, .float a0_6, .float a0_7, .float a0_8, .float a0_9, .float a0_10, .float a0_11, .int .i64 a0_12, .float a0_13], AV.agg [.float a1_0, .float a1_1, .float a1_2, .float a1_3, .float a1_4], AV.agg [.float a2_0, .float a2_1, .float a2_2, .float a2_3, .float a2_4]] []) = some ((true), AV.tup [AV.float (s_rows_Weight_0 a0_0 a0_1 a0_2 a0_3 a0_4 a0_5 a0_6 a0_7 a0_8 a0_9 a0_10 a0_11 a0_12 a0_13 a1_0 a1_1 a1_2 a1_3 a1_4 a2_0 a2_1 a2_2 a2_3 a2_4), AV.int .i64 (s_rows_Weight_1 a0_0 a0_1 a0_2 a0_3 a0_4 a0_5 a0_6 a0_7 a0_8 a0_9 a0_10 a0_11 a0_12 a0_13 a1_0 a1_1 a1_2 a1_3 a1_4 a2_0 a2_1 a2_2 a2_3 a2_4)]) := by kernel_rfl
noncomputable def S_rows_Weight : List AV → Option (Ob × AV)
  | [AV.agg [.int .i64 a0_0, .int .i64 a0_1, .float a0_2, .float a0_3, .float a0_4, .float a0_5, .float a0_6, .float a0_7, .float a0_8, .float a0_9, .float a0_10, .float a0_11, .int .i64 a0_12, .float a0_13], AV.agg [.float a1_0, .float a1_1, .float a1_2, .float a1_3, .float a1_4], AV.agg [.float a2_0, .float a2_1, .float a2_2, .float a2_3, .float a2_4]] => some (Ob.tt, AV.tup [AV.float (s_rows_Weight_0 a0_0 a0_1 a0_2 a0_3 a0_4 a0_5 a0_6 a0_7 a0_8 a0_9 a0_10 a0_11 a0_12 a0_13 a1_0 a1_1 a1_2 a1_3 a1_4 a2_0 a2_1 a2_2 a2_3 a2_4), AV.int .i64 (s_rows_Weight_1 a0_0 a0_1 a0_2 a0_3 a0_4 a0_5 a0_6 a0_7 a0_8 a0_9 a0_10 a0_11 a0_12 a0_13 a1_0 a1_1 a1_2 a1_3 a1_4 a2_0 a2_1 a2_2 a2_3 a2_4)])
  | _ => none
theorem t_rows_Weight : ROkM Try.prog false (15, pureM S_rows_Weight) := ROkM.pure (N := 64) menv16_ok Try.func15 Try.call15 fun args o v h => by
  unfold S_rows_Weight at h
  split at h
  · rename_i a0_0 a0_1 a0_2 a0_3 a0_4 a0_5 a0_6 a0_7 a0_8 a0_9 a0_10 a0_11 a0_12 a0_13 a1_0 a1_1 a1_2 a1_3 a1_4 a2_0 a2_1 a2_2 a2_3 a2_4
    cases h
    exact ⟨rfl, rfl, _, e_rows_Weight a0_0 a0_1 a0_2 a0_3 a0_4 a0_5 a0_6 a0_7 a0_8 a0_9 a0_10 a0_11 a0_12 a0_13 a1_0 a1_1 a1_2 a1_3 a1_4 a2_0 a2_1 a2_2 a2_3 a2_4, fun _ => rfl⟩
  · cases h
noncomputable def mrs14 : List (FuncId × RFM) := (15, pureM S_rows_Weight) :: mrs13
noncomputable def menv17 : EnvM := mkEnvM mxs mrs14 mws3
theorem mrs14_ok : All (ROkM Try.prog false) mrs14 := All.cons t_rows_Weight mrs13_ok
theorem menv17_ok : menv17.Ok Try.prog false := mkEnvM_ok mxs_ok mrs14_ok mws3_ok
-- tumble/num.Clamp[float64]
noncomputable def s_num_Clamp_float64__0 (a0_0 : Nat) (a1_0 : Nat) (a2_0 : Nat) : Nat := (bif ((!(flt a1_0 a0_0)) || (flt a2_0 a0_0)) then (bif (!(flt a1_0 a0_0)) then a1_0 else a2_0) else a0_0)
theorem e_num_Clamp_float64_ (a0_0 : Nat) (a1_0 : Nat) (a2_0 : Nat) : outB (evFnM Try.prog false menv17 [] [] 64 Try.f50 [AV.float a0_0, AV.float a1_0, AV.float a2_0] []) = some ((true), AV.float (s_num_Clamp_float64__0 a0_0 a1_0 a2_0)) := by kernel_rfl
noncomputable def S_num_Clamp_float64_ : List AV → Option (Ob × AV)
  | [AV.float a0_0, AV.float a1_0, AV.float a2_0] => some (Ob.tt, AV.float (s_num_Clamp_float64__0 a0_0 a1_0 a2_0))
  | _ => none
theorem t_num_Clamp_float64_ : ROkM Try.prog false (50, pureM S_num_Clamp_float64_) := ROkM.pure (N := 64) menv17_ok Try.func50 Try.call50 fun args o v h => by
  unfold S_num_Clamp_float64_ at h
  split at h
  · rename_i a0_0 a1_0 a2_0
    cases h
    exact ⟨rfl, rfl, _, e_num_Clamp_float64_ a0_0 a1_0 a2_0, fun _ => rfl⟩
  · cases h
noncomputable def mrs15 : List (FuncId × RFM) := (50, pureM S_num_Clamp_float64_) :: mrs14
noncomputable def menv18 : EnvM := mkEnvM mxs mrs15 mws3
theorem mrs15_ok : All (ROkM Try.prog false) mrs15 := All.cons t_num_Clamp_float64_ mrs14_ok
theorem menv18_ok : menv18.Ok Try.prog false := mkEnvM_ok mxs_ok mrs15_ok mws3_ok
-- tumble/vec.More
noncomputable def s_vec_More_0 (a0_0 : Nat) (a0_1 : Nat) (a1_0 : Nat) (a2_0 : Nat) (a2_1 : Nat) : Nat := (fadd a0_0 (fmul a1_0 a2_0))
noncomputable def s_vec_More_1 (a0_0 : Nat) (a0_1 : Nat) (a1_0 : Nat) (a2_0 : Nat) (a2_1 : Nat) : Nat := (fadd a0_1 (fmul a1_0 a2_1))
theorem e_vec_More (a0_0 : Nat) (a0_1 : Nat) (a1_0 : Nat) (a2_0 : Nat) (a2_1 : Nat) : outB (evFnM Try.prog false menv18 [] [] 64 Try.f84 [AV.agg [.float a0_0, .float a0_1], AV.float a1_0, AV.agg [.float a2_0, .float a2_1]] []) = some ((true), AV.agg [AV.float (s_vec_More_0 a0_0 a0_1 a1_0 a2_0 a2_1), AV.float (s_vec_More_1 a0_0 a0_1 a1_0 a2_0 a2_1)]) := by kernel_rfl
noncomputable def S_vec_More : List AV → Option (Ob × AV)
  | [AV.agg [.float a0_0, .float a0_1], AV.float a1_0, AV.agg [.float a2_0, .float a2_1]] => some (Ob.tt, AV.agg [AV.float (s_vec_More_0 a0_0 a0_1 a1_0 a2_0 a2_1), AV.float (s_vec_More_1 a0_0 a0_1 a1_0 a2_0 a2_1)])
  | _ => none
theorem t_vec_More : ROkM Try.prog false (84, pureM S_vec_More) := ROkM.pure (N := 64) menv18_ok Try.func84 Try.call84 fun args o v h => by
  unfold S_vec_More at h
  split at h
  · rename_i a0_0 a0_1 a1_0 a2_0 a2_1
    cases h
    exact ⟨rfl, rfl, _, e_vec_More a0_0 a0_1 a1_0 a2_0 a2_1, fun _ => rfl⟩
  · cases h
noncomputable def mrs16 : List (FuncId × RFM) := (84, pureM S_vec_More) :: mrs15
noncomputable def menv19 : EnvM := mkEnvM mxs mrs16 mws3
theorem mrs16_ok : All (ROkM Try.prog false) mrs16 := All.cons t_vec_More mrs15_ok
theorem menv19_ok : menv19.Ok Try.prog false := mkEnvM_ok mxs_ok mrs16_ok mws3_ok
-- tumble/rows.pushed
noncomputable def s_rows_pushed_0 (a0_0 : Int) (a0_1 : Int) (a0_2 : Nat) (a0_3 : Nat) (a0_4 : Nat) (a0_5 : Nat) (a0_6 : Nat) (a0_7 : Nat) (a0_8 : Nat) (a0_9 : Nat) (a0_10 : Nat) (a0_11 : Nat) (a0_12 : Int) (a0_13 : Nat) (a1_0 : Nat) (a1_1 : Nat) (a1_2 : Nat) (a1_3 : Nat) (a1_4 : Nat) (a1_5 : Nat) (a1_6 : Nat) (a1_7 : Nat) (a1_8 : Nat) (a1_9 : Nat) (a2_0 : Nat) : Nat := a1_0
noncomputable def s_rows_pushed_1 (a0_0 : Int) (a0_1 : Int) (a0_2 : Nat) (a0_3 : Nat) (a0_4 : Nat) (a0_5 : Nat) (a0_6 : Nat) (a0_7 : Nat) (a0_8 : Nat) (a0_9 : Nat) (a0_10 : Nat) (a0_11 : Nat) (a0_12 : Int) (a0_13 : Nat) (a1_0 : Nat) (a1_1 : Nat) (a1_2 : Nat) (a1_3 : Nat) (a1_4 : Nat) (a1_5 : Nat) (a1_6 : Nat) (a1_7 : Nat) (a1_8 : Nat) (a1_9 : Nat) (a2_0 : Nat) : Nat := a1_1
noncomputable def s_rows_pushed_2 (a0_0 : Int) (a0_1 : Int) (a0_2 : Nat) (a0_3 : Nat) (a0_4 : Nat) (a0_5 : Nat) (a0_6 : Nat) (a0_7 : Nat) (a0_8 : Nat) (a0_9 : Nat) (a0_10 : Nat) (a0_11 : Nat) (a0_12 : Int) (a0_13 : Nat) (a1_0 : Nat) (a1_1 : Nat) (a1_2 : Nat) (a1_3 : Nat) (a1_4 : Nat) (a1_5 : Nat) (a1_6 : Nat) (a1_7 : Nat) (a1_8 : Nat) (a1_9 : Nat) (a2_0 : Nat) : Nat := (bif (!(feq a1_0 0)) then (s_vec_More_0 a1_2 a1_3 (fmul a1_0 a2_0) a0_2 a0_3) else a1_2)
noncomputable def s_rows_pushed_3 (a0_0 : Int) (a0_1 : Int) (a0_2 : Nat) (a0_3 : Nat) (a0_4 : Nat) (a0_5 : Nat) (a0_6 : Nat) (a0_7 : Nat) (a0_8 : Nat) (a0_9 : Nat) (a0_10 : Nat) (a0_11 : Nat) (a0_12 : Int) (a0_13 : Nat) (a1_0 : Nat) (a1_1 : Nat) (a1_2 : Nat) (a1_3 : Nat) (a1_4 : Nat) (a1_5 : Nat) (a1_6 : Nat) (a1_7 : Nat) (a1_8 : Nat) (a1_9 : Nat) (a2_0 : Nat) : Nat := (bif (!(feq a1_0 0)) then (s_vec_More_1 a1_2 a1_3 (fmul a1_0 a2_0) a0_2 a0_3) else a1_3)
noncomputable def s_rows_pushed_4 (a0_0 : Int) (a0_1 : Int) (a0_2 : Nat) (a0_3 : Nat) (a0_4 : Nat) (a0_5 : Nat) (a0_6 : Nat) (a0_7 : Nat) (a0_8 : Nat) (a0_9 : Nat) (a0_10 : Nat) (a0_11 : Nat) (a0_12 : Int) (a0_13 : Nat) (a1_0 : Nat) (a1_1 : Nat) (a1_2 : Nat) (a1_3 : Nat) (a1_4 : Nat) (a1_5 : Nat) (a1_6 : Nat) (a1_7 : Nat) (a1_8 : Nat) (a1_9 : Nat) (a2_0 : Nat) : Nat := (bif (!(feq a1_1 0)) then (fadd a1_4 (fmul a1_1 (fmul a2_0 a0_6))) else a1_4)
noncomputable def s_rows_pushed_5 (a0_0 : Int) (a0_1 : Int) (a0_2 : Nat) (a0_3 : Nat) (a0_4 : Nat) (a0_5 : Nat) (a0_6 : Nat) (a0_7 : Nat) (a0_8 : Nat) (a0_9 : Nat) (a0_10 : Nat) (a0_11 : Nat) (a0_12 : Int) (a0_13 : Nat) (a1_0 : Nat) (a1_1 : Nat) (a1_2 : Nat) (a1_3 : Nat) (a1_4 : Nat) (a1_5 : Nat) (a1_6 : Nat) (a1_7 : Nat) (a1_8 : Nat) (a1_9 : Nat) (a2_0 : Nat) : Nat := a1_5
noncomputable def s_rows_pushed_6 (a0_0 : Int) (a0_1 : Int) (a0_2 : Nat) (a0_3 : Nat) (a0_4 : Nat) (a0_5 : Nat) (a0_6 : Nat) (a0_7 : Nat) (a0_8 : Nat) (a0_9 : Nat) (a0_10 : Nat) (a0_11 : Nat) (a0_12 : Int) (a0_13 : Nat) (a1_0 : Nat) (a1_1 : Nat) (a1_2 : Nat) (a1_3 : Nat) (a1_4 : Nat) (a1_5 : Nat) (a1_6 : Nat) (a1_7 : Nat) (a1_8 : Nat) (a1_9 : Nat) (a2_0 : Nat) : Nat := a1_6
noncomputable def s_rows_pushed_7 (a0_0 : Int) (a0_1 : Int) (a0_2 : Nat) (a0_3 : Nat) (a0_4 : Nat) (a0_5 : Nat) (a0_6 : Nat) (a0_7 : Nat) (a0_8 : Nat) (a0_9 : Nat) (a0_10 : Nat) (a0_11 : Nat) (a0_12 : Int) (a0_13 : Nat) (a1_0 : Nat) (a1_1 : Nat) (a1_2 : Nat) (a1_3 : Nat) (a1_4 : Nat) (a1_5 : Nat) (a1_6 : Nat) (a1_7 : Nat) (a1_8 : Nat) (a1_9 : Nat) (a2_0 : Nat) : Nat := (bif (!(feq a1_5 0)) then (s_vec_More_0 a1_7 a1_8 (fmul a1_5 a2_0) a0_4 a0_5) else a1_7)
noncomputable def s_rows_pushed_8 (a0_0 : Int) (a0_1 : Int) (a0_2 : Nat) (a0_3 : Nat) (a0_4 : Nat) (a0_5 : Nat) (a0_6 : Nat) (a0_7 : Nat) (a0_8 : Nat) (a0_9 : Nat) (a0_10 : Nat) (a0_11 : Nat) (a0_12 : Int) (a0_13 : Nat) (a1_0 : Nat) (a1_1 : Nat) (a1_2 : Nat) (a1_3 : Nat) (a1_4 : Nat) (a1_5 : Nat) (a1_6 : Nat) (a1_7 : Nat) (a1_8 : Nat) (a1_9 : Nat) (a2_0 : Nat) : Nat := (bif (!(feq a1_5 0)) then (s_vec_More_1 a1_7 a1_8 (fmul a1_5 a2_0) a0_4 a0_5) else a1_8)
noncomputable def s_rows_pushed_9 (a0_0 : Int) (a0_1 : Int) (a0_2 : Nat) (a0_3 : Nat) (a0_4 : Nat) (a0_5 : Nat) (a0_6 : Nat) (a0_7 : Nat) (a0_8 : Nat) (a0_9 : Nat) (a0_10 : Nat) (a0_11 : Nat) (a0_12 : Int) (a0_13 : Nat) (a1_0 : Nat) (a1_1 : Nat) (a1_2 : Nat) (a1_3 : Nat) (a1_4 : Nat) (a1_5 : Nat) (a1_6 : Nat) (a1_7 : Nat) (a1_8 : Nat) (a1_9 : Nat) (a2_0 : Nat) : Nat := (bif (!(feq a1_6 0)) then (fadd a1_9 (fmul a1_6 (fmul a2_0 a0_7))) else a1_9)
theorem e_rows_pushed (a0_0 : Int) (a0_1 : Int) (a0_2 : Nat) (a0_3 : Nat) (a0_4 : Nat) (a0_5 : Nat) (a0_6 : Nat) (a0_7 : Nat) (a0_8 : Nat) (a0_9 : Nat) (a0_10 : Nat) (a0_11 : Nat) (a0_12 : Int) (a0_13 : Nat) (a1_0 : Nat) (a1_1 : Nat) (a1_2 : Nat) (a1_3 : Nat) (a1_4 : Nat) (a1_5 : Nat) (a1_6 : Nat) (a1_7 : Nat) (a1_8 : Nat) (a1_9 : Nat) (a2_0 : Nat) : outB (evFnM Try.prog false menv19 [23] [] 64 Try.f51 [AV.agg [.int .i64 a0_0, .int .i64 a0_1, .float a0_2, .float a0_3, .float a0_4, .float a0_5, .float a0_6, .float a0_7, .float a0_8, .float a0_9, .float a0_10, .float a0_11, .int .i64 a0_12, .float a0_13], AV.agg [.float a1_0, .float a1_1, .float a1_2, .float a1_3, .float a1_4, .float a1_5, .float a1_6, .float a1_7, .float a1_8, .float a1_9], AV.float a2_0] []) = some ((true), AV.tup [AV.agg [AV.float (s_rows_pushed_0 a0_0 a0_1 a0_2 a0_3 a0_4 a0_5 a0_6 a0_7 a0_8 a0_9 a0_10 a0_11 a0_12 a0_13 a1_0 a1_1 a1_2 a1_3 a1_4 a1_5 a1_6 a1_7 a1_8 a1_9 a2_0), AV.float (s_rows_pushed_1 a0_0 a0_1 a0_2 a0_3 a0_4 a0_5 a0_6 a0_7 a0_8 a0_9 a0_10 a0_11 a0_12 a0_13 a1_0 a1_1 a1_2 a1_3 a1_4 a1_5 a1_6 a1_7 a1_8 a1_9 a2_0), AV.float (s_rows_pushed_2 a0_0 a0_1 a0_2 a0_3 a0_4 a0_5 a0_6 a0_7 a0_8 a0_9 a0_10 a0_11 a0_12 a0_13 a1_0 a1_1 a1_2 a1_3 a1_4 a1_5 a1_6 a1_7 a1_8 a1_9 a2_0), AV.float (s_rows_pushed_3 a0_0 a0_1 a0_2 a0_3 a0_4 a0_5 a0_6 a0_7 a0_8 a0_9 a0_10 a0_11 a0_12 a0_13 a1_0 a1_1 a1_2 a1_3 a1_4 a1_5 a1_6 a1_7 a1_8 a1_9 a2_0), AV.float (s_rows_pushed_4 a0_0 a0_1 a0_2 a0_3 a0_4 a0_5 a0_6 a0_7 a0_8 a0_9 a0_10 a0_11 a0_12 a0_13 a1_0 a1_1 a1_2 a1_3 a1_4 a1_5 a1_6 a1_7 a1_8 a1_9 a2_0)], AV.agg [AV.float (s_rows_pushed_5 a0_0 a0_1 a0_2 a0_3 a0_4 a0_5 a0_6 a0_7 a0_8 a0_9 a0_10 a0_11 a0_12 a0_13 a1_0 a1_1 a1_2 a1_3 a1_4 a1_5 a1_6 a1_7 a1_8 a1_9 a2_0), AV.float (s_rows_pushed_6 a0_0 a0_1 a0_2 a0_3 a0_4 a0_5 a0_6 a0_7 a0_8 a0_9 a0_10 a0_11 a0_12 a0_13 a1_0 a1_1 a1_2 a1_3 a1_4 a1_5 a1_6 a1_7 a1_8 a1_9 a2_0), AV.float (s_rows_pushed_7 a0_0 a0_1 a0_2 a0_3 a0_4 a0_5 a0_6 a0_7 a0_8 a0_9 a0_10 a0_11 a0_12 a0_13 a1_0 a1_1 a1_2 a1_3 a1_4 a1_5 a1_6 a1_7 a1_8 a1_9 a2_0), AV.float (s_rows_pushed_8 a0_0 a0_1 a0_2 a0_3 a0_4 a0_5 a0_6 a0_7 a0_8 a0_9 a0_10 a0_11 a0_12 a0_13 a1_0 a1_1 a1_2 a1_3 a1_4 a1_5 a1_6 a1_7 a1_8 a1_9 a2_0), AV.float (s_rows_pushed_9 a0_0 a0_1 a0_2 a0_3 a0_4 a0_5 a0_6 a0_7 a0_8 a0_9 a0_10 a0_11 a0_12 a0_13 a1_0 a1_1 a1_2 a1_3 a1_4 a1_5 a1_6 a1_7 a1_8 a1_9 a2_0)]]) := by kernel_rfl
noncomputable def S_rows_pushed : List AV → Option (Ob × AV)
  | [AV.agg [.int .i64 a0_0, .int .i64 a0_1, .float a0_2, .float a0_3, .float a0_4, .float a0_5, .float a0_6, .float a0_7, .float a0_8, .float a0_9, .float a0_10, .float a0_11, .int .i64 a0_12, .float a0_13], AV.agg [.float a1_0, .float a1_1, .float a1_2, .float a1_3, .float a1_4, .float a1_5, .float a1_6, .float a1_7, .float a1_8, .float a1_9], AV.float a2_0] => some (Ob.tt, AV.tup [AV.agg [AV.float (s_rows_pushed_0 a0_0 a0_1 a0_2 a0_3 a0_4 a0_5 a0_6 a0_7 a0_8 a0_9 a0_10 a0_11 a0_12 a0_13 a1_0 a1_1 a1_2 a1_3 a1_4 a1_5 a1_6 a1_7 a1_8 a1_9 a2_0), AV.float (s_rows_pushed_1 a0_0 a0_1 a0_2 a0_3 a0_4 a0_5 a0_6 a0_7 a0_8 a0_9 a0_10 a0_11 a0_12 a0_13 a1_0 a1_1 a1_2 a1_3 a1_4 a1_5 a1_6 a1_7 a1_8 a1_9 a2_0), AV.float (s_rows_pushed_2 a0_0 a0_1 a0_2 a0_3 a0_4 a0_5 a0_6 a0_7 a0_8 a0_9 a0_10 a0_11 a0_12 a0_13 a1_0 a1_1 a1_2 a1_3 a1_4 a1_5 a1_6 a1_7 a1_8 a1_9 a2_0), AV.float (s_rows_pushed_3 a0_0 a0_1 a0_2 a0_3 a0_4 a0_5 a0_6 a0_7 a0_8 a0_9 a0_10 a0_11 a0_12 a0_13 a1_0 a1_1 a1_2 a1_3 a1_4 a1_5 a1_6 a1_7 a1_8 a1_9 a2_0), AV.float (s_rows_pushed_4 a0_0 a0_1 a0_2 a0_3 a0_4 a0_5 a0_6 a0_7 a0_8 a0_9 a0_10 a0_11 a0_12 a0_13 a1_0 a1_1 a1_2 a1_3 a1_4 a1_5 a1_6 a1_7 a1_8 a1_9 a2_0)], AV.agg [AV.float (s_rows_pushed_5 a0_0 a0_1 a0_2 a0_3 a0_4 a0_5 a0_6 a0_7 a0_8 a0_9 a0_10 a0_11 a0_12 a0_13 a1_0 a1_1 a1_2 a1_3 a1_4 a1_5 a1_6 a1_7 a1_8 a1_9 a2_0), AV.float (s_rows_pushed_6 a0_0 a0_1 a0_2 a0_3 a0_4 a0_5 a0_6 a0_7 a0_8 a0_9 a0_10 a0_11 a0_12 a0_13 a1_0 a1_1 a1_2 a1_3 a1_4 a1_5 a1_6 a1_7 a1_8 a1_9 a2_0), AV.float (s_rows_pushed_7 a0_0 a0_1 a0_2 a0_3 a0_4 a0_5 a0_6 a0_7 a0_8 a0_9 a0_10 a0_11 a0_12 a0_13 a1_0 a1_1 a1_2 a1_3 a1_4 a1_5 a1_6 a1_7 a1_8 a1_9 a2_0), AV.float (s_rows_pushed_8 a0_0 a0_1 a0_2 a0_3 a0_4 a0_5 a0_6 a0_7 a0_8 a0_9 a0_10 a0_11 a0_12 a0_13 a1_0 a1_1 a1_2 a1_3 a1_4 a1_5 a1_6 a1_7 a1_8 a1_9 a2_0), AV.float (s_rows_pushed_9 a0_0 a0_1 a0_2 a0_3 a0_4 a0_5 a0_6 a0_7 a0_8 a0_9 a0_10 a0_11 a0_12 a0_13 a1_0 a1_1 a1_2 a1_3 a1_4 a1_5 a1_6 a1_7 a1_8 a1_9 a2_0)]])
  | _ => none
theorem t_rows_pushed : ROkM Try.prog false (51, pureM S_rows_pushed) := ROkM.pure (N := 64) menv19_ok Try.func51 Try.call51 fun args o v h => by
  unfold S_rows_pushed at h
  split at h
  · rename_i a0_0 a0_1 a0_2 a0_3 a0_4 a0_5 a0_6 a0_7 a0_8 a0_9 a0_10 a0_11 a0_12 a0_13 a1_0 a1_1 a1_2 a1_3 a1_4 a1_5 a1_6 a1_7 a1_8 a1_9 a2_0
    cases h
    exact ⟨rfl, rfl, _, e_rows_pushed a0_0 a0_1 a0_2 a0_3 a0_4 a0_5 a0_6 a0_7 a0_8 a0_9 a0_10 a0_11 a0_12 a0_13 a1_0 a1_1 a1_2 a1_3 a1_4 a1_5 a1_6 a1_7 a1_8 a1_9 a2_0, fun _ => rfl⟩
  · cases h
noncomputable def mrs17 : List (FuncId × RFM) := (51, pureM S_rows_pushed) :: mrs16
noncomputable def menv20 : EnvM := mkEnvM mxs mrs17 mws3
theorem mrs17_ok : All (ROkM Try.prog false) mrs17 := All.cons t_rows_pushed mrs16_ok
theorem menv20_ok : menv20.Ok Try.prog false := mkEnvM_ok mxs_ok mrs17_ok mws3_ok
-- tumble/rows.One
noncomputable def s_rows_One_0 (a0_0 : Int) (a0_1 : Int) (a0_2 : Nat) (a0_3 : Nat) (a0_4 : Nat) (a0_5 : Nat) (a0_6 : Nat) (a0_7 : Nat) (a0_8 : Nat) (a0_9 : Nat) (a0_10 : Nat) (a0_11 : Nat) (a0_12 : Int) (a0_13 : Nat) (a1_0 : Nat) (a1_1 : Nat) (a1_2 : Nat) (a1_3 : Nat) (a1_4 : Nat) (a2_0 : Nat) (a2_1 : Nat) (a2_2 : Nat) (a2_3 : Nat) (a2_4 : Nat) : Int := let x0 : Nat := (s_rows_weight_0 a0_0 a0_1 a0_2 a0_3 a0_4 a0_5 a0_6 a0_7 a0_8 a0_9 a0_10 a0_11 a0_12 a0_13 a1_0 a1_1 a1_2 a1_3 a1_4 a2_0 a2_1 a2_2 a2_3 a2_4); let x1 : Nat := (fsub a0_8 (s_rows_speed_0 a0_0 a0_1 a0_2 a0_3 a0_4 a0_5 a0_6 a0_7 a0_8 a0_9 a0_10 a0_11 a0_12 a0_13 a1_0 a1_1 a1_2 a1_3 a1_4 a2_0 a2_1 a2_2 a2_3 a2_4)); let x2 : Nat := (s_num_Clamp_float64__0 (fadd a0_11 (fdiv x1 x0)) a0_9 a0_10); let x3 : Bool := (s_rows_finite_1_0 x2); let x4 : Bool := (s_rows_finite_1_0 x0); (bif (!(ieq (s_rows_asked_0 a0_0 a0_1 a0_2 a0_3 a0_4 a0_5 a0_6 a0_7 a0_8 a0_9 a0_10 a0_11 a0_12 a0_13 a1_0 a1_1 a1_2 a1_3 a1_4 a2_0 a2_1 a2_2 a2_3 a2_4) (0 : Int))) then (0 : Int) else (bif ((!(flt 0 x0)) || (!(!(ile (0 : Int) (bif (x4 || (s_rows_finite_1_0 x1)) then (bif x4 then (0 : Int) else (1 : Int)) else (-1 : Int)))))) then a0_0 else (bif (!(!(ile (0 : Int) (bif (x3 || (s_rows_finite_1_0 (fsub x2 a0_11))) then (bif x3 then (0 : Int) else (1 : Int)) else (-1 : Int))))) then a0_0 else a0_0)))
noncomputable def s_rows_One_1 (a0_0 : Int) (a0_1 : Int) (a0_2 : Nat) (a0_3 : Nat) (a0_4 : Nat) (a0_5 : Nat) (a0_6 : Nat) (a0_7 : Nat) (a0_8 : Nat) (a0_9 : Nat) (a0_10 : Nat) (a0_11 : Nat) (a0_12 : Int) (a0_13 : Nat) (a1_0 : Nat) (a1_1 : Nat) (a1_2 : Nat) (a1_3 : Nat) (a1_4 : Nat) (a2_0 : Nat) (a2_1 : Nat) (a2_2 : Nat) (a2_3 : Nat) (a2_4 : Nat) : Int := let x0 : Nat := (s_rows_weight_0 a0_0 a0_1 a0_2 a0_3 a0_4 a0_5 a0_6 a0_7 a0_8 a0_9 a0_10 a0_11 a0_12 a0_13 a1_0 a1_1 a1_2 a1_3 a1_4 a2_0 a2_1 a2_2 a2_3 a2_4); let x1 : Nat := (fsub a0_8 (s_rows_speed_0 a0_0 a0_1 a0_2 a0_3 a0_4 a0_5 a0_6 a0_7 a0_8 a0_9 a0_10 a0_11 a0_12 a0_13 a1_0 a1_1 a1_2 a1_3 a1_4 a2_0 a2_1 a2_2 a2_3 a2_4)); let x2 : Nat := (s_num_Clamp_float64__0 (fadd a0_11 (fdiv x1 x0)) a0_9 a0_10); let x3 : Bool := (s_rows_finite_1_0 x2); let x4 : Bool := (s_rows_finite_1_0 x0); (bif (!(ieq (s_rows_asked_0 a0_0 a0_1 a0_2 a0_3 a0_4 a0_5 a0_6 a0_7 a0_8 a0_9 a0_10 a0_11 a0_12 a0_13 a1_0 a1_1 a1_2 a1_3 a1_4 a2_0 a2_1 a2_2 a2_3 a2_4) (0 : Int))) then (0 : Int) else (bif ((!(flt 0 x0)) || (!(!(ile (0 : Int) (bif (x4 || (s_rows_finite_1_0 x1)) then (bif x4 then (0 : Int) else (1 : Int)) else (-1 : Int)))))) then a0_1 else (bif (!(!(ile (0 : Int) (bif (x3 || (s_rows_finite_1_0 (fsub x2 a0_11))) then (bif x3 then (0 : Int) else (1 : Int)) else (-1 : Int))))) then a0_1 else a0_1)))
noncomputable def s_rows_One_2 (a0_0 : Int) (a0_1 : Int) (a0_2 : Nat) (a0_3 : Nat) (a0_4 : Nat) (a0_5 : Nat) (a0_6 : Nat) (a0_7 : Nat) (a0_8 : Nat) (a0_9 : Nat) (a0_10 : Nat) (a0_11 : Nat) (a0_12 : Int) (a0_13 : Nat) (a1_0 : Nat) (a1_1 : Nat) (a1_2 : Nat) (a1_3 : Nat) (a1_4 : Nat) (a2_0 : Nat) (a2_1 : Nat) (a2_2 : Nat) (a2_3 : Nat) (a2_4 : Nat) : Nat := let x0 : Nat := (s_rows_weight_0 a0_0 a0_1 a0_2 a0_3 a0_4 a0_5 a0_6 a0_7 a0_8 a0_9 a0_10 a0_11 a0_12 a0_13 a1_0 a1_1 a1_2 a1_3 a1_4 a2_0 a2_1 a2_2 a2_3 a2_4); let x1 : Nat := (fsub a0_8 (s_rows_speed_0 a0_0 a0_1 a0_2 a0_3 a0_4 a0_5 a0_6 a0_7 a0_8 a0_9 a0_10 a0_11 a0_12 a0_13 a1_0 a1_1 a1_2 a1_3 a1_4 a2_0 a2_1 a2_2 a2_3 a2_4)); let x2 : Nat := (s_num_Clamp_float64__0 (fadd a0_11 (fdiv x1 x0)) a0_9 a0_10); let x3 : Bool := (s_rows_finite_1_0 x2); let x4 : Bool := (s_rows_finite_1_0 x0); (bif (!(ieq (s_rows_asked_0 a0_0 a0_1 a0_2 a0_3 a0_4 a0_5 a0_6 a0_7 a0_8 a0_9 a0_10 a0_11 a0_12 a0_13 a1_0 a1_1 a1_2 a1_3 a1_4 a2_0 a2_1 a2_2 a2_3 a2_4) (0 : Int))) then 0 else (bif ((!(flt 0 x0)) || (!(!(ile (0 : Int) (bif (x4 || (s_rows_finite_1_0 x1)) then (bif x4 then (0 : Int) else (1 : Int)) else (-1 : Int)))))) then a0_2 else (bif (!(!(ile (0 : Int) (bif (x3 || (s_rows_finite_1_0 (fsub x2 a0_11))) then (bif x3 then (0 : Int) else (1 : Int)) else (-1 : Int))))) then a0_2 else a0_2)))
noncomputable def s_rows_One_3 (a0_0 : Int) (a0_1 : Int) (a0_2 : Nat) (a0_3 : Nat) (a0_4 : Nat) (a0_5 : Nat) (a0_6 : Nat) (a0_7 : Nat) (a0_8 : Nat) (a0_9 : Nat) (a0_10 : Nat) (a0_11 : Nat) (a0_12 : Int) (a0_13 : Nat) (a1_0 : Nat) (a1_1 : Nat) (a1_2 : Nat) (a1_3 : Nat) (a1_4 : Nat) (a2_0 : Nat) (a2_1 : Nat) (a2_2 : Nat) (a2_3 : Nat) (a2_4 : Nat) : Nat := let x0 : Nat := (s_rows_weight_0 a0_0 a0_1 a0_2 a0_3 a0_4 a0_5 a0_6 a0_7 a0_8 a0_9 a0_10 a0_11 a0_12 a0_13 a1_0 a1_1 a1_2 a1_3 a1_4 a2_0 a2_1 a2_2 a2_3 a2_4); let x1 : Nat := (fsub a0_8 (s_rows_speed_0 a0_0 a0_1 a0_2 a0_3 a0_4 a0_5 a0_6 a0_7 a0_8 a0_9 a0_10 a0_11 a0_12 a0_13 a1_0 a1_1 a1_2 a1_3 a1_4 a2_0 a2_1 a2_2 a2_3 a2_4)); let x2 : Nat := (s_num_Clamp_float64__0 (fadd a0_11 (fdiv x1 x0)) a0_9 a0_10); let x3 : Bool := (s_rows_finite_1_0 x2); let x4 : Bool := (s_rows_finite_1_0 x0); (bif (!(ieq (s_rows_asked_0 a0_0 a0_1 a0_2 a0_3 a0_4 a0_5 a0_6 a0_7 a0_8 a0_9 a0_10 a0_11 a0_12 a0_13 a1_0 a1_1 a1_2 a1_3 a1_4 a2_0 a2_1 a2_2 a2_3 a2_4) (0 : Int))) then 0 else (bif ((!(flt 0 x0)) || (!(!(ile (0 : Int) (bif (x4 || (s_rows_finite_1_0 x1)) then (bif x4 then (0 : Int) else (1 : Int)) else (-1 : Int)))))) then a0_3 else (bif (!(!(ile (0 : Int) (bif (x3 || (s_rows_finite_1_0 (fsub x2 a0_11))) then (bif x3 then (0 : Int) else (1 : Int)) else (-1 : Int))))) then a0_3 else a0_3)))
noncomputable def s_rows_One_4 (a0_0 : Int) (a0_1 : Int) (a0_2 : Nat) (a0_3 : Nat) (a0_4 : Nat) (a0_5 : Nat) (a0_6 : Nat) (a0_7 : Nat) (a0_8 : Nat) (a0_9 : Nat) (a0_10 : Nat) (a0_11 : Nat) (a0_12 : Int) (a0_13 : Nat) (a1_0 : Nat) (a1_1 : Nat) (a1_2 : Nat) (a1_3 : Nat) (a1_4 : Nat) (a2_0 : Nat) (a2_1 : Nat) (a2_2 : Nat) (a2_3 : Nat) (a2_4 : Nat) : Nat := let x0 : Nat := (s_rows_weight_0 a0_0 a0_1 a0_2 a0_3 a0_4 a0_5 a0_6 a0_7 a0_8 a0_9 a0_10 a0_11 a0_12 a0_13 a1_0 a1_1 a1_2 a1_3 a1_4 a2_0 a2_1 a2_2 a2_3 a2_4); let x1 : Nat := (fsub a0_8 (s_rows_speed_0 a0_0 a0_1 a0_2 a0_3 a0_4 a0_5 a0_6 a0_7 a0_8 a0_9 a0_10 a0_11 a0_12 a0_13 a1_0 a1_1 a1_2 a1_3 a1_4 a2_0 a2_1 a2_2 a2_3 a2_4)); let x2 : Nat := (s_num_Clamp_float64__0 (fadd a0_11 (fdiv x1 x0)) a0_9 a0_10); let x3 : Bool := (s_rows_finite_1_0 x2); let x4 : Bool := (s_rows_finite_1_0 x0); (bif (!(ieq (s_rows_asked_0 a0_0 a0_1 a0_2 a0_3 a0_4 a0_5 a0_6 a0_7 a0_8 a0_9 a0_10 a0_11 a0_12 a0_13 a1_0 a1_1 a1_2 a1_3 a1_4 a2_0 a2_1 a2_2 a2_3 a2_4) (0 : Int))) then 0 else (bif ((!(flt 0 x0)) || (!(!(ile (0 : Int) (bif (x4 || (s_rows_finite_1_0 x1)) then (bif x4 then (0 : Int) else (1 : Int)) else (-1 : Int)))))) then a0_4 else (bif (!(!(ile (0 : Int) (bif (x3 || (s_rows_finite_1_0 (fsub x2 a0_11))) then (bif x3 then (0 : Int) else (1 : Int)) else (-1 : Int))))) then a0_4 else a0_4)))
noncomputable def s_rows_One_5 (a0_0 : Int) (a0_1 : Int) (a0_2 : Nat) (a0_3 : Nat) (a0_4 : Nat) (a0_5 : Nat) (a0_6 : Nat) (a0_7 : Nat) (a0_8 : Nat) (a0_9 : Nat) (a0_10 : Nat) (a0_11 : Nat) (a0_12 : Int) (a0_13 : Nat) (a1_0 : Nat) (a1_1 : Nat) (a1_2 : Nat) (a1_3 : Nat) (a1_4 : Nat) (a2_0 : Nat) (a2_1 : Nat) (a2_2 : Nat) (a2_3 : Nat) (a2_4 : Nat) : Nat := let x0 : Nat := (s_rows_weight_0 a0_0 a0_1 a0_2 a0_3 a0_4 a0_5 a0_6 a0_7 a0_8 a0_9 a0_10 a0_11 a0_12 a0_13 a1_0 a1_1 a1_2 a1_3 a1_4 a2_0 a2_1 a2_2 a2_3 a2_4); let x1 : Nat := (fsub a0_8 (s_rows_speed_0 a0_0 a0_1 a0_2 a0_3 a0_4 a0_5 a0_6 a0_7 a0_8 a0_9 a0_10 a0_11 a0_12 a0_13 a1_0 a1_1 a1_2 a1_3 a1_4 a2_0 a2_1 a2_2 a2_3 a2_4)); let x2 : Nat := (s_num_Clamp_float64__0 (fadd a0_11 (fdiv x1 x0)) a0_9 a0_10); let x3 : Bool := (s_rows_finite_1_0 x2); let x4 : Bool := (s_rows_finite_1_0 x0); (bif (!(ieq (s_rows_asked_0 a0_0 a0_1 a0_2 a0_3 a0_4 a0_5 a0_6 a0_7 a0_8 a0_9 a0_10 a0_11 a0_12 a0_13 a1_0 a1_1 a1_2 a1_3 a1_4 a2_0 a2_1 a2_2 a2_3 a2_4) (0 : Int))) then 0 else (bif ((!(flt 0 x0)) || (!(!(ile (0 : Int) (bif (x4 || (s_rows_finite_1_0 x1)) then (bif x4 then (0 : Int) else (1 : Int)) else (-1 : Int)))))) then a0_5 else (bif (!(!(ile (0 : Int) (bif (x3 || (s_rows_finite_1_0 (fsub x2 a0_11))) then (bif x3 then (0 : Int) else (1 : Int)) else (-1 : Int))))) then a0_5 else a0_5)))
noncomputable def s_rows_One_6 (a0_0 : Int) (a0_1 : Int) (a0_2 : Nat) (a0_3 : Nat) (a0_4 : Nat) (a0_5 : Nat) (a0_6 : Nat) (a0_7 : Nat) (a0_8 : Nat) (a0_9 : Nat) (a0_10 : Nat) (a0_11 : Nat) (a0_12 : Int) (a0_13 : Nat) (a1_0 : Nat) (a1_1 : Nat) (a1_2 : Nat) (a1_3 : Nat) (a1_4 : Nat) (a2_0 : Nat) (a2_1 : Nat) (a2_2 : Nat) (a2_3 : Nat) (a2_4 : Nat) : Nat := let x0 : Nat := (s_rows_weight_0 a0_0 a0_1 a0_2 a0_3 a0_4 a0_5 a0_6 a0_7 a0_8 a0_9 a0_10 a0_11 a0_12 a0_13 a1_0 a1_1 a1_2 a1_3 a1_4 a2_0 a2_1 a2_2 a2_3 a2_4); let x1 : Nat := (fsub a0_8 (s_rows_speed_0 a0_0 a0_1 a0_2 a0_3 a0_4 a0_5 a0_6 a0_7 a0_8 a0_9 a0_10 a0_11 a0_12 a0_13 a1_0 a1_1 a1_2 a1_3 a1_4 a2_0 a2_1 a2_2 a2_3 a2_4)); let x2 : Nat := (s_num_Clamp_float64__0 (fadd a0_11 (fdiv x1 x0)) a0_9 a0_10); let x3 : Bool := (s_rows_finite_1_0 x2); let x4 : Bool := (s_rows_finite_1_0 x0); (bif (!(ieq (s_rows_asked_0 a0_0 a0_1 a0_2 a0_3 a0_4 a0_5 a0_6 a0_7 a0_8 a0_9 a0_10 a0_11 a0_12 a0_13 a1_0 a1_1 a1_2 a1_3 a1_4 a2_0 a2_1 a2_2 a2_3 a2_4) (0 : Int))) then 0 else (bif ((!(flt 0 x0)) || (!(!(ile (0 : Int) (bif (x4 || (s_rows_finite_1_0 x1)) then (bif x4 then (0 : Int) else (1 : Int)) else (-1 : Int)))))) then a0_6 else (bif (!(!(ile (0 : Int) (bif (x3 || (s_rows_finite_1_0 (fsub x2 a0_11))) then (bif x3 then (0 : Int) else (1 : Int)) else (-1 : Int))))) then a0_6 else a0_6)))
noncomputable def s_rows_One_7 (a0_0 : Int) (a0_1 : Int) (a0_2 : Nat) (a0_3 : Nat) (a0_4 : Nat) (a0_5 : Nat) (a0_6 : Nat) (a0_7 : Nat) (a0_8 : Nat) (a0_9 : Nat) (a0_10 : Nat) (a0_11 : Nat) (a0_12 : Int) (a0_13 : Nat) (a1_0 : Nat) (a1_1 : Nat) (a1_2 : Nat) (a1_3 : Nat) (a1_4 : Nat) (a2_0 : Nat) (a2_1 : Nat) (a2_2 : Nat) (a2_3 : Nat) (a2_4 : Nat) : Nat := let x0 : Nat := (s_rows_weight_0 a0_0 a0_1 a0_2 a0_3 a0_4 a0_5 a0_6 a0_7 a0_8 a0_9 a0_10 a0_11 a0_12 a0_13 a1_0 a1_1 a1_2 a1_3 a1_4 a2_0 a2_1 a2_2 a2_3 a2_4); let x1 : Nat := (fsub a0_8 (s_rows_speed_0 a0_0 a0_1 a0_2 a0_3 a0_4 a0_5 a0_6 a0_7 a0_8 a0_9 a0_10 a0_11 a0_12 a0_13 a1_0 a1_1 a1_2 a1_3 a1_4 a2_0 a2_1 a2_2 a2_3 a2_4)); let x2 : Nat := (s_num_Clamp_float64__0 (fadd a0_11 (fdiv x1 x0)) a0_9 a0_10); let x3 : Bool := (s_rows_finite_1_0 x2); let x4 : Bool := (s_rows_finite_1_0 x0); (bif (!(ieq (s_rows_asked_0 a0_0 a0_1 a0_2 a0_3 a0_4 a0_5 a0_6 a0_7 a0_8 a0_9 a0_10 a0_11 a0_12 a0_13 a1_0 a1_1 a1_2 a1_3 a1_4 a2_0 a2_1 a2_2 a2_3 a2_4) (0 : Int))) then 0 else (bif ((!(flt 0 x0)) || (!(!(ile (0 : Int) (bif (x4 || (s_rows_finite_1_0 x1)) then (bif x4 then (0 : Int) else (1 : Int)) else (-1 : Int)))))) then a0_7 else (bif (!(!(ile (0 : Int) (bif (x3 || (s_rows_finite_1_0 (fsub x2 a0_11))) then (bif x3 then (0 : Int) else (1 : Int)) else (-1 : Int))))) then a0_7 else a0_7)))
noncomputable def s_rows_One_8 (a0_0 : Int) (a0_1 : Int) (a0_2 : Nat) (a0_3 : Nat) (a0_4 : Nat) (a0_5 : Nat) (a0_6 : Nat) (a0_7 : Nat) (a0_8 : Nat) (a0_9 : Nat) (a0_10 : Nat) (a0_11 : Nat) (a0_12 : Int) (a0_13 : Nat) (a1_0 : Nat) (a1_1 : Nat) (a1_2 : Nat) (a1_3 : Nat) (a1_4 : Nat) (a2_0 : Nat) (a2_1 : Nat) (a2_2 : Nat) (a2_3 : Nat) (a2_4 : Nat) : Nat := let x0 : Nat := (s_rows_weight_0 a0_0 a0_1 a0_2 a0_3 a0_4 a0_5 a0_6 a0_7 a0_8 a0_9 a0_10 a0_11 a0_12 a0_13 a1_0 a1_1 a1_2 a1_3 a1_4 a2_0 a2_1 a2_2 a2_3 a2_4); let x1 : Nat := (fsub a0_8 (s_rows_speed_0 a0_0 a0_1 a0_2 a0_3 a0_4 a0_5 a0_6 a0_7 a0_8 a0_9 a0_10 a0_11 a0_12 a0_13 a1_0 a1_1 a1_2 a1_3 a1_4 a2_0 a2_1 a2_2 a2_3 a2_4)); let x2 : Nat := (s_num_Clamp_float64__0 (fadd a0_11 (fdiv x1 x0)) a0_9 a0_10); let x3 : Bool := (s_rows_finite_1_0 x2); let x4 : Bool := (s_rows_finite_1_0 x0); (bif (!(ieq (s_rows_asked_0 a0_0 a0_1 a0_2 a0_3 a0_4 a0_5 a0_6 a0_7 a0_8 a0_9 a0_10 a0_11 a0_12 a0_13 a1_0 a1_1 a1_2 a1_3 a1_4 a2_0 a2_1 a2_2 a2_3 a2_4) (0 : Int))) then 0 else (bif ((!(flt 0 x0)) || (!(!(ile (0 : Int) (bif (x4 || (s_rows_finite_1_0 x1)) then (bif x4 then (0 : Int) else (1 : Int)) else (-1 : Int)))))) then a0_8 else (bif (!(!(ile (0 : Int) (bif (x3 || (s_rows_finite_1_0 (fsub x2 a0_11))) then (bif x3 then (0 : Int) else (1 : Int)) else (-1 : Int))))) then a0_8 else a0_8)))
noncomputable def s_rows_One_9 (a0_0 : Int) (a0_1 : Int) (a0_2 : Nat) (a0_3 : Nat) (a0_4 : Nat) (a0_5 : Nat) (a0_6 : Nat) (a0_7 : Nat) (a0_8 : Nat) (a0_9 : Nat) (a0_10 : Nat) (a0_11 : Nat) (a0_12 : Int) (a0_13 : Nat) (a1_0 : Nat) (a1_1 : Nat) (a1_2 : Nat) (a1_3 : Nat) (a1_4 : Nat) (a2_0 : Nat) (a2_1 : Nat) (a2_2 : Nat) (a2_3 : Nat) (a2_4 : Nat) : Nat := let x0 : Nat := (s_rows_weight_0 a0_0 a0_1 a0_2 a0_3 a0_4 a0_5 a0_6 a0_7 a0_8 a0_9 a0_10 a0_11 a0_12 a0_13 a1_0 a1_1 a1_2 a1_3 a1_4 a2_0 a2_1 a2_2 a2_3 a2_4); let x1 : Nat := (fsub a0_8 (s_rows_speed_0 a0_0 a0_1 a0_2 a0_3 a0_4 a0_5 a0_6 a0_7 a0_8 a0_9 a0_10 a0_11 a0_12 a0_13 a1_0 a1_1 a1_2 a1_3 a1_4 a2_0 a2_1 a2_2 a2_3 a2_4)); let x2 : Nat := (s_num_Clamp_float64__0 (fadd a0_11 (fdiv x1 x0)) a0_9 a0_10); let x3 : Bool := (s_rows_finite_1_0 x2); let x4 : Bool := (s_rows_finite_1_0 x0); (bif (!(ieq (s_rows_asked_0 a0_0 a0_1 a0_2 a0_3 a0_4 a0_5 a0_6 a0_7 a0_8 a0_9 a0_10 a0_11 a0_12 a0_13 a1_0 a1_1 a1_2 a1_3 a1_4 a2_0 a2_1 a2_2 a2_3 a2_4) (0 : Int))) then 0 else (bif ((!(flt 0 x0)) || (!(!(ile (0 : Int) (bif (x4 || (s_rows_finite_1_0 x1)) then (bif x4 then (0 : Int) else (1 : Int)) else (-1 : Int)))))) then a0_9 else (bif (!(!(ile (0 : Int) (bif (x3 || (s_rows_finite_1_0 (fsub x2 a0_11))) then (bif x3 then (0 : Int) else (1 : Int)) else (-1 : Int))))) then a0_9 else a0_9)))
noncomputable def s_rows_One_10 (a0_0 : Int) (a0_1 : Int) (a0_2 : Nat) (a0_3 : Nat) (a0_4 : Nat) (a0_5 : Nat) (a0_6 : Nat) (a0_7 : Nat) (a0_8 : Nat) (a0_9 : Nat) (a0_10 : Nat) (a0_11 : Nat) (a0_12 : Int) (a0_13 : Nat) (a1_0 : Nat) (a1_1 : Nat) (a1_2 : Nat) (a1_3 : Nat) (a1_4 : Nat) (a2_0 : Nat) (a2_1 : Nat) (a2_2 : Nat) (a2_3 : Nat) (a2_4 : Nat) : Nat := let x0 : Nat := (s_rows_weight_0 a0_0 a0_1 a0_2 a0_3 a0_4 a0_5 a0_6 a0_7 a0_8 a0_9 a0_10 a0_11 a0_12 a0_13 a1_0 a1_1 a1_2 a1_3 a1_4 a2_0 a2_1 a2_2 a2_3 a2_4); let x1 : Nat := (fsub a0_8 (s_rows_speed_0 a0_0 a0_1 a0_2 a0_3 a0_4 a0_5 a0_6 a0_7 a0_8 a0_9 a0_10 a0_11 a0_12 a0_13 a1_0 a1_1 a1_2 a1_3 a1_4 a2_0 a2_1 a2_2 a2_3 a2_4)); let x2 : Nat := (s_num_Clamp_float64__0 (fadd a0_11 (fdiv x1 x0)) a0_9 a0_10); let x3 : Bool := (s_rows_finite_1_0 x2); let x4 : Bool := (s_rows_finite_1_0 x0); (bif (!(ieq (s_rows_asked_0 a0_0 a0_1 a0_2 a0_3 a0_4 a0_5 a0_6 a0_7 a0_8 a0_9 a0_10 a0_11 a0_12 a0_13 a1_0 a1_1 a1_2 a1_3 a1_4 a2_0 a2_1 a2_2 a2_3 a2_4) (0 : Int))) then 0 else (bif ((!(flt 0 x0)) || (!(!(ile (0 : Int) (bif (x4 || (s_rows_finite_1_0 x1)) then (bif x4 then (0 : Int) else (1 : Int)) else (-1 : Int)))))) then a0_10 else (bif (!(!(ile (0 : Int) (bif (x3 || (s_rows_finite_1_0 (fsub x2 a0_11))) then (bif x3 then (0 : Int) else (1 : Int)) else (-1 : Int))))) then a0_10 else a0_10)))
noncomputable def s_rows_One_11 (a0_0 : Int) (a0_1 : Int) (a0_2 : Nat) (a0_3 : Nat) (a0_4 : Nat) (a0_5 : Nat) (a0_6 : Nat) (a0_7 : Nat) (a0_8 : Nat) (a0_9 : Nat) (a0_10 : Nat) (a0_11 : Nat) (a0_12 : Int) (a0_13 : Nat) (a1_0 : Nat) (a1_1 : Nat) (a1_2 : Nat) (a1_3 : Nat) (a1_4 : Nat) (a2_0 : Nat) (a2_1 : Nat) (a2_2 : Nat) (a2_3 : Nat) (a2_4 : Nat) : Nat := let x0 : Nat := (s_rows_weight_0 a0_0 a0_1 a0_2 a0_3 a0_4 a0_5 a0_6 a0_7 a0_8 a0_9 a0_10 a0_11 a0_12 a0_13 a1_0 a1_1 a1_2 a1_3 a1_4 a2_0 a2_1 a2_2 a2_3 a2_4); let x1 : Nat := (fsub a0_8 (s_rows_speed_0 a0_0 a0_1 a0_2 a0_3 a0_4 a0_5 a0_6 a0_7 a0_8 a0_9 a0_10 a0_11 a0_12 a0_13 a1_0 a1_1 a1_2 a1_3 a1_4 a2_0 a2_1 a2_2 a2_3 a2_4)); let x2 : Nat := (s_num_Clamp_float64__0 (fadd a0_11 (fdiv x1 x0)) a0_9 a0_10); let x3 : Bool := (s_rows_finite_1_0 x2); let x4 : Bool := (s_rows_finite_1_0 x0); (bif (!(ieq (s_rows_asked_0 a0_0 a0_1 a0_2 a0_3 a0_4 a0_5 a0_6 a0_7 a0_8 a0_9 a0_10 a0_11 a0_12 a0_13 a1_0 a1_1 a1_2 a1_3 a1_4 a2_0 a2_1 a2_2 a2_3 a2_4) (0 : Int))) then 0 else (bif ((!(flt 0 x0)) || (!(!(ile (0 : Int) (bif (x4 || (s_rows_finite_1_0 x1)) then (bif x4 then (0 : Int) else (1 : Int)) else (-1 : Int)))))) then a0_11 else (bif (!(!(ile (0 : Int) (bif (x3 || (s_rows_finite_1_0 (fsub x2 a0_11))) then (bif x3 then (0 : Int) else (1 : Int)) else (-1 : Int))))) then a0_11 else x2)))
noncomputable def s_rows_One_12 (a0_0 : Int) (a0_1 : Int) (a0_2 : Nat) (a0_3 : Nat) (a0_4 : Nat) (a0_5 : Nat) (a0_6 : Nat) (a0_7 : Nat) (a0_8 : Nat) (a0_9 : Nat) (a0_10 : Nat) (a0_11 : Nat) (a0_12 : Int) (a0_13 : Nat) (a1_0 : Nat) (a1_1 : Nat) (a1_2 : Nat) (a1_3 : Nat) (a1_4 : Nat) (a2_0 : Nat) (a2_1 : Nat) (a2_2 : Nat) (a2_3 : Nat) (a2_4 : Nat) : Int := let x0 : Nat := (s_rows_weight_0 a0_0 a0_1 a0_2 a0_3 a0_4 a0_5 a0_6 a0_7 a0_8 a0_9 a0_10 a0_11 a0_12 a0_13 a1_0 a1_1 a1_2 a1_3 a1_4 a2_0 a2_1 a2_2 a2_3 a2_4); let x1 : Nat := (fsub a0_8 (s_rows_speed_0 a0_0 a0_1 a0_2 a0_3 a0_4 a0_5 a0_6 a0_7 a0_8 a0_9 a0_10 a0_11 a0_12 a0_13 a1_0 a1_1 a1_2 a1_3 a1_4 a2_0 a2_1 a2_2 a2_3 a2_4)); let x2 : Nat := (s_num_Clamp_float64__0 (fadd a0_11 (fdiv x1 x0)) a0_9 a0_10); let x3 : Bool := (s_rows_finite_1_0 x2); let x4 : Bool := (s_rows_finite_1_0 x0); (bif (!(ieq (s_rows_asked_0 a0_0 a0_1 a0_2 a0_3 a0_4 a0_5 a0_6 a0_7 a0_8 a0_9 a0_10 a0_11 a0_12 a0_13 a1_0 a1_1 a1_2 a1_3 a1_4 a2_0 a2_1 a2_2 a2_3 a2_4) (0 : Int))) then (0 : Int) else (bif ((!(flt 0 x0)) || (!(!(ile (0 : Int) (bif (x4 || (s_rows_finite_1_0 x1)) then (bif x4 then (0 : Int) else (1 : Int)) else (-1 : Int)))))) then a0_12 else (bif (!(!(ile (0 : Int) (bif (x3 || (s_rows_finite_1_0 (fsub x2 a0_11))) then (bif x3 then (0 : Int) else (1 : Int)) else (-1 : Int))))) then a0_12 else a0_12)))
noncomputable def s_rows_One_13 (a0_0 : Int) (a0_1 : Int) (a0_2 : Nat) (a0_3 : Nat) (a0_4 : Nat) (a0_5 : Nat) (a0_6 : Nat) (a0_7 : Nat) (a0_8 : Nat) (a0_9 : Nat) (a0_10 : Nat) (a0_11 : Nat) (a0_12 : Int) (a0_13 : Nat) (a1_0 : Nat) (a1_1 : Nat) (a1_2 : Nat) (a1_3 : Nat) (a1_4 : Nat) (a2_0 : Nat) (a2_1 : Nat) (a2_2 : Nat) (a2_3 : Nat) (a2_4 : Nat) : Nat := let x0 : Nat := (s_rows_weight_0 a0_0 a0_1 a0_2 a0_3 a0_4 a0_5 a0_6 a0_7 a0_8 a0_9 a0_10 a0_11 a0_12 a0_13 a1_0 a1_1 a1_2 a1_3 a1_4 a2_0 a2_1 a2_2 a2_3 a2_4); let x1 : Nat := (fsub a0_8 (s_rows_speed_0 a0_0 a0_1 a0_2 a0_3 a0_4 a0_5 a0_6 a0_7 a0_8 a0_9 a0_10 a0_11 a0_12 a0_13 a1_0 a1_1 a1_2 a1_3 a1_4 a2_0 a2_1 a2_2 a2_3 a2_4)); let x2 : Nat := (s_num_Clamp_float64__0 (fadd a0_11 (fdiv x1 x0)) a0_9 a0_10); let x3 : Bool := (s_rows_finite_1_0 x2); let x4 : Bool := (s_rows_finite_1_0 x0); (bif (!(ieq (s_rows_asked_0 a0_0 a0_1 a0_2 a0_3 a0_4 a0_5 a0_6 a0_7 a0_8 a0_9 a0_10 a0_11 a0_12 a0_13 a1_0 a1_1 a1_2 a1_3 a1_4 a2_0 a2_1 a2_2 a2_3 a2_4) (0 : Int))) then 0 else (bif ((!(flt 0 x0)) || (!(!(ile (0 : Int) (bif (x4 || (s_rows_finite_1_0 x1)) then (bif x4 then (0 : Int) else (1 : Int)) else (-1 : Int)))))) then a0_13 else (bif (!(!(ile (0 : Int) (bif (x3 || (s_rows_finite_1_0 (fsub x2 a0_11))) then (bif x3 then (0 : Int) else (1 : Int)) else (-1 : Int))))) then a0_13 else a0_13)))
noncomputable def s_rows_One_14 (a0_0 : Int) (a0_1 : Int) (a0_2 : Nat) (a0_3 : Nat) (a0_4 : Nat) (a0_5 : Nat) (a0_6 : Nat) (a0_7 : Nat) (a0_8 : Nat) (a0_9 : Nat) (a0_10 : Nat) (a0_11 : Nat) (a0_12 : Int) (a0_13 : Nat) (a1_0 : Nat) (a1_1 : Nat) (a1_2 : Nat) (a1_3 : Nat) (a1_4 : Nat) (a2_0 : Nat) (a2_1 : Nat) (a2_2 : Nat) (a2_3 : Nat) (a2_4 : Nat) : Nat := let x0 : Nat := (s_rows_weight_0 a0_0 a0_1 a0_2 a0_3 a0_4 a0_5 a0_6 a0_7 a0_8 a0_9 a0_10 a0_11 a0_12 a0_13 a1_0 a1_1 a1_2 a1_3 a1_4 a2_0 a2_1 a2_2 a2_3 a2_4); let x1 : Nat := (fsub a0_8 (s_rows_speed_0 a0_0 a0_1 a0_2 a0_3 a0_4 a0_5 a0_6 a0_7 a0_8 a0_9 a0_10 a0_11 a0_12 a0_13 a1_0 a1_1 a1_2 a1_3 a1_4 a2_0 a2_1 a2_2 a2_3 a2_4)); let x2 : Nat := (s_num_Clamp_float64__0 (fadd a0_11 (fdiv x1 x0)) a0_9 a0_10); let x3 : Nat := (fsub x2 a0_11); let x4 : Bool := (s_rows_finite_1_0 x2); let x5 : Bool := (s_rows_finite_1_0 x0); (bif (!(ieq (s_rows_asked_0 a0_0 a0_1 a0_2 a0_3 a0_4 a0_5 a0_6 a0_7 a0_8 a0_9 a0_10 a0_11 a0_12 a0_13 a1_0 a1_1 a1_2 a1_3 a1_4 a2_0 a2_1 a2_2 a2_3 a2_4) (0 : Int))) then 0 else (bif ((!(flt 0 x0)) || (!(!(ile (0 : Int) (bif (x5 || (s_rows_finite_1_0 x1)) then (bif x5 then (0 : Int) else (1 : Int)) else (-1 : Int)))))) then a1_0 else (bif (!(!(ile (0 : Int) (bif (x4 || (s_rows_finite_1_0 x3)) then (bif x4 then (0 : Int) else (1 : Int)) else (-1 : Int))))) then a1_0 else (s_rows_pushed_0 a0_0 a0_1 a0_2 a0_3 a0_4 a0_5 a0_6 a0_7 a0_8 a0_9 a0_10 a0_11 a0_12 a0_13 a1_0 a1_1 a1_2 a1_3 a1_4 a2_0 a2_1 a2_2 a2_3 a2_4 x3))))
noncomputable def s_rows_One_15 (a0_0 : Int) (a0_1 : Int) (a0_2 : Nat) (a0_3 : Nat) (a0_4 : Nat) (a0_5 : Nat) (a0_6 : Nat) (a0_7 : Nat) (a0_8 : Nat) (a0_9 : Nat) (a0_10 : Nat) (a0_11 : Nat) (a0_12 : Int) (a0_13 : Nat) (a1_0 : Nat) (a1_1 : Nat) (a1_2 : Nat) (a1_3 : Nat) (a1_4 : Nat) (a2_0 : Nat) (a2_1 : Nat) (a2_2 : Nat) (a2_3 : Nat) (a2_4 : Nat) : Nat := let x0 : Nat := (s_rows_weight_0 a0_0 a0_1 a0_2 a0_3 a0_4 a0_5 a0_6 a0_7 a0_8 a0_9 a0_10 a0_11 a0_12 a0_13 a1_0 a1_1 a1_2 a1_3 a1_4 a2_0 a2_1 a2_2 a2_3 a2_4); let x1 : Nat := (fsub a0_8 (s_rows_speed_0 a0_0 a0_1 a0_2 a0_3 a0_4 a0_5 a0_6 a0_7 a0_8 a0_9 a0_10 a0_11 a0_12 a0_13 a1_0 a1_1 a1_2 a1_3 a1_4 a2_0 a2_1 a2_2 a2_3 a2_4)); let x2 : Nat := (s_num_Clamp_float64__0 (fadd a0_11 (fdiv x1 x0)) a0_9 a0_10); let x3 : Nat := (fsub x2 a0_11); let x4 : Bool := (s_rows_finite_1_0 x2); let x5 : Bool := (s_rows_finite_1_0 x0); (bif (!(ieq (s_rows_asked_0 a0_0 a0_1 a0_2 a0_3 a0_4 a0_5 a0_6 a0_7 a0_8 a0_9 a0_10 a0_11 a0_12 a0_13 a1_0 a1_1 a1_2 a1_3 a1_4 a2_0 a2_1 a2_2 a2_3 a2_4) (0 : Int))) then 0 else (bif ((!(flt 0 x0)) || (!(!(ile (0 : Int) (bif (x5 || (s_rows_finite_1_0 x1)) then (bif x5 then (0 : Int) else (1 : Int)) else (-1 : Int)))))) then a1_1 else (bif (!(!(ile (0 : Int) (bif (x4 || (s_rows_finite_1_0 x3)) then (bif x4 then (0 : Int) else (1 : Int)) else (-1 : Int))))) then a1_1 else (s_rows_pushed_1 a0_0 a0_1 a0_2 a0_3 a0_4 a0_5 a0_6 a0_7 a0_8 a0_9 a0_10 a0_11 a0_12 a0_13 a1_0 a1_1 a1_2 a1_3 a1_4 a2_0 a2_1 a2_2 a2_3 a2_4 x3))))
noncomputable def s_rows_One_16 (a0_0 : Int) (a0_1 : Int) (a0_2 : Nat) (a0_3 : Nat) (a0_4 : Nat) (a0_5 : Nat) (a0_6 : Nat) (a0_7 : Nat) (a0_8 : Nat) (a0_9 : Nat) (a0_10 : Nat) (a0_11 : Nat) (a0_12 : Int) (a0_13 : Nat) (a1_0 : Nat) (a1_1 : Nat) (a1_2 : Nat) (a1_3 : Nat) (a1_4 : Nat) (a2_0 : Nat) (a2_1 : Nat) (a2_2 : Nat) (a2_3 : Nat) (a2_4 : Nat) : Nat := let x0 : Nat := (s_rows_weight_0 a0_0 a0_1 a0_2 a0_3 a0_4 a0_5 a0_6 a0_7 a0_8 a0_9 a0_10 a0_11 a0_12 a0_13 a1_0 a1_1 a1_2 a1_3 a1_4 a2_0 a2_1 a2_2 a2_3 a2_4); let x1 : Nat := (fsub a0_8 (s_rows_speed_0 a0_0 a0_1 a0_2 a0_3 a0_4 a0_5 a0_6 a0_7 a0_8 a0_9 a0_10 a0_11 a0_12 a0_13 a1_0 a1_1 a1_2 a1_3 a1_4 a2_0 a2_1 a2_2 a2_3 a2_4)); let x2 : Nat := (s_num_Clamp_float64__0 (fadd a0_11 (fdiv x1 x0)) a0_9 a0_10); let x3 : Nat := (fsub x2 a0_11); let x4 : Bool := (s_rows_finite_1_0 x2); let x5 : Bool := (s_rows_finite_1_0 x0); (bif (!(ieq (s_rows_asked_0 a0_0 a0_1 a0_2 a0_3 a0_4 a0_5 a0_6 a0_7 a0_8 a0_9 a0_10 a0_11 a0_12 a0_13 a1_0 a1_1 a1_2 a1_3 a1_4 a2_0 a2_1 a2_2 a2_3 a2_4) (0 : Int))) then 0 else (bif ((!(flt 0 x0)) || (!(!(ile (0 : Int) (bif (x5 || (s_rows_finite_1_0 x1)) then (bif x5 then (0 : Int) else (1 : Int)) else (-1 : Int)))))) then a1_2 else (bif (!(!(ile (0 : Int) (bif (x4 || (s_rows_finite_1_0 x3)) then (bif x4 then (0 : Int) else (1 : Int)) else (-1 : Int))))) then a1_2 else (s_rows_pushed_2 a0_0 a0_1 a0_2 a0_3 a0_4 a0_5 a0_6 a0_7 a0_8 a0_9 a0_10 a0_11 a0_12 a0_13 a1_0 a1_1 a1_2 a1_3 a1_4 a2_0 a2_1 a2_2 a2_3 a2_4 x3))))
noncomputable def s_rows_One_17 (a0_0 : Int) (a0_1 : Int) (a0_2 : Nat) (a0_3 : Nat) (a0_4 : Nat) (a0_5 : Nat) (a0_6 : Nat) (a0_7 : Nat) (a0_8 : Nat) (a0_9 : Nat) (a0_10 : Nat) (a0_11 : Nat) (a0_12 : Int) (a0_13 : Nat) (a1_0 : Nat) (a1_1 : Nat) (a1_2 : Nat) (a1_3 : Nat) (a1_4 : Nat) (a2_0 : Nat) (a2_1 : Nat) (a2_2 : Nat) (a2_3 : Nat) (a2_4 : Nat) : Nat := let x0 : Nat := (s_rows_weight_0 a0_0 a0_1 a0_2 a0_3 a0_4 a0_5 a0_6 a0_7 a0_8 a0_9 a0_10 a0_11 a0_12 a0_13 a1_0 a1_1 a1_2 a1_3 a1_4 a2_0 a2_1 a2_2 a2_3 a2_4); let x1 : Nat := (fsub a0_8 (s_rows_speed_0 a0_0 a0_1 a0_2 a0_3 a0_4 a0_5 a0_6 a0_7 a0_8 a0_9 a0_10 a0_11 a0_12 a0_13 a1_0 a1_1 a1_2 a1_3 a1_4 a2_0 a2_1 a2_2 a2_3 a2_4)); let x2 : Nat := (s_num_Clamp_float64__0 (fadd a0_11 (fdiv x1 x0)) a0_9 a0_10); let x3 : Nat := (fsub x2 a0_11); let x4 : Bool := (s_rows_finite_1_0 x2); let x5 : Bool := (s_rows_finite_1_0 x0); (bif (!(ieq (s_rows_asked_0 a0_0 a0_1 a0_2 a0_3 a0_4 a0_5 a0_6 a0_7 a0_8 a0_9 a0_10 a0_11 a0_12 a0_13 a1_0 a1_1 a1_2 a1_3 a1_4 a2_0 a2_1 a2_2 a2_3 a2_4) (0 : Int))) then 0 else (bif ((!(flt 0 x0)) || (!(!(ile (0 : Int) (bif (x5 || (s_rows_finite_1_0 x1)) then (bif x5 then (0 : Int) else (1 : Int)) else (-1 : Int)))))) then a1_3 else (bif (!(!(ile (0 : Int) (bif (x4 || (s_rows_finite_1_0 x3)) then (bif x4 then (0 : Int) else (1 : Int)) else (-1 : Int))))) then a1_3 else (s_rows_pushed_3 a0_0 a0_1 a0_2 a0_3 a0_4 a0_5 a0_6 a0_7 a0_8 a0_9 a0_10 a0_11 a0_12 a0_13 a1_0 a1_1 a1_2 a1_3 a1_4 a2_0 a2_1 a2_2 a2_3 a2_4 x3))))
noncomputable def s_rows_One_18 (a0_0 : Int) (a0_1 : Int) (a0_2 : Nat) (a0_3 : Nat) (a0_4 : Nat) (a0_5 : Nat) (a0_6 : Nat) (a0_7 : Nat) (a0_8 : Nat) (a0_9 : Nat) (a0_10 : Nat) (a0_11 : Nat) (a0_12 : Int) (a0_13 : Nat) (a1_0 : Nat) (a1_1 : Nat) (a1_2 : Nat) (a1_3 : Nat) (a1_4 : Nat) (a2_0 : Nat) (a2_1 : Nat) (a2_2 : Nat) (a2_3 : Nat) (a2_4 : Nat) : Nat := let x0 : Nat := (s_rows_weight_0 a0_0 a0_1 a0_2 a0_3 a0_4 a0_5 a0_6 a0_7 a0_8 a0_9 a0_10 a0_11 a0_12 a0_13 a1_0 a1_1 a1_2 a1_3 a1_4 a2_0 a2_1 a2_2 a2_3 a2_4); let x1 : Nat := (fsub a0_8 (s_rows_speed_0 a0_0 a0_1 a0_2 a0_3 a0_4 a0_5 a0_6 a0_7 a0_8 a0_9 a0_10 a0_11 a0_12 a0_13 a1_0 a1_1 a1_2 a1_3 a1_4 a2_0 a2_1 a2_2 a2_3 a2_4)); let x2 : Nat := (s_num_Clamp_float64__0 (fadd a0_11 (fdiv x1 x0)) a0_9 a0_10); let x3 : Nat := (fsub x2 a0_11); let x4 : Bool := (s_rows_finite_1_0 x2); let x5 : Bool := (s_rows_finite_1_0 x0); (bif (!(ieq (s_rows_asked_0 a0_0 a0_1 a0_2 a0_3 a0_4 a0_5 a0_6 a0_7 a0_8 a0_9 a0_10 a0_11 a0_12 a0_13 a1_0 a1_1 a1_2 a1_3 a1_4 a2_0 a2_1 a2_2 a2_3 a2_4) (0 : Int))) then 0 else (bif ((!(flt 0 x0)) || (!(!(ile (0 : Int) (bif (x5 || (s_rows_finite_1_0 x1)) then (bif x5 then (0 : Int) else (1 : Int)) else (-1 : Int)))))) then a1_4 else (bif (!(!(ile (0 : Int) (bif (x4 || (s_rows_finite_1_0 x3)) then (bif x4 then (0 : Int) else (1 : Int)) else (-1 : Int))))) then a1_4 else (s_rows_pushed_4 a0_0 a0_1 a0_2 a0_3 a0_4 a0_5 a0_6 a0_7 a0_8 a0_9 a0_10 a0_11 a0_12 a0_13 a1_0 a1_1 a1_2 a1_3 a1_4 a2_0 a2_1 a2_2 a2_3 a2_4 x3))))
noncomputable def s_rows_One_19 (a0_0 : Int) (a0_1 : Int) (a0_2 : Nat) (a0_3 : Nat) (a0_4 : Nat) (a0_5 : Nat) (a0_6 : Nat) (a0_7 : Nat) (a0_8 : Nat) (a0_9 : Nat) (a0_10 : Nat) (a0_11 : Nat) (a0_12 : Int) (a0_13 : Nat) (a1_0 : Nat) (a1_1 : Nat) (a1_2 : Nat) (a1_3 : Nat) (a1_4 : Nat) (a2_0 : Nat) (a2_1 : Nat) (a2_2 : Nat) (a2_3 : Nat) (a2_4 : Nat) : Nat := let x0 : Nat := (s_rows_weight_0 a0_0 a0_1 a0_2 a0_3 a0_4 a0_5 a0_6 a0_7 a0_8 a0_9 a0_10 a0_11 a0_12 a0_13 a1_0 a1_1 a1_2 a1_3 a1_4 a2_0 a2_1 a2_2 a2_3 a2_4); let x1 : Nat := (fsub a0_8 (s_rows_speed_0 a0_0 a0_1 a0_2 a0_3 a0_4 a0_5 a0_6 a0_7 a0_8 a0_9 a0_10 a0_11 a0_12 a0_13 a1_0 a1_1 a1_2 a1_3 a1_4 a2_0 a2_1 a2_2 a2_3 a2_4)); let x2 : Nat := (s_num_Clamp_float64__0 (fadd a0_11 (fdiv x1 x0)) a0_9 a0_10); let x3 : Nat := (fsub x2 a0_11); let x4 : Bool := (s_rows_finite_1_0 x2); let x5 : Bool := (s_rows_finite_1_0 x0); (bif (!(ieq (s_rows_asked_0 a0_0 a0_1 a0_2 a0_3 a0_4 a0_5 a0_6 a0_7 a0_8 a0_9 a0_10 a0_11 a0_12 a0_13 a1_0 a1_1 a1_2 a1_3 a1_4 a2_0 a2_1 a2_2 a2_3 a2_4) (0 : Int))) then 0 else (bif ((!(flt 0 x0)) || (!(!(ile (0 : Int) (bif (x5 || (s_rows_finite_1_0 x1)) then (bif x5 then (0 : Int) else (1 : Int)) else (-1 : Int)))))) then a2_0 else (bif (!(!(ile (0 : Int) (bif (x4 || (s_rows_finite_1_0 x3)) then (bif x4 then (0 : Int) else (1 : Int)) else (-1 : Int))))) then a2_0 else (s_rows_pushed_5 a0_0 a0_1 a0_2 a0_3 a0_4 a0_5 a0_6 a0_7 a0_8 a0_9 a0_10 a0_11 a0_12 a0_13 a1_0 a1_1 a1_2 a1_3 a1_4 a2_0 a2_1 a2_2 a2_3 a2_4 x3))))
noncomputable def s_rows_One_20 (a0_0 : Int) (a0_1 : Int) (a0_2 : Nat) (a0_3 : Nat) (a0_4 : Nat) (a0_5 : Nat) (a0_6 : Nat) (a0_7 : Nat) (a0_8 : Nat) (a0_9 : Nat) (a0_10 : Nat) (a0_11 : Nat) (a0_12 : Int) (a0_13 : Nat) (a1_0 : Nat) (a1_1 : Nat) (a1_2 : Nat) (a1_3 : Nat) (a1_4 : Nat) (a2_0 : Nat) (a2_1 : Nat) (a2_2 : Nat) (a2_3 : Nat) (a2_4 : Nat) : Nat := let x0 : Nat := (s_rows_weight_0 a0_0 a0_1 a0_2 a0_3 a0_4 a0_5 a0_6 a0_7 a0_8 a0_9 a0_10 a0_11 a0_12 a0_13 a1_0 a1_1 a1_2 a1_3 a1_4 a2_0 a2_1 a2_2 a2_3 a2_4); let x1 : Nat := (fsub a0_8 (s_rows_speed_0 a0_0 a0_1 a0_2 a0_3 a0_4 a0_5 a0_6 a0_7 a0_8 a0_9 a0_10 a0_11 a0_12 a0_13 a1_0 a1_1 a1_2 a1_3 a1_4 a2_0 a2_1 a2_2 a2_3 a2_4)); let x2 : Nat := (s_num_Clamp_float64__0 (fadd a0_11 (fdiv x1 x0)) a0_9 a0_10); let x3 : Nat := (fsub x2 a0_11); let x4 : Bool := (s_rows_finite_1_0 x2); let x5 : Bool := (s_rows_finite_1_0 x0); (bif (!(ieq (s_rows_asked_0 a0_0 a0_1 a0_2 a0_3 a0_4 a0_5 a0_6 a0_7 a0_8 a0_9 a0_10 a0_11 a0_12 a0_13 a1_0 a1_1 a1_2 a1_3 a1_4 a2_0 a2_1 a2_2 a2_3 a2_4) (0 : Int))) then 0 else (bif ((!(flt 0 x0)) || (!(!(ile (0 : Int) (bif (x5 || (s_rows_finite_1_0 x1)) then (bif x5 then (0 : Int) else (1 : Int)) else (-1 : Int)))))) then a2_1 else (bif (!(!(ile (0 : Int) (bif (x4 || (s_rows_finite_1_0 x3)) then (bif x4 then (0 : Int) else (1 : Int)) else (-1 : Int))))) then a2_1 else (s_rows_pushed_6 a0_0 a0_1 a0_2 a0_3 a0_4 a0_5 a0_6 a0_7 a0_8 a0_9 a0_10 a0_11 a0_12 a0_13 a1_0 a1_1 a1_2 a1_3 a1_4 a2_0 a2_1 a2_2 a2_3 a2_4 x3))))
noncomputable def s_rows_One_21 (a0_0 : Int) (a0_1 : Int) (a0_2 : Nat) (a0_3 : Nat) (a0_4 : Nat) (a0_5 : Nat) (a0_6 : Nat) (a0_7 : Nat) (a0_8 : Nat) (a0_9 : Nat) (a0_10 : Nat) (a0_11 : Nat) (a0_12 : Int) (a0_13 : Nat) (a1_0 : Nat) (a1_1 : Nat) (a1_2 : Nat) (a1_3 : Nat) (a1_4 : Nat) (a2_0 : Nat) (a2_1 : Nat) (a2_2 : Nat) (a2_3 : Nat) (a2_4 : Nat) : Nat := let x0 : Nat := (s_rows_weight_0 a0_0 a0_1 a0_2 a0_3 a0_4 a0_5 a0_6 a0_7 a0_8 a0_9 a0_10 a0_11 a0_12 a0_13 a1_0 a1_1 a1_2 a1_3 a1_4 a2_0 a2_1 a2_2 a2_3 a2_4); let x1 : Nat := (fsub a0_8 (s_rows_speed_0 a0_0 a0_1 a0_2 a0_3 a0_4 a0_5 a0_6 a0_7 a0_8 a0_9 a0_10 a0_11 a0_12 a0_13 a1_0 a1_1 a1_2 a1_3 a1_4 a2_0 a2_1 a2_2 a2_3 a2_4)); let x2 : Nat := (s_num_Clamp_float64__0 (fadd a0_11 (fdiv x1 x0)) a0_9 a0_10); let x3 : Nat := (fsub x2 a0_11); let x4 : Bool := (s_rows_finite_1_0 x2); let x5 : Bool := (s_rows_finite_1_0 x0); (bif (!(ieq (s_rows_asked_0 a0_0 a0_1 a0_2 a0_3 a0_4 a0_5 a0_6 a0_7 a0_8 a0_9 a0_10 a0_11 a0_12 a0_13 a1_0 a1_1 a1_2 a1_3 a1_4 a2_0 a2_1 a2_2 a2_3 a2_4) (0 : Int))) then 0 else (bif ((!(flt 0 x0)) || (!(!(ile (0 : Int) (bif (x5 || (s_rows_finite_1_0 x1)) then (bif x5 then (0 : Int) else (1 : Int)) else (-1 : Int)))))) then a2_2 else (bif (!(!(ile (0 : Int) (bif (x4 || (s_rows_finite_1_0 x3)) then (bif x4 then (0 : Int) else (1 : Int)) else (-1 : Int))))) then a2_2 else (s_rows_pushed_7 a0_0 a0_1 a0_2 a0_3 a0_4 a0_5 a0_6 a0_7 a0_8 a0_9 a0_10 a0_11 a0_12 a0_13 a1_0 a1_1 a1_2 a1_3 a1_4 a2_0 a2_1 a2_2 a2_3 a2_4 x3))))
noncomputable def s_rows_One_22 (a0_0 : Int) (a0_1 : Int) (a0_2 : Nat) (a0_3 : Nat) (a0_4 : Nat) (a0_5 : Nat) (a0_6 : Nat) (a0_7 : Nat) (a0_8 : Nat) (a0_9 : Nat) (a0_10 : Nat) (a0_11 : Nat) (a0_12 : Int) (a0_13 : Nat) (a1_0 : Nat) (a1_1 : Nat) (a1_2 : Nat) (a1_3 : Nat) (a1_4 : Nat) (a2_0 : Nat) (a2_1 : Nat) (a2_2 : Nat) (a2_3 : Nat) (a2_4 : Nat) : Nat := let x0 : Nat := (s_rows_weight_0 a0_0 a0_1 a0_2 a0_3 a0_4 a0_5 a0_6 a0_7 a0_8 a0_9 a0_10 a0_11 a0_12 a0_13 a1_0 a1_1 a1_2 a1_3 a1_4 a2_0 a2_1 a2_2 a2_3 a2_4); let x1 : Nat := (fsub a0_8 (s_rows_speed_0 a0_0 a0_1 a0_2 a0_3 a0_4 a0_5 a0_6 a0_7 a0_8 a0_9 a0_10 a0_11 a0_12 a0_13 a1_0 a1_1 a1_2 a1_3 a1_4 a2_0 a2_1 a2_2 a2_3 a2_4)); let x2 : Nat := (s_num_Clamp_float64__0 (fadd a0_11 (fdiv x1 x0)) a0_9 a0_10); let x3 : Nat := (fsub x2 a0_11); let x4 : Bool := (s_rows_finite_1_0 x2); let x5 : Bool := (s_rows_finite_1_0 x0); (bif (!(ieq (s_rows_asked_0 a0_0 a0_1 a0_2 a0_3 a0_4 a0_5 a0_6 a0_7 a0_8 a0_9 a0_10 a0_11 a0_12 a0_13 a1_0 a1_1 a1_2 a1_3 a1_4 a2_0 a2_1 a2_2 a2_3 a2_4) (0 : Int))) then 0 else (bif ((!(flt 0 x0)) || (!(!(ile (0 : Int) (bif (x5 || (s_rows_finite_1_0 x1)) then (bif x5 then (0 : Int) else (1 : Int)) else (-1 : Int)))))) then a2_3 else (bif (!(!(ile (0 : Int) (bif (x4 || (s_rows_finite_1_0 x3)) then (bif x4 then (0 : Int) else (1 : Int)) else (-1 : Int))))) then a2_3 else (s_rows_pushed_8 a0_0 a0_1 a0_2 a0_3 a0_4 a0_5 a0_6 a0_7 a0_8 a0_9 a0_10 a0_11 a0_12 a0_13 a1_0 a1_1 a1_2 a1_3 a1_4 a2_0 a2_1 a2_2 a2_3 a2_4 x3))))
noncomputable def s_rows_One_23 (a0_0 : Int) (a0_1 : Int) (a0_2 : Nat) (a0_3 : Nat) (a0_4 : Nat) (a0_5 : Nat) (a0_6 : Nat) (a0_7 : Nat) (a0_8 : Nat) (a0_9 : Nat) (a0_10 : Nat) (a0_11 : Nat) (a0_12 : Int) (a0_13 : Nat) (a1_0 : Nat) (a1_1 : Nat) (a1_2 : Nat) (a1_3 : Nat) (a1_4 : Nat) (a2_0 : Nat) (a2_1 : Nat) (a2_2 : Nat) (a2_3 : Nat) (a2_4 : Nat) : Nat := let x0 : Nat := (s_rows_weight_0 a0_0 a0_1 a0_2 a0_3 a0_4 a0_5 a0_6 a0_7 a0_8 a0_9 a0_10 a0_11 a0_12 a0_13 a1_0 a1_1 a1_2 a1_3 a1_4 a2_0 a2_1 a2_2 a2_3 a2_4); let x1 : Nat := (fsub a0_8 (s_rows_speed_0 a0_0 a0_1 a0_2 a0_3 a0_4 a0_5 a0_6 a0_7 a0_8 a0_9 a0_10 a0_11 a0_12 a0_13 a1_0 a1_1 a1_2 a1_3 a1_4 a2_0 a2_1 a2_2 a2_3 a2_4)); let x2 : Nat := (s_num_Clamp_float64__0 (fadd a0_11 (fdiv x1 x0)) a0_9 a0_10); let x3 : Nat := (fsub x2 a0_11); let x4 : Bool := (s_rows_finite_1_0 x2); let x5 : Bool := (s_rows_finite_1_0 x0); (bif (!(ieq (s_rows_asked_0 a0_0 a0_1 a0_2 a0_3 a0_4 a0_5 a0_6 a0_7 a0_8 a0_9 a0_10 a0_11 a0_12 a0_13 a1_0 a1_1 a1_2 a1_3 a1_4 a2_0 a2_1 a2_2 a2_3 a2_4) (0 : Int))) then 0 else (bif ((!(flt 0 x0)) || (!(!(ile (0 : Int) (bif (x5 || (s_rows_finite_1_0 x1)) then (bif x5 then (0 : Int) else (1 : Int)) else (-1 : Int)))))) then a2_4 else (bif (!(!(ile (0 : Int) (bif (x4 || (s_rows_finite_1_0 x3)) then (bif x4 then (0 : Int) else (1 : Int)) else (-1 : Int))))) then a2_4 else (s_rows_pushed_9 a0_0 a0_1 a0_2 a0_3 a0_4 a0_5 a0_6 a0_7 a0_8 a0_9 a0_10 a0_11 a0_12 a0_13 a1_0 a1_1 a1_2 a1_3 a1_4 a2_0 a2_1 a2_2 a2_3 a2_4 x3))))
noncomputable def s_rows_One_24 (a0_0 : Int) (a0_1 : Int) (a0_2 : Nat) (a0_3 : Nat) (a0_4 : Nat) (a0_5 : Nat) (a0_6 : Nat) (a0_7 : Nat) (a0_8 : Nat) (a0_9 : Nat) (a0_10 : Nat) (a0_11 : Nat) (a0_12 : Int) (a0_13 : Nat) (a1_0 : Nat) (a1_1 : Nat) (a1_2 : Nat) (a1_3 : Nat) (a1_4 : Nat) (a2_0 : Nat) (a2_1 : Nat) (a2_2 : Nat) (a2_3 : Nat) (a2_4 : Nat) : Int := let x0 : Nat := (s_rows_weight_0 a0_0 a0_1 a0_2 a0_3 a0_4 a0_5 a0_6 a0_7 a0_8 a0_9 a0_10 a0_11 a0_12 a0_13 a1_0 a1_1 a1_2 a1_3 a1_4 a2_0 a2_1 a2_2 a2_3 a2_4); let x1 : Nat := (fsub a0_8 (s_rows_speed_0 a0_0 a0_1 a0_2 a0_3 a0_4 a0_5 a0_6 a0_7 a0_8 a0_9 a0_10 a0_11 a0_12 a0_13 a1_0 a1_1 a1_2 a1_3 a1_4 a2_0 a2_1 a2_2 a2_3 a2_4)); let x2 : Nat := (s_num_Clamp_float64__0 (fadd a0_11 (fdiv x1 x0)) a0_9 a0_10); let x3 : Bool := (s_rows_finite_1_0 x2); let x4 : Bool := (s_rows_finite_1_0 x0); let x5 : Int := (s_rows_asked_0 a0_0 a0_1 a0_2 a0_3 a0_4 a0_5 a0_6 a0_7 a0_8 a0_9 a0_10 a0_11 a0_12 a0_13 a1_0 a1_1 a1_2 a1_3 a1_4 a2_0 a2_1 a2_2 a2_3 a2_4); (bif (!(ieq x5 (0 : Int))) then x5 else (bif ((!(flt 0 x0)) || (!(!(ile (0 : Int) (bif (x4 || (s_rows_finite_1_0 x1)) then (bif x4 then (0 : Int) else (1 : Int)) else (-1 : Int)))))) then (0 : Int) else (bif (!(!(ile (0 : Int) (bif (x3 || (s_rows_finite_1_0 (fsub x2 a0_11))) then (bif x3 then (0 : Int) else (1 : Int)) else (-1 : Int))))) then (0 : Int) else (0 : Int))))
theorem e_rows_One (a0_0 : Int) (a0_1 : Int) (a0_2 : Nat) (a0_3 : Nat) (a0_4 : Nat) (a0_5 : Nat) (a0_6 : Nat) (a0_7 : Nat) (a0_8 : Nat) (a0_9 : Nat) (a0_10 : Nat) (a0_11 : Nat) (a0_12 : Int) (a0_13 : Nat) (a1_0 : Nat) (a1_1 : Nat) (a1_2 : Nat) (a1_3 : Nat) (a1_4 : Nat) (a2_0 : Nat) (a2_1 : Nat) (a2_2 : Nat) (a2_3 : Nat) (a2_4 : Nat) : outB (evFnM Try.prog false menv20 [] [] 64 Try.f16 [AV.agg [.int .i64 a0_0, .int .i64 a0_1, .float a0_2, .float a0_3, .float a0_4, .float a0_5, .float a0_6, .float a0_7, .float a0_8, .float a0_9, .float a0_10, .float a0_11, .int .i64 a0_12, .float a0_13], AV.agg [.float a1_0, .float a1_1, .float a1_2, .float a1_3, .float a1_4], AV.agg [.float a2_0, .float a2_1, .float a2_2, .float a2_3, .float a2_4]] []) = some ((true), AV.tup [AV.agg [AV.int .i64 (s_rows_One_0 a0_0 a0_1 a0_2 a0_3 a0_4 a0_5 a0_6 a0_7 a0_8 a0_9 a0_10 a0_11 a0_12 a0_13 a1_0 a1_1 a1_2 a1_3 a1_4 a2_0 a2_1 a2_2 a2_3 a2_4), AV.int .i64 (s_rows_One_1 a0_0 a0_1 a0_2 a0_3 a0_4 a0_5 a0_6 a0_7 a0_8 a0_9 a0_10 a0_11 a0_12 a0_13 a1_0 a1_1 a1_2 a1_3 a1_4 a2_0 a2_1 a2_2 a2_3 a2_4), AV.float (s_rows_One_2 a0_0 a0_1 a0_2 a0_3 a0_4 a0_5 a0_6 a0_7 a0_8 a0_9 a0_10 a0_11 a0_12 a0_13 a1_0 a1_1 a1_2 a1_3 a1_4 a2_0 a2_1 a2_2 a2_3 a2_4), AV.float (s_rows_One_3 a0_0 a0_1 a0_2 a0_3 a0_4 a0_5 a0_6 a0_7 a0_8 a0_9 a0_10 a0_11 a0_12 a0_13 a1_0 a1_1 a1_2 a1_3 a1_4 a2_0 a2_1 a2_2 a2_3 a2_4), AV.float (s_rows_One_4 a0_0 a0_1 a0_2 a0_3 a0_4 a0_5 a0_6 a0_7 a0_8 a0_9 a0_10 a0_11 a0_12 a0_13 a1_0 a1_1 a1_2 a1_3 a1_4 a2_0 a2_1 a2_2 a2_3 a2_4), AV.float (s_rows_One_5 a0_0 a0_1 a0_2 a0_3 a0_4 a0_5 a0_6 a0_7 a0_8 a0_9 a0_10 a0_11 a0_12 a0_13 a1_0 a1_1 a1_2 a1_3 a1_4 a2_0 a2_1 a2_2 a2_3 a2_4), AV.float (s_rows_One_6 a0_0 a0_1 a0_2 a0_3 a0_4 a0_5 a0_6 a0_7 a0_8 a0_9 a0_10 a0_11 a0_12 a0_13 a1_0 a1_1 a1_2 a1_3 a1_4 a2_0 a2_1 a2_2 a2_3 a2_4), AV.float (s_rows_One_7 a0_0 a0_1 a0_2 a0_3 a0_4 a0_5 a0_6 a0_7 a0_8 a0_9 a0_10 a0_11 a0_12 a0_13 a1_0 a1_1 a1_2 a1_3 a1_4 a2_0 a2_1 a2_2 a2_3 a2_4), AV.float (s_rows_One_8 a0_0 a0_1 a0_2 a0_3 a0_4 a0_5 a0_6 a0_7 a0_8 a0_9 a0_10 a0_11 a0_12 a0_13 a1_0 a1_1 a1_2 a1_3 a1_4 a2_0 a2_1 a2_2 a2_3 a2_4), AV.float (s_rows_One_9 a0_0 a0_1 a0_2 a0_3 a0_4 a0_5 a0_6 a0_7 a0_8 a0_9 a0_10 a0_11 a0_12 a0_13 a1_0 a1_1 a1_2 a1_3 a1_4 a2_0 a2_1 a2_2 a2_3 a2_4), AV.float (s_rows_One_10 a0_0 a0_1 a0_2 a0_3 a0_4 a0_5 a0_6 a0_7 a0_8 a0_9 a0_10 a0_11 a0_12 a0_13 a1_0 a1_1 a1_2 a1_3 a1_4 a2_0 a2_1 a2_2 a2_3 a2_4), AV.float (s_rows_One_11 a0_0 a0_1 a0_2 a0_3 a0_4 a0_5 a0_6 a0_7 a0_8 a0_9 a0_10 a0_11 a0_12 a0_13 a1_0 a1_1 a1_2 a1_3 a1_4 a2_0 a2_1 a2_2 a2_3 a2_4), AV.int .i64 (s_rows_One_12 a0_0 a0_1 a0_2 a0_3 a0_4 a0_5 a0_6 a0_7 a0_8 a0_9 a0_10 a0_11 a0_12 a0_13 a1_0 a1_1 a1_2 a1_3 a1_4 a2_0 a2_1 a2_2 a2_3 a2_4), AV.float (s_rows_One_13 a0_0 a0_1 a0_2 a0_3 a0_4 a0_5 a0_6 a0_7 a0_8 a0_9 a0_10 a0_11 a0_12 a0_13 a1_0 a1_1 a1_2 a1_3 a1_4 a2_0 a2_1 a2_2 a2_3 a2_4)], AV.agg [AV.float (s_rows_One_14 a0_0 a0_1 a0_2 a0_3 a0_4 a0_5 a0_6 a0_7 a0_8 a0_9 a0_10 a0_11 a0_12 a0_13 a1_0 a1_1 a1_2 a1_3 a1_4 a2_0 a2_1 a2_2 a2_3 a2_4), AV.float (s_rows_One_15 a0_0 a0_1 a0_2 a0_3 a0_4 a0_5 a0_6 a0_7 a0_8 a0_9 a0_10 a0_11 a0_12 a0_13 a1_0 a1_1 a1_2 a1_3 a1_4 a2_0 a2_1 a2_2 a2_3 a2_4), AV.float (s_rows_One_16 a0_0 a0_1 a0_2 a0_3 a0_4 a0_5 a0_6 a0_7 a0_8 a0_9 a0_10 a0_11 a0_12 a0_13 a1_0 a1_1 a1_2 a1_3 a1_4 a2_0 a2_1 a2_2 a2_3 a2_4), AV.float (s_rows_One_17 a0_0 a0_1 a0_2 a0_3 a0_4 a0_5 a0_6 a0_7 a0_8 a0_9 a0_10 a0_11 a0_12 a0_13 a1_0 a1_1 a1_2 a1_3 a1_4 a2_0 a2_1 a2_2 a2_3 a2_4), AV.float (s_rows_One_18 a0_0 a0_1 a0_2 a0_3 a0_4 a0_5 a0_6 a0_7 a0_8 a0_9 a0_10 a0_11 a0_12 a0_13 a1_0 a1_1 a1_2 a1_3 a1_4 a2_0 a2_1 a2_2 a2_3 a2_4)], AV.agg [AV.float (s_rows_One_19 a0_0 a0_1 a0_2 a0_3 a0_4 a0_5 a0_6 a0_7 a0_8 a0_9 a0_10 a0_11 a0_12 a0_13 a1_0 a1_1 a1_2 a1_3 a1_4 a2_0 a2_1 a2_2 a2_3 a2_4), AV.float (s_rows_One_20 a0_0 a0_1 a0_2 a0_3 a0_4 a0_5 a0_6 a0_7 a0_8 a0_9 a0_10 a0_11 a0_12 a0_13 a1_0 a1_1 a1_2 a1_3 a1_4 a2_0 a2_1 a2_2 a2_3 a2_4), AV.float (s_rows_One_21 a0_0 a0_1 a0_2 a0_3 a0_4 a0_5 a0_6 a0_7 a0_8 a0_9 a0_10 a0_11 a0_12 a0_13 a1_0 a1_1 a1_2 a1_3 a1_4 a2_0 a2_1 a2_2 a2_3 a2_4), AV.float (s_rows_One_22 a0_0 a0_1 a0_2 a0_3 a0_4 a0_5 a0_6 a0_7 a0_8 a0_9 a0_10 a0_11 a0_12 a0_13 a1_0 a1_1 a1_2 a1_3 a1_4 a2_0 a2_1 a2_2 a2_3 a2_4), AV.float (s_rows_One_23 a0_0 a0_1 a0_2 a0_3 a0_4 a0_5 a0_6 a0_7 a0_8 a0_9 a0_10 a0_11 a0_12 a0_13 a1_0 a1_1 a1_2 a1_3 a1_4 a2_0 a2_1 a2_2 a2_3 a2_4)], AV.int .i64 (s_rows_One_24 a0_0 a0_1 a0_2 a0_3 a0_4 a0_5 a0_6 a0_7 a0_8 a0_9 a0_10 a0_11 a0_12 a0_13 a1_0 a1_1 a1_2 a1_3 a1_4 a2_0 a2_1 a2_2 a2_3 a2_4)]) := by kernel_rfl
noncomputable def S_rows_One : List AV → Option (Ob × AV)
  | [AV.agg [.int .i64 a0_0, .int .i64 a0_1, .float a0_2, .float a0_3, .float a0_4, .float a0_5, .float a0_6, .float a0_7, .float a0_8, .float a0_9, .float a0_10, .float a0_11, .int .i64 a0_12, .float a0_13], AV.agg [.float a1_0, .float a1_1, .float a1_2, .float a1_3, .float a1_4], AV.agg [.float a2_0, .float a2_1, .float a2_2, .float a2_3, .float a2_4]] => some (Ob.tt, AV.tup [AV.agg [AV.int .i64 (s_rows_One_0 a0_0 a0_1 a0_2 a0_3 a0_4 a0_5 a0_6 a0_7 a0_8 a0_9 a0_10 a0_11 a0_12 a0_13 a1_0 a1_1 a1_2 a1_3 a1_4 a2_0 a2_1 a2_2 a2_3 a2_4), AV.int .i64 (s_rows_One_1 a0_0 a0_1 a0_2 a0_3 a0_4 a0_5 a0_6 a0_7 a0_8 a0_9 a0_10 a0_11 a0_12 a0_13 a1_0 a1_1 a1_2 a1_3 a1_4 a2_0 a2_1 a2_2 a2_3 a2_4), AV.float (s_rows_One_2 a0_0 a0_1 a0_2 a0_3 a0_4 a0_5 a0_6 a0_7 a0_8 a0_9 a0_10 a0_11 a0_12 a0_13 a1_0 a1_1 a1_2 a1_3 a1_4 a2_0 a2_1 a2_2 a2_3 a2_4), AV.float (s_rows_One_3 a0_0 a0_1 a0_2 a0_3 a0_4 a0_5 a0_6 a0_7 a0_8 a0_9 a0_10 a0_11 a0_12 a0_13 a1_0 a1_1 a1_2 a1_3 a1_4 a2_0 a2_1 a2_2 a2_3 a2_4), AV.float (s_rows_One_4 a0_0 a0_1 a0_2 a0_3 a0_4 a0_5 a0_6 a0_7 a0_8 a0_9 a0_10 a0_11 a0_12 a0_13 a1_0 a1_1 a1_2 a1_3 a1_4 a2_0 a2_1 a2_2 a2_3 a2_4), AV.float (s_rows_One_5 a0_0 a0_1 a0_2 a0_3 a0_4 a0_5 a0_6 a0_7 a0_8 a0_9 a0_10 a0_11 a0_12 a0_13 a1_0 a1_1 a1_2 a1_3 a1_4 a2_0 a2_1 a2_2 a2_3 a2_4), AV.float (s_rows_One_6 a0_0 a0_1 a0_2 a0_3 a0_4 a0_5 a0_6 a0_7 a0_8 a0_9 a0_10 a0_11 a0_12 a0_13 a1_0 a1_1 a1_2 a1_3 a1_4 a2_0 a2_1 a2_2 a2_3 a2_4), AV.float (s_rows_One_7 a0_0 a0_1 a0_2 a0_3 a0_4 a0_5 a0_6 a0_7 a0_8 a0_9 a0_10 a0_11 a0_12 a0_13 a1_0 a1_1 a1_2 a1_3 a1_4 a2_0 a2_1 a2_2 a2_3 a2_4), AV.float (s_rows_One_8 a0_0 a0_1 a0_2 a0_3 a0_4 a0_5 a0_6 a0_7 a0_8 a0_9 a0_10 a0_11 a0_12 a0_13 a1_0 a1_1 a1_2 a1_3 a1_4 a2_0 a2_1 a2_2 a2_3 a2_4), AV.float (s_rows_One_9 a0_0 a0_1 a0_2 a0_3 a0_4 a0_5 a0_6 a0_7 a0_8 a0_9 a0_10 a0_11 a0_12 a0_13 a1_0 a1_1 a1_2 a1_3 a1_4 a2_0 a2_1 a2_2 a2_3 a2_4), AV.float (s_rows_One_10 a0_0 a0_1 a0_2 a0_3 a0_4 a0_5 a0_6 a0_7 a0_8 a0_9 a0_10 a0_11 a0_12 a0_13 a1_0 a1_1 a1_2 a1_3 a1_4 a2_0 a2_1 a2_2 a2_3 a2_4), AV.float (s_rows_One_11 a0_0 a0_1 a0_2 a0_3 a0_4 a0_5 a0_6 a0_7 a0_8 a0_9 a0_10 a0_11 a0_12 a0_13 a1_0 a1_1 a1_2 a1_3 a1_4 a2_0 a2_1 a2_2 a2_3 a2_4), AV.int .i64 (s_rows_One_12 a0_0 a0_1 a0_2 a0_3 a0_4 a0_5 a0_6 a0_7 a0_8 a0_9 a0_10 a0_11 a0_12 a0_13 a1_0 a1_1 a1_2 a1_3 a1_4 a2_0 a2_1 a2_2 a2_3 a2_4), AV.float (s_rows_One_13 a0_0 a0_1 a0_2 a0_3 a0_4 a0_5 a0_6 a0_7 a0_8 a0_9 a0_10 a0_11 a0_12 a0_13 a1_0 a1_1 a1_2 a1_3 a1_4 a2_0 a2_1 a2_2 a2_3 a2_4)], AV.agg [AV.float (s_rows_One_14 a0_0 a0_1 a0_2 a0_3 a0_4 a0_5 a0_6 a0_7 a0_8 a0_9 a0_10 a0_11 a0_12 a0_13 a1_0 a1_1 a1_2 a1_3 a1_4 a2_0 a2_1 a2_2 a2_3 a2_4), AV.float (s_rows_One_15 a0_0 a0_1 a0_2 a0_3 a0_4 a0_5 a0_6 a0_7 a0_8 a0_9 a0_10 a0_11 a0_12 a0_13 a1_0 a1_1 a1_2 a1_3 a1_4 a2_0 a2_1 a2_2 a2_3 a2_4), AV.float (s_rows_One_16 a0_0 a0_1 a0_2 a0_3 a0_4 a0_5 a0_6 a0_7 a0_8 a0_9 a0_10 a0_11 a0_12 a0_13 a1_0 a1_1 a1_2 a1_3 a1_4 a2_0 a2_1 a2_2 a2_3 a2_4), AV.float (s_rows_One_17 a0_0 a0_1 a0_2 a0_3 a0_4 a0_5 a0_6 a0_7 a0_8 a0_9 a0_10 a0_11 a0_12 a0_13 a1_0 a1_1 a1_2 a1_3 a1_4 a2_0 a2_1 a2_2 a2_3 a2_4), AV.float (s_rows_One_18 a0_0 a0_1 a0_2 a0_3 a0_4 a0_5 a0_6 a0_7 a0_8 a0_9 a0_10 a0_11 a0_12 a0_13 a1_0 a1_1 a1_2 a1_3 a1_4 a2_0 a2_1 a2_2 a2_3 a2_4)], AV.agg [AV.float (s_rows_One_19 a0_0 a0_1 a0_2 a0_3 a0_4 a0_5 a0_6 a0_7 a0_8 a0_9 a0_10 a0_11 a0_12 a0_13 a1_0 a1_1 a1_2 a1_3 a1_4 a2_0 a2_1 a2_2 a2_3 a2_4), AV.float (s_rows_One_20 a0_0 a0_1 a0_2 a0_3 a0_4 a0_5 a0_6 a0_7 a0_8 a0_9 a0_10 a0_11 a0_12 a0_13 a1_0 a1_1 a1_2 a1_3 a1_4 a2_0 a2_1 a2_2 a2_3 a2_4), AV.float (s_rows_One_21 a0_0 a0_1 a0_2 a0_3 a0_4 a0_5 a0_6 a0_7 a0_8 a0_9 a0_10 a0_11 a0_12 a0_13 a1_0 a1_1 a1_2 a1_3 a1_4 a2_0 a2_1 a2_2 a2_3 a2_4), AV.float (s_rows_One_22 a0_0 a0_1 a0_2 a0_3 a0_4 a0_5 a0_6 a0_7 a0_8 a0_9 a0_10 a0_11 a0_12 a0_13 a1_0 a1_1 a1_2 a1_3 a1_4 a2_0 a2_1 a2_2 a2_3 a2_4), AV.float (s_rows_One_23 a0_0 a0_1 a0_2 a0_3 a0_4 a0_5 a0_6 a0_7 a0_8 a0_9 a0_10 a0_11 a0_12 a0_13 a1_0 a1_1 a1_2 a1_3 a1_4 a2_0 a2_1 a2_2 a2_3 a2_4)], AV.int .i64 (s_rows_One_24 a0_0 a0_1 a0_2 a0_3 a0_4 a0_5 a0_6 a0_7 a0_8 a0_9 a0_10 a0_11 a0_12 a0_13 a1_0 a1_1 a1_2 a1_3 a1_4 a2_0 a2_1 a2_2 a2_3 a2_4)])
  | _ => none
theorem t_rows_One : ROkM Try.prog false (16, pureM S_rows_One) := ROkM.pure (N := 64) menv20_ok Try.func16 Try.call16 fun args o v h => by
  unfold S_rows_One at h
  split at h
  · rename_i a0_0 a0_1 a0_2 a0_3 a0_4 a0_5 a0_6 a0_7 a0_8 a0_9 a0_10 a0_11 a0_12 a0_13 a1_0 a1_1 a1_2 a1_3 a1_4 a2_0 a2_1 a2_2 a2_3 a2_4
    cases h
    exact ⟨rfl, rfl, _, e_rows_One a0_0 a0_1 a0_2 a0_3 a0_4 a0_5 a0_6 a0_7 a0_8 a0_9 a0_10 a0_11 a0_12 a0_13 a1_0 a1_1 a1_2 a1_3 a1_4 a2_0 a2_1 a2_2 a2_3 a2_4, fun _ => rfl⟩
  · cases h
noncomputable def mrs18 : List (FuncId × RFM) := (16, pureM S_rows_One) :: mrs17
noncomputable def menv21 : EnvM := mkEnvM mxs mrs18 mws3
theorem mrs18_ok : All (ROkM Try.prog false) mrs18 := All.cons t_rows_One mrs17_ok
theorem menv21_ok : menv21.Ok Try.prog false := mkEnvM_ok mxs_ok mrs18_ok mws3_ok
-- math.Sqrt
noncomputable def s_math_Sqrt_0 (a0_0 : Nat) : Nat := (fsqrt a0_0)
theorem e_math_Sqrt (a0_0 : Nat) : outB (evFnM Try.prog false menv21 [] [] 64 Try.f41 [AV.float a0_0] []) = some ((true), AV.float (s_math_Sqrt_0 a0_0)) := by kernel_rfl
noncomputable def S_math_Sqrt : List AV → Option (Ob × AV)
  | [AV.float a0_0] => some (Ob.tt, AV.float (s_math_Sqrt_0 a0_0))
  | _ => none
theorem t_math_Sqrt : ROkM Try.prog false (41, pureM S_math_Sqrt) := ROkM.pure (N := 64) menv21_ok Try.func41 Try.call41 fun args o v h => by
  unfold S_math_Sqrt at h
  split at h
  · rename_i a0_0
    cases h
    exact ⟨rfl, rfl, _, e_math_Sqrt a0_0, fun _ => rfl⟩
  · cases h
noncomputable def mrs19 : List (FuncId × RFM) := (41, pureM S_math_Sqrt) :: mrs18
noncomputable def menv22 : EnvM := mkEnvM mxs mrs19 mws3
theorem mrs19_ok : All (ROkM Try.prog false) mrs19 := All.cons t_math_Sqrt mrs18_ok
theorem menv22_ok : menv22.Ok Try.prog false := mkEnvM_ok mxs_ok mrs19_ok mws3_ok
-- tumble/num.none[float64]
noncomputable def s_num_none_float64__0 (a0_0 : Nat) : Bool := (!(feq a0_0 a0_0))
theorem e_num_none_float64_ (a0_0 : Nat) : outB (evFnM Try.prog false menv22 [] [] 64 Try.f75 [AV.float a0_0] []) = some ((true), AV.bool (s_num_none_float64__0 a0_0)) := by kernel_rfl
noncomputable def S_num_none_float64_ : List AV → Option (Ob × AV)
  | [AV.float a0_0] => some (Ob.tt, AV.bool (s_num_none_float64__0 a0_0))
  | _ => none
theorem t_num_none_float64_ : ROkM Try.prog false (75, pureM S_num_none_float64_) := ROkM.pure (N := 64) menv22_ok Try.func75 Try.call75 fun args o v h => by
  unfold S_num_none_float64_ at h
  split at h
  · rename_i a0_0
    cases h
    exact ⟨rfl, rfl, _, e_num_none_float64_ a0_0, fun _ => rfl⟩
  · cases h
noncomputable def mrs20 : List (FuncId × RFM) := (75, pureM S_num_none_float64_) :: mrs19
noncomputable def menv23 : EnvM := mkEnvM mxs mrs20 mws3
theorem mrs20_ok : All (ROkM Try.prog false) mrs20 := All.cons t_num_none_float64_ mrs19_ok
theorem menv23_ok : menv23.Ok Try.prog false := mkEnvM_ok mxs_ok mrs20_ok mws3_ok
-- tumble/num.minus[float64]
noncomputable def s_num_minus_float64__0 (a0_0 : Nat) : Bool := (flt (fdiv 4607182418800017408 a0_0) 0)
theorem e_num_minus_float64_ (a0_0 : Nat) : outB (evFnM Try.prog false menv23 [] [] 64 Try.f76 [AV.float a0_0] []) = some ((true), AV.bool (s_num_minus_float64__0 a0_0)) := by kernel_rfl
noncomputable def S_num_minus_float64_ : List AV → Option (Ob × AV)
  | [AV.float a0_0] => some (Ob.tt, AV.bool (s_num_minus_float64__0 a0_0))
  | _ => none
theorem t_num_minus_float64_ : ROkM Try.prog false (76, pureM S_num_minus_float64_) := ROkM.pure (N := 64) menv23_ok Try.func76 Try.call76 fun args o v h => by
  unfold S_num_minus_float64_ at h
  split at h
  · rename_i a0_0
    cases h
    exact ⟨rfl, rfl, _, e_num_minus_float64_ a0_0, fun _ => rfl⟩
  · cases h
noncomputable def mrs21 : List (FuncId × RFM) := (76, pureM S_num_minus_float64_) :: mrs20
noncomputable def menv24 : EnvM := mkEnvM mxs mrs21 mws3
theorem mrs21_ok : All (ROkM Try.prog false) mrs21 := All.cons t_num_minus_float64_ mrs20_ok
theorem menv24_ok : menv24.Ok Try.prog false := mkEnvM_ok mxs_ok mrs21_ok mws3_ok
-- tumble/num.Most[float64]
noncomputable def s_num_Most_float64__0 (a0_0 : Nat) (a1_0 : Nat) : Nat := (bif (((s_num_none_float64__0 a0_0) || (flt a0_0 a1_0)) || (((feq a0_0 0) && (feq a1_0 0)) && (s_num_minus_float64__0 a0_0))) then a1_0 else a0_0)
theorem e_num_Most_float64_ (a0_0 : Nat) (a1_0 : Nat) : outB (evFnM Try.prog false menv24 [] [] 64 Try.f42 [AV.float a0_0, AV.float a1_0] []) = some ((true), AV.float (s_num_Most_float64__0 a0_0 a1_0)) := by kernel_rfl
noncomputable def S_num_Most_float64_ : List AV → Option (Ob × AV)
  | [AV.float a0_0, AV.float a1_0] => some (Ob.tt, AV.float (s_num_Most_float64__0 a0_0 a1_0))
  | _ => none
theorem t_num_Most_float64_ : ROkM Try.prog false (42, pureM S_num_Most_float64_) := ROkM.pure (N := 64) menv24_ok Try.func42 Try.call42 fun args o v h => by
  unfold S_num_Most_float64_ at h
  split at h
  · rename_i a0_0 a1_0
    cases h
    exact ⟨rfl, rfl, _, e_num_Most_float64_ a0_0 a1_0, fun _ => rfl⟩
  · cases h
noncomputable def mrs22 : List (FuncId × RFM) := (42, pureM S_num_Most_float64_) :: mrs21
noncomputable def menv25 : EnvM := mkEnvM mxs mrs22 mws3
theorem mrs22_ok : All (ROkM Try.prog false) mrs22 := All.cons t_num_Most_float64_ mrs21_ok
theorem menv25_ok : menv25.Ok Try.prog false := mkEnvM_ok mxs_ok mrs22_ok mws3_ok
-- tumble/rows.Mix
noncomputable def mws4 : List (FuncId × WFM) := (11, inlWM Try.prog false menv25 [] [] 64 Try.f11) :: mws3
noncomputable def menv26 : EnvM := mkEnvM mxs mrs22 mws4
theorem mws4_ok : All (WOkM Try.prog false) mws4 := All.cons (WOkM.inl menv25_ok Try.func11 Try.call11) mws3_ok
theorem menv26_ok : menv26.Ok Try.prog false := mkEnvM_ok mxs_ok mrs22_ok mws4_ok
-- tumble/rows.Check
noncomputable def s_rows_Check_0 (a0_0 : Int) (a0_1 : Int) (a0_2 : Nat) (a0_3 : Nat) (a0_4 : Nat) (a0_5 : Nat) (a0_6 : Nat) (a0_7 : Nat) (a0_8 : Nat) (a0_9 : Nat) (a0_10 : Nat) (a0_11 : Nat) (a0_12 : Int) (a0_13 : Nat) (a1_0 : Int) (a2_0 : Int) : Int := (bif (((!(s_rows_fits_0 a0_0 a0_1 a0_2 a0_3 a0_4 a0_5 a0_6 a0_7 a0_8 a0_9 a0_10 a0_11 a0_12 a0_13)) || (ile a2_0 (if a0_1 > a0_0 then a0_1 else a0_0))) || (ile a1_0 a0_12)) then (200 : Int) else (0 : Int))
theorem e_rows_Check (a0_0 : Int) (a0_1 : Int) (a0_2 : Nat) (a0_3 : Nat) (a0_4 : Nat) (a0_5 : Nat) (a0_6 : Nat) (a0_7 : Nat) (a0_8 : Nat) (a0_9 : Nat) (a0_10 : Nat) (a0_11 : Nat) (a0_12 : Int) (a0_13 : Nat) (a1_0 : Int) (a2_0 : Int) : outB (evFnM Try.prog false menv26 [] [] 64 Try.f28 [AV.agg [.int .i64 a0_0, .int .i64 a0_1, .float a0_2, .float a0_3, .float a0_4, .float a0_5, .float a0_6, .float a0_7, .float a0_8, .float a0_9, .float a0_10, .float a0_11, .int .i64 a0_12, .float a0_13], AV.int .i64 a1_0, AV.int .i64 a2_0] []) = some ((true), AV.int .i64 (s_rows_Check_0 a0_0 a0_1 a0_2 a0_3 a0_4 a0_5 a0_6 a0_7 a0_8 a0_9 a0_10 a0_11 a0_12 a0_13 a1_0 a2_0)) := by kernel_rfl
noncomputable def S_rows_Check : List AV → Option (Ob × AV)
  | [AV.agg [.int .i64 a0_0, .int .i64 a0_1, .float a0_2, .float a0_3, .float a0_4, .float a0_5, .float a0_6, .float a0_7, .float a0_8, .float a0_9, .float a0_10, .float a0_11, .int .i64 a0_12, .float a0_13], AV.int .i64 a1_0, AV.int .i64 a2_0] => some (Ob.tt, AV.int .i64 (s_rows_Check_0 a0_0 a0_1 a0_2 a0_3 a0_4 a0_5 a0_6 a0_7 a0_8 a0_9 a0_10 a0_11 a0_12 a0_13 a1_0 a2_0))
  | _ => none
theorem t_rows_Check : ROkM Try.prog false (28, pureM S_rows_Check) := ROkM.pure (N := 64) menv26_ok Try.func28 Try.call28 fun args o v h => by
  unfold S_rows_Check at h
  split at h
  · rename_i a0_0 a0_1 a0_2 a0_3 a0_4 a0_5 a0_6 a0_7 a0_8 a0_9 a0_10 a0_11 a0_12 a0_13 a1_0 a2_0
    cases h
    exact ⟨rfl, rfl, _, e_rows_Check a0_0 a0_1 a0_2 a0_3 a0_4 a0_5 a0_6 a0_7 a0_8 a0_9 a0_10 a0_11 a0_12 a0_13 a1_0 a2_0, fun _ => rfl⟩
  · cases h
noncomputable def mrs23 : List (FuncId × RFM) := (28, pureM S_rows_Check) :: mrs22
noncomputable def menv27 : EnvM := mkEnvM mxs mrs23 mws4
theorem mrs23_ok : All (ROkM Try.prog false) mrs23 := All.cons t_rows_Check mrs22_ok
theorem menv27_ok : menv27.Ok Try.prog false := mkEnvM_ok mxs_ok mrs23_ok mws4_ok
-- tumble/tumblelaw20.alive
noncomputable def s_law20_alive_0 : Bool := true
theorem e_law20_alive : outB (evFnM Try.prog false menv27 [] [] 64 Try.f10 [] []) = some ((true), AV.bool (s_law20_alive_0)) := by kernel_rfl
noncomputable def S_law20_alive : List AV → Option (Ob × AV)
  | [] => some (Ob.tt, AV.bool (s_law20_alive_0))
  | _ => none
theorem t_law20_alive : ROkM Try.prog false (10, pureM S_law20_alive) := ROkM.pure (N := 64) menv27_ok Try.func10 Try.call10 fun args o v h => by
  unfold S_law20_alive at h
  split at h
  · skip
    cases h
    exact ⟨rfl, rfl, _, e_law20_alive, fun _ => rfl⟩
  · cases h
noncomputable def mrs24 : List (FuncId × RFM) := (10, pureM S_law20_alive) :: mrs23
noncomputable def menv28 : EnvM := mkEnvM mxs mrs24 mws4
theorem mrs24_ok : All (ROkM Try.prog false) mrs24 := All.cons t_law20_alive mrs23_ok
theorem menv28_ok : menv28.Ok Try.prog false := mkEnvM_ok mxs_ok mrs24_ok mws4_ok
-- math.Abs
noncomputable def S_math_Abs : List AV → Option AV
  | [AV.float a] => some (AV.float (fabs a))
  | _ => none
theorem t_math_Abs : ROk Try.prog false (20, pureF S_math_Abs) := exact1f (N := 64) xenv_ok Try.func20 Try.call20 fabs (fun args v h => by
    unfold S_math_Abs at h
    split at h
    · cases h; exact ⟨_, rfl, rfl⟩
    · cases h) fun b hb => ⟨_, by refine Eq.trans ?_ (abs_tree hb); kernel_rfl, (fabs_cn b).symm⟩
noncomputable def mrs25 : List (FuncId × RFM) := (20, pureM fun args => match S_math_Abs args with | some v => some (.tt, v) | none => none) :: mrs24
noncomputable def menv29 : EnvM := mkEnvM mxs mrs25 mws4
theorem mrs25_ok : All (ROkM Try.prog false) mrs25 := All.cons t_math_Abs.toM mrs24_ok
theorem menv29_ok : menv29.Ok Try.prog false := mkEnvM_ok mxs_ok mrs25_ok mws4_ok
-- tumble/tumblelaw20.usual
noncomputable def mws5 : List (FuncId × WFM) := (45, inlWM Try.prog false menv29 [8] [] 64 Try.f45) :: mws4
noncomputable def menv30 : EnvM := mkEnvM mxs mrs25 mws5
theorem mws5_ok : All (WOkM Try.prog false) mws5 := All.cons (WOkM.inl menv29_ok Try.func45 Try.call45) mws4_ok
theorem menv30_ok : menv30.Ok Try.prog false := mkEnvM_ok mxs_ok mrs25_ok mws5_ok
-- tumble/tumblelaw20.usuals
noncomputable def s_law20_usuals_0 (a0_0 : Int) (a0_1 : Int) (a0_2 : Nat) (a0_3 : Nat) (a0_4 : Nat) (a0_5 : Nat) (a0_6 : Nat) (a0_7 : Nat) (a0_8 : Nat) (a0_9 : Nat) (a0_10 : Nat) (a0_11 : Nat) (a0_12 : Int) (a0_13 : Nat) (a1_0 : Nat) (a1_1 : Nat) (a1_2 : Nat) (a1_3 : Nat) (a1_4 : Nat) (a2_0 : Nat) (a2_1 : Nat) (a2_2 : Nat) (a2_3 : Nat) (a2_4 : Nat) : Bool := let x0 : Bool := ((!(feq a2_3 0)) && (!((fle 4427038433705197568 (fabs a2_3)) && (fle (fabs a2_3) 4787326403894837248)))); let x1 : Bool := ((!(feq a2_2 0)) && (!((fle 4427038433705197568 (fabs a2_2)) && (fle (fabs a2_2) 4787326403894837248)))); let x2 : Bool := ((!(feq a2_1 0)) && (!((fle 4427038433705197568 (fabs a2_1)) && (fle (fabs a2_1) 4787326403894837248)))); let x3 : Bool := ((!(feq a2_0 0)) && (!((fle 4427038433705197568 (fabs a2_0)) && (fle (fabs a2_0) 4787326403894837248)))); let x4 : Bool := ((!(feq a1_4 0)) && (!((fle 4427038433705197568 (fabs a1_4)) && (fle (fabs a1_4) 4787326403894837248)))); let x5 : Bool := ((!(feq a1_3 0)) && (!((fle 4427038433705197568 (fabs a1_3)) && (fle (fabs a1_3) 4787326403894837248)))); let x6 : Bool := ((!(feq a1_2 0)) && (!((fle 4427038433705197568 (fabs a1_2)) && (fle (fabs a1_2) 4787326403894837248)))); let x7 : Bool := ((!(feq a1_1 0)) && (!((fle 4427038433705197568 (fabs a1_1)) && (fle (fabs a1_1) 4787326403894837248)))); let x8 : Bool := ((!(feq a1_0 0)) && (!((fle 4427038433705197568 (fabs a1_0)) && (fle (fabs a1_0) 4787326403894837248)))); let x9 : Bool := ((!(feq a0_13 0)) && (!((fle 4427038433705197568 (fabs a0_13)) && (fle (fabs a0_13) 4787326403894837248)))); let x10 : Bool := ((!(feq a0_11 0)) && (!((fle 4427038433705197568 (fabs a0_11)) && (fle (fabs a0_11) 4787326403894837248)))); let x11 : Bool := ((!(feq a0_8 0)) && (!((fle 4427038433705197568 (fabs a0_8)) && (fle (fabs a0_8) 4787326403894837248)))); let x12 : Bool := ((!(feq a0_7 0)) && (!((fle 4427038433705197568 (fabs a0_7)) && (fle (fabs a0_7) 4787326403894837248)))); let x13 : Bool := ((!(feq a0_6 0)) && (!((fle 4427038433705197568 (fabs a0_6)) && (fle (fabs a0_6) 4787326403894837248)))); let x14 : Bool := ((!(feq a0_5 0)) && (!((fle 4427038433705197568 (fabs a0_5)) && (fle (fabs a0_5) 4787326403894837248)))); let x15 : Bool := ((!(feq a0_4 0)) && (!((fle 4427038433705197568 (fabs a0_4)) && (fle (fabs a0_4) 4787326403894837248)))); let x16 : Bool := ((!(feq a0_3 0)) && (!((fle 4427038433705197568 (fabs a0_3)) && (fle (fabs a0_3) 4787326403894837248)))); let x17 : Bool := ((!(feq a0_2 0)) && (!((fle 4427038433705197568 (fabs a0_2)) && (fle (fabs a0_2) 4787326403894837248)))); ((((((((bif (x17 || (x16 || (x15 || (x14 || (x13 || (x12 || (x11 || (x10 || (x9 || ((!(feq a0_9 0)) && (!((fle 4427038433705197568 (fabs a0_9)) && (fle (fabs a0_9) 4787326403894837248))))))))))))) then (bif x17 then false else (bif x16 then false else (bif x15 then false else (bif x14 then false else (bif x13 then false else (bif x12 then false else (bif x11 then false else (bif x10 then false else (x9 && false))))))))) else true) && (bif (x8 || (x7 || (x6 || (x5 || (x4 || (x3 || (x2 || (x1 || (x0 || ((!(feq a2_4 0)) && (!((fle 4427038433705197568 (fabs a2_4)) && (fle (fabs a2_4) 4787326403894837248))))))))))))) then (bif x8 then false else (bif x7 then false else (bif x6 then false else (bif x5 then false else (bif x4 then false else (bif x3 then false else (bif x2 then false else (bif x1 then false else (x0 && false))))))))) else true)) && ((bif ((!(feq a0_10 0)) && (!((fle 4427038433705197568 (fabs a0_10)) && (fle (fabs a0_10) 4787326403894837248)))) then false else true) || (flt 4787326403894837248 a0_10))) && (ieq (s_rows_Check_0 a0_0 a0_1 a0_2 a0_3 a0_4 a0_5 a0_6 a0_7 a0_8 a0_9 a0_10 a0_11 a0_12 a0_13 (1099511627776 : Int) (1099511627776 : Int)) (0 : Int))) && (fle 0 a1_0)) && (fle 0 a1_1)) && (fle 0 a2_0)) && (fle 0 a2_1))
theorem e_law20_usuals (a0_0 : Int) (a0_1 : Int) (a0_2 : Nat) (a0_3 : Nat) (a0_4 : Nat) (a0_5 : Nat) (a0_6 : Nat) (a0_7 : Nat) (a0_8 : Nat) (a0_9 : Nat) (a0_10 : Nat) (a0_11 : Nat) (a0_12 : Int) (a0_13 : Nat) (a1_0 : Nat) (a1_1 : Nat) (a1_2 : Nat) (a1_3 : Nat) (a1_4 : Nat) (a2_0 : Nat) (a2_1 : Nat) (a2_2 : Nat) (a2_3 : Nat) (a2_4 : Nat) : outB (evFnM Try.prog false menv30 [] [] 64 Try.f14 [AV.agg [.int .i64 a0_0, .int .i64 a0_1, .float a0_2, .float a0_3, .float a0_4, .float a0_5, .float a0_6, .float a0_7, .float a0_8, .float a0_9, .float a0_10, .float a0_11, .int .i64 a0_12, .float a0_13], AV.agg [.float a1_0, .float a1_1, .float a1_2, .float a1_3, .float a1_4], AV.agg [.float a2_0, .float a2_1, .float a2_2, .float a2_3, .float a2_4]] []) = some ((true), AV.bool (s_law20_usuals_0 a0_0 a0_1 a0_2 a0_3 a0_4 a0_5 a0_6 a0_7 a0_8 a0_9 a0_10 a0_11 a0_12 a0_13 a1_0 a1_1 a1_2 a1_3 a1_4 a2_0 a2_1 a2_2 a2_3 a2_4)) := by kernel_rfl
noncomputable def S_law20_usuals : List AV → Option (Ob × AV)
  | [AV.agg [.int .i64 a0_0, .int .i64 a0_1, .float a0_2, .float a0_3, .float a0_4, .float a0_5, .float a0_6, .float a0_7, .float a0_8, .float a0_9, .float a0_10, .float a0_11, .int .i64 a0_12, .float a0_13], AV.agg [.float a1_0, .float a1_1, .float a1_2, .float a1_3, .float a1_4], AV.agg [.float a2_0, .float a2_1, .float a2_2, .float a2_3, .float a2_4]] => some (Ob.tt, AV.bool (s_law20_usuals_0 a0_0 a0_1 a0_2 a0_3 a0_4 a0_5 a0_6 a0_7 a0_8 a0_9 a0_10 a0_11 a0_12 a0_13 a1_0 a1_1 a1_2 a1_3 a1_4 a2_0 a2_1 a2_2 a2_3 a2_4))
  | _ => none
theorem t_law20_usuals : ROkM Try.prog false (14, pureM S_law20_usuals) := ROkM.pure (N := 64) menv30_ok Try.func14 Try.call14 fun args o v h => by
  unfold S_law20_usuals at h
  split at h
  · rename_i a0_0 a0_1 a0_2 a0_3 a0_4 a0_5 a0_6 a0_7 a0_8 a0_9 a0_10 a0_11 a0_12 a0_13 a1_0 a1_1 a1_2 a1_3 a1_4 a2_0 a2_1 a2_2 a2_3 a2_4
    cases h
    exact ⟨rfl, rfl, _, e_law20_usuals a0_0 a0_1 a0_2 a0_3 a0_4 a0_5 a0_6 a0_7 a0_8 a0_9 a0_10 a0_11 a0_12 a0_13 a1_0 a1_1 a1_2 a1_3 a1_4 a2_0 a2_1 a2_2 a2_3 a2_4, fun _ => rfl⟩
  · cases h
noncomputable def mrs26 : List (FuncId × RFM) := (14, pureM S_law20_usuals) :: mrs25
noncomputable def menv31 : EnvM := mkEnvM mxs mrs26 mws5
theorem mrs26_ok : All (ROkM Try.prog false) mrs26 := All.cons t_law20_usuals mrs25_ok
theorem menv31_ok : menv31.Ok Try.prog false := mkEnvM_ok mxs_ok mrs26_ok mws5_ok
-- math.archLdexp
noncomputable def mws6 : List (FuncId × WFM) := (64, inlWM Try.prog false menv31 [] [] 64 Try.f64) :: mws5
noncomputable def menv32 : EnvM := mkEnvM mxs mrs26 mws6
theorem mws6_ok : All (WOkM Try.prog false) mws6 := All.cons (WOkM.inl menv31_ok Try.func64 Try.call64) mws5_ok
theorem menv32_ok : menv32.Ok Try.prog false := mkEnvM_ok mxs_ok mrs26_ok mws6_ok
-- math.IsInf
noncomputable def s_math_IsInf_0 (a0_0 : Nat) (a1_0 : Int) : Bool := (flt 9218868437227405311 (bif (ieq a1_0 (0 : Int)) then (fabs a0_0) else (bif (ilt a1_0 (0 : Int)) then (fneg a0_0) else a0_0)))
theorem e_math_IsInf (a0_0 : Nat) (a1_0 : Int) : outB (evFnM Try.prog false menv32 [] [] 64 Try.f92 [AV.float a0_0, AV.int .i64 a1_0] []) = some ((true), AV.bool (s_math_IsInf_0 a0_0 a1_0)) := by kernel_rfl
noncomputable def S_math_IsInf : List AV → Option (Ob × AV)
  | [AV.float a0_0, AV.int .i64 a1_0] => some (Ob.tt, AV.bool (s_math_IsInf_0 a0_0 a1_0))
  | _ => none
theorem t_math_IsInf : ROkM Try.prog false (92, pureM S_math_IsInf) := ROkM.pure (N := 64) menv32_ok Try.func92 Try.call92 fun args o v h => by
  unfold S_math_IsInf at h
  split at h
  · rename_i a0_0 a1_0
    cases h
    exact ⟨rfl, rfl, _, e_math_IsInf a0_0 a1_0, fun _ => rfl⟩
  · cases h
noncomputable def mrs27 : List (FuncId × RFM) := (92, pureM S_math_IsInf) :: mrs26
noncomputable def menv33 : EnvM := mkEnvM mxs mrs27 mws6
theorem mrs27_ok : All (ROkM Try.prog false) mrs27 := All.cons t_math_IsInf mrs26_ok
theorem menv33_ok : menv33.Ok Try.prog false := mkEnvM_ok mxs_ok mrs27_ok mws6_ok
-- math.IsNaN
noncomputable def s_math_IsNaN_0 (a0_0 : Nat) : Bool := (!(feq a0_0 a0_0))
theorem e_math_IsNaN (a0_0 : Nat) : outB (evFnM Try.prog false menv33 [] [] 64 Try.f93 [AV.float a0_0] []) = some ((true), AV.bool (s_math_IsNaN_0 a0_0)) := by kernel_rfl
noncomputable def S_math_IsNaN : List AV → Option (Ob × AV)
  | [AV.float a0_0] => some (Ob.tt, AV.bool (s_math_IsNaN_0 a0_0))
  | _ => none
theorem t_math_IsNaN : ROkM Try.prog false (93, pureM S_math_IsNaN) := ROkM.pure (N := 64) menv33_ok Try.func93 Try.call93 fun args o v h => by
  unfold S_math_IsNaN at h
  split at h
  · rename_i a0_0
    cases h
    exact ⟨rfl, rfl, _, e_math_IsNaN a0_0, fun _ => rfl⟩
  · cases h
noncomputable def mrs28 : List (FuncId × RFM) := (93, pureM S_math_IsNaN) :: mrs27
noncomputable def menv34 : EnvM := mkEnvM mxs mrs28 mws6
theorem mrs28_ok : All (ROkM Try.prog false) mrs28 := All.cons t_math_IsNaN mrs27_ok
theorem menv34_ok : menv34.Ok Try.prog false := mkEnvM_ok mxs_ok mrs28_ok mws6_ok
-- math.normalize
noncomputable def s_math_normalize_0 (a0_0 : Nat) : Nat := (bif (flt (fabs a0_0) 4503599627370496) then (fmul a0_0 4841369599423283200) else a0_0)
noncomputable def s_math_normalize_1 (a0_0 : Nat) : Int := (bif (flt (fabs a0_0) 4503599627370496) then (-52 : Int) else (0 : Int))
theorem e_math_normalize (a0_0 : Nat) : outB (evFnM Try.prog false menv34 [] [] 64 Try.f94 [AV.float a0_0] []) = some ((true), AV.tup [AV.float (s_math_normalize_0 a0_0), AV.int .i64 (s_math_normalize_1 a0_0)]) := by kernel_rfl
noncomputable def S_math_normalize : List AV → Option (Ob × AV)
  | [AV.float a0_0] => some (Ob.tt, AV.tup [AV.float (s_math_normalize_0 a0_0), AV.int .i64 (s_math_normalize_1 a0_0)])
  | _ => none
theorem t_math_normalize : ROkM Try.prog false (94, pureM S_math_normalize) := ROkM.pure (N := 64) menv34_ok Try.func94 Try.call94 fun args o v h => by
  unfold S_math_normalize at h
  split at h
  · rename_i a0_0
    cases h
    exact ⟨rfl, rfl, _, e_math_normalize a0_0, fun _ => rfl⟩
  · cases h
noncomputable def mrs29 : List (FuncId × RFM) := (94, pureM S_math_normalize) :: mrs28
noncomputable def menv35 : EnvM := mkEnvM mxs mrs29 mws6
theorem mrs29_ok : All (ROkM Try.prog false) mrs29 := All.cons t_math_normalize mrs28_ok
theorem menv35_ok : menv35.Ok Try.prog false := mkEnvM_ok mxs_ok mrs29_ok mws6_ok
-- math.Copysign
noncomputable def S_math_Copysign : List AV → Option AV
  | [AV.float a, AV.float c] => cond (nanb c) none (some (AV.float (fcps a c)))
  | _ => none
theorem t_math_Copysign : ROk Try.prog false (95, pureF S_math_Copysign) := exact2f (N := 64) xenv_ok Try.func95 Try.call95 fcps (fun args v h => by
    unfold S_math_Copysign at h
    split at h
    · obtain ⟨hn, h⟩ := cond_some' h rfl; cases h; exact ⟨_, _, rfl, hn, rfl⟩
    · cases h) fun b d hb hd _ => ⟨_, by refine Eq.trans ?_ (cps_tree hb hd); kernel_rfl, cps_cn⟩
noncomputable def mrs30 : List (FuncId × RFM) := (95, pureM fun args => match S_math_Copysign args with | some v => some (.tt, v) | none => none) :: mrs29
noncomputable def menv36 : EnvM := mkEnvM mxs mrs30 mws6
theorem mrs30_ok : All (ROkM Try.prog false) mrs30 := All.cons t_math_Copysign.toM mrs29_ok
theorem menv36_ok : menv36.Ok Try.prog false := mkEnvM_ok mxs_ok mrs30_ok mws6_ok
-- math.ldexp
noncomputable def mws7 : List (FuncId × WFM) := (65, inlWM Try.prog false menv36 [] [] 64 Try.f65) :: mws6
noncomputable def menv37 : EnvM := mkEnvM mxs mrs30 mws7
theorem mws7_ok : All (WOkM Try.prog false) mws7 := All.cons (WOkM.inl menv36_ok Try.func65 Try.call65) mws6_ok
theorem menv37_ok : menv37.Ok Try.prog false := mkEnvM_ok mxs_ok mrs30_ok mws7_ok
-- math.Ldexp
noncomputable def mws8 : List (FuncId × WFM) := (31, inlWM Try.prog false menv37 [] [] 64 Try.f31) :: mws7
noncomputable def menv38 : EnvM := mkEnvM mxs mrs30 mws8
theorem mws8_ok : All (WOkM Try.prog false) mws8 := All.cons (WOkM.inl menv37_ok Try.func31 Try.call31) mws7_ok
theorem menv38_ok : menv38.Ok Try.prog false := mkEnvM_ok mxs_ok mrs30_ok mws8_ok
-- tumble/vec.Scale
noncomputable def s_vec_Scale_0 (a0_0 : Nat) (a0_1 : Nat) (a1_0 : Nat) : Nat := (fmul a0_0 a1_0)
noncomputable def s_vec_Scale_1 (a0_0 : Nat) (a0_1 : Nat) (a1_0 : Nat) : Nat := (fmul a0_1 a1_0)
theorem e_vec_Scale (a0_0 : Nat) (a0_1 : Nat) (a1_0 : Nat) : outB (evFnM Try.prog false menv38 [] [] 64 Try.f33 [AV.agg [.float a0_0, .float a0_1], AV.float a1_0] []) = some ((true), AV.agg [AV.float (s_vec_Scale_0 a0_0 a0_1 a1_0), AV.float (s_vec_Scale_1 a0_0 a0_1 a1_0)]) := by kernel_rfl
noncomputable def S_vec_Scale : List AV → Option (Ob × AV)
  | [AV.agg [.float a0_0, .float a0_1], AV.float a1_0] => some (Ob.tt, AV.agg [AV.float (s_vec_Scale_0 a0_0 a0_1 a1_0), AV.float (s_vec_Scale_1 a0_0 a0_1 a1_0)])
  | _ => none
theorem t_vec_Scale : ROkM Try.prog false (33, pureM S_vec_Scale) := ROkM.pure (N := 64) menv38_ok Try.func33 Try.call33 fun args o v h => by
  unfold S_vec_Scale at h
  split at h
  · rename_i a0_0 a0_1 a1_0
    cases h
    exact ⟨rfl, rfl, _, e_vec_Scale a0_0 a0_1 a1_0, fun _ => rfl⟩
  · cases h
noncomputable def mrs31 : List (FuncId × RFM) := (33, pureM S_vec_Scale) :: mrs30
noncomputable def menv39 : EnvM := mkEnvM mxs mrs31 mws8
theorem mrs31_ok : All (ROkM Try.prog false) mrs31 := All.cons t_vec_Scale mrs30_ok
theorem menv39_ok : menv39.Ok Try.prog false := mkEnvM_ok mxs_ok mrs31_ok mws8_ok
-- tumble/tumblelaw20.lighter
noncomputable def s_law20_lighter_0 (a0_0 : Nat) (a0_1 : Nat) (a0_2 : Nat) (a0_3 : Nat) (a0_4 : Nat) (a1_0 : Nat) : Nat := (fdiv (fdiv a0_0 a1_0) a1_0)
noncomputable def s_law20_lighter_1 (a0_0 : Nat) (a0_1 : Nat) (a0_2 : Nat) (a0_3 : Nat) (a0_4 : Nat) (a1_0 : Nat) : Nat := (fdiv (fdiv (fdiv (fdiv a0_1 a1_0) a1_0) a1_0) a1_0)
noncomputable def s_law20_lighter_2 (a0_0 : Nat) (a0_1 : Nat) (a0_2 : Nat) (a0_3 : Nat) (a0_4 : Nat) (a1_0 : Nat) : Nat := (s_vec_Scale_0 a0_2 a0_3 a1_0)
noncomputable def s_law20_lighter_3 (a0_0 : Nat) (a0_1 : Nat) (a0_2 : Nat) (a0_3 : Nat) (a0_4 : Nat) (a1_0 : Nat) : Nat := (s_vec_Scale_1 a0_2 a0_3 a1_0)
noncomputable def s_law20_lighter_4 (a0_0 : Nat) (a0_1 : Nat) (a0_2 : Nat) (a0_3 : Nat) (a0_4 : Nat) (a1_0 : Nat) : Nat := a0_4
theorem e_law20_lighter (a0_0 : Nat) (a0_1 : Nat) (a0_2 : Nat) (a0_3 : Nat) (a0_4 : Nat) (a1_0 : Nat) : outB (evFnM Try.prog false menv39 [] [] 64 Try.f32 [AV.agg [.float a0_0, .float a0_1, .float a0_2, .float a0_3, .float a0_4], AV.float a1_0] []) = some ((true), AV.agg [AV.float (s_law20_lighter_0 a0_0 a0_1 a0_2 a0_3 a0_4 a1_0), AV.float (s_law20_lighter_1 a0_0 a0_1 a0_2 a0_3 a0_4 a1_0), AV.float (s_law20_lighter_2 a0_0 a0_1 a0_2 a0_3 a0_4 a1_0), AV.float (s_law20_lighter_3 a0_0 a0_1 a0_2 a0_3 a0_4 a1_0), AV.float (s_law20_lighter_4 a0_0 a0_1 a0_2 a0_3 a0_4 a1_0)]) := by kernel_rfl
noncomputable def S_law20_lighter : List AV → Option (Ob × AV)
  | [AV.agg [.float a0_0, .float a0_1, .float a0_2, .float a0_3, .float a0_4], AV.float a1_0] => some (Ob.tt, AV.agg [AV.float (s_law20_lighter_0 a0_0 a0_1 a0_2 a0_3 a0_4 a1_0), AV.float (s_law20_lighter_1 a0_0 a0_1 a0_2 a0_3 a0_4 a1_0), AV.float (s_law20_lighter_2 a0_0 a0_1 a0_2 a0_3 a0_4 a1_0), AV.float (s_law20_lighter_3 a0_0 a0_1 a0_2 a0_3 a0_4 a1_0), AV.float (s_law20_lighter_4 a0_0 a0_1 a0_2 a0_3 a0_4 a1_0)])
  | _ => none
theorem t_law20_lighter : ROkM Try.prog false (32, pureM S_law20_lighter) := ROkM.pure (N := 64) menv39_ok Try.func32 Try.call32 fun args o v h => by
  unfold S_law20_lighter at h
  split at h
  · rename_i a0_0 a0_1 a0_2 a0_3 a0_4 a1_0
    cases h
    exact ⟨rfl, rfl, _, e_law20_lighter a0_0 a0_1 a0_2 a0_3 a0_4 a1_0, fun _ => rfl⟩
  · cases h
noncomputable def mrs32 : List (FuncId × RFM) := (32, pureM S_law20_lighter) :: mrs31
noncomputable def menv40 : EnvM := mkEnvM mxs mrs32 mws8
theorem mrs32_ok : All (ROkM Try.prog false) mrs32 := All.cons t_law20_lighter mrs31_ok
theorem menv40_ok : menv40.Ok Try.prog false := mkEnvM_ok mxs_ok mrs32_ok mws8_ok
-- tumble/tumblelaw20.RowScaled
noncomputable def T_law20_RowScaled (a0_0 : Int) (a0_1 : Int) (a0_2 : Nat) (a0_3 : Nat) (a0_4 : Nat) (a0_5 : Nat) (a0_6 : Nat) (a0_7 : Nat) (a0_8 : Nat) (a0_9 : Nat) (a0_10 : Nat) (a0_11 : Nat) (a0_12 : Int) (a0_13 : Nat) (a1_0 : Nat) (a1_1 : Nat) (a1_2 : Nat) (a1_3 : Nat) (a1_4 : Nat) (a2_0 : Nat) (a2_1 : Nat) (a2_2 : Nat) (a2_3 : Nat) (a2_4 : Nat) (a3_0 : Int) : Bool := let x0 : Int := (IntKind.wrap .i64 ((IntKind.wrap .i64 ((Int.tmod a3_0 (9 : Int)) + (0 : Int))) + (0 : Int))); let x1 : Bool := (ilt x0 (-1022 : Int)); let x2 : Nat := (bif (ilt x0 (-1075 : Int)) then 0 else (bif (ilt (1023 : Int) x0) then 9218868437227405312 else (fmul (bif x1 then 4368491638549381120 else 4607182418800017408) (cn (Int.toNat (IntKind.wrap .u64 ((((0 : Int) % (18446744073709551616 : Int)).toNat ||| ((IntKind.wrap .u64 ((IntKind.wrap .u64 (IntKind.wrap .i64 ((bif x1 then (IntKind.wrap .i64 (x0 + (53 : Int))) else x0) + (1023 : Int)))) * (4503599627370496 : Int))) % (18446744073709551616 : Int)).toNat : Nat) : Int))))))); let x3 : Nat := (s_law20_lighter_4 a2_0 a2_1 a2_2 a2_3 a2_4 x2); let x4 : Nat := (s_law20_lighter_3 a2_0 a2_1 a2_2 a2_3 a2_4 x2); let x5 : Nat := (s_law20_lighter_2 a2_0 a2_1 a2_2 a2_3 a2_4 x2); let x6 : Nat := (s_law20_lighter_1 a2_0 a2_1 a2_2 a2_3 a2_4 x2); let x7 : Nat := (s_law20_lighter_0 a2_0 a2_1 a2_2 a2_3 a2_4 x2); let x8 : Nat := (s_law20_lighter_4 a1_0 a1_1 a1_2 a1_3 a1_4 x2); let x9 : Nat := (s_law20_lighter_3 a1_0 a1_1 a1_2 a1_3 a1_4 x2); let x10 : Nat := (s_law20_lighter_2 a1_0 a1_1 a1_2 a1_3 a1_4 x2); let x11 : Nat := (s_law20_lighter_1 a1_0 a1_1 a1_2 a1_3 a1_4 x2); let x12 : Nat := (s_law20_lighter_0 a1_0 a1_1 a1_2 a1_3 a1_4 x2); let x13 : Nat := (fmul (fmul (fmul a0_11 x2) x2) x2); let x14 : Nat := (fmul (fmul (fmul a0_10 x2) x2) x2); let x15 : Nat := (fmul (fmul (fmul a0_9 x2) x2) x2); let x16 : Nat := (fmul a0_8 x2); let x17 : Nat := (fmul a0_7 x2); let x18 : Nat := (fmul a0_6 x2); let x19 : Nat := (s_rows_One_22 a0_0 a0_1 a0_2 a0_3 a0_4 a0_5 a0_6 a0_7 a0_8 a0_9 a0_10 a0_11 a0_12 a0_13 a1_0 a1_1 a1_2 a1_3 a1_4 a2_0 a2_1 a2_2 a2_3 a2_4); let x20 : Nat := (s_rows_One_21 a0_0 a0_1 a0_2 a0_3 a0_4 a0_5 a0_6 a0_7 a0_8 a0_9 a0_10 a0_11 a0_12 a0_13 a1_0 a1_1 a1_2 a1_3 a1_4 a2_0 a2_1 a2_2 a2_3 a2_4); let x21 : Nat := (s_rows_One_17 a0_0 a0_1 a0_2 a0_3 a0_4 a0_5 a0_6 a0_7 a0_8 a0_9 a0_10 a0_11 a0_12 a0_13 a1_0 a1_1 a1_2 a1_3 a1_4 a2_0 a2_1 a2_2 a2_3 a2_4); let x22 : Nat := (s_rows_One_16 a0_0 a0_1 a0_2 a0_3 a0_4 a0_5 a0_6 a0_7 a0_8 a0_9 a0_10 a0_11 a0_12 a0_13 a1_0 a1_1 a1_2 a1_3 a1_4 a2_0 a2_1 a2_2 a2_3 a2_4); ((!(s_law20_usuals_0 a0_0 a0_1 a0_2 a0_3 a0_4 a0_5 a0_6 a0_7 a0_8 a0_9 a0_10 a0_11 a0_12 a0_13 a1_0 a1_1 a1_2 a1_3 a1_4 a2_0 a2_1 a2_2 a2_3 a2_4)) || (((((((((((((ieq (s_rows_Speed_1 a0_0 a0_1 a0_2 a0_3 a0_4 a0_5 a0_6 a0_7 a0_8 a0_9 a0_10 a0_11 a0_12 a0_13 a1_0 a1_1 a1_2 a1_3 a1_4 a2_0 a2_1 a2_2 a2_3 a2_4) (0 : Int)) && (ieq (s_rows_Speed_1 a0_0 a0_1 a0_2 a0_3 a0_4 a0_5 x18 x17 x16 x15 x14 x13 a0_12 a0_13 x12 x11 x10 x9 x8 x7 x6 x5 x4 x3) (0 : Int))) && (ieq (s_rows_Weight_1 a0_0 a0_1 a0_2 a0_3 a0_4 a0_5 a0_6 a0_7 a0_8 a0_9 a0_10 a0_11 a0_12 a0_13 a1_0 a1_1 a1_2 a1_3 a1_4 a2_0 a2_1 a2_2 a2_3 a2_4) (0 : Int))) && (ieq (s_rows_Weight_1 a0_0 a0_1 a0_2 a0_3 a0_4 a0_5 x18 x17 x16 x15 x14 x13 a0_12 a0_13 x12 x11 x10 x9 x8 x7 x6 x5 x4 x3) (0 : Int))) && (ieq (s_rows_One_24 a0_0 a0_1 a0_2 a0_3 a0_4 a0_5 a0_6 a0_7 a0_8 a0_9 a0_10 a0_11 a0_12 a0_13 a1_0 a1_1 a1_2 a1_3 a1_4 a2_0 a2_1 a2_2 a2_3 a2_4) (0 : Int))) && (ieq (s_rows_One_24 a0_0 a0_1 a0_2 a0_3 a0_4 a0_5 x18 x17 x16 x15 x14 x13 a0_12 a0_13 x12 x11 x10 x9 x8 x7 x6 x5 x4 x3) (0 : Int))) && (feq (s_rows_Speed_0 a0_0 a0_1 a0_2 a0_3 a0_4 a0_5 x18 x17 x16 x15 x14 x13 a0_12 a0_13 x12 x11 x10 x9 x8 x7 x6 x5 x4 x3) (fmul (s_rows_Speed_0 a0_0 a0_1 a0_2 a0_3 a0_4 a0_5 a0_6 a0_7 a0_8 a0_9 a0_10 a0_11 a0_12 a0_13 a1_0 a1_1 a1_2 a1_3 a1_4 a2_0 a2_1 a2_2 a2_3 a2_4) x2))) && (feq (s_rows_Weight_0 a0_0 a0_1 a0_2 a0_3 a0_4 a0_5 x18 x17 x16 x15 x14 x13 a0_12 a0_13 x12 x11 x10 x9 x8 x7 x6 x5 x4 x3) (fdiv (fdiv (s_rows_Weight_0 a0_0 a0_1 a0_2 a0_3 a0_4 a0_5 a0_6 a0_7 a0_8 a0_9 a0_10 a0_11 a0_12 a0_13 a1_0 a1_1 a1_2 a1_3 a1_4 a2_0 a2_1 a2_2 a2_3 a2_4) x2) x2))) && (feq (s_rows_One_11 a0_0 a0_1 a0_2 a0_3 a0_4 a0_5 x18 x17 x16 x15 x14 x13 a0_12 a0_13 x12 x11 x10 x9 x8 x7 x6 x5 x4 x3) (fmul (fmul (fmul (s_rows_One_11 a0_0 a0_1 a0_2 a0_3 a0_4 a0_5 a0_6 a0_7 a0_8 a0_9 a0_10 a0_11 a0_12 a0_13 a1_0 a1_1 a1_2 a1_3 a1_4 a2_0 a2_1 a2_2 a2_3 a2_4) x2) x2) x2))) && ((feq (s_rows_One_16 a0_0 a0_1 a0_2 a0_3 a0_4 a0_5 x18 x17 x16 x15 x14 x13 a0_12 a0_13 x12 x11 x10 x9 x8 x7 x6 x5 x4 x3) (s_vec_Scale_0 x22 x21 x2)) && ((feq (s_rows_One_17 a0_0 a0_1 a0_2 a0_3 a0_4 a0_5 x18 x17 x16 x15 x14 x13 a0_12 a0_13 x12 x11 x10 x9 x8 x7 x6 x5 x4 x3) (s_vec_Scale_1 x22 x21 x2)) && true))) && (feq (s_rows_One_18 a0_0 a0_1 a0_2 a0_3 a0_4 a0_5 x18 x17 x16 x15 x14 x13 a0_12 a0_13 x12 x11 x10 x9 x8 x7 x6 x5 x4 x3) (s_rows_One_18 a0_0 a0_1 a0_2 a0_3 a0_4 a0_5 a0_6 a0_7 a0_8 a0_9 a0_10 a0_11 a0_12 a0_13 a1_0 a1_1 a1_2 a1_3 a1_4 a2_0 a2_1 a2_2 a2_3 a2_4))) && ((feq (s_rows_One_21 a0_0 a0_1 a0_2 a0_3 a0_4 a0_5 x18 x17 x16 x15 x14 x13 a0_12 a0_13 x12 x11 x10 x9 x8 x7 x6 x5 x4 x3) (s_vec_Scale_0 x20 x19 x2)) && ((feq (s_rows_One_22 a0_0 a0_1 a0_2 a0_3 a0_4 a0_5 x18 x17 x16 x15 x14 x13 a0_12 a0_13 x12 x11 x10 x9 x8 x7 x6 x5 x4 x3) (s_vec_Scale_1 x20 x19 x2)) && true))) && (feq (s_rows_One_23 a0_0 a0_1 a0_2 a0_3 a0_4 a0_5 x18 x17 x16 x15 x14 x13 a0_12 a0_13 x12 x11 x10 x9 x8 x7 x6 x5 x4 x3) (s_rows_One_23 a0_0 a0_1 a0_2 a0_3 a0_4 a0_5 a0_6 a0_7 a0_8 a0_9 a0_10 a0_11 a0_12 a0_13 a1_0 a1_1 a1_2 a1_3 a1_4 a2_0 a2_1 a2_2 a2_3 a2_4))))
noncomputable def O_law20_RowScaled (a0_0 : Int) (a0_1 : Int) (a0_2 : Nat) (a0_3 : Nat) (a0_4 : Nat) (a0_5 : Nat) (a0_6 : Nat) (a0_7 : Nat) (a0_8 : Nat) (a0_9 : Nat) (a0_10 : Nat) (a0_11 : Nat) (a0_12 : Int) (a0_13 : Nat) (a1_0 : Nat) (a1_1 : Nat) (a1_2 : Nat) (a1_3 : Nat) (a1_4 : Nat) (a2_0 : Nat) (a2_1 : Nat) (a2_2 : Nat) (a2_3 : Nat) (a2_4 : Nat) (a3_0 : Int) : Bool := let x0 : Int := (IntKind.wrap .i64 ((IntKind.wrap .i64 ((Int.tmod a3_0 (9 : Int)) + (0 : Int))) + (0 : Int))); let x1 : Bool := (ilt x0 (-1022 : Int)); let x2 : Int := (IntKind.wrap .u64 ((((0 : Int) % (18446744073709551616 : Int)).toNat ||| ((IntKind.wrap .u64 ((IntKind.wrap .u64 (IntKind.wrap .i64 ((bif x1 then (IntKind.wrap .i64 (x0 + (53 : Int))) else x0) + (1023 : Int)))) * (4503599627370496 : Int))) % (18446744073709551616 : Int)).toNat : Nat) : Int)); let x3 : Bool := (ilt (1023 : Int) x0); let x4 : Bool := (ilt x0 (-1075 : Int)); let x5 : Bool := (x4 || (x3 || ((u64ok x2) && (x1 || true)))); let x6 : Bool := (ieq (s_rows_Speed_1 a0_0 a0_1 a0_2 a0_3 a0_4 a0_5 a0_6 a0_7 a0_8 a0_9 a0_10 a0_11 a0_12 a0_13 a1_0 a1_1 a1_2 a1_3 a1_4 a2_0 a2_1 a2_2 a2_3 a2_4) (0 : Int)); let x7 : Bool := (bif x6 then x5 else x5); let x8 : Nat := (bif x4 then 0 else (bif x3 then 9218868437227405312 else (fmul (bif x1 then 4368491638549381120 else 4607182418800017408) (cn (Int.toNat x2))))); let x9 : Nat := (s_law20_lighter_4 a2_0 a2_1 a2_2 a2_3 a2_4 x8); let x10 : Nat := (s_law20_lighter_3 a2_0 a2_1 a2_2 a2_3 a2_4 x8); let x11 : Nat := (s_law20_lighter_2 a2_0 a2_1 a2_2 a2_3 a2_4 x8); let x12 : Nat := (s_law20_lighter_1 a2_0 a2_1 a2_2 a2_3 a2_4 x8); let x13 : Nat := (s_law20_lighter_0 a2_0 a2_1 a2_2 a2_3 a2_4 x8); let x14 : Nat := (s_law20_lighter_4 a1_0 a1_1 a1_2 a1_3 a1_4 x8); let x15 : Nat := (s_law20_lighter_3 a1_0 a1_1 a1_2 a1_3 a1_4 x8); let x16 : Nat := (s_law20_lighter_2 a1_0 a1_1 a1_2 a1_3 a1_4 x8); let x17 : Nat := (s_law20_lighter_1 a1_0 a1_1 a1_2 a1_3 a1_4 x8); let x18 : Nat := (s_law20_lighter_0 a1_0 a1_1 a1_2 a1_3 a1_4 x8); let x19 : Nat := (fmul (fmul (fmul a0_11 x8) x8) x8); let x20 : Nat := (fmul (fmul (fmul a0_10 x8) x8) x8); let x21 : Nat := (fmul (fmul (fmul a0_9 x8) x8) x8); let x22 : Nat := (fmul a0_8 x8); let x23 : Nat := (fmul a0_7 x8); let x24 : Nat := (fmul a0_6 x8); let x25 : Bool := (x6 && (ieq (s_rows_Speed_1 a0_0 a0_1 a0_2 a0_3 a0_4 a0_5 x24 x23 x22 x21 x20 x19 a0_12 a0_13 x18 x17 x16 x15 x14 x13 x12 x11 x10 x9) (0 : Int))); let x26 : Bool := (bif x25 then x7 else x7); let x27 : Bool := (x25 && (ieq (s_rows_Weight_1 a0_0 a0_1 a0_2 a0_3 a0_4 a0_5 a0_6 a0_7 a0_8 a0_9 a0_10 a0_11 a0_12 a0_13 a1_0 a1_1 a1_2 a1_3 a1_4 a2_0 a2_1 a2_2 a2_3 a2_4) (0 : Int))); let x28 : Bool := (bif x27 then x26 else x26); let x29 : Bool := (x27 && (ieq (s_rows_Weight_1 a0_0 a0_1 a0_2 a0_3 a0_4 a0_5 x24 x23 x22 x21 x20 x19 a0_12 a0_13 x18 x17 x16 x15 x14 x13 x12 x11 x10 x9) (0 : Int))); let x30 : Bool := (bif x29 then x28 else x28); let x31 : Bool := (x29 && (ieq (s_rows_One_24 a0_0 a0_1 a0_2 a0_3 a0_4 a0_5 a0_6 a0_7 a0_8 a0_9 a0_10 a0_11 a0_12 a0_13 a1_0 a1_1 a1_2 a1_3 a1_4 a2_0 a2_1 a2_2 a2_3 a2_4) (0 : Int))); let x32 : Bool := (bif x31 then x30 else x30); let x33 : Bool := (x31 && (ieq (s_rows_One_24 a0_0 a0_1 a0_2 a0_3 a0_4 a0_5 x24 x23 x22 x21 x20 x19 a0_12 a0_13 x18 x17 x16 x15 x14 x13 x12 x11 x10 x9) (0 : Int))); let x34 : Bool := (bif x33 then x32 else x32); let x35 : Bool := (x33 && (feq (s_rows_Speed_0 a0_0 a0_1 a0_2 a0_3 a0_4 a0_5 x24 x23 x22 x21 x20 x19 a0_12 a0_13 x18 x17 x16 x15 x14 x13 x12 x11 x10 x9) (fmul (s_rows_Speed_0 a0_0 a0_1 a0_2 a0_3 a0_4 a0_5 a0_6 a0_7 a0_8 a0_9 a0_10 a0_11 a0_12 a0_13 a1_0 a1_1 a1_2 a1_3 a1_4 a2_0 a2_1 a2_2 a2_3 a2_4) x8))); let x36 : Bool := (bif x35 then x34 else x34); let x37 : Bool := (x35 && (feq (s_rows_Weight_0 a0_0 a0_1 a0_2 a0_3 a0_4 a0_5 x24 x23 x22 x21 x20 x19 a0_12 a0_13 x18 x17 x16 x15 x14 x13 x12 x11 x10 x9) (fdiv (fdiv (s_rows_Weight_0 a0_0 a0_1 a0_2 a0_3 a0_4 a0_5 a0_6 a0_7 a0_8 a0_9 a0_10 a0_11 a0_12 a0_13 a1_0 a1_1 a1_2 a1_3 a1_4 a2_0 a2_1 a2_2 a2_3 a2_4) x8) x8))); let x38 : Bool := (bif x37 then x36 else x36); let x39 : Bool := (x37 && (feq (s_rows_One_11 a0_0 a0_1 a0_2 a0_3 a0_4 a0_5 x24 x23 x22 x21 x20 x19 a0_12 a0_13 x18 x17 x16 x15 x14 x13 x12 x11 x10 x9) (fmul (fmul (fmul (s_rows_One_11 a0_0 a0_1 a0_2 a0_3 a0_4 a0_5 a0_6 a0_7 a0_8 a0_9 a0_10 a0_11 a0_12 a0_13 a1_0 a1_1 a1_2 a1_3 a1_4 a2_0 a2_1 a2_2 a2_3 a2_4) x8) x8) x8))); let x40 : Bool := (bif x39 then x38 else x38); let x41 : Nat := (s_rows_One_17 a0_0 a0_1 a0_2 a0_3 a0_4 a0_5 a0_6 a0_7 a0_8 a0_9 a0_10 a0_11 a0_12 a0_13 a1_0 a1_1 a1_2 a1_3 a1_4 a2_0 a2_1 a2_2 a2_3 a2_4); let x42 : Nat := (s_rows_One_16 a0_0 a0_1 a0_2 a0_3 a0_4 a0_5 a0_6 a0_7 a0_8 a0_9 a0_10 a0_11 a0_12 a0_13 a1_0 a1_1 a1_2 a1_3 a1_4 a2_0 a2_1 a2_2 a2_3 a2_4); let x43 : Bool := (x39 && ((feq (s_rows_One_16 a0_0 a0_1 a0_2 a0_3 a0_4 a0_5 x24 x23 x22 x21 x20 x19 a0_12 a0_13 x18 x17 x16 x15 x14 x13 x12 x11 x10 x9) (s_vec_Scale_0 x42 x41 x8)) && ((feq (s_rows_One_17 a0_0 a0_1 a0_2 a0_3 a0_4 a0_5 x24 x23 x22 x21 x20 x19 a0_12 a0_13 x18 x17 x16 x15 x14 x13 x12 x11 x10 x9) (s_vec_Scale_1 x42 x41 x8)) && true))); let x44 : Bool := (bif x43 then x40 else x40); let x45 : Bool := (x43 && (feq (s_rows_One_18 a0_0 a0_1 a0_2 a0_3 a0_4 a0_5 x24 x23 x22 x21 x20 x19 a0_12 a0_13 x18 x17 x16 x15 x14 x13 x12 x11 x10 x9) (s_rows_One_18 a0_0 a0_1 a0_2 a0_3 a0_4 a0_5 a0_6 a0_7 a0_8 a0_9 a0_10 a0_11 a0_12 a0_13 a1_0 a1_1 a1_2 a1_3 a1_4 a2_0 a2_1 a2_2 a2_3 a2_4))); let x46 : Bool := (bif x45 then x44 else x44); let x47 : Nat := (s_rows_One_22 a0_0 a0_1 a0_2 a0_3 a0_4 a0_5 a0_6 a0_7 a0_8 a0_9 a0_10 a0_11 a0_12 a0_13 a1_0 a1_1 a1_2 a1_3 a1_4 a2_0 a2_1 a2_2 a2_3 a2_4); let x48 : Nat := (s_rows_One_21 a0_0 a0_1 a0_2 a0_3 a0_4 a0_5 a0_6 a0_7 a0_8 a0_9 a0_10 a0_11 a0_12 a0_13 a1_0 a1_1 a1_2 a1_3 a1_4 a2_0 a2_1 a2_2 a2_3 a2_4); ((!(s_law20_usuals_0 a0_0 a0_1 a0_2 a0_3 a0_4 a0_5 a0_6 a0_7 a0_8 a0_9 a0_10 a0_11 a0_12 a0_13 a1_0 a1_1 a1_2 a1_3 a1_4 a2_0 a2_1 a2_2 a2_3 a2_4)) || (bif (x45 && ((feq (s_rows_One_21 a0_0 a0_1 a0_2 a0_3 a0_4 a0_5 x24 x23 x22 x21 x20 x19 a0_12 a0_13 x18 x17 x16 x15 x14 x13 x12 x11 x10 x9) (s_vec_Scale_0 x48 x47 x8)) && ((feq (s_rows_One_22 a0_0 a0_1 a0_2 a0_3 a0_4 a0_5 x24 x23 x22 x21 x20 x19 a0_12 a0_13 x18 x17 x16 x15 x14 x13 x12 x11 x10 x9) (s_vec_Scale_1 x48 x47 x8)) && true))) then x46 else x46))
theorem tree_law20_RowScaled (a0_0 : Int) (a0_1 : Int) (a0_2 : Nat) (a0_3 : Nat) (a0_4 : Nat) (a0_5 : Nat) (a0_6 : Nat) (a0_7 : Nat) (a0_8 : Nat) (a0_9 : Nat) (a0_10 : Nat) (a0_11 : Nat) (a0_12 : Int) (a0_13 : Nat) (a1_0 : Nat) (a1_1 : Nat) (a1_2 : Nat) (a1_3 : Nat) (a1_4 : Nat) (a2_0 : Nat) (a2_1 : Nat) (a2_2 : Nat) (a2_3 : Nat) (a2_4 : Nat) (a3_0 : Int) : outB (evFnM Try.prog false menv40 [32] [] 64 Try.f8 [AV.agg [.int .i64 a0_0, .int .i64 a0_1, .float a0_2, .float a0_3, .float a0_4, .float a0_5, .float a0_6, .float a0_7, .float a0_8, .float a0_9, .float a0_10, .float a0_11, .int .i64 a0_12, .float a0_13], AV.agg [.float a1_0, .float a1_1, .float a1_2, .float a1_3, .float a1_4], AV.agg [.float a2_0, .float a2_1, .float a2_2, .float a2_3, .float a2_4], AV.int .i64 a3_0] []) = some (O_law20_RowScaled a0_0 a0_1 a0_2 a0_3 a0_4 a0_5 a0_6 a0_7 a0_8 a0_9 a0_10 a0_11 a0_12 a0_13 a1_0 a1_1 a1_2 a1_3 a1_4 a2_0 a2_1 a2_2 a2_3 a2_4 a3_0, AV.bool (T_law20_RowScaled a0_0 a0_1 a0_2 a0_3 a0_4 a0_5 a0_6 a0_7 a0_8 a0_9 a0_10 a0_11 a0_12 a0_13 a1_0 a1_1 a1_2 a1_3 a1_4 a2_0 a2_1 a2_2 a2_3 a2_4 a3_0)) := by kernel_rfl

end Go.Proofs.Ytojahopdcnamjaa
