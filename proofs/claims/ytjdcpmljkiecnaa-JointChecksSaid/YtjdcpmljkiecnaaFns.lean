/- The contracts of the functions that these laws reach, printed by a program of this work: each says what the Go function gives, up to which NaN. -/
import Derived.Test.YtjdcpmljkiecnaaProg
import Derived.KernelRfl
import Derived.Test.YtjdcpmljkiecnaaSimDEnv
set_option linter.unusedVariables false
set_option linter.unusedSimpArgs false
namespace Go.Proofs.Ytjdcpmljkiecnaa
open Go.Sim
def xxs : List (FuncId × XF) := [(22, xF true .tobits), (21, xF true .frombits)]
def xenv : Env := mkEnv xxs [] []
theorem xxs_ok : All (XOk Try.prog true) xxs := All.cons (x_ok (f := 22) .tobits fun args w => run_callFunc_extern Try.func22 (by kernel_rfl) (by kernel_rfl) (by kernel_rfl) (by kernel_rfl) args w)
  (All.cons (x_ok (f := 21) .frombits fun args w => run_callFunc_extern Try.func21 (by kernel_rfl) (by kernel_rfl) (by kernel_rfl) (by kernel_rfl) args w)
  (All.nil))
theorem xenv_ok : xenv.Ok Try.prog true := mkEnv_ok xxs_ok All.nil All.nil
def mxs : List (FuncId × XFM) := [(22, xFM false .tobits), (21, xFM false .frombits)]
theorem mxs_ok : All (XOkM Try.prog false) mxs := All.cons (xM_ok (f := 22) .tobits fun args w => run_callFunc_extern Try.func22 (by kernel_rfl) (by kernel_rfl) (by kernel_rfl) (by kernel_rfl) args w)
  (All.cons (xM_ok (f := 21) .frombits fun args w => run_callFunc_extern Try.func21 (by kernel_rfl) (by kernel_rfl) (by kernel_rfl) (by kernel_rfl) args w)
  (All.nil))
def mrs0 : List (FuncId × RFM) := []
def mws0 : List (FuncId × WFM) := []
def menv0 : EnvM := mkEnvM mxs mrs0 mws0
theorem mrs0_ok : All (ROkM Try.prog false) mrs0 := All.nil
theorem mws0_ok : All (WOkM Try.prog false) mws0 := All.nil
theorem menv0_ok : menv0.Ok Try.prog false := mkEnvM_ok mxs_ok mrs0_ok mws0_ok
-- tumble/num.Within[float64]
noncomputable def s_num_Within_float64__0 (a0_0 : Nat) (a1_0 : Nat) : Bool := ((fle (fneg a1_0) a0_0) && (fle a0_0 a1_0))
theorem e_num_Within_float64_ (a0_0 : Nat) (a1_0 : Nat) : outB (evFnM Try.prog false menv0 [] [] 64 Try.f19 [AV.float a0_0, AV.float a1_0] []) = some ((true), AV.bool (s_num_Within_float64__0 a0_0 a1_0)) := by kernel_rfl
noncomputable def S_num_Within_float64_ : List AV → Option (Ob × AV)
  | [AV.float a0_0, AV.float a1_0] => some (Ob.tt, AV.bool (s_num_Within_float64__0 a0_0 a1_0))
  | _ => none
theorem t_num_Within_float64_ : ROkM Try.prog false (19, pureM S_num_Within_float64_) := ROkM.pure (N := 64) menv0_ok Try.func19 Try.call19 fun args o v h => by
  unfold S_num_Within_float64_ at h
  split at h
  · rename_i a0_0 a1_0
    cases h
    exact ⟨rfl, rfl, _, e_num_Within_float64_ a0_0 a1_0, fun _ => rfl⟩
  · cases h
noncomputable def mrs1 : List (FuncId × RFM) := (19, pureM S_num_Within_float64_) :: mrs0
noncomputable def menv1 : EnvM := mkEnvM mxs mrs1 mws0
theorem mrs1_ok : All (ROkM Try.prog false) mrs1 := All.cons t_num_Within_float64_ mrs0_ok
theorem menv1_ok : menv1.Ok Try.prog false := mkEnvM_ok mxs_ok mrs1_ok mws0_ok
-- tumble/joint.reals
noncomputable def mws1 : List (FuncId × WFM) := (11, inlWM Try.prog false menv1 [8] [] 64 Try.f11) :: mws0
noncomputable def menv2 : EnvM := mkEnvM mxs mrs1 mws1
theorem mws1_ok : All (WOkM Try.prog false) mws1 := All.cons (WOkM.inl menv1_ok Try.func11 Try.call11) mws0_ok
theorem menv2_ok : menv2.Ok Try.prog false := mkEnvM_ok mxs_ok mrs1_ok mws1_ok
-- tumble/vec.Dot
noncomputable def s_vec_Dot_0 (a0_0 : Nat) (a0_1 : Nat) (a1_0 : Nat) (a1_1 : Nat) : Nat := (fadd (fmul a0_0 a1_0) (fmul a0_1 a1_1))
theorem e_vec_Dot (a0_0 : Nat) (a0_1 : Nat) (a1_0 : Nat) (a1_1 : Nat) : outB (evFnM Try.prog false menv2 [] [] 64 Try.f20 [AV.agg [.float a0_0, .float a0_1], AV.agg [.float a1_0, .float a1_1]] []) = some ((true), AV.float (s_vec_Dot_0 a0_0 a0_1 a1_0 a1_1)) := by kernel_rfl
noncomputable def S_vec_Dot : List AV → Option (Ob × AV)
  | [AV.agg [.float a0_0, .float a0_1], AV.agg [.float a1_0, .float a1_1]] => some (Ob.tt, AV.float (s_vec_Dot_0 a0_0 a0_1 a1_0 a1_1))
  | _ => none
theorem t_vec_Dot : ROkM Try.prog false (20, pureM S_vec_Dot) := ROkM.pure (N := 64) menv2_ok Try.func20 Try.call20 fun args o v h => by
  unfold S_vec_Dot at h
  split at h
  · rename_i a0_0 a0_1 a1_0 a1_1
    cases h
    exact ⟨rfl, rfl, _, e_vec_Dot a0_0 a0_1 a1_0 a1_1, fun _ => rfl⟩
  · cases h
noncomputable def mrs2 : List (FuncId × RFM) := (20, pureM S_vec_Dot) :: mrs1
noncomputable def menv3 : EnvM := mkEnvM mxs mrs2 mws1
theorem mrs2_ok : All (ROkM Try.prog false) mrs2 := All.cons t_vec_Dot mrs1_ok
theorem menv3_ok : menv3.Ok Try.prog false := mkEnvM_ok mxs_ok mrs2_ok mws1_ok
-- tumble/vec.Square
noncomputable def s_vec_Square_0 (a0_0 : Nat) (a0_1 : Nat) : Nat := (s_vec_Dot_0 a0_0 a0_1 a0_0 a0_1)
theorem e_vec_Square (a0_0 : Nat) (a0_1 : Nat) : outB (evFnM Try.prog false menv3 [] [] 64 Try.f12 [AV.agg [.float a0_0, .float a0_1]] []) = some ((true), AV.float (s_vec_Square_0 a0_0 a0_1)) := by kernel_rfl
noncomputable def S_vec_Square : List AV → Option (Ob × AV)
  | [AV.agg [.float a0_0, .float a0_1]] => some (Ob.tt, AV.float (s_vec_Square_0 a0_0 a0_1))
  | _ => none
theorem t_vec_Square : ROkM Try.prog false (12, pureM S_vec_Square) := ROkM.pure (N := 64) menv3_ok Try.func12 Try.call12 fun args o v h => by
  unfold S_vec_Square at h
  split at h
  · rename_i a0_0 a0_1
    cases h
    exact ⟨rfl, rfl, _, e_vec_Square a0_0 a0_1, fun _ => rfl⟩
  · cases h
noncomputable def mrs3 : List (FuncId × RFM) := (12, pureM S_vec_Square) :: mrs2
noncomputable def menv4 : EnvM := mkEnvM mxs mrs3 mws1
theorem mrs3_ok : All (ROkM Try.prog false) mrs3 := All.cons t_vec_Square mrs2_ok
theorem menv4_ok : menv4.Ok Try.prog false := mkEnvM_ok mxs_ok mrs3_ok mws1_ok
-- math.Abs
noncomputable def S_math_Abs : List AV → Option AV
  | [AV.float a] => some (AV.float (fabs a))
  | _ => none
theorem t_math_Abs : ROk Try.prog false (13, pureF S_math_Abs) := exact1f (N := 64) xenv_ok Try.func13 Try.call13 fabs (fun args v h => by
    unfold S_math_Abs at h
    split at h
    · cases h; exact ⟨_, rfl, rfl⟩
    · cases h) fun b hb => ⟨_, by refine Eq.trans ?_ (abs_tree hb); kernel_rfl, (fabs_cn b).symm⟩
noncomputable def mrs4 : List (FuncId × RFM) := (13, pureM fun args => match S_math_Abs args with | some v => some (.tt, v) | none => none) :: mrs3
noncomputable def menv5 : EnvM := mkEnvM mxs mrs4 mws1
theorem mrs4_ok : All (ROkM Try.prog false) mrs4 := All.cons t_math_Abs.toM mrs3_ok
theorem menv5_ok : menv5.Ok Try.prog false := mkEnvM_ok mxs_ok mrs4_ok mws1_ok
-- tumble/joint.Check
noncomputable def s_joint_Check_0 (a0_0 : Int) (a0_1 : Int) (a0_2 : Int) (a0_3 : Int) (a0_4 : Int) (a0_5 : Nat) (a0_6 : Nat) (a0_7 : Nat) (a0_8 : Nat) (a0_9 : Nat) (a0_10 : Nat) (a0_11 : Nat) (a0_12 : Nat) (a0_13 : Bool) (a0_14 : Nat) (a0_15 : Nat) (a0_16 : Bool) (a0_17 : Nat) (a0_18 : Nat) (a0_19 : Nat) (a0_20 : Nat) (a0_21 : Nat) : Int := let x0 : Bool := ((flt a0_15 0) || (a0_16 && (flt a0_18 a0_17))); let x1 : Bool := (!(s_num_Within_float64__0 a0_20 4787326403894837248)); let x2 : Bool := (!(s_num_Within_float64__0 a0_19 4787326403894837248)); let x3 : Bool := (!(s_num_Within_float64__0 a0_17 4787326403894837248)); let x4 : Bool := (!(s_num_Within_float64__0 a0_15 4787326403894837248)); let x5 : Bool := (!(s_num_Within_float64__0 a0_14 4787326403894837248)); let x6 : Bool := (!(s_num_Within_float64__0 a0_12 4787326403894837248)); let x7 : Bool := (!(s_num_Within_float64__0 a0_11 4787326403894837248)); let x8 : Bool := (!(s_num_Within_float64__0 a0_10 4787326403894837248)); let x9 : Bool := (!(s_num_Within_float64__0 a0_9 4787326403894837248)); let x10 : Bool := (!(s_num_Within_float64__0 a0_8 4787326403894837248)); let x11 : Bool := (!(s_num_Within_float64__0 a0_7 4787326403894837248)); let x12 : Bool := (!(s_num_Within_float64__0 a0_6 4787326403894837248)); let x13 : Bool := (!(s_num_Within_float64__0 a0_5 4787326403894837248)); (bif (((ilt a0_0 (1 : Int)) || (ilt (5 : Int) a0_0)) || (ieq a0_1 a0_3)) then (190 : Int) else (bif ((!(bif (x13 || (x12 || (x11 || (x10 || (x9 || (x8 || (x7 || (x6 || (x5 || (x4 || (x3 || (!(s_num_Within_float64__0 a0_18 4787326403894837248))))))))))))) then (bif x13 then false else (bif x12 then false else (bif x11 then false else (bif x10 then false else (bif x9 then false else (bif x8 then false else (bif x7 then false else (bif x6 then false else (bif x5 then false else (bif x4 then false else (x3 && false))))))))))) else true)) || (!(bif (x2 || (x1 || (!(s_num_Within_float64__0 a0_21 4787326403894837248)))) then (bif x2 then false else (x1 && false)) else true))) then (5 : Int) else (bif (bif (ieq a0_0 (2 : Int)) then ((x0 || (flt a0_11 0)) || (a0_16 && (flt a0_17 0))) else (bif (ieq a0_0 (3 : Int)) then ((x0 || (flt (s_vec_Square_0 a0_9 a0_10) 4607182418800009216)) || (flt 4607182418800021504 (s_vec_Square_0 a0_9 a0_10))) else (bif (ieq a0_0 (5 : Int)) then (x0 || (flt (fabs a0_12) 4472074429978902528)) else x0))) then (190 : Int) else (0 : Int))))
theorem e_joint_Check (a0_0 : Int) (a0_1 : Int) (a0_2 : Int) (a0_3 : Int) (a0_4 : Int) (a0_5 : Nat) (a0_6 : Nat) (a0_7 : Nat) (a0_8 : Nat) (a0_9 : Nat) (a0_10 : Nat) (a0_11 : Nat) (a0_12 : Nat) (a0_13 : Bool) (a0_14 : Nat) (a0_15 : Nat) (a0_16 : Bool) (a0_17 : Nat) (a0_18 : Nat) (a0_19 : Nat) (a0_20 : Nat) (a0_21 : Nat) : outB (evFnM Try.prog false menv5 [] [] 64 Try.f5 [AV.agg [.int .u8 a0_0, .int .u32 a0_1, .int .u32 a0_2, .int .u32 a0_3, .int .u32 a0_4, .float a0_5, .float a0_6, .float a0_7, .float a0_8, .float a0_9, .float a0_10, .float a0_11, .float a0_12, .bool a0_13, .float a0_14, .float a0_15, .bool a0_16, .float a0_17, .float a0_18, .float a0_19, .float a0_20, .float a0_21]] []) = some ((true), AV.int .i64 (s_joint_Check_0 a0_0 a0_1 a0_2 a0_3 a0_4 a0_5 a0_6 a0_7 a0_8 a0_9 a0_10 a0_11 a0_12 a0_13 a0_14 a0_15 a0_16 a0_17 a0_18 a0_19 a0_20 a0_21)) := by kernel_rfl
noncomputable def S_joint_Check : List AV → Option (Ob × AV)
  | [AV.agg [.int .u8 a0_0, .int .u32 a0_1, .int .u32 a0_2, .int .u32 a0_3, .int .u32 a0_4, .float a0_5, .float a0_6, .float a0_7, .float a0_8, .float a0_9, .float a0_10, .float a0_11, .float a0_12, .bool a0_13, .float a0_14, .float a0_15, .bool a0_16, .float a0_17, .float a0_18, .float a0_19, .float a0_20, .float a0_21]] => some (Ob.tt, AV.int .i64 (s_joint_Check_0 a0_0 a0_1 a0_2 a0_3 a0_4 a0_5 a0_6 a0_7 a0_8 a0_9 a0_10 a0_11 a0_12 a0_13 a0_14 a0_15 a0_16 a0_17 a0_18 a0_19 a0_20 a0_21))
  | _ => none
theorem t_joint_Check : ROkM Try.prog false (5, pureM S_joint_Check) := ROkM.pure (N := 64) menv5_ok Try.func5 Try.call5 fun args o v h => by
  unfold S_joint_Check at h
  split at h
  · rename_i a0_0 a0_1 a0_2 a0_3 a0_4 a0_5 a0_6 a0_7 a0_8 a0_9 a0_10 a0_11 a0_12 a0_13 a0_14 a0_15 a0_16 a0_17 a0_18 a0_19 a0_20 a0_21
    cases h
    exact ⟨rfl, rfl, _, e_joint_Check a0_0 a0_1 a0_2 a0_3 a0_4 a0_5 a0_6 a0_7 a0_8 a0_9 a0_10 a0_11 a0_12 a0_13 a0_14 a0_15 a0_16 a0_17 a0_18 a0_19 a0_20 a0_21, fun _ => rfl⟩
  · cases h
noncomputable def mrs5 : List (FuncId × RFM) := (5, pureM S_joint_Check) :: mrs4
noncomputable def menv6 : EnvM := mkEnvM mxs mrs5 mws1
theorem mrs5_ok : All (ROkM Try.prog false) mrs5 := All.cons t_joint_Check mrs4_ok
theorem menv6_ok : menv6.Ok Try.prog false := mkEnvM_ok mxs_ok mrs5_ok mws1_ok
-- tumble/tumbleref01.None
noncomputable def S_ref01_None : List AV → Option AV
  | [AV.float a] => some (AV.bool (nanb a))
  | _ => none
theorem t_ref01_None : ROk Try.prog false (26, pureF S_ref01_None) := exact1b (N := 64) xenv_ok Try.func26 Try.call26 nanb (fun args v h => by
    unfold S_ref01_None at h
    split at h
    · cases h; exact ⟨_, rfl, rfl⟩
    · cases h) fun b hb => by refine Eq.trans ?_ (none_tree hb); kernel_rfl
noncomputable def mrs6 : List (FuncId × RFM) := (26, pureM fun args => match S_ref01_None args with | some v => some (.tt, v) | none => none) :: mrs5
noncomputable def menv7 : EnvM := mkEnvM mxs mrs6 mws1
theorem mrs6_ok : All (ROkM Try.prog false) mrs6 := All.cons t_ref01_None.toM mrs5_ok
theorem menv7_ok : menv7.Ok Try.prog false := mkEnvM_ok mxs_ok mrs6_ok mws1_ok
-- tumble/tumbleref01.place
noncomputable def s_ref01_place_0 (a0_0 : Nat) : Int := (bif (ieq (Int.fdiv (Int.ofNat a0_0) (9223372036854775808 : Int)) (1 : Int)) then (IntKind.wrap .i64 ((IntKind.wrap .i64 ((0 : Int) - (IntKind.wrap .i64 (Int.fdiv (IntKind.wrap .u64 ((Int.ofNat a0_0) * (2 : Int))) (2 : Int))))) - (1 : Int))) else (IntKind.wrap .i64 (Int.fdiv (IntKind.wrap .u64 ((Int.ofNat a0_0) * (2 : Int))) (2 : Int))))
theorem e_ref01_place (a0_0 : Nat) : outB (evFnM Try.prog false menv7 [] [] 64 Try.f31 [AV.float a0_0] []) = some (((bif (ieq (Int.fdiv (Int.ofNat a0_0) (9223372036854775808 : Int)) (1 : Int)) then ((!(nanb a0_0)) && (!(nanb a0_0))) else ((!(nanb a0_0)) && (!(nanb a0_0))))), AV.int .i64 (s_ref01_place_0 a0_0)) := by kernel_rfl
noncomputable def S_ref01_place : List AV → Option (Ob × AV)
  | [AV.float a0_0] => some (Ob.bit ((bif (ieq (Int.fdiv (Int.ofNat a0_0) (9223372036854775808 : Int)) (1 : Int)) then ((!(nanb a0_0)) && (!(nanb a0_0))) else ((!(nanb a0_0)) && (!(nanb a0_0))))), AV.int .i64 (s_ref01_place_0 a0_0))
  | _ => none
theorem t_ref01_place : ROkM Try.prog false (31, pureM S_ref01_place) := ROkM.pure (N := 64) menv7_ok Try.func31 Try.call31 fun args o v h => by
  unfold S_ref01_place at h
  split at h
  · rename_i a0_0
    cases h
    exact ⟨rfl, rfl, _, e_ref01_place a0_0, fun h => h⟩
  · cases h
noncomputable def mrs7 : List (FuncId × RFM) := (31, pureM S_ref01_place) :: mrs6
noncomputable def menv8 : EnvM := mkEnvM mxs mrs7 mws1
theorem mrs7_ok : All (ROkM Try.prog false) mrs7 := All.cons t_ref01_place mrs6_ok
theorem menv8_ok : menv8.Ok Try.prog false := mkEnvM_ok mxs_ok mrs7_ok mws1_ok
-- tumble/tumbleref01.worth
noncomputable def s_ref01_worth_0 (a0_0 : Nat) : Int := (bif (ieq (s_ref01_place_0 a0_0) (-1 : Int)) then (0 : Int) else (s_ref01_place_0 a0_0))
theorem e_ref01_worth (a0_0 : Nat) : outB (evFnM Try.prog false menv8 [] [] 64 Try.f30 [AV.float a0_0] []) = some (((bif (ieq (s_ref01_place_0 a0_0) (-1 : Int)) then (bif (ieq (Int.fdiv (Int.ofNat a0_0) (9223372036854775808 : Int)) (1 : Int)) then ((!(nanb a0_0)) && (!(nanb a0_0))) else ((!(nanb a0_0)) && (!(nanb a0_0)))) else (bif (ieq (Int.fdiv (Int.ofNat a0_0) (9223372036854775808 : Int)) (1 : Int)) then ((!(nanb a0_0)) && (!(nanb a0_0))) else ((!(nanb a0_0)) && (!(nanb a0_0)))))), AV.int .i64 (s_ref01_worth_0 a0_0)) := by kernel_rfl
noncomputable def S_ref01_worth : List AV → Option (Ob × AV)
  | [AV.float a0_0] => some (Ob.bit ((bif (ieq (s_ref01_place_0 a0_0) (-1 : Int)) then (bif (ieq (Int.fdiv (Int.ofNat a0_0) (9223372036854775808 : Int)) (1 : Int)) then ((!(nanb a0_0)) && (!(nanb a0_0))) else ((!(nanb a0_0)) && (!(nanb a0_0)))) else (bif (ieq (Int.fdiv (Int.ofNat a0_0) (9223372036854775808 : Int)) (1 : Int)) then ((!(nanb a0_0)) && (!(nanb a0_0))) else ((!(nanb a0_0)) && (!(nanb a0_0)))))), AV.int .i64 (s_ref01_worth_0 a0_0))
  | _ => none
theorem t_ref01_worth : ROkM Try.prog false (30, pureM S_ref01_worth) := ROkM.pure (N := 64) menv8_ok Try.func30 Try.call30 fun args o v h => by
  unfold S_ref01_worth at h
  split at h
  · rename_i a0_0
    cases h
    exact ⟨rfl, rfl, _, e_ref01_worth a0_0, fun h => h⟩
  · cases h
noncomputable def mrs8 : List (FuncId × RFM) := (30, pureM S_ref01_worth) :: mrs7
noncomputable def menv9 : EnvM := mkEnvM mxs mrs8 mws1
theorem mrs8_ok : All (ROkM Try.prog false) mrs8 := All.cons t_ref01_worth mrs7_ok
theorem menv9_ok : menv9.Ok Try.prog false := mkEnvM_ok mxs_ok mrs8_ok mws1_ok
-- tumble/tumbleref01.above
noncomputable def s_ref01_above_0 (a0_0 : Nat) (a1_0 : Nat) : Bool := (((!(nanb a0_0)) && (!(nanb a1_0))) && (ilt (s_ref01_worth_0 a1_0) (s_ref01_worth_0 a0_0)))
theorem e_ref01_above (a0_0 : Nat) (a1_0 : Nat) : outB (evFnM Try.prog false menv9 [] [] 64 Try.f27 [AV.float a0_0, AV.float a1_0] []) = some ((let x0 : Bool := ((!(nanb a0_0)) && (!(nanb a0_0))); let x1 : Bool := (bif (ieq (Int.fdiv (Int.ofNat a0_0) (9223372036854775808 : Int)) (1 : Int)) then x0 else x0); let x2 : Bool := ((!(nanb a1_0)) && (!(nanb a1_0))); let x3 : Bool := (bif (ieq (Int.fdiv (Int.ofNat a1_0) (9223372036854775808 : Int)) (1 : Int)) then x2 else x2); (bif ((!(nanb a0_0)) && (!(nanb a1_0))) then ((bif (ieq (s_ref01_place_0 a1_0) (-1 : Int)) then x3 else x3) && (bif (ieq (s_ref01_place_0 a0_0) (-1 : Int)) then x1 else x1)) else true)), AV.bool (s_ref01_above_0 a0_0 a1_0)) := by kernel_rfl
noncomputable def S_ref01_above : List AV → Option (Ob × AV)
  | [AV.float a0_0, AV.float a1_0] => some (Ob.tt, AV.bool (s_ref01_above_0 a0_0 a1_0))
  | _ => none
theorem t_ref01_above : ROkM Try.prog false (27, pureM S_ref01_above) := ROkM.pure (N := 64) menv9_ok Try.func27 Try.call27 fun args o v h => by
  unfold S_ref01_above at h
  split at h
  · rename_i a0_0 a1_0
    cases h
    exact ⟨rfl, rfl, _, e_ref01_above a0_0 a1_0, fun _ => by show ((bif ((!(nanb a0_0)) && (!(nanb a1_0))) then ((bif (ieq (s_ref01_place_0 a1_0) (-1 : Int)) then (bif (ieq (Int.fdiv (Int.ofNat a1_0) (9223372036854775808 : Int)) (1 : Int)) then ((!(nanb a1_0)) && (!(nanb a1_0))) else ((!(nanb a1_0)) && (!(nanb a1_0)))) else (bif (ieq (Int.fdiv (Int.ofNat a1_0) (9223372036854775808 : Int)) (1 : Int)) then ((!(nanb a1_0)) && (!(nanb a1_0))) else ((!(nanb a1_0)) && (!(nanb a1_0))))) && (bif (ieq (s_ref01_place_0 a0_0) (-1 : Int)) then (bif (ieq (Int.fdiv (Int.ofNat a0_0) (9223372036854775808 : Int)) (1 : Int)) then ((!(nanb a0_0)) && (!(nanb a0_0))) else ((!(nanb a0_0)) && (!(nanb a0_0)))) else (bif (ieq (Int.fdiv (Int.ofNat a0_0) (9223372036854775808 : Int)) (1 : Int)) then ((!(nanb a0_0)) && (!(nanb a0_0))) else ((!(nanb a0_0)) && (!(nanb a0_0)))))) else true)) = true; generalize (ieq (Int.fdiv (Int.ofNat a1_0) (9223372036854775808 : Int)) (1 : Int)) = q0; generalize (ieq (Int.fdiv (Int.ofNat a0_0) (9223372036854775808 : Int)) (1 : Int)) = q1; generalize (ieq (s_ref01_place_0 a1_0) (-1 : Int)) = q2; generalize (ieq (s_ref01_place_0 a0_0) (-1 : Int)) = q3; generalize (nanb a0_0) = q4; generalize (nanb a1_0) = q5; cases q0 <;> cases q1 <;> cases q2 <;> cases q3 <;> cases q4 <;> cases q5 <;> rfl⟩
  · cases h
noncomputable def mrs9 : List (FuncId × RFM) := (27, pureM S_ref01_above) :: mrs8
noncomputable def menv10 : EnvM := mkEnvM mxs mrs9 mws1
theorem mrs9_ok : All (ROkM Try.prog false) mrs9 := All.cons t_ref01_above mrs8_ok
theorem menv10_ok : menv10.Ok Try.prog false := mkEnvM_ok mxs_ok mrs9_ok mws1_ok
-- tumble/tumbleref01.Within
noncomputable def s_ref01_Within_0 (a0_0 : Nat) (a1_0 : Nat) : Bool := ((((!(nanb a0_0)) && (!(nanb a1_0))) && (!(s_ref01_above_0 a0_0 a1_0))) && (!(s_ref01_above_0 (fneg a1_0) a0_0)))
theorem e_ref01_Within (a0_0 : Nat) (a1_0 : Nat) : outB (evFnM Try.prog false menv10 [] [] 64 Try.f23 [AV.float a0_0, AV.float a1_0] []) = some ((true), AV.bool (s_ref01_Within_0 a0_0 a1_0)) := by kernel_rfl
noncomputable def S_ref01_Within : List AV → Option (Ob × AV)
  | [AV.float a0_0, AV.float a1_0] => some (Ob.tt, AV.bool (s_ref01_Within_0 a0_0 a1_0))
  | _ => none
theorem t_ref01_Within : ROkM Try.prog false (23, pureM S_ref01_Within) := ROkM.pure (N := 64) menv10_ok Try.func23 Try.call23 fun args o v h => by
  unfold S_ref01_Within at h
  split at h
  · rename_i a0_0 a1_0
    cases h
    exact ⟨rfl, rfl, _, e_ref01_Within a0_0 a1_0, fun _ => rfl⟩
  · cases h
noncomputable def mrs10 : List (FuncId × RFM) := (23, pureM S_ref01_Within) :: mrs9
noncomputable def menv11 : EnvM := mkEnvM mxs mrs10 mws1
theorem mrs10_ok : All (ROkM Try.prog false) mrs10 := All.cons t_ref01_Within mrs9_ok
theorem menv11_ok : menv11.Ok Try.prog false := mkEnvM_ok mxs_ok mrs10_ok mws1_ok
-- tumble/tumbleref04.Real
noncomputable def s_ref04_Real_0 (a0_0 : Nat) : Bool := (s_ref01_Within_0 a0_0 4787326403894837248)
theorem e_ref04_Real (a0_0 : Nat) : outB (evFnM Try.prog false menv11 [] [] 64 Try.f14 [AV.float a0_0] []) = some ((true), AV.bool (s_ref04_Real_0 a0_0)) := by kernel_rfl
noncomputable def S_ref04_Real : List AV → Option (Ob × AV)
  | [AV.float a0_0] => some (Ob.tt, AV.bool (s_ref04_Real_0 a0_0))
  | _ => none
theorem t_ref04_Real : ROkM Try.prog false (14, pureM S_ref04_Real) := ROkM.pure (N := 64) menv11_ok Try.func14 Try.call14 fun args o v h => by
  unfold S_ref04_Real at h
  split at h
  · rename_i a0_0
    cases h
    exact ⟨rfl, rfl, _, e_ref04_Real a0_0, fun _ => rfl⟩
  · cases h
noncomputable def mrs11 : List (FuncId × RFM) := (14, pureM S_ref04_Real) :: mrs10
noncomputable def menv12 : EnvM := mkEnvM mxs mrs11 mws1
theorem mrs11_ok : All (ROkM Try.prog false) mrs11 := All.cons t_ref04_Real mrs10_ok
theorem menv12_ok : menv12.Ok Try.prog false := mkEnvM_ok mxs_ok mrs11_ok mws1_ok
-- tumble/tumbleref19.dot
noncomputable def s_ref19_dot_0 (a0_0 : Nat) (a0_1 : Nat) (a1_0 : Nat) (a1_1 : Nat) : Nat := (fadd (fmul a0_0 a1_0) (fmul a0_1 a1_1))
theorem e_ref19_dot (a0_0 : Nat) (a0_1 : Nat) (a1_0 : Nat) (a1_1 : Nat) : outB (evFnM Try.prog false menv12 [] [] 64 Try.f15 [AV.agg [.float a0_0, .float a0_1], AV.agg [.float a1_0, .float a1_1]] []) = some ((true), AV.float (s_ref19_dot_0 a0_0 a0_1 a1_0 a1_1)) := by kernel_rfl
noncomputable def S_ref19_dot : List AV → Option (Ob × AV)
  | [AV.agg [.float a0_0, .float a0_1], AV.agg [.float a1_0, .float a1_1]] => some (Ob.tt, AV.float (s_ref19_dot_0 a0_0 a0_1 a1_0 a1_1))
  | _ => none
theorem t_ref19_dot : ROkM Try.prog false (15, pureM S_ref19_dot) := ROkM.pure (N := 64) menv12_ok Try.func15 Try.call15 fun args o v h => by
  unfold S_ref19_dot at h
  split at h
  · rename_i a0_0 a0_1 a1_0 a1_1
    cases h
    exact ⟨rfl, rfl, _, e_ref19_dot a0_0 a0_1 a1_0 a1_1, fun _ => rfl⟩
  · cases h
noncomputable def mrs12 : List (FuncId × RFM) := (15, pureM S_ref19_dot) :: mrs11
noncomputable def menv13 : EnvM := mkEnvM mxs mrs12 mws1
theorem mrs12_ok : All (ROkM Try.prog false) mrs12 := All.cons t_ref19_dot mrs11_ok
theorem menv13_ok : menv13.Ok Try.prog false := mkEnvM_ok mxs_ok mrs12_ok mws1_ok
-- tumble/tumbleref19.Check
noncomputable def s_ref19_Check_0 (a0_0 : Int) (a0_1 : Int) (a0_2 : Int) (a0_3 : Int) (a0_4 : Int) (a0_5 : Nat) (a0_6 : Nat) (a0_7 : Nat) (a0_8 : Nat) (a0_9 : Nat) (a0_10 : Nat) (a0_11 : Nat) (a0_12 : Nat) (a0_13 : Bool) (a0_14 : Nat) (a0_15 : Nat) (a0_16 : Bool) (a0_17 : Nat) (a0_18 : Nat) (a0_19 : Nat) (a0_20 : Nat) (a0_21 : Nat) : Int := let x0 : Nat := (s_ref19_dot_0 a0_9 a0_10 a0_9 a0_10); let x1 : Bool := ((ieq a0_0 (3 : Int)) && (!((fle 4607182418800009216 x0) && (fle x0 4607182418800021504)))); let x2 : Bool := ((ieq a0_0 (2 : Int)) && ((flt a0_11 0) || (a0_16 && (flt a0_17 0)))); let x3 : Bool := ((flt a0_15 0) || (a0_16 && (flt a0_18 a0_17))); (bif (((ilt a0_0 (1 : Int)) || (ilt (5 : Int) a0_0)) || (ieq a0_1 a0_3)) then (190 : Int) else (bif ((!(s_ref04_Real_0 a0_5)) || ((!(s_ref04_Real_0 a0_6)) || ((!(s_ref04_Real_0 a0_7)) || ((!(s_ref04_Real_0 a0_8)) || ((!(s_ref04_Real_0 a0_9)) || ((!(s_ref04_Real_0 a0_10)) || ((!(s_ref04_Real_0 a0_11)) || ((!(s_ref04_Real_0 a0_12)) || ((!(s_ref04_Real_0 a0_14)) || ((!(s_ref04_Real_0 a0_15)) || ((!(s_ref04_Real_0 a0_17)) || ((!(s_ref04_Real_0 a0_18)) || ((!(s_ref04_Real_0 a0_19)) || ((!(s_ref04_Real_0 a0_20)) || (!(s_ref04_Real_0 a0_21)))))))))))))))) then (bif (!(s_ref04_Real_0 a0_5)) then (5 : Int) else (bif (!(s_ref04_Real_0 a0_6)) then (5 : Int) else (bif (!(s_ref04_Real_0 a0_7)) then (5 : Int) else (bif (!(s_ref04_Real_0 a0_8)) then (5 : Int) else (bif (!(s_ref04_Real_0 a0_9)) then (5 : Int) else (bif (!(s_ref04_Real_0 a0_10)) then (5 : Int) else (bif (!(s_ref04_Real_0 a0_11)) then (5 : Int) else (bif (!(s_ref04_Real_0 a0_12)) then (5 : Int) else (bif (!(s_ref04_Real_0 a0_14)) then (5 : Int) else (bif (!(s_ref04_Real_0 a0_15)) then (5 : Int) else (bif (!(s_ref04_Real_0 a0_17)) then (5 : Int) else (bif (!(s_ref04_Real_0 a0_18)) then (5 : Int) else (bif (!(s_ref04_Real_0 a0_19)) then (5 : Int) else (bif (!(s_ref04_Real_0 a0_20)) then (5 : Int) else (5 : Int))))))))))))))) else (bif (x3 || (x2 || (x1 || ((ieq a0_0 (5 : Int)) && (flt (fabs a0_12) 4472074429978902528))))) then (bif x3 then (190 : Int) else (bif x2 then (190 : Int) else (bif x1 then (190 : Int) else (190 : Int)))) else (0 : Int))))
theorem e_ref19_Check (a0_0 : Int) (a0_1 : Int) (a0_2 : Int) (a0_3 : Int) (a0_4 : Int) (a0_5 : Nat) (a0_6 : Nat) (a0_7 : Nat) (a0_8 : Nat) (a0_9 : Nat) (a0_10 : Nat) (a0_11 : Nat) (a0_12 : Nat) (a0_13 : Bool) (a0_14 : Nat) (a0_15 : Nat) (a0_16 : Bool) (a0_17 : Nat) (a0_18 : Nat) (a0_19 : Nat) (a0_20 : Nat) (a0_21 : Nat) : outB (evFnM Try.prog false menv13 [66] [] 64 Try.f6 [AV.agg [.int .u8 a0_0, .int .u32 a0_1, .int .u32 a0_2, .int .u32 a0_3, .int .u32 a0_4, .float a0_5, .float a0_6, .float a0_7, .float a0_8, .float a0_9, .float a0_10, .float a0_11, .float a0_12, .bool a0_13, .float a0_14, .float a0_15, .bool a0_16, .float a0_17, .float a0_18, .float a0_19, .float a0_20, .float a0_21]] []) = some ((true), AV.int .i64 (s_ref19_Check_0 a0_0 a0_1 a0_2 a0_3 a0_4 a0_5 a0_6 a0_7 a0_8 a0_9 a0_10 a0_11 a0_12 a0_13 a0_14 a0_15 a0_16 a0_17 a0_18 a0_19 a0_20 a0_21)) := by kernel_rfl
noncomputable def S_ref19_Check : List AV → Option (Ob × AV)
  | [AV.agg [.int .u8 a0_0, .int .u32 a0_1, .int .u32 a0_2, .int .u32 a0_3, .int .u32 a0_4, .float a0_5, .float a0_6, .float a0_7, .float a0_8, .float a0_9, .float a0_10, .float a0_11, .float a0_12, .bool a0_13, .float a0_14, .float a0_15, .bool a0_16, .float a0_17, .float a0_18, .float a0_19, .float a0_20, .float a0_21]] => some (Ob.tt, AV.int .i64 (s_ref19_Check_0 a0_0 a0_1 a0_2 a0_3 a0_4 a0_5 a0_6 a0_7 a0_8 a0_9 a0_10 a0_11 a0_12 a0_13 a0_14 a0_15 a0_16 a0_17 a0_18 a0_19 a0_20 a0_21))
  | _ => none
theorem t_ref19_Check : ROkM Try.prog false (6, pureM S_ref19_Check) := ROkM.pure (N := 64) menv13_ok Try.func6 Try.call6 fun args o v h => by
  unfold S_ref19_Check at h
  split at h
  · rename_i a0_0 a0_1 a0_2 a0_3 a0_4 a0_5 a0_6 a0_7 a0_8 a0_9 a0_10 a0_11 a0_12 a0_13 a0_14 a0_15 a0_16 a0_17 a0_18 a0_19 a0_20 a0_21
    cases h
    exact ⟨rfl, rfl, _, e_ref19_Check a0_0 a0_1 a0_2 a0_3 a0_4 a0_5 a0_6 a0_7 a0_8 a0_9 a0_10 a0_11 a0_12 a0_13 a0_14 a0_15 a0_16 a0_17 a0_18 a0_19 a0_20 a0_21, fun _ => rfl⟩
  · cases h
noncomputable def mrs13 : List (FuncId × RFM) := (6, pureM S_ref19_Check) :: mrs12
noncomputable def menv14 : EnvM := mkEnvM mxs mrs13 mws1
theorem mrs13_ok : All (ROkM Try.prog false) mrs13 := All.cons t_ref19_Check mrs12_ok
theorem menv14_ok : menv14.Ok Try.prog false := mkEnvM_ok mxs_ok mrs13_ok mws1_ok
-- tumble/tumblelaw19.JointChecks
noncomputable def T_law19_JointChecks (a0_0 : Nat) (a0_1 : Nat) (a0_2 : Nat) (a0_3 : Nat) (a0_4 : Nat) (a0_5 : Nat) (a0_6 : Nat) (a0_7 : Nat) (a0_8 : Nat) (a0_9 : Nat) (a0_10 : Nat) (a0_11 : Nat) (a0_12 : Nat) (a0_13 : Bool) (a0_14 : Nat) (a0_15 : Nat) (a0_16 : Bool) (a0_17 : Nat) (a0_18 : Nat) (a0_19 : Nat) (a0_20 : Nat) (a0_21 : Nat) : Bool := (ieq (s_joint_Check_0 (Int.ofNat a0_0) (Int.ofNat a0_1) (Int.ofNat a0_2) (Int.ofNat a0_3) (Int.ofNat a0_4) a0_5 a0_6 a0_7 a0_8 a0_9 a0_10 a0_11 a0_12 a0_13 a0_14 a0_15 a0_16 a0_17 a0_18 a0_19 a0_20 a0_21) (s_ref19_Check_0 (Int.ofNat a0_0) (Int.ofNat a0_1) (Int.ofNat a0_2) (Int.ofNat a0_3) (Int.ofNat a0_4) a0_5 a0_6 a0_7 a0_8 a0_9 a0_10 a0_11 a0_12 a0_13 a0_14 a0_15 a0_16 a0_17 a0_18 a0_19 a0_20 a0_21))
noncomputable def O_law19_JointChecks (a0_0 : Nat) (a0_1 : Nat) (a0_2 : Nat) (a0_3 : Nat) (a0_4 : Nat) (a0_5 : Nat) (a0_6 : Nat) (a0_7 : Nat) (a0_8 : Nat) (a0_9 : Nat) (a0_10 : Nat) (a0_11 : Nat) (a0_12 : Nat) (a0_13 : Bool) (a0_14 : Nat) (a0_15 : Nat) (a0_16 : Bool) (a0_17 : Nat) (a0_18 : Nat) (a0_19 : Nat) (a0_20 : Nat) (a0_21 : Nat) : Bool := true
theorem tree_law19_JointChecks (a0_0 : Nat) (a0_1 : Nat) (a0_2 : Nat) (a0_3 : Nat) (a0_4 : Nat) (a0_5 : Nat) (a0_6 : Nat) (a0_7 : Nat) (a0_8 : Nat) (a0_9 : Nat) (a0_10 : Nat) (a0_11 : Nat) (a0_12 : Nat) (a0_13 : Bool) (a0_14 : Nat) (a0_15 : Nat) (a0_16 : Bool) (a0_17 : Nat) (a0_18 : Nat) (a0_19 : Nat) (a0_20 : Nat) (a0_21 : Nat) : outB (evFnM Try.prog false menv14 [] [] 64 Try.f3 [AV.agg [.int .u8 (Int.ofNat a0_0), .int .u32 (Int.ofNat a0_1), .int .u32 (Int.ofNat a0_2), .int .u32 (Int.ofNat a0_3), .int .u32 (Int.ofNat a0_4), .float a0_5, .float a0_6, .float a0_7, .float a0_8, .float a0_9, .float a0_10, .float a0_11, .float a0_12, .bool a0_13, .float a0_14, .float a0_15, .bool a0_16, .float a0_17, .float a0_18, .float a0_19, .float a0_20, .float a0_21]] []) = some (O_law19_JointChecks a0_0 a0_1 a0_2 a0_3 a0_4 a0_5 a0_6 a0_7 a0_8 a0_9 a0_10 a0_11 a0_12 a0_13 a0_14 a0_15 a0_16 a0_17 a0_18 a0_19 a0_20 a0_21, AV.bool (T_law19_JointChecks a0_0 a0_1 a0_2 a0_3 a0_4 a0_5 a0_6 a0_7 a0_8 a0_9 a0_10 a0_11 a0_12 a0_13 a0_14 a0_15 a0_16 a0_17 a0_18 a0_19 a0_20 a0_21)) := by kernel_rfl

end Go.Proofs.Ytjdcpmljkiecnaa
