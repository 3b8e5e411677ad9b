/- The contracts of the functions that these laws reach, printed by a program of this work: each says what the Go function gives, up to which NaN. -/
import Derived.Test.YtbbopbelaamlaaaProg
import Derived.KernelRfl
import Derived.Test.YtbbopbelaamlaaaSimDEnv
set_option linter.unusedVariables false
set_option linter.unusedSimpArgs false
namespace Go.Proofs.Ytbbopbelaamlaaa
open Go.Sim
def xxs : List (FuncId × XF) := [(79, xF true .frombits), (72, xF true .tobits)]
def xenv : Env := mkEnv xxs [] []
theorem xxs_ok : All (XOk Try.prog true) xxs := All.cons (x_ok (f := 79) .frombits fun args w => run_callFunc_extern Try.func79 (by kernel_rfl) (by kernel_rfl) (by kernel_rfl) (by kernel_rfl) args w)
  (All.cons (x_ok (f := 72) .tobits fun args w => run_callFunc_extern Try.func72 (by kernel_rfl) (by kernel_rfl) (by kernel_rfl) (by kernel_rfl) args w)
  (All.nil))
theorem xenv_ok : xenv.Ok Try.prog true := mkEnv_ok xxs_ok All.nil All.nil
def mxs : List (FuncId × XFM) := [(79, xFM false .frombits), (72, xFM false .tobits)]
theorem mxs_ok : All (XOkM Try.prog false) mxs := All.cons (xM_ok (f := 79) .frombits fun args w => run_callFunc_extern Try.func79 (by kernel_rfl) (by kernel_rfl) (by kernel_rfl) (by kernel_rfl) args w)
  (All.cons (xM_ok (f := 72) .tobits fun args w => run_callFunc_extern Try.func72 (by kernel_rfl) (by kernel_rfl) (by kernel_rfl) (by kernel_rfl) args w)
  (All.nil))
def mrs0 : List (FuncId × RFM) := []
def mws0 : List (FuncId × WFM) := []
def menv0 : EnvM := mkEnvM mxs mrs0 mws0
theorem mrs0_ok : All (ROkM Try.prog false) mrs0 := All.nil
theorem mws0_ok : All (WOkM Try.prog false) mws0 := All.nil
theorem menv0_ok : menv0.Ok Try.prog false := mkEnvM_ok mxs_ok mrs0_ok mws0_ok
-- tumble/tumblelaw05.four
noncomputable def s_law05_four_0 (a0_0 : Nat) (a1_0 : Nat) (a2_0 : Nat) (a3_0 : Nat) : Nat := a0_0
noncomputable def s_law05_four_1 (a0_0 : Nat) (a1_0 : Nat) (a2_0 : Nat) (a3_0 : Nat) : Nat := a1_0
noncomputable def s_law05_four_2 (a0_0 : Nat) (a1_0 : Nat) (a2_0 : Nat) (a3_0 : Nat) : Nat := a2_0
noncomputable def s_law05_four_3 (a0_0 : Nat) (a1_0 : Nat) (a2_0 : Nat) (a3_0 : Nat) : Nat := a3_0
theorem e_law05_four (a0_0 : Nat) (a1_0 : Nat) (a2_0 : Nat) (a3_0 : Nat) : outB (evFnM Try.prog false menv0 [] [] 64 Try.f46 [AV.float a0_0, AV.float a1_0, AV.float a2_0, AV.float a3_0] []) = some ((true), AV.agg [AV.float (s_law05_four_0 a0_0 a1_0 a2_0 a3_0), AV.float (s_law05_four_1 a0_0 a1_0 a2_0 a3_0), AV.float (s_law05_four_2 a0_0 a1_0 a2_0 a3_0), AV.float (s_law05_four_3 a0_0 a1_0 a2_0 a3_0)]) := by kernel_rfl
noncomputable def S_law05_four : List AV → Option (Ob × AV)
  | [AV.float a0_0, AV.float a1_0, AV.float a2_0, AV.float a3_0] => some (Ob.tt, AV.agg [AV.float (s_law05_four_0 a0_0 a1_0 a2_0 a3_0), AV.float (s_law05_four_1 a0_0 a1_0 a2_0 a3_0), AV.float (s_law05_four_2 a0_0 a1_0 a2_0 a3_0), AV.float (s_law05_four_3 a0_0 a1_0 a2_0 a3_0)])
  | _ => none
theorem t_law05_four : ROkM Try.prog false (46, pureM S_law05_four) := ROkM.pure (N := 64) menv0_ok Try.func46 Try.call46 fun args o v h => by
  unfold S_law05_four at h
  split at h
  · rename_i a0_0 a1_0 a2_0 a3_0
    cases h
    exact ⟨rfl, rfl, _, e_law05_four a0_0 a1_0 a2_0 a3_0, fun _ => rfl⟩
  · cases h
noncomputable def mrs1 : List (FuncId × RFM) := (46, pureM S_law05_four) :: mrs0
noncomputable def menv1 : EnvM := mkEnvM mxs mrs1 mws0
theorem mrs1_ok : All (ROkM Try.prog false) mrs1 := All.cons t_law05_four mrs0_ok
theorem menv1_ok : menv1.Ok Try.prog false := mkEnvM_ok mxs_ok mrs1_ok mws0_ok
-- tumble/box.below
noncomputable def s_box_below_0 (a0_0 : Nat) (a0_1 : Nat) (a1_0 : Nat) (a1_1 : Nat) : Bool := ((fle a0_0 a1_0) && (fle a0_1 a1_1))
theorem e_box_below (a0_0 : Nat) (a0_1 : Nat) (a1_0 : Nat) (a1_1 : Nat) : outB (evFnM Try.prog false menv1 [] [] 64 Try.f53 [AV.agg [.float a0_0, .float a0_1], AV.agg [.float a1_0, .float a1_1]] []) = some ((true), AV.bool (s_box_below_0 a0_0 a0_1 a1_0 a1_1)) := by kernel_rfl
noncomputable def S_box_below : List AV → Option (Ob × AV)
  | [AV.agg [.float a0_0, .float a0_1], AV.agg [.float a1_0, .float a1_1]] => some (Ob.tt, AV.bool (s_box_below_0 a0_0 a0_1 a1_0 a1_1))
  | _ => none
theorem t_box_below : ROkM Try.prog false (53, pureM S_box_below) := ROkM.pure (N := 64) menv1_ok Try.func53 Try.call53 fun args o v h => by
  unfold S_box_below at h
  split at h
  · rename_i a0_0 a0_1 a1_0 a1_1
    cases h
    exact ⟨rfl, rfl, _, e_box_below a0_0 a0_1 a1_0 a1_1, fun _ => rfl⟩
  · cases h
noncomputable def mrs2 : List (FuncId × RFM) := (53, pureM S_box_below) :: mrs1
noncomputable def menv2 : EnvM := mkEnvM mxs mrs2 mws0
theorem mrs2_ok : All (ROkM Try.prog false) mrs2 := All.cons t_box_below mrs1_ok
theorem menv2_ok : menv2.Ok Try.prog false := mkEnvM_ok mxs_ok mrs2_ok mws0_ok
-- tumble/box.Over
noncomputable def s_box_Over_0 (a0_0 : Nat) (a0_1 : Nat) (a0_2 : Nat) (a0_3 : Nat) (a1_0 : Nat) (a1_1 : Nat) (a1_2 : Nat) (a1_3 : Nat) : Bool := ((s_box_below_0 a0_0 a0_1 a1_2 a1_3) && (s_box_below_0 a1_0 a1_1 a0_2 a0_3))
theorem e_box_Over (a0_0 : Nat) (a0_1 : Nat) (a0_2 : Nat) (a0_3 : Nat) (a1_0 : Nat) (a1_1 : Nat) (a1_2 : Nat) (a1_3 : Nat) : outB (evFnM Try.prog false menv2 [] [] 64 Try.f19 [AV.agg [.float a0_0, .float a0_1, .float a0_2, .float a0_3], AV.agg [.float a1_0, .float a1_1, .float a1_2, .float a1_3]] []) = some ((true), AV.bool (s_box_Over_0 a0_0 a0_1 a0_2 a0_3 a1_0 a1_1 a1_2 a1_3)) := by kernel_rfl
noncomputable def S_box_Over : List AV → Option (Ob × AV)
  | [AV.agg [.float a0_0, .float a0_1, .float a0_2, .float a0_3], AV.agg [.float a1_0, .float a1_1, .float a1_2, .float a1_3]] => some (Ob.tt, AV.bool (s_box_Over_0 a0_0 a0_1 a0_2 a0_3 a1_0 a1_1 a1_2 a1_3))
  | _ => none
theorem t_box_Over : ROkM Try.prog false (19, pureM S_box_Over) := ROkM.pure (N := 64) menv2_ok Try.func19 Try.call19 fun args o v h => by
  unfold S_box_Over at h
  split at h
  · rename_i a0_0 a0_1 a0_2 a0_3 a1_0 a1_1 a1_2 a1_3
    cases h
    exact ⟨rfl, rfl, _, e_box_Over a0_0 a0_1 a0_2 a0_3 a1_0 a1_1 a1_2 a1_3, fun _ => rfl⟩
  · cases h
noncomputable def mrs3 : List (FuncId × RFM) := (19, pureM S_box_Over) :: mrs2
noncomputable def menv3 : EnvM := mkEnvM mxs mrs3 mws0
theorem mrs3_ok : All (ROkM Try.prog false) mrs3 := All.cons t_box_Over mrs2_ok
theorem menv3_ok : menv3.Ok Try.prog false := mkEnvM_ok mxs_ok mrs3_ok mws0_ok
-- tumble/num.none[float64]
noncomputable def s_num_none_float64__0 (a0_0 : Nat) : Bool := (!(feq a0_0 a0_0))
theorem e_num_none_float64_ (a0_0 : Nat) : outB (evFnM Try.prog false menv3 [] [] 64 Try.f83 [AV.float a0_0] []) = some ((true), AV.bool (s_num_none_float64__0 a0_0)) := by kernel_rfl
noncomputable def S_num_none_float64_ : List AV → Option (Ob × AV)
  | [AV.float a0_0] => some (Ob.tt, AV.bool (s_num_none_float64__0 a0_0))
  | _ => none
theorem t_num_none_float64_ : ROkM Try.prog false (83, pureM S_num_none_float64_) := ROkM.pure (N := 64) menv3_ok Try.func83 Try.call83 fun args o v h => by
  unfold S_num_none_float64_ at h
  split at h
  · rename_i a0_0
    cases h
    exact ⟨rfl, rfl, _, e_num_none_float64_ a0_0, fun _ => rfl⟩
  · cases h
noncomputable def mrs4 : List (FuncId × RFM) := (83, pureM S_num_none_float64_) :: mrs3
noncomputable def menv4 : EnvM := mkEnvM mxs mrs4 mws0
theorem mrs4_ok : All (ROkM Try.prog false) mrs4 := All.cons t_num_none_float64_ mrs3_ok
theorem menv4_ok : menv4.Ok Try.prog false := mkEnvM_ok mxs_ok mrs4_ok mws0_ok
-- tumble/num.minus[float64]
noncomputable def s_num_minus_float64__0 (a0_0 : Nat) : Bool := (flt (fdiv 4607182418800017408 a0_0) 0)
theorem e_num_minus_float64_ (a0_0 : Nat) : outB (evFnM Try.prog false menv4 [] [] 64 Try.f84 [AV.float a0_0] []) = some ((true), AV.bool (s_num_minus_float64__0 a0_0)) := by kernel_rfl
noncomputable def S_num_minus_float64_ : List AV → Option (Ob × AV)
  | [AV.float a0_0] => some (Ob.tt, AV.bool (s_num_minus_float64__0 a0_0))
  | _ => none
theorem t_num_minus_float64_ : ROkM Try.prog false (84, pureM S_num_minus_float64_) := ROkM.pure (N := 64) menv4_ok Try.func84 Try.call84 fun args o v h => by
  unfold S_num_minus_float64_ at h
  split at h
  · rename_i a0_0
    cases h
    exact ⟨rfl, rfl, _, e_num_minus_float64_ a0_0, fun _ => rfl⟩
  · cases h
noncomputable def mrs5 : List (FuncId × RFM) := (84, pureM S_num_minus_float64_) :: mrs4
noncomputable def menv5 : EnvM := mkEnvM mxs mrs5 mws0
theorem mrs5_ok : All (ROkM Try.prog false) mrs5 := All.cons t_num_minus_float64_ mrs4_ok
theorem menv5_ok : menv5.Ok Try.prog false := mkEnvM_ok mxs_ok mrs5_ok mws0_ok
-- tumble/num.Most[float64]
noncomputable def s_num_Most_float64__0 (a0_0 : Nat) (a1_0 : Nat) : Nat := (bif (((s_num_none_float64__0 a0_0) || (flt a0_0 a1_0)) || (((feq a0_0 0) && (feq a1_0 0)) && (s_num_minus_float64__0 a0_0))) then a1_0 else a0_0)
theorem e_num_Most_float64_ (a0_0 : Nat) (a1_0 : Nat) : outB (evFnM Try.prog false menv5 [] [] 64 Try.f74 [AV.float a0_0, AV.float a1_0] []) = some ((true), AV.float (s_num_Most_float64__0 a0_0 a1_0)) := by kernel_rfl
noncomputable def S_num_Most_float64_ : List AV → Option (Ob × AV)
  | [AV.float a0_0, AV.float a1_0] => some (Ob.tt, AV.float (s_num_Most_float64__0 a0_0 a1_0))
  | _ => none
theorem t_num_Most_float64_ : ROkM Try.prog false (74, pureM S_num_Most_float64_) := ROkM.pure (N := 64) menv5_ok Try.func74 Try.call74 fun args o v h => by
  unfold S_num_Most_float64_ at h
  split at h
  · rename_i a0_0 a1_0
    cases h
    exact ⟨rfl, rfl, _, e_num_Most_float64_ a0_0 a1_0, fun _ => rfl⟩
  · cases h
noncomputable def mrs6 : List (FuncId × RFM) := (74, pureM S_num_Most_float64_) :: mrs5
noncomputable def menv6 : EnvM := mkEnvM mxs mrs6 mws0
theorem mrs6_ok : All (ROkM Try.prog false) mrs6 := All.cons t_num_Most_float64_ mrs5_ok
theorem menv6_ok : menv6.Ok Try.prog false := mkEnvM_ok mxs_ok mrs6_ok mws0_ok
-- tumble/box.most
noncomputable def s_box_most_0 (a0_0 : Nat) (a0_1 : Nat) (a1_0 : Nat) (a1_1 : Nat) : Nat := (s_num_Most_float64__0 a0_0 a1_0)
noncomputable def s_box_most_1 (a0_0 : Nat) (a0_1 : Nat) (a1_0 : Nat) (a1_1 : Nat) : Nat := (s_num_Most_float64__0 a0_1 a1_1)
theorem e_box_most (a0_0 : Nat) (a0_1 : Nat) (a1_0 : Nat) (a1_1 : Nat) : outB (evFnM Try.prog false menv6 [] [] 64 Try.f52 [AV.agg [.float a0_0, .float a0_1], AV.agg [.float a1_0, .float a1_1]] []) = some ((true), AV.agg [AV.float (s_box_most_0 a0_0 a0_1 a1_0 a1_1), AV.float (s_box_most_1 a0_0 a0_1 a1_0 a1_1)]) := by kernel_rfl
noncomputable def S_box_most : List AV → Option (Ob × AV)
  | [AV.agg [.float a0_0, .float a0_1], AV.agg [.float a1_0, .float a1_1]] => some (Ob.tt, AV.agg [AV.float (s_box_most_0 a0_0 a0_1 a1_0 a1_1), AV.float (s_box_most_1 a0_0 a0_1 a1_0 a1_1)])
  | _ => none
theorem t_box_most : ROkM Try.prog false (52, pureM S_box_most) := ROkM.pure (N := 64) menv6_ok Try.func52 Try.call52 fun args o v h => by
  unfold S_box_most at h
  split at h
  · rename_i a0_0 a0_1 a1_0 a1_1
    cases h
    exact ⟨rfl, rfl, _, e_box_most a0_0 a0_1 a1_0 a1_1, fun _ => rfl⟩
  · cases h
noncomputable def mrs7 : List (FuncId × RFM) := (52, pureM S_box_most) :: mrs6
noncomputable def menv7 : EnvM := mkEnvM mxs mrs7 mws0
theorem mrs7_ok : All (ROkM Try.prog false) mrs7 := All.cons t_box_most mrs6_ok
theorem menv7_ok : menv7.Ok Try.prog false := mkEnvM_ok mxs_ok mrs7_ok mws0_ok
-- tumble/num.Least[float64]
noncomputable def s_num_Least_float64__0 (a0_0 : Nat) (a1_0 : Nat) : Nat := (bif (((s_num_none_float64__0 a0_0) || (flt a1_0 a0_0)) || (((feq a0_0 0) && (feq a1_0 0)) && (s_num_minus_float64__0 a1_0))) then a1_0 else a0_0)
theorem e_num_Least_float64_ (a0_0 : Nat) (a1_0 : Nat) : outB (evFnM Try.prog false menv7 [] [] 64 Try.f73 [AV.float a0_0, AV.float a1_0] []) = some ((true), AV.float (s_num_Least_float64__0 a0_0 a1_0)) := by kernel_rfl
noncomputable def S_num_Least_float64_ : List AV → Option (Ob × AV)
  | [AV.float a0_0, AV.float a1_0] => some (Ob.tt, AV.float (s_num_Least_float64__0 a0_0 a1_0))
  | _ => none
theorem t_num_Least_float64_ : ROkM Try.prog false (73, pureM S_num_Least_float64_) := ROkM.pure (N := 64) menv7_ok Try.func73 Try.call73 fun args o v h => by
  unfold S_num_Least_float64_ at h
  split at h
  · rename_i a0_0 a1_0
    cases h
    exact ⟨rfl, rfl, _, e_num_Least_float64_ a0_0 a1_0, fun _ => rfl⟩
  · cases h
noncomputable def mrs8 : List (FuncId × RFM) := (73, pureM S_num_Least_float64_) :: mrs7
noncomputable def menv8 : EnvM := mkEnvM mxs mrs8 mws0
theorem mrs8_ok : All (ROkM Try.prog false) mrs8 := All.cons t_num_Least_float64_ mrs7_ok
theorem menv8_ok : menv8.Ok Try.prog false := mkEnvM_ok mxs_ok mrs8_ok mws0_ok
-- tumble/box.least
noncomputable def s_box_least_0 (a0_0 : Nat) (a0_1 : Nat) (a1_0 : Nat) (a1_1 : Nat) : Nat := (s_num_Least_float64__0 a0_0 a1_0)
noncomputable def s_box_least_1 (a0_0 : Nat) (a0_1 : Nat) (a1_0 : Nat) (a1_1 : Nat) : Nat := (s_num_Least_float64__0 a0_1 a1_1)
theorem e_box_least (a0_0 : Nat) (a0_1 : Nat) (a1_0 : Nat) (a1_1 : Nat) : outB (evFnM Try.prog false menv8 [] [] 64 Try.f51 [AV.agg [.float a0_0, .float a0_1], AV.agg [.float a1_0, .float a1_1]] []) = some ((true), AV.agg [AV.float (s_box_least_0 a0_0 a0_1 a1_0 a1_1), AV.float (s_box_least_1 a0_0 a0_1 a1_0 a1_1)]) := by kernel_rfl
noncomputable def S_box_least : List AV → Option (Ob × AV)
  | [AV.agg [.float a0_0, .float a0_1], AV.agg [.float a1_0, .float a1_1]] => some (Ob.tt, AV.agg [AV.float (s_box_least_0 a0_0 a0_1 a1_0 a1_1), AV.float (s_box_least_1 a0_0 a0_1 a1_0 a1_1)])
  | _ => none
theorem t_box_least : ROkM Try.prog false (51, pureM S_box_least) := ROkM.pure (N := 64) menv8_ok Try.func51 Try.call51 fun args o v h => by
  unfold S_box_least at h
  split at h
  · rename_i a0_0 a0_1 a1_0 a1_1
    cases h
    exact ⟨rfl, rfl, _, e_box_least a0_0 a0_1 a1_0 a1_1, fun _ => rfl⟩
  · cases h
noncomputable def mrs9 : List (FuncId × RFM) := (51, pureM S_box_least) :: mrs8
noncomputable def menv9 : EnvM := mkEnvM mxs mrs9 mws0
theorem mrs9_ok : All (ROkM Try.prog false) mrs9 := All.cons t_box_least mrs8_ok
theorem menv9_ok : menv9.Ok Try.prog false := mkEnvM_ok mxs_ok mrs9_ok mws0_ok
-- tumble/box.Meet
noncomputable def s_box_Meet_0 (a0_0 : Nat) (a0_1 : Nat) (a0_2 : Nat) (a0_3 : Nat) (a1_0 : Nat) (a1_1 : Nat) (a1_2 : Nat) (a1_3 : Nat) : Nat := (bif (!(s_box_Over_0 a0_0 a0_1 a0_2 a0_3 a1_0 a1_1 a1_2 a1_3)) then 0 else (s_box_most_0 a0_0 a0_1 a1_0 a1_1))
noncomputable def s_box_Meet_1 (a0_0 : Nat) (a0_1 : Nat) (a0_2 : Nat) (a0_3 : Nat) (a1_0 : Nat) (a1_1 : Nat) (a1_2 : Nat) (a1_3 : Nat) : Nat := (bif (!(s_box_Over_0 a0_0 a0_1 a0_2 a0_3 a1_0 a1_1 a1_2 a1_3)) then 0 else (s_box_most_1 a0_0 a0_1 a1_0 a1_1))
noncomputable def s_box_Meet_2 (a0_0 : Nat) (a0_1 : Nat) (a0_2 : Nat) (a0_3 : Nat) (a1_0 : Nat) (a1_1 : Nat) (a1_2 : Nat) (a1_3 : Nat) : Nat := (bif (!(s_box_Over_0 a0_0 a0_1 a0_2 a0_3 a1_0 a1_1 a1_2 a1_3)) then 0 else (s_box_least_0 a0_2 a0_3 a1_2 a1_3))
noncomputable def s_box_Meet_3 (a0_0 : Nat) (a0_1 : Nat) (a0_2 : Nat) (a0_3 : Nat) (a1_0 : Nat) (a1_1 : Nat) (a1_2 : Nat) (a1_3 : Nat) : Nat := (bif (!(s_box_Over_0 a0_0 a0_1 a0_2 a0_3 a1_0 a1_1 a1_2 a1_3)) then 0 else (s_box_least_1 a0_2 a0_3 a1_2 a1_3))
noncomputable def s_box_Meet_4 (a0_0 : Nat) (a0_1 : Nat) (a0_2 : Nat) (a0_3 : Nat) (a1_0 : Nat) (a1_1 : Nat) (a1_2 : Nat) (a1_3 : Nat) : Bool := (bif (!(s_box_Over_0 a0_0 a0_1 a0_2 a0_3 a1_0 a1_1 a1_2 a1_3)) then false else true)
theorem e_box_Meet (a0_0 : Nat) (a0_1 : Nat) (a0_2 : Nat) (a0_3 : Nat) (a1_0 : Nat) (a1_1 : Nat) (a1_2 : Nat) (a1_3 : Nat) : outB (evFnM Try.prog false menv9 [] [] 64 Try.f16 [AV.agg [.float a0_0, .float a0_1, .float a0_2, .float a0_3], AV.agg [.float a1_0, .float a1_1, .float a1_2, .float a1_3]] []) = some ((true), AV.tup [AV.agg [AV.float (s_box_Meet_0 a0_0 a0_1 a0_2 a0_3 a1_0 a1_1 a1_2 a1_3), AV.float (s_box_Meet_1 a0_0 a0_1 a0_2 a0_3 a1_0 a1_1 a1_2 a1_3), AV.float (s_box_Meet_2 a0_0 a0_1 a0_2 a0_3 a1_0 a1_1 a1_2 a1_3), AV.float (s_box_Meet_3 a0_0 a0_1 a0_2 a0_3 a1_0 a1_1 a1_2 a1_3)], AV.bool (s_box_Meet_4 a0_0 a0_1 a0_2 a0_3 a1_0 a1_1 a1_2 a1_3)]) := by kernel_rfl
noncomputable def S_box_Meet : List AV → Option (Ob × AV)
  | [AV.agg [.float a0_0, .float a0_1, .float a0_2, .float a0_3], AV.agg [.float a1_0, .float a1_1, .float a1_2, .float a1_3]] => some (Ob.tt, AV.tup [AV.agg [AV.float (s_box_Meet_0 a0_0 a0_1 a0_2 a0_3 a1_0 a1_1 a1_2 a1_3), AV.float (s_box_Meet_1 a0_0 a0_1 a0_2 a0_3 a1_0 a1_1 a1_2 a1_3), AV.float (s_box_Meet_2 a0_0 a0_1 a0_2 a0_3 a1_0 a1_1 a1_2 a1_3), AV.float (s_box_Meet_3 a0_0 a0_1 a0_2 a0_3 a1_0 a1_1 a1_2 a1_3)], AV.bool (s_box_Meet_4 a0_0 a0_1 a0_2 a0_3 a1_0 a1_1 a1_2 a1_3)])
  | _ => none
theorem t_box_Meet : ROkM Try.prog false (16, pureM S_box_Meet) := ROkM.pure (N := 64) menv9_ok Try.func16 Try.call16 fun args o v h => by
  unfold S_box_Meet at h
  split at h
  · rename_i a0_0 a0_1 a0_2 a0_3 a1_0 a1_1 a1_2 a1_3
    cases h
    exact ⟨rfl, rfl, _, e_box_Meet a0_0 a0_1 a0_2 a0_3 a1_0 a1_1 a1_2 a1_3, fun _ => rfl⟩
  · cases h
noncomputable def mrs10 : List (FuncId × RFM) := (16, pureM S_box_Meet) :: mrs9
noncomputable def menv10 : EnvM := mkEnvM mxs mrs10 mws0
theorem mrs10_ok : All (ROkM Try.prog false) mrs10 := All.cons t_box_Meet mrs9_ok
theorem menv10_ok : menv10.Ok Try.prog false := mkEnvM_ok mxs_ok mrs10_ok mws0_ok
-- (*tumble/box.span).cut
noncomputable def mws1 : List (FuncId × WFM) := (48, inlWM Try.prog false menv10 [] [] 64 Try.f48) :: mws0
noncomputable def menv11 : EnvM := mkEnvM mxs mrs10 mws1
theorem mws1_ok : All (WOkM Try.prog false) mws1 := All.cons (WOkM.inl menv10_ok Try.func48 Try.call48) mws0_ok
theorem menv11_ok : menv11.Ok Try.prog false := mkEnvM_ok mxs_ok mrs10_ok mws1_ok
-- tumble/box.Ray
noncomputable def s_box_Ray_0 (a0_0 : Nat) (a0_1 : Nat) (a0_2 : Nat) (a0_3 : Nat) (a1_0 : Nat) (a1_1 : Nat) (a2_0 : Nat) (a2_1 : Nat) : Nat := let x0 : Nat := (fdiv (fsub a0_0 a1_0) a2_0); let x1 : Nat := (fdiv (fsub a0_2 a1_0) a2_0); let x2 : Bool := (flt x1 x0); let x3 : Nat := (bif x2 then x1 else x0); let x4 : Nat := (bif (flt 0 x3) then x3 else 0); let x5 : Bool := ((feq a2_0 0) || (!(feq a2_0 a2_0))); let x6 : Nat := (bif x5 then 0 else x4); let x7 : Nat := (fdiv (fsub a0_1 a1_1) a2_1); let x8 : Nat := (fdiv (fsub a0_3 a1_1) a2_1); let x9 : Bool := (flt x8 x7); let x10 : Nat := (bif x9 then x8 else x7); let x11 : Nat := (bif (flt x6 x10) then x10 else x6); let x12 : Bool := ((feq a2_1 0) || (!(feq a2_1 a2_1))); let x13 : Nat := (bif x2 then x0 else x1); let x14 : Nat := (bif (flt x13 4607182418800017408) then x13 else 4607182418800017408); let x15 : Bool := (!(bif x5 then ((fle a0_0 a1_0) && (fle a1_0 a0_2)) else ((fle x3 x13) && (fle x4 x14)))); let x16 : Nat := (bif x5 then 4607182418800017408 else x14); let x17 : Nat := (bif x9 then x7 else x8); (bif (x15 || (!(bif x12 then ((fle a0_1 a1_1) && (fle a1_1 a0_3)) else ((fle x10 x17) && (fle x11 (bif (flt x17 x16) then x17 else x16)))))) then 0 else (bif x15 then x6 else (bif x12 then x6 else x11)))
noncomputable def s_box_Ray_1 (a0_0 : Nat) (a0_1 : Nat) (a0_2 : Nat) (a0_3 : Nat) (a1_0 : Nat) (a1_1 : Nat) (a2_0 : Nat) (a2_1 : Nat) : Bool := let x0 : Nat := (fdiv (fsub a0_2 a1_0) a2_0); let x1 : Nat := (fdiv (fsub a0_0 a1_0) a2_0); let x2 : Bool := (flt x0 x1); let x3 : Nat := (bif x2 then x1 else x0); let x4 : Nat := (bif (flt x3 4607182418800017408) then x3 else 4607182418800017408); let x5 : Bool := ((feq a2_0 0) || (!(feq a2_0 a2_0))); let x6 : Nat := (bif x5 then 4607182418800017408 else x4); let x7 : Nat := (fdiv (fsub a0_3 a1_1) a2_1); let x8 : Nat := (fdiv (fsub a0_1 a1_1) a2_1); let x9 : Bool := (flt x7 x8); let x10 : Nat := (bif x9 then x8 else x7); let x11 : Nat := (bif x2 then x0 else x1); let x12 : Nat := (bif (flt 0 x11) then x11 else 0); let x13 : Nat := (bif x5 then 0 else x12); let x14 : Nat := (bif x9 then x7 else x8); (bif ((!(bif x5 then ((fle a0_0 a1_0) && (fle a1_0 a0_2)) else ((fle x11 x3) && (fle x12 x4)))) || (!(bif ((feq a2_1 0) || (!(feq a2_1 a2_1))) then ((fle a0_1 a1_1) && (fle a1_1 a0_3)) else ((fle x14 x10) && (fle (bif (flt x13 x14) then x14 else x13) (bif (flt x10 x6) then x10 else x6)))))) then false else true)
theorem e_box_Ray (a0_0 : Nat) (a0_1 : Nat) (a0_2 : Nat) (a0_3 : Nat) (a1_0 : Nat) (a1_1 : Nat) (a2_0 : Nat) (a2_1 : Nat) : outB (evFnM Try.prog false menv11 [] [] 64 Try.f11 [AV.agg [.float a0_0, .float a0_1, .float a0_2, .float a0_3], AV.agg [.float a1_0, .float a1_1], AV.agg [.float a2_0, .float a2_1]] []) = some ((true), AV.tup [AV.float (s_box_Ray_0 a0_0 a0_1 a0_2 a0_3 a1_0 a1_1 a2_0 a2_1), AV.bool (s_box_Ray_1 a0_0 a0_1 a0_2 a0_3 a1_0 a1_1 a2_0 a2_1)]) := by kernel_rfl
noncomputable def S_box_Ray : List AV → Option (Ob × AV)
  | [AV.agg [.float a0_0, .float a0_1, .float a0_2, .float a0_3], AV.agg [.float a1_0, .float a1_1], AV.agg [.float a2_0, .float a2_1]] => some (Ob.tt, AV.tup [AV.float (s_box_Ray_0 a0_0 a0_1 a0_2 a0_3 a1_0 a1_1 a2_0 a2_1), AV.bool (s_box_Ray_1 a0_0 a0_1 a0_2 a0_3 a1_0 a1_1 a2_0 a2_1)])
  | _ => none
theorem t_box_Ray : ROkM Try.prog false (11, pureM S_box_Ray) := ROkM.pure (N := 64) menv11_ok Try.func11 Try.call11 fun args o v h => by
  unfold S_box_Ray at h
  split at h
  · rename_i a0_0 a0_1 a0_2 a0_3 a1_0 a1_1 a2_0 a2_1
    cases h
    exact ⟨rfl, rfl, _, e_box_Ray a0_0 a0_1 a0_2 a0_3 a1_0 a1_1 a2_0 a2_1, fun _ => rfl⟩
  · cases h
noncomputable def mrs11 : List (FuncId × RFM) := (11, pureM S_box_Ray) :: mrs10
noncomputable def menv12 : EnvM := mkEnvM mxs mrs11 mws1
theorem mrs11_ok : All (ROkM Try.prog false) mrs11 := All.cons t_box_Ray mrs10_ok
theorem menv12_ok : menv12.Ok Try.prog false := mkEnvM_ok mxs_ok mrs11_ok mws1_ok
-- math.NaN
noncomputable def s_math_NaN_0 : Nat := 9221120237041090561
theorem e_math_NaN : outB (evFnM Try.prog false menv12 [] [] 64 Try.f67 [] []) = some ((true), AV.float (s_math_NaN_0)) := by kernel_rfl
noncomputable def S_math_NaN : List AV → Option (Ob × AV)
  | [] => some (Ob.tt, AV.float (s_math_NaN_0))
  | _ => none
theorem t_math_NaN : ROkM Try.prog false (67, pureM S_math_NaN) := ROkM.pure (N := 64) menv12_ok Try.func67 Try.call67 fun args o v h => by
  unfold S_math_NaN at h
  split at h
  · skip
    cases h
    exact ⟨rfl, rfl, _, e_math_NaN, fun _ => rfl⟩
  · cases h
noncomputable def mrs12 : List (FuncId × RFM) := (67, pureM S_math_NaN) :: mrs11
noncomputable def menv13 : EnvM := mkEnvM mxs mrs12 mws1
theorem mrs12_ok : All (ROkM Try.prog false) mrs12 := All.cons t_math_NaN mrs11_ok
theorem menv13_ok : menv13.Ok Try.prog false := mkEnvM_ok mxs_ok mrs12_ok mws1_ok
-- math.Inf
noncomputable def s_math_Inf_0 (a0_0 : Int) : Nat := (cn (Int.toNat (bif (ile (0 : Int) a0_0) then (9218868437227405312 : Int) else (18442240474082181120 : Int))))
theorem e_math_Inf (a0_0 : Int) : outB (evFnM Try.prog false menv13 [] [] 64 Try.f68 [AV.int .i64 a0_0] []) = some (((u64ok (bif (ile (0 : Int) a0_0) then (9218868437227405312 : Int) else (18442240474082181120 : Int)))), AV.float (s_math_Inf_0 a0_0)) := by kernel_rfl
noncomputable def S_math_Inf : List AV → Option (Ob × AV)
  | [AV.int .i64 a0_0] => some (Ob.tt, AV.float (s_math_Inf_0 a0_0))
  | _ => none
theorem t_math_Inf : ROkM Try.prog false (68, pureM S_math_Inf) := ROkM.pure (N := 64) menv13_ok Try.func68 Try.call68 fun args o v h => by
  unfold S_math_Inf at h
  split at h
  · rename_i a0_0
    cases h
    exact ⟨rfl, rfl, _, e_math_Inf a0_0, fun _ => by show ((u64ok (bif (ile (0 : Int) a0_0) then (9218868437227405312 : Int) else (18442240474082181120 : Int)))) = true; generalize (ile (0 : Int) a0_0) = q0; cases q0 <;> rfl⟩
  · cases h
noncomputable def mrs13 : List (FuncId × RFM) := (68, pureM S_math_Inf) :: mrs12
noncomputable def menv14 : EnvM := mkEnvM mxs mrs13 mws1
theorem mrs13_ok : All (ROkM Try.prog false) mrs13 := All.cons t_math_Inf mrs12_ok
theorem menv14_ok : menv14.Ok Try.prog false := mkEnvM_ok mxs_ok mrs13_ok mws1_ok
-- math.Copysign
noncomputable def S_math_Copysign : List AV → Option AV
  | [AV.float a, AV.float c] => cond (nanb c) none (some (AV.float (fcps a c)))
  | _ => none
theorem t_math_Copysign : ROk Try.prog false (69, pureF S_math_Copysign) := exact2f (N := 64) xenv_ok Try.func69 Try.call69 fcps (fun args v h => by
    unfold S_math_Copysign at h
    split at h
    · obtain ⟨hn, h⟩ := cond_some' h rfl; cases h; exact ⟨_, _, rfl, hn, rfl⟩
    · cases h) fun b d hb hd _ => ⟨_, by refine Eq.trans ?_ (cps_tree hb hd); kernel_rfl, cps_cn⟩
noncomputable def mrs14 : List (FuncId × RFM) := (69, pureM fun args => match S_math_Copysign args with | some v => some (.tt, v) | none => none) :: mrs13
noncomputable def menv15 : EnvM := mkEnvM mxs mrs14 mws1
theorem mrs14_ok : All (ROkM Try.prog false) mrs14 := All.cons t_math_Copysign.toM mrs13_ok
theorem menv15_ok : menv15.Ok Try.prog false := mkEnvM_ok mxs_ok mrs14_ok mws1_ok
-- tumble/box.Join
noncomputable def s_box_Join_0 (a0_0 : Nat) (a0_1 : Nat) (a0_2 : Nat) (a0_3 : Nat) (a1_0 : Nat) (a1_1 : Nat) (a1_2 : Nat) (a1_3 : Nat) : Nat := (s_box_least_0 a0_0 a0_1 a1_0 a1_1)
noncomputable def s_box_Join_1 (a0_0 : Nat) (a0_1 : Nat) (a0_2 : Nat) (a0_3 : Nat) (a1_0 : Nat) (a1_1 : Nat) (a1_2 : Nat) (a1_3 : Nat) : Nat := (s_box_least_1 a0_0 a0_1 a1_0 a1_1)
noncomputable def s_box_Join_2 (a0_0 : Nat) (a0_1 : Nat) (a0_2 : Nat) (a0_3 : Nat) (a1_0 : Nat) (a1_1 : Nat) (a1_2 : Nat) (a1_3 : Nat) : Nat := (s_box_most_0 a0_2 a0_3 a1_2 a1_3)
noncomputable def s_box_Join_3 (a0_0 : Nat) (a0_1 : Nat) (a0_2 : Nat) (a0_3 : Nat) (a1_0 : Nat) (a1_1 : Nat) (a1_2 : Nat) (a1_3 : Nat) : Nat := (s_box_most_1 a0_2 a0_3 a1_2 a1_3)
theorem e_box_Join (a0_0 : Nat) (a0_1 : Nat) (a0_2 : Nat) (a0_3 : Nat) (a1_0 : Nat) (a1_1 : Nat) (a1_2 : Nat) (a1_3 : Nat) : outB (evFnM Try.prog false menv15 [] [] 64 Try.f15 [AV.agg [.float a0_0, .float a0_1, .float a0_2, .float a0_3], AV.agg [.float a1_0, .float a1_1, .float a1_2, .float a1_3]] []) = some ((true), AV.agg [AV.float (s_box_Join_0 a0_0 a0_1 a0_2 a0_3 a1_0 a1_1 a1_2 a1_3), AV.float (s_box_Join_1 a0_0 a0_1 a0_2 a0_3 a1_0 a1_1 a1_2 a1_3), AV.float (s_box_Join_2 a0_0 a0_1 a0_2 a0_3 a1_0 a1_1 a1_2 a1_3), AV.float (s_box_Join_3 a0_0 a0_1 a0_2 a0_3 a1_0 a1_1 a1_2 a1_3)]) := by kernel_rfl
noncomputable def S_box_Join : List AV → Option (Ob × AV)
  | [AV.agg [.float a0_0, .float a0_1, .float a0_2, .float a0_3], AV.agg [.float a1_0, .float a1_1, .float a1_2, .float a1_3]] => some (Ob.tt, AV.agg [AV.float (s_box_Join_0 a0_0 a0_1 a0_2 a0_3 a1_0 a1_1 a1_2 a1_3), AV.float (s_box_Join_1 a0_0 a0_1 a0_2 a0_3 a1_0 a1_1 a1_2 a1_3), AV.float (s_box_Join_2 a0_0 a0_1 a0_2 a0_3 a1_0 a1_1 a1_2 a1_3), AV.float (s_box_Join_3 a0_0 a0_1 a0_2 a0_3 a1_0 a1_1 a1_2 a1_3)])
  | _ => none
theorem t_box_Join : ROkM Try.prog false (15, pureM S_box_Join) := ROkM.pure (N := 64) menv15_ok Try.func15 Try.call15 fun args o v h => by
  unfold S_box_Join at h
  split at h
  · rename_i a0_0 a0_1 a0_2 a0_3 a1_0 a1_1 a1_2 a1_3
    cases h
    exact ⟨rfl, rfl, _, e_box_Join a0_0 a0_1 a0_2 a0_3 a1_0 a1_1 a1_2 a1_3, fun _ => rfl⟩
  · cases h
noncomputable def mrs15 : List (FuncId × RFM) := (15, pureM S_box_Join) :: mrs14
noncomputable def menv16 : EnvM := mkEnvM mxs mrs15 mws1
theorem mrs15_ok : All (ROkM Try.prog false) mrs15 := All.cons t_box_Join mrs14_ok
theorem menv16_ok : menv16.Ok Try.prog false := mkEnvM_ok mxs_ok mrs15_ok mws1_ok
-- tumble/box.Moved$1
noncomputable def mws2 : List (FuncId × WFM) := (61, inlWM Try.prog false menv16 [] [7] 64 Try.f61) :: mws1
noncomputable def menv17 : EnvM := mkEnvM mxs mrs15 mws2
theorem mws2_ok : All (WOkM Try.prog false) mws2 := All.cons (WOkM.inl menv16_ok Try.func61 Try.call61) mws1_ok
theorem menv17_ok : menv17.Ok Try.prog false := mkEnvM_ok mxs_ok mrs15_ok mws2_ok
-- tumble/box.Moved
noncomputable def s_box_Moved_0 (a0_0 : Nat) (a0_1 : Nat) (a0_2 : Nat) (a0_3 : Nat) (a1_0 : Nat) (a1_1 : Nat) : Nat := (bif (flt a1_0 0) then (fadd a0_0 a1_0) else a0_0)
noncomputable def s_box_Moved_1 (a0_0 : Nat) (a0_1 : Nat) (a0_2 : Nat) (a0_3 : Nat) (a1_0 : Nat) (a1_1 : Nat) : Nat := (bif (flt a1_1 0) then (fadd a0_1 a1_1) else a0_1)
noncomputable def s_box_Moved_2 (a0_0 : Nat) (a0_1 : Nat) (a0_2 : Nat) (a0_3 : Nat) (a1_0 : Nat) (a1_1 : Nat) : Nat := (bif (flt a1_0 0) then a0_2 else (fadd a0_2 a1_0))
noncomputable def s_box_Moved_3 (a0_0 : Nat) (a0_1 : Nat) (a0_2 : Nat) (a0_3 : Nat) (a1_0 : Nat) (a1_1 : Nat) : Nat := (bif (flt a1_1 0) then a0_3 else (fadd a0_3 a1_1))
theorem e_box_Moved (a0_0 : Nat) (a0_1 : Nat) (a0_2 : Nat) (a0_3 : Nat) (a1_0 : Nat) (a1_1 : Nat) : outB (evFnM Try.prog false menv17 [] [] 64 Try.f29 [AV.agg [.float a0_0, .float a0_1, .float a0_2, .float a0_3], AV.agg [.float a1_0, .float a1_1]] []) = some ((true), AV.agg [AV.float (s_box_Moved_0 a0_0 a0_1 a0_2 a0_3 a1_0 a1_1), AV.float (s_box_Moved_1 a0_0 a0_1 a0_2 a0_3 a1_0 a1_1), AV.float (s_box_Moved_2 a0_0 a0_1 a0_2 a0_3 a1_0 a1_1), AV.float (s_box_Moved_3 a0_0 a0_1 a0_2 a0_3 a1_0 a1_1)]) := by kernel_rfl
noncomputable def S_box_Moved : List AV → Option (Ob × AV)
  | [AV.agg [.float a0_0, .float a0_1, .float a0_2, .float a0_3], AV.agg [.float a1_0, .float a1_1]] => some (Ob.tt, AV.agg [AV.float (s_box_Moved_0 a0_0 a0_1 a0_2 a0_3 a1_0 a1_1), AV.float (s_box_Moved_1 a0_0 a0_1 a0_2 a0_3 a1_0 a1_1), AV.float (s_box_Moved_2 a0_0 a0_1 a0_2 a0_3 a1_0 a1_1), AV.float (s_box_Moved_3 a0_0 a0_1 a0_2 a0_3 a1_0 a1_1)])
  | _ => none
theorem t_box_Moved : ROkM Try.prog false (29, pureM S_box_Moved) := ROkM.pure (N := 64) menv17_ok Try.func29 Try.call29 fun args o v h => by
  unfold S_box_Moved at h
  split at h
  · rename_i a0_0 a0_1 a0_2 a0_3 a1_0 a1_1
    cases h
    exact ⟨rfl, rfl, _, e_box_Moved a0_0 a0_1 a0_2 a0_3 a1_0 a1_1, fun _ => rfl⟩
  · cases h
noncomputable def mrs16 : List (FuncId × RFM) := (29, pureM S_box_Moved) :: mrs15
noncomputable def menv18 : EnvM := mkEnvM mxs mrs16 mws2
theorem mrs16_ok : All (ROkM Try.prog false) mrs16 := All.cons t_box_Moved mrs15_ok
theorem menv18_ok : menv18.Ok Try.prog false := mkEnvM_ok mxs_ok mrs16_ok mws2_ok
-- math.Signbit
noncomputable def s_math_Signbit_0 (a0_0 : Nat) : Bool := (ilt (IntKind.wrap .i64 (Int.ofNat a0_0)) (0 : Int))
theorem e_math_Signbit (a0_0 : Nat) : outB (evFnM Try.prog false menv18 [] [] 64 Try.f70 [AV.float a0_0] []) = some (((!(nanb a0_0))), AV.bool (s_math_Signbit_0 a0_0)) := by kernel_rfl
noncomputable def S_math_Signbit : List AV → Option (Ob × AV)
  | [AV.float a0_0] => some (Ob.bit ((!(nanb a0_0))), AV.bool (s_math_Signbit_0 a0_0))
  | _ => none
theorem t_math_Signbit : ROkM Try.prog false (70, pureM S_math_Signbit) := ROkM.pure (N := 64) menv18_ok Try.func70 Try.call70 fun args o v h => by
  unfold S_math_Signbit at h
  split at h
  · rename_i a0_0
    cases h
    exact ⟨rfl, rfl, _, e_math_Signbit a0_0, fun h => h⟩
  · cases h
noncomputable def mrs17 : List (FuncId × RFM) := (70, pureM S_math_Signbit) :: mrs16
noncomputable def menv19 : EnvM := mkEnvM mxs mrs17 mws2
theorem mrs17_ok : All (ROkM Try.prog false) mrs17 := All.cons t_math_Signbit mrs16_ok
theorem menv19_ok : menv19.Ok Try.prog false := mkEnvM_ok mxs_ok mrs17_ok mws2_ok
-- tumble/box.In
noncomputable def s_box_In_0 (a0_0 : Nat) (a0_1 : Nat) (a0_2 : Nat) (a0_3 : Nat) (a1_0 : Nat) (a1_1 : Nat) (a1_2 : Nat) (a1_3 : Nat) : Bool := ((s_box_below_0 a1_0 a1_1 a0_0 a0_1) && (s_box_below_0 a0_2 a0_3 a1_2 a1_3))
theorem e_box_In (a0_0 : Nat) (a0_1 : Nat) (a0_2 : Nat) (a0_3 : Nat) (a1_0 : Nat) (a1_1 : Nat) (a1_2 : Nat) (a1_3 : Nat) : outB (evFnM Try.prog false menv19 [] [] 64 Try.f20 [AV.agg [.float a0_0, .float a0_1, .float a0_2, .float a0_3], AV.agg [.float a1_0, .float a1_1, .float a1_2, .float a1_3]] []) = some ((true), AV.bool (s_box_In_0 a0_0 a0_1 a0_2 a0_3 a1_0 a1_1 a1_2 a1_3)) := by kernel_rfl
noncomputable def S_box_In : List AV → Option (Ob × AV)
  | [AV.agg [.float a0_0, .float a0_1, .float a0_2, .float a0_3], AV.agg [.float a1_0, .float a1_1, .float a1_2, .float a1_3]] => some (Ob.tt, AV.bool (s_box_In_0 a0_0 a0_1 a0_2 a0_3 a1_0 a1_1 a1_2 a1_3))
  | _ => none
theorem t_box_In : ROkM Try.prog false (20, pureM S_box_In) := ROkM.pure (N := 64) menv19_ok Try.func20 Try.call20 fun args o v h => by
  unfold S_box_In at h
  split at h
  · rename_i a0_0 a0_1 a0_2 a0_3 a1_0 a1_1 a1_2 a1_3
    cases h
    exact ⟨rfl, rfl, _, e_box_In a0_0 a0_1 a0_2 a0_3 a1_0 a1_1 a1_2 a1_3, fun _ => rfl⟩
  · cases h
noncomputable def mrs18 : List (FuncId × RFM) := (20, pureM S_box_In) :: mrs17
noncomputable def menv20 : EnvM := mkEnvM mxs mrs18 mws2
theorem mrs18_ok : All (ROkM Try.prog false) mrs18 := All.cons t_box_In mrs17_ok
theorem menv20_ok : menv20.Ok Try.prog false := mkEnvM_ok mxs_ok mrs18_ok mws2_ok
-- tumble/box.Has
noncomputable def s_box_Has_0 (a0_0 : Nat) (a0_1 : Nat) (a0_2 : Nat) (a0_3 : Nat) (a1_0 : Nat) (a1_1 : Nat) : Bool := ((s_box_below_0 a0_0 a0_1 a1_0 a1_1) && (s_box_below_0 a1_0 a1_1 a0_2 a0_3))
theorem e_box_Has (a0_0 : Nat) (a0_1 : Nat) (a0_2 : Nat) (a0_3 : Nat) (a1_0 : Nat) (a1_1 : Nat) : outB (evFnM Try.prog false menv20 [] [] 64 Try.f17 [AV.agg [.float a0_0, .float a0_1, .float a0_2, .float a0_3], AV.agg [.float a1_0, .float a1_1]] []) = some ((true), AV.bool (s_box_Has_0 a0_0 a0_1 a0_2 a0_3 a1_0 a1_1)) := by kernel_rfl
noncomputable def S_box_Has : List AV → Option (Ob × AV)
  | [AV.agg [.float a0_0, .float a0_1, .float a0_2, .float a0_3], AV.agg [.float a1_0, .float a1_1]] => some (Ob.tt, AV.bool (s_box_Has_0 a0_0 a0_1 a0_2 a0_3 a1_0 a1_1))
  | _ => none
theorem t_box_Has : ROkM Try.prog false (17, pureM S_box_Has) := ROkM.pure (N := 64) menv20_ok Try.func17 Try.call17 fun args o v h => by
  unfold S_box_Has at h
  split at h
  · rename_i a0_0 a0_1 a0_2 a0_3 a1_0 a1_1
    cases h
    exact ⟨rfl, rfl, _, e_box_Has a0_0 a0_1 a0_2 a0_3 a1_0 a1_1, fun _ => rfl⟩
  · cases h
noncomputable def mrs19 : List (FuncId × RFM) := (17, pureM S_box_Has) :: mrs18
noncomputable def menv21 : EnvM := mkEnvM mxs mrs19 mws2
theorem mrs19_ok : All (ROkM Try.prog false) mrs19 := All.cons t_box_Has mrs18_ok
theorem menv21_ok : menv21.Ok Try.prog false := mkEnvM_ok mxs_ok mrs19_ok mws2_ok
-- tumble/num.Finite[float64]
noncomputable def s_num_Finite_float64__0 (a0_0 : Nat) : Bool := (feq (fsub a0_0 a0_0) 0)
theorem e_num_Finite_float64_ (a0_0 : Nat) : outB (evFnM Try.prog false menv21 [] [] 64 Try.f62 [AV.float a0_0] []) = some ((true), AV.bool (s_num_Finite_float64__0 a0_0)) := by kernel_rfl
noncomputable def S_num_Finite_float64_ : List AV → Option (Ob × AV)
  | [AV.float a0_0] => some (Ob.tt, AV.bool (s_num_Finite_float64__0 a0_0))
  | _ => none
theorem t_num_Finite_float64_ : ROkM Try.prog false (62, pureM S_num_Finite_float64_) := ROkM.pure (N := 64) menv21_ok Try.func62 Try.call62 fun args o v h => by
  unfold S_num_Finite_float64_ at h
  split at h
  · rename_i a0_0
    cases h
    exact ⟨rfl, rfl, _, e_num_Finite_float64_ a0_0, fun _ => rfl⟩
  · cases h
noncomputable def mrs20 : List (FuncId × RFM) := (62, pureM S_num_Finite_float64_) :: mrs19
noncomputable def menv22 : EnvM := mkEnvM mxs mrs20 mws2
theorem mrs20_ok : All (ROkM Try.prog false) mrs20 := All.cons t_num_Finite_float64_ mrs19_ok
theorem menv22_ok : menv22.Ok Try.prog false := mkEnvM_ok mxs_ok mrs20_ok mws2_ok
-- tumble/vec.Finite
noncomputable def s_vec_Finite_0 (a0_0 : Nat) (a0_1 : Nat) : Bool := ((s_num_Finite_float64__0 a0_0) && (s_num_Finite_float64__0 a0_1))
theorem e_vec_Finite (a0_0 : Nat) (a0_1 : Nat) : outB (evFnM Try.prog false menv22 [] [] 64 Try.f38 [AV.agg [.float a0_0, .float a0_1]] []) = some ((true), AV.bool (s_vec_Finite_0 a0_0 a0_1)) := by kernel_rfl
noncomputable def S_vec_Finite : List AV → Option (Ob × AV)
  | [AV.agg [.float a0_0, .float a0_1]] => some (Ob.tt, AV.bool (s_vec_Finite_0 a0_0 a0_1))
  | _ => none
theorem t_vec_Finite : ROkM Try.prog false (38, pureM S_vec_Finite) := ROkM.pure (N := 64) menv22_ok Try.func38 Try.call38 fun args o v h => by
  unfold S_vec_Finite at h
  split at h
  · rename_i a0_0 a0_1
    cases h
    exact ⟨rfl, rfl, _, e_vec_Finite a0_0 a0_1, fun _ => rfl⟩
  · cases h
noncomputable def mrs21 : List (FuncId × RFM) := (38, pureM S_vec_Finite) :: mrs20
noncomputable def menv23 : EnvM := mkEnvM mxs mrs21 mws2
theorem mrs21_ok : All (ROkM Try.prog false) mrs21 := All.cons t_vec_Finite mrs20_ok
theorem menv23_ok : menv23.Ok Try.prog false := mkEnvM_ok mxs_ok mrs21_ok mws2_ok
-- tumble/box.Check
noncomputable def s_box_Check_0 (a0_0 : Nat) (a0_1 : Nat) (a0_2 : Nat) (a0_3 : Nat) : Int := (bif ((((!(s_vec_Finite_0 a0_0 a0_1)) || (!(s_vec_Finite_0 a0_2 a0_3))) || (flt a0_2 a0_0)) || (flt a0_3 a0_1)) then (50 : Int) else (0 : Int))
theorem e_box_Check (a0_0 : Nat) (a0_1 : Nat) (a0_2 : Nat) (a0_3 : Nat) : outB (evFnM Try.prog false menv23 [] [] 64 Try.f14 [AV.agg [.float a0_0, .float a0_1, .float a0_2, .float a0_3]] []) = some ((true), AV.int .i64 (s_box_Check_0 a0_0 a0_1 a0_2 a0_3)) := by kernel_rfl
noncomputable def S_box_Check : List AV → Option (Ob × AV)
  | [AV.agg [.float a0_0, .float a0_1, .float a0_2, .float a0_3]] => some (Ob.tt, AV.int .i64 (s_box_Check_0 a0_0 a0_1 a0_2 a0_3))
  | _ => none
theorem t_box_Check : ROkM Try.prog false (14, pureM S_box_Check) := ROkM.pure (N := 64) menv23_ok Try.func14 Try.call14 fun args o v h => by
  unfold S_box_Check at h
  split at h
  · rename_i a0_0 a0_1 a0_2 a0_3
    cases h
    exact ⟨rfl, rfl, _, e_box_Check a0_0 a0_1 a0_2 a0_3, fun _ => rfl⟩
  · cases h
noncomputable def mrs22 : List (FuncId × RFM) := (14, pureM S_box_Check) :: mrs21
noncomputable def menv24 : EnvM := mkEnvM mxs mrs22 mws2
theorem mrs22_ok : All (ROkM Try.prog false) mrs22 := All.cons t_box_Check mrs21_ok
theorem menv24_ok : menv24.Ok Try.prog false := mkEnvM_ok mxs_ok mrs22_ok mws2_ok
-- tumble/tumblelaw05.odds
noncomputable def s_law05_odds_0 : Bool := true
theorem e_law05_odds : outB (evFnM Try.prog false menv24 [] [] 64 Try.f47 [] []) = some ((true), AV.bool (s_law05_odds_0)) := by kernel_rfl
noncomputable def S_law05_odds : List AV → Option (Ob × AV)
  | [] => some (Ob.tt, AV.bool (s_law05_odds_0))
  | _ => none
theorem t_law05_odds : ROkM Try.prog false (47, pureM S_law05_odds) := ROkM.pure (N := 64) menv24_ok Try.func47 Try.call47 fun args o v h => by
  unfold S_law05_odds at h
  split at h
  · skip
    cases h
    exact ⟨rfl, rfl, _, e_law05_odds, fun _ => rfl⟩
  · cases h
noncomputable def mrs23 : List (FuncId × RFM) := (47, pureM S_law05_odds) :: mrs22
noncomputable def menv25 : EnvM := mkEnvM mxs mrs23 mws2
theorem mrs23_ok : All (ROkM Try.prog false) mrs23 := All.cons t_law05_odds mrs22_ok
theorem menv25_ok : menv25.Ok Try.prog false := mkEnvM_ok mxs_ok mrs23_ok mws2_ok
-- tumble/vec.Sub
noncomputable def s_vec_Sub_0 (a0_0 : Nat) (a0_1 : Nat) (a1_0 : Nat) (a1_1 : Nat) : Nat := (fsub a0_0 a1_0)
noncomputable def s_vec_Sub_1 (a0_0 : Nat) (a0_1 : Nat) (a1_0 : Nat) (a1_1 : Nat) : Nat := (fsub a0_1 a1_1)
theorem e_vec_Sub (a0_0 : Nat) (a0_1 : Nat) (a1_0 : Nat) (a1_1 : Nat) : outB (evFnM Try.prog false menv25 [] [] 64 Try.f59 [AV.agg [.float a0_0, .float a0_1], AV.agg [.float a1_0, .float a1_1]] []) = some ((true), AV.agg [AV.float (s_vec_Sub_0 a0_0 a0_1 a1_0 a1_1), AV.float (s_vec_Sub_1 a0_0 a0_1 a1_0 a1_1)]) := by kernel_rfl
noncomputable def S_vec_Sub : List AV → Option (Ob × AV)
  | [AV.agg [.float a0_0, .float a0_1], AV.agg [.float a1_0, .float a1_1]] => some (Ob.tt, AV.agg [AV.float (s_vec_Sub_0 a0_0 a0_1 a1_0 a1_1), AV.float (s_vec_Sub_1 a0_0 a0_1 a1_0 a1_1)])
  | _ => none
theorem t_vec_Sub : ROkM Try.prog false (59, pureM S_vec_Sub) := ROkM.pure (N := 64) menv25_ok Try.func59 Try.call59 fun args o v h => by
  unfold S_vec_Sub at h
  split at h
  · rename_i a0_0 a0_1 a1_0 a1_1
    cases h
    exact ⟨rfl, rfl, _, e_vec_Sub a0_0 a0_1 a1_0 a1_1, fun _ => rfl⟩
  · cases h
noncomputable def mrs24 : List (FuncId × RFM) := (59, pureM S_vec_Sub) :: mrs23
noncomputable def menv26 : EnvM := mkEnvM mxs mrs24 mws2
theorem mrs24_ok : All (ROkM Try.prog false) mrs24 := All.cons t_vec_Sub mrs23_ok
theorem menv26_ok : menv26.Ok Try.prog false := mkEnvM_ok mxs_ok mrs24_ok mws2_ok
-- tumble/box.Size
noncomputable def s_box_Size_0 (a0_0 : Nat) (a0_1 : Nat) (a0_2 : Nat) (a0_3 : Nat) : Nat := (fadd (s_vec_Sub_0 a0_2 a0_3 a0_0 a0_1) (s_vec_Sub_1 a0_2 a0_3 a0_0 a0_1))
theorem e_box_Size (a0_0 : Nat) (a0_1 : Nat) (a0_2 : Nat) (a0_3 : Nat) : outB (evFnM Try.prog false menv26 [] [] 64 Try.f31 [AV.agg [.float a0_0, .float a0_1, .float a0_2, .float a0_3]] []) = some ((true), AV.float (s_box_Size_0 a0_0 a0_1 a0_2 a0_3)) := by kernel_rfl
noncomputable def S_box_Size : List AV → Option (Ob × AV)
  | [AV.agg [.float a0_0, .float a0_1, .float a0_2, .float a0_3]] => some (Ob.tt, AV.float (s_box_Size_0 a0_0 a0_1 a0_2 a0_3))
  | _ => none
theorem t_box_Size : ROkM Try.prog false (31, pureM S_box_Size) := ROkM.pure (N := 64) menv26_ok Try.func31 Try.call31 fun args o v h => by
  unfold S_box_Size at h
  split at h
  · rename_i a0_0 a0_1 a0_2 a0_3
    cases h
    exact ⟨rfl, rfl, _, e_box_Size a0_0 a0_1 a0_2 a0_3, fun _ => rfl⟩
  · cases h
noncomputable def mrs25 : List (FuncId × RFM) := (31, pureM S_box_Size) :: mrs24
noncomputable def menv27 : EnvM := mkEnvM mxs mrs25 mws2
theorem mrs25_ok : All (ROkM Try.prog false) mrs25 := All.cons t_box_Size mrs24_ok
theorem menv27_ok : menv27.Ok Try.prog false := mkEnvM_ok mxs_ok mrs25_ok mws2_ok
-- tumble/tumblelaw05.alive
noncomputable def s_law05_alive_0 : Bool := true
theorem e_law05_alive : outB (evFnM Try.prog false menv27 [] [] 64 Try.f10 [] []) = some ((true), AV.bool (s_law05_alive_0)) := by kernel_rfl
noncomputable def S_law05_alive : List AV → Option (Ob × AV)
  | [] => some (Ob.tt, AV.bool (s_law05_alive_0))
  | _ => none
theorem t_law05_alive : ROkM Try.prog false (10, pureM S_law05_alive) := ROkM.pure (N := 64) menv27_ok Try.func10 Try.call10 fun args o v h => by
  unfold S_law05_alive at h
  split at h
  · skip
    cases h
    exact ⟨rfl, rfl, _, e_law05_alive, fun _ => rfl⟩
  · cases h
noncomputable def mrs26 : List (FuncId × RFM) := (10, pureM S_law05_alive) :: mrs25
noncomputable def menv28 : EnvM := mkEnvM mxs mrs26 mws2
theorem mrs26_ok : All (ROkM Try.prog false) mrs26 := All.cons t_law05_alive mrs25_ok
theorem menv28_ok : menv28.Ok Try.prog false := mkEnvM_ok mxs_ok mrs26_ok mws2_ok
-- math.Abs
noncomputable def S_math_Abs : List AV → Option AV
  | [AV.float a] => some (AV.float (fabs a))
  | _ => none
theorem t_math_Abs : ROk Try.prog false (64, pureF S_math_Abs) := exact1f (N := 64) xenv_ok Try.func64 Try.call64 fabs (fun args v h => by
    unfold S_math_Abs at h
    split at h
    · cases h; exact ⟨_, rfl, rfl⟩
    · cases h) fun b hb => ⟨_, by refine Eq.trans ?_ (abs_tree hb); kernel_rfl, (fabs_cn b).symm⟩
noncomputable def mrs27 : List (FuncId × RFM) := (64, pureM fun args => match S_math_Abs args with | some v => some (.tt, v) | none => none) :: mrs26
noncomputable def menv29 : EnvM := mkEnvM mxs mrs27 mws2
theorem mrs27_ok : All (ROkM Try.prog false) mrs27 := All.cons t_math_Abs.toM mrs26_ok
theorem menv29_ok : menv29.Ok Try.prog false := mkEnvM_ok mxs_ok mrs27_ok mws2_ok
-- tumble/tumblelaw05.middling
noncomputable def s_law05_middling_0 (a0_0 : Nat) (a0_1 : Nat) : Bool := (((feq (fabs a0_0) 0) || ((fle 3706462493325918208 (fabs a0_0)) && (fle (fabs a0_0) 5507902344274116608))) && ((feq (fabs a0_1) 0) || ((fle 3706462493325918208 (fabs a0_1)) && (fle (fabs a0_1) 5507902344274116608))))
theorem e_law05_middling (a0_0 : Nat) (a0_1 : Nat) : outB (evFnM Try.prog false menv29 [] [] 64 Try.f42 [AV.agg [.float a0_0, .float a0_1]] []) = some ((true), AV.bool (s_law05_middling_0 a0_0 a0_1)) := by kernel_rfl
noncomputable def S_law05_middling : List AV → Option (Ob × AV)
  | [AV.agg [.float a0_0, .float a0_1]] => some (Ob.tt, AV.bool (s_law05_middling_0 a0_0 a0_1))
  | _ => none
theorem t_law05_middling : ROkM Try.prog false (42, pureM S_law05_middling) := ROkM.pure (N := 64) menv29_ok Try.func42 Try.call42 fun args o v h => by
  unfold S_law05_middling at h
  split at h
  · rename_i a0_0 a0_1
    cases h
    exact ⟨rfl, rfl, _, e_law05_middling a0_0 a0_1, fun _ => rfl⟩
  · cases h
noncomputable def mrs28 : List (FuncId × RFM) := (42, pureM S_law05_middling) :: mrs27
noncomputable def menv30 : EnvM := mkEnvM mxs mrs28 mws2
theorem mrs28_ok : All (ROkM Try.prog false) mrs28 := All.cons t_law05_middling mrs27_ok
theorem menv30_ok : menv30.Ok Try.prog false := mkEnvM_ok mxs_ok mrs28_ok mws2_ok
-- math.archLdexp
noncomputable def mws3 : List (FuncId × WFM) := (65, inlWM Try.prog false menv30 [] [] 64 Try.f65) :: mws2
noncomputable def menv31 : EnvM := mkEnvM mxs mrs28 mws3
theorem mws3_ok : All (WOkM Try.prog false) mws3 := All.cons (WOkM.inl menv30_ok Try.func65 Try.call65) mws2_ok
theorem menv31_ok : menv31.Ok Try.prog false := mkEnvM_ok mxs_ok mrs28_ok mws3_ok
-- math.IsInf
noncomputable def s_math_IsInf_0 (a0_0 : Nat) (a1_0 : Int) : Bool := (flt 9218868437227405311 (bif (ieq a1_0 (0 : Int)) then (fabs a0_0) else (bif (ilt a1_0 (0 : Int)) then (fneg a0_0) else a0_0)))
theorem e_math_IsInf (a0_0 : Nat) (a1_0 : Int) : outB (evFnM Try.prog false menv31 [] [] 64 Try.f80 [AV.float a0_0, AV.int .i64 a1_0] []) = some ((true), AV.bool (s_math_IsInf_0 a0_0 a1_0)) := by kernel_rfl
noncomputable def S_math_IsInf : List AV → Option (Ob × AV)
  | [AV.float a0_0, AV.int .i64 a1_0] => some (Ob.tt, AV.bool (s_math_IsInf_0 a0_0 a1_0))
  | _ => none
theorem t_math_IsInf : ROkM Try.prog false (80, pureM S_math_IsInf) := ROkM.pure (N := 64) menv31_ok Try.func80 Try.call80 fun args o v h => by
  unfold S_math_IsInf at h
  split at h
  · rename_i a0_0 a1_0
    cases h
    exact ⟨rfl, rfl, _, e_math_IsInf a0_0 a1_0, fun _ => rfl⟩
  · cases h
noncomputable def mrs29 : List (FuncId × RFM) := (80, pureM S_math_IsInf) :: mrs28
noncomputable def menv32 : EnvM := mkEnvM mxs mrs29 mws3
theorem mrs29_ok : All (ROkM Try.prog false) mrs29 := All.cons t_math_IsInf mrs28_ok
theorem menv32_ok : menv32.Ok Try.prog false := mkEnvM_ok mxs_ok mrs29_ok mws3_ok
-- math.IsNaN
noncomputable def s_math_IsNaN_0 (a0_0 : Nat) : Bool := (!(feq a0_0 a0_0))
theorem e_math_IsNaN (a0_0 : Nat) : outB (evFnM Try.prog false menv32 [] [] 64 Try.f81 [AV.float a0_0] []) = some ((true), AV.bool (s_math_IsNaN_0 a0_0)) := by kernel_rfl
noncomputable def S_math_IsNaN : List AV → Option (Ob × AV)
  | [AV.float a0_0] => some (Ob.tt, AV.bool (s_math_IsNaN_0 a0_0))
  | _ => none
theorem t_math_IsNaN : ROkM Try.prog false (81, pureM S_math_IsNaN) := ROkM.pure (N := 64) menv32_ok Try.func81 Try.call81 fun args o v h => by
  unfold S_math_IsNaN at h
  split at h
  · rename_i a0_0
    cases h
    exact ⟨rfl, rfl, _, e_math_IsNaN a0_0, fun _ => rfl⟩
  · cases h
noncomputable def mrs30 : List (FuncId × RFM) := (81, pureM S_math_IsNaN) :: mrs29
noncomputable def menv33 : EnvM := mkEnvM mxs mrs30 mws3
theorem mrs30_ok : All (ROkM Try.prog false) mrs30 := All.cons t_math_IsNaN mrs29_ok
theorem menv33_ok : menv33.Ok Try.prog false := mkEnvM_ok mxs_ok mrs30_ok mws3_ok
-- math.normalize
noncomputable def s_math_normalize_0 (a0_0 : Nat) : Nat := (bif (flt (fabs a0_0) 4503599627370496) then (fmul a0_0 4841369599423283200) else a0_0)
noncomputable def s_math_normalize_1 (a0_0 : Nat) : Int := (bif (flt (fabs a0_0) 4503599627370496) then (-52 : Int) else (0 : Int))
theorem e_math_normalize (a0_0 : Nat) : outB (evFnM Try.prog false menv33 [] [] 64 Try.f82 [AV.float a0_0] []) = some ((true), AV.tup [AV.float (s_math_normalize_0 a0_0), AV.int .i64 (s_math_normalize_1 a0_0)]) := by kernel_rfl
noncomputable def S_math_normalize : List AV → Option (Ob × AV)
  | [AV.float a0_0] => some (Ob.tt, AV.tup [AV.float (s_math_normalize_0 a0_0), AV.int .i64 (s_math_normalize_1 a0_0)])
  | _ => none
theorem t_math_normalize : ROkM Try.prog false (82, pureM S_math_normalize) := ROkM.pure (N := 64) menv33_ok Try.func82 Try.call82 fun args o v h => by
  unfold S_math_normalize at h
  split at h
  · rename_i a0_0
    cases h
    exact ⟨rfl, rfl, _, e_math_normalize a0_0, fun _ => rfl⟩
  · cases h
noncomputable def mrs31 : List (FuncId × RFM) := (82, pureM S_math_normalize) :: mrs30
noncomputable def menv34 : EnvM := mkEnvM mxs mrs31 mws3
theorem mrs31_ok : All (ROkM Try.prog false) mrs31 := All.cons t_math_normalize mrs30_ok
theorem menv34_ok : menv34.Ok Try.prog false := mkEnvM_ok mxs_ok mrs31_ok mws3_ok
-- math.ldexp
noncomputable def mws4 : List (FuncId × WFM) := (66, inlWM Try.prog false menv34 [] [] 64 Try.f66) :: mws3
noncomputable def menv35 : EnvM := mkEnvM mxs mrs31 mws4
theorem mws4_ok : All (WOkM Try.prog false) mws4 := All.cons (WOkM.inl menv34_ok Try.func66 Try.call66) mws3_ok
theorem menv35_ok : menv35.Ok Try.prog false := mkEnvM_ok mxs_ok mrs31_ok mws4_ok
-- math.Ldexp
noncomputable def mws5 : List (FuncId × WFM) := (43, inlWM Try.prog false menv35 [] [] 64 Try.f43) :: mws4
noncomputable def menv36 : EnvM := mkEnvM mxs mrs31 mws5
theorem mws5_ok : All (WOkM Try.prog false) mws5 := All.cons (WOkM.inl menv35_ok Try.func43 Try.call43) mws4_ok
theorem menv36_ok : menv36.Ok Try.prog false := mkEnvM_ok mxs_ok mrs31_ok mws5_ok
-- tumble/vec.Scale
noncomputable def s_vec_Scale_0 (a0_0 : Nat) (a0_1 : Nat) (a1_0 : Nat) : Nat := (fmul a0_0 a1_0)
noncomputable def s_vec_Scale_1 (a0_0 : Nat) (a0_1 : Nat) (a1_0 : Nat) : Nat := (fmul a0_1 a1_0)
theorem e_vec_Scale (a0_0 : Nat) (a0_1 : Nat) (a1_0 : Nat) : outB (evFnM Try.prog false menv36 [] [] 64 Try.f45 [AV.agg [.float a0_0, .float a0_1], AV.float a1_0] []) = some ((true), AV.agg [AV.float (s_vec_Scale_0 a0_0 a0_1 a1_0), AV.float (s_vec_Scale_1 a0_0 a0_1 a1_0)]) := by kernel_rfl
noncomputable def S_vec_Scale : List AV → Option (Ob × AV)
  | [AV.agg [.float a0_0, .float a0_1], AV.float a1_0] => some (Ob.tt, AV.agg [AV.float (s_vec_Scale_0 a0_0 a0_1 a1_0), AV.float (s_vec_Scale_1 a0_0 a0_1 a1_0)])
  | _ => none
theorem t_vec_Scale : ROkM Try.prog false (45, pureM S_vec_Scale) := ROkM.pure (N := 64) menv36_ok Try.func45 Try.call45 fun args o v h => by
  unfold S_vec_Scale at h
  split at h
  · rename_i a0_0 a0_1 a1_0
    cases h
    exact ⟨rfl, rfl, _, e_vec_Scale a0_0 a0_1 a1_0, fun _ => rfl⟩
  · cases h
noncomputable def mrs32 : List (FuncId × RFM) := (45, pureM S_vec_Scale) :: mrs31
noncomputable def menv37 : EnvM := mkEnvM mxs mrs32 mws5
theorem mrs32_ok : All (ROkM Try.prog false) mrs32 := All.cons t_vec_Scale mrs31_ok
theorem menv37_ok : menv37.Ok Try.prog false := mkEnvM_ok mxs_ok mrs32_ok mws5_ok
-- tumble/tumblelaw05.times
noncomputable def s_law05_times_0 (a0_0 : Nat) (a0_1 : Nat) (a0_2 : Nat) (a0_3 : Nat) (a1_0 : Nat) : Nat := (s_vec_Scale_0 a0_0 a0_1 a1_0)
noncomputable def s_law05_times_1 (a0_0 : Nat) (a0_1 : Nat) (a0_2 : Nat) (a0_3 : Nat) (a1_0 : Nat) : Nat := (s_vec_Scale_1 a0_0 a0_1 a1_0)
noncomputable def s_law05_times_2 (a0_0 : Nat) (a0_1 : Nat) (a0_2 : Nat) (a0_3 : Nat) (a1_0 : Nat) : Nat := (s_vec_Scale_0 a0_2 a0_3 a1_0)
noncomputable def s_law05_times_3 (a0_0 : Nat) (a0_1 : Nat) (a0_2 : Nat) (a0_3 : Nat) (a1_0 : Nat) : Nat := (s_vec_Scale_1 a0_2 a0_3 a1_0)
theorem e_law05_times (a0_0 : Nat) (a0_1 : Nat) (a0_2 : Nat) (a0_3 : Nat) (a1_0 : Nat) : outB (evFnM Try.prog false menv37 [] [] 64 Try.f44 [AV.agg [.float a0_0, .float a0_1, .float a0_2, .float a0_3], AV.float a1_0] []) = some ((true), AV.agg [AV.float (s_law05_times_0 a0_0 a0_1 a0_2 a0_3 a1_0), AV.float (s_law05_times_1 a0_0 a0_1 a0_2 a0_3 a1_0), AV.float (s_law05_times_2 a0_0 a0_1 a0_2 a0_3 a1_0), AV.float (s_law05_times_3 a0_0 a0_1 a0_2 a0_3 a1_0)]) := by kernel_rfl
noncomputable def S_law05_times : List AV → Option (Ob × AV)
  | [AV.agg [.float a0_0, .float a0_1, .float a0_2, .float a0_3], AV.float a1_0] => some (Ob.tt, AV.agg [AV.float (s_law05_times_0 a0_0 a0_1 a0_2 a0_3 a1_0), AV.float (s_law05_times_1 a0_0 a0_1 a0_2 a0_3 a1_0), AV.float (s_law05_times_2 a0_0 a0_1 a0_2 a0_3 a1_0), AV.float (s_law05_times_3 a0_0 a0_1 a0_2 a0_3 a1_0)])
  | _ => none
theorem t_law05_times : ROkM Try.prog false (44, pureM S_law05_times) := ROkM.pure (N := 64) menv37_ok Try.func44 Try.call44 fun args o v h => by
  unfold S_law05_times at h
  split at h
  · rename_i a0_0 a0_1 a0_2 a0_3 a1_0
    cases h
    exact ⟨rfl, rfl, _, e_law05_times a0_0 a0_1 a0_2 a0_3 a1_0, fun _ => rfl⟩
  · cases h
noncomputable def mrs33 : List (FuncId × RFM) := (44, pureM S_law05_times) :: mrs32
noncomputable def menv38 : EnvM := mkEnvM mxs mrs33 mws5
theorem mrs33_ok : All (ROkM Try.prog false) mrs33 := All.cons t_law05_times mrs32_ok
theorem menv38_ok : menv38.Ok Try.prog false := mkEnvM_ok mxs_ok mrs33_ok mws5_ok
-- tumble/tumbleref02.Bits
noncomputable def s_ref02_Bits_0 (a0_0 : Nat) : Int := (bif (!(feq a0_0 a0_0)) then (9221120237041090561 : Int) else (Int.ofNat a0_0))
theorem e_ref02_Bits (a0_0 : Nat) : outB (evFnM Try.prog false menv38 [] [] 64 Try.f50 [AV.float a0_0] []) = some ((((!(feq a0_0 a0_0)) || (!(nanb a0_0)))), AV.int .u64 (s_ref02_Bits_0 a0_0)) := by kernel_rfl
noncomputable def S_ref02_Bits : List AV → Option (Ob × AV)
  | [AV.float a0_0] => some (Ob.tt, AV.int .u64 (s_ref02_Bits_0 a0_0))
  | _ => none
theorem t_ref02_Bits : ROkM Try.prog false (50, pureM S_ref02_Bits) := ROkM.pure (N := 64) menv38_ok Try.func50 Try.call50 fun args o v h => by
  unfold S_ref02_Bits at h
  split at h
  · rename_i a0_0
    cases h
    exact ⟨rfl, rfl, _, e_ref02_Bits a0_0, fun _ => by show (((!(feq a0_0 a0_0)) || (!(nanb a0_0)))) = true; simp only [feq_self]; generalize (nanb a0_0) = q0; cases q0 <;> rfl⟩
  · cases h
noncomputable def mrs34 : List (FuncId × RFM) := (50, pureM S_ref02_Bits) :: mrs33
noncomputable def menv39 : EnvM := mkEnvM mxs mrs34 mws5
theorem mrs34_ok : All (ROkM Try.prog false) mrs34 := All.cons t_ref02_Bits mrs33_ok
theorem menv39_ok : menv39.Ok Try.prog false := mkEnvM_ok mxs_ok mrs34_ok mws5_ok
-- tumble/tumbleref02.Is
noncomputable def s_ref02_Is_0 (a0_0 : Nat) (a1_0 : Nat) : Bool := (ieq (s_ref02_Bits_0 a0_0) (s_ref02_Bits_0 a1_0))
theorem e_ref02_Is (a0_0 : Nat) (a1_0 : Nat) : outB (evFnM Try.prog false menv39 [] [] 64 Try.f13 [AV.float a0_0, AV.float a1_0] []) = some ((true), AV.bool (s_ref02_Is_0 a0_0 a1_0)) := by kernel_rfl
noncomputable def S_ref02_Is : List AV → Option (Ob × AV)
  | [AV.float a0_0, AV.float a1_0] => some (Ob.tt, AV.bool (s_ref02_Is_0 a0_0 a1_0))
  | _ => none
theorem t_ref02_Is : ROkM Try.prog false (13, pureM S_ref02_Is) := ROkM.pure (N := 64) menv39_ok Try.func13 Try.call13 fun args o v h => by
  unfold S_ref02_Is at h
  split at h
  · rename_i a0_0 a1_0
    cases h
    exact ⟨rfl, rfl, _, e_ref02_Is a0_0 a1_0, fun _ => rfl⟩
  · cases h
noncomputable def mrs35 : List (FuncId × RFM) := (13, pureM S_ref02_Is) :: mrs34
noncomputable def menv40 : EnvM := mkEnvM mxs mrs35 mws5
theorem mrs35_ok : All (ROkM Try.prog false) mrs35 := All.cons t_ref02_Is mrs34_ok
theorem menv40_ok : menv40.Ok Try.prog false := mkEnvM_ok mxs_ok mrs35_ok mws5_ok
-- tumble/tumbleref02.Same
noncomputable def s_ref02_Same_0 (a0_0 : Nat) (a0_1 : Nat) (a1_0 : Nat) (a1_1 : Nat) : Bool := ((s_ref02_Is_0 a0_0 a1_0) && (s_ref02_Is_0 a0_1 a1_1))
theorem e_ref02_Same (a0_0 : Nat) (a0_1 : Nat) (a1_0 : Nat) (a1_1 : Nat) : outB (evFnM Try.prog false menv40 [] [] 64 Try.f37 [AV.agg [.float a0_0, .float a0_1], AV.agg [.float a1_0, .float a1_1]] []) = some ((true), AV.bool (s_ref02_Same_0 a0_0 a0_1 a1_0 a1_1)) := by kernel_rfl
noncomputable def S_ref02_Same : List AV → Option (Ob × AV)
  | [AV.agg [.float a0_0, .float a0_1], AV.agg [.float a1_0, .float a1_1]] => some (Ob.tt, AV.bool (s_ref02_Same_0 a0_0 a0_1 a1_0 a1_1))
  | _ => none
theorem t_ref02_Same : ROkM Try.prog false (37, pureM S_ref02_Same) := ROkM.pure (N := 64) menv40_ok Try.func37 Try.call37 fun args o v h => by
  unfold S_ref02_Same at h
  split at h
  · rename_i a0_0 a0_1 a1_0 a1_1
    cases h
    exact ⟨rfl, rfl, _, e_ref02_Same a0_0 a0_1 a1_0 a1_1, fun _ => rfl⟩
  · cases h
noncomputable def mrs36 : List (FuncId × RFM) := (37, pureM S_ref02_Same) :: mrs35
noncomputable def menv41 : EnvM := mkEnvM mxs mrs36 mws5
theorem mrs36_ok : All (ROkM Try.prog false) mrs36 := All.cons t_ref02_Same mrs35_ok
theorem menv41_ok : menv41.Ok Try.prog false := mkEnvM_ok mxs_ok mrs36_ok mws5_ok
-- tumble/tumbleref05.Same
noncomputable def s_ref05_Same_0 (a0_0 : Nat) (a0_1 : Nat) (a0_2 : Nat) (a0_3 : Nat) (a1_0 : Nat) (a1_1 : Nat) (a1_2 : Nat) (a1_3 : Nat) : Bool := ((s_ref02_Same_0 a0_0 a0_1 a1_0 a1_1) && (s_ref02_Same_0 a0_2 a0_3 a1_2 a1_3))
theorem e_ref05_Same (a0_0 : Nat) (a0_1 : Nat) (a0_2 : Nat) (a0_3 : Nat) (a1_0 : Nat) (a1_1 : Nat) (a1_2 : Nat) (a1_3 : Nat) : outB (evFnM Try.prog false menv41 [] [] 64 Try.f54 [AV.agg [.float a0_0, .float a0_1, .float a0_2, .float a0_3], AV.agg [.float a1_0, .float a1_1, .float a1_2, .float a1_3]] []) = some ((true), AV.bool (s_ref05_Same_0 a0_0 a0_1 a0_2 a0_3 a1_0 a1_1 a1_2 a1_3)) := by kernel_rfl
noncomputable def S_ref05_Same : List AV → Option (Ob × AV)
  | [AV.agg [.float a0_0, .float a0_1, .float a0_2, .float a0_3], AV.agg [.float a1_0, .float a1_1, .float a1_2, .float a1_3]] => some (Ob.tt, AV.bool (s_ref05_Same_0 a0_0 a0_1 a0_2 a0_3 a1_0 a1_1 a1_2 a1_3))
  | _ => none
theorem t_ref05_Same : ROkM Try.prog false (54, pureM S_ref05_Same) := ROkM.pure (N := 64) menv41_ok Try.func54 Try.call54 fun args o v h => by
  unfold S_ref05_Same at h
  split at h
  · rename_i a0_0 a0_1 a0_2 a0_3 a1_0 a1_1 a1_2 a1_3
    cases h
    exact ⟨rfl, rfl, _, e_ref05_Same a0_0 a0_1 a0_2 a0_3 a1_0 a1_1 a1_2 a1_3, fun _ => rfl⟩
  · cases h
noncomputable def mrs37 : List (FuncId × RFM) := (54, pureM S_ref05_Same) :: mrs36
noncomputable def menv42 : EnvM := mkEnvM mxs mrs37 mws5
theorem mrs37_ok : All (ROkM Try.prog false) mrs37 := All.cons t_ref05_Same mrs36_ok
theorem menv42_ok : menv42.Ok Try.prog false := mkEnvM_ok mxs_ok mrs37_ok mws5_ok
-- tumble/tumblelaw05.is
noncomputable def s_law05_is_0 (a0_0 : Nat) (a0_1 : Nat) (a0_2 : Nat) (a0_3 : Nat) (a1_0 : Nat) (a1_1 : Nat) (a1_2 : Nat) (a1_3 : Nat) : Bool := (s_ref05_Same_0 a0_0 a0_1 a0_2 a0_3 a1_0 a1_1 a1_2 a1_3)
theorem e_law05_is (a0_0 : Nat) (a0_1 : Nat) (a0_2 : Nat) (a0_3 : Nat) (a1_0 : Nat) (a1_1 : Nat) (a1_2 : Nat) (a1_3 : Nat) : outB (evFnM Try.prog false menv42 [] [] 64 Try.f18 [AV.agg [.float a0_0, .float a0_1, .float a0_2, .float a0_3], AV.agg [.float a1_0, .float a1_1, .float a1_2, .float a1_3]] []) = some ((true), AV.bool (s_law05_is_0 a0_0 a0_1 a0_2 a0_3 a1_0 a1_1 a1_2 a1_3)) := by kernel_rfl
noncomputable def S_law05_is : List AV → Option (Ob × AV)
  | [AV.agg [.float a0_0, .float a0_1, .float a0_2, .float a0_3], AV.agg [.float a1_0, .float a1_1, .float a1_2, .float a1_3]] => some (Ob.tt, AV.bool (s_law05_is_0 a0_0 a0_1 a0_2 a0_3 a1_0 a1_1 a1_2 a1_3))
  | _ => none
theorem t_law05_is : ROkM Try.prog false (18, pureM S_law05_is) := ROkM.pure (N := 64) menv42_ok Try.func18 Try.call18 fun args o v h => by
  unfold S_law05_is at h
  split at h
  · rename_i a0_0 a0_1 a0_2 a0_3 a1_0 a1_1 a1_2 a1_3
    cases h
    exact ⟨rfl, rfl, _, e_law05_is a0_0 a0_1 a0_2 a0_3 a1_0 a1_1 a1_2 a1_3, fun _ => rfl⟩
  · cases h
noncomputable def mrs38 : List (FuncId × RFM) := (18, pureM S_law05_is) :: mrs37
noncomputable def menv43 : EnvM := mkEnvM mxs mrs38 mws5
theorem mrs38_ok : All (ROkM Try.prog false) mrs38 := All.cons t_law05_is mrs37_ok
theorem menv43_ok : menv43.Ok Try.prog false := mkEnvM_ok mxs_ok mrs38_ok mws5_ok
-- tumble/vec.Add
noncomputable def s_vec_Add_0 (a0_0 : Nat) (a0_1 : Nat) (a1_0 : Nat) (a1_1 : Nat) : Nat := (fadd a0_0 a1_0)
noncomputable def s_vec_Add_1 (a0_0 : Nat) (a0_1 : Nat) (a1_0 : Nat) (a1_1 : Nat) : Nat := (fadd a0_1 a1_1)
theorem e_vec_Add (a0_0 : Nat) (a0_1 : Nat) (a1_0 : Nat) (a1_1 : Nat) : outB (evFnM Try.prog false menv43 [] [] 64 Try.f60 [AV.agg [.float a0_0, .float a0_1], AV.agg [.float a1_0, .float a1_1]] []) = some ((true), AV.agg [AV.float (s_vec_Add_0 a0_0 a0_1 a1_0 a1_1), AV.float (s_vec_Add_1 a0_0 a0_1 a1_0 a1_1)]) := by kernel_rfl
noncomputable def S_vec_Add : List AV → Option (Ob × AV)
  | [AV.agg [.float a0_0, .float a0_1], AV.agg [.float a1_0, .float a1_1]] => some (Ob.tt, AV.agg [AV.float (s_vec_Add_0 a0_0 a0_1 a1_0 a1_1), AV.float (s_vec_Add_1 a0_0 a0_1 a1_0 a1_1)])
  | _ => none
theorem t_vec_Add : ROkM Try.prog false (60, pureM S_vec_Add) := ROkM.pure (N := 64) menv43_ok Try.func60 Try.call60 fun args o v h => by
  unfold S_vec_Add at h
  split at h
  · rename_i a0_0 a0_1 a1_0 a1_1
    cases h
    exact ⟨rfl, rfl, _, e_vec_Add a0_0 a0_1 a1_0 a1_1, fun _ => rfl⟩
  · cases h
noncomputable def mrs39 : List (FuncId × RFM) := (60, pureM S_vec_Add) :: mrs38
noncomputable def menv44 : EnvM := mkEnvM mxs mrs39 mws5
theorem mrs39_ok : All (ROkM Try.prog false) mrs39 := All.cons t_vec_Add mrs38_ok
theorem menv44_ok : menv44.Ok Try.prog false := mkEnvM_ok mxs_ok mrs39_ok mws5_ok
-- tumble/box.Grow
noncomputable def s_box_Grow_0 (a0_0 : Nat) (a0_1 : Nat) (a0_2 : Nat) (a0_3 : Nat) (a1_0 : Nat) : Nat := (s_vec_Sub_0 a0_0 a0_1 a1_0 a1_0)
noncomputable def s_box_Grow_1 (a0_0 : Nat) (a0_1 : Nat) (a0_2 : Nat) (a0_3 : Nat) (a1_0 : Nat) : Nat := (s_vec_Sub_1 a0_0 a0_1 a1_0 a1_0)
noncomputable def s_box_Grow_2 (a0_0 : Nat) (a0_1 : Nat) (a0_2 : Nat) (a0_3 : Nat) (a1_0 : Nat) : Nat := (s_vec_Add_0 a0_2 a0_3 a1_0 a1_0)
noncomputable def s_box_Grow_3 (a0_0 : Nat) (a0_1 : Nat) (a0_2 : Nat) (a0_3 : Nat) (a1_0 : Nat) : Nat := (s_vec_Add_1 a0_2 a0_3 a1_0 a1_0)
theorem e_box_Grow (a0_0 : Nat) (a0_1 : Nat) (a0_2 : Nat) (a0_3 : Nat) (a1_0 : Nat) : outB (evFnM Try.prog false menv44 [] [] 64 Try.f27 [AV.agg [.float a0_0, .float a0_1, .float a0_2, .float a0_3], AV.float a1_0] []) = some ((true), AV.agg [AV.float (s_box_Grow_0 a0_0 a0_1 a0_2 a0_3 a1_0), AV.float (s_box_Grow_1 a0_0 a0_1 a0_2 a0_3 a1_0), AV.float (s_box_Grow_2 a0_0 a0_1 a0_2 a0_3 a1_0), AV.float (s_box_Grow_3 a0_0 a0_1 a0_2 a0_3 a1_0)]) := by kernel_rfl
noncomputable def S_box_Grow : List AV → Option (Ob × AV)
  | [AV.agg [.float a0_0, .float a0_1, .float a0_2, .float a0_3], AV.float a1_0] => some (Ob.tt, AV.agg [AV.float (s_box_Grow_0 a0_0 a0_1 a0_2 a0_3 a1_0), AV.float (s_box_Grow_1 a0_0 a0_1 a0_2 a0_3 a1_0), AV.float (s_box_Grow_2 a0_0 a0_1 a0_2 a0_3 a1_0), AV.float (s_box_Grow_3 a0_0 a0_1 a0_2 a0_3 a1_0)])
  | _ => none
theorem t_box_Grow : ROkM Try.prog false (27, pureM S_box_Grow) := ROkM.pure (N := 64) menv44_ok Try.func27 Try.call27 fun args o v h => by
  unfold S_box_Grow at h
  split at h
  · rename_i a0_0 a0_1 a0_2 a0_3 a1_0
    cases h
    exact ⟨rfl, rfl, _, e_box_Grow a0_0 a0_1 a0_2 a0_3 a1_0, fun _ => rfl⟩
  · cases h
noncomputable def mrs40 : List (FuncId × RFM) := (27, pureM S_box_Grow) :: mrs39
noncomputable def menv45 : EnvM := mkEnvM mxs mrs40 mws5
theorem mrs40_ok : All (ROkM Try.prog false) mrs40 := All.cons t_box_Grow mrs39_ok
theorem menv45_ok : menv45.Ok Try.prog false := mkEnvM_ok mxs_ok mrs40_ok mws5_ok
-- tumble/box.Area
noncomputable def s_box_Area_0 (a0_0 : Nat) (a0_1 : Nat) (a0_2 : Nat) (a0_3 : Nat) : Nat := (fmul (s_vec_Sub_0 a0_2 a0_3 a0_0 a0_1) (s_vec_Sub_1 a0_2 a0_3 a0_0 a0_1))
theorem e_box_Area (a0_0 : Nat) (a0_1 : Nat) (a0_2 : Nat) (a0_3 : Nat) : outB (evFnM Try.prog false menv45 [] [] 64 Try.f33 [AV.agg [.float a0_0, .float a0_1, .float a0_2, .float a0_3]] []) = some ((true), AV.float (s_box_Area_0 a0_0 a0_1 a0_2 a0_3)) := by kernel_rfl
noncomputable def S_box_Area : List AV → Option (Ob × AV)
  | [AV.agg [.float a0_0, .float a0_1, .float a0_2, .float a0_3]] => some (Ob.tt, AV.float (s_box_Area_0 a0_0 a0_1 a0_2 a0_3))
  | _ => none
theorem t_box_Area : ROkM Try.prog false (33, pureM S_box_Area) := ROkM.pure (N := 64) menv45_ok Try.func33 Try.call33 fun args o v h => by
  unfold S_box_Area at h
  split at h
  · rename_i a0_0 a0_1 a0_2 a0_3
    cases h
    exact ⟨rfl, rfl, _, e_box_Area a0_0 a0_1 a0_2 a0_3, fun _ => rfl⟩
  · cases h
noncomputable def mrs41 : List (FuncId × RFM) := (33, pureM S_box_Area) :: mrs40
noncomputable def menv46 : EnvM := mkEnvM mxs mrs41 mws5
theorem mrs41_ok : All (ROkM Try.prog false) mrs41 := All.cons t_box_Area mrs40_ok
theorem menv46_ok : menv46.Ok Try.prog false := mkEnvM_ok mxs_ok mrs41_ok mws5_ok
-- tumble/tumblelaw05.BoxScaled
noncomputable def T_law05_BoxScaled (a0_0 : Nat) (a0_1 : Nat) (a0_2 : Nat) (a0_3 : Nat) (a1_0 : Nat) (a1_1 : Nat) (a1_2 : Nat) (a1_3 : Nat) (a2_0 : Nat) (a2_1 : Nat) (a3_0 : Nat) (a3_1 : Nat) (a4_0 : Int) : Bool := let x0 : Int := (IntKind.wrap .i64 ((IntKind.wrap .i64 ((Int.tmod a4_0 (101 : Int)) + (0 : Int))) + (0 : Int))); let x1 : Bool := (ilt x0 (-1022 : Int)); let x2 : Nat := (bif (ilt x0 (-1075 : Int)) then 0 else (bif (ilt (1023 : Int) x0) then 9218868437227405312 else (fmul (bif x1 then 4368491638549381120 else 4607182418800017408) (cn (Int.toNat (IntKind.wrap .u64 ((((0 : Int) % (18446744073709551616 : Int)).toNat ||| ((IntKind.wrap .u64 ((IntKind.wrap .u64 (IntKind.wrap .i64 ((bif x1 then (IntKind.wrap .i64 (x0 + (53 : Int))) else x0) + (1023 : Int)))) * (4503599627370496 : Int))) % (18446744073709551616 : Int)).toNat : Nat) : Int))))))); let x3 : Nat := (s_law05_times_3 a0_0 a0_1 a0_2 a0_3 x2); let x4 : Nat := (s_law05_times_2 a0_0 a0_1 a0_2 a0_3 x2); let x5 : Nat := (s_law05_times_1 a0_0 a0_1 a0_2 a0_3 x2); let x6 : Nat := (s_law05_times_0 a0_0 a0_1 a0_2 a0_3 x2); let x7 : Nat := (s_box_Grow_3 a0_0 a0_1 a0_2 a0_3 4613937818241073152); let x8 : Nat := (s_box_Grow_2 a0_0 a0_1 a0_2 a0_3 4613937818241073152); let x9 : Nat := (s_box_Grow_1 a0_0 a0_1 a0_2 a0_3 4613937818241073152); let x10 : Nat := (s_box_Grow_0 a0_0 a0_1 a0_2 a0_3 4613937818241073152); let x11 : Nat := (fmul 4613937818241073152 x2); let x12 : Nat := (s_box_Moved_3 a0_0 a0_1 a0_2 a0_3 a3_0 a3_1); let x13 : Nat := (s_box_Moved_2 a0_0 a0_1 a0_2 a0_3 a3_0 a3_1); let x14 : Nat := (s_box_Moved_1 a0_0 a0_1 a0_2 a0_3 a3_0 a3_1); let x15 : Nat := (s_box_Moved_0 a0_0 a0_1 a0_2 a0_3 a3_0 a3_1); let x16 : Nat := (s_vec_Scale_1 a3_0 a3_1 x2); let x17 : Nat := (s_vec_Scale_0 a3_0 a3_1 x2); let x18 : Nat := (s_box_Join_3 a0_0 a0_1 a0_2 a0_3 a1_0 a1_1 a1_2 a1_3); let x19 : Nat := (s_box_Join_2 a0_0 a0_1 a0_2 a0_3 a1_0 a1_1 a1_2 a1_3); let x20 : Nat := (s_box_Join_1 a0_0 a0_1 a0_2 a0_3 a1_0 a1_1 a1_2 a1_3); let x21 : Nat := (s_box_Join_0 a0_0 a0_1 a0_2 a0_3 a1_0 a1_1 a1_2 a1_3); let x22 : Nat := (s_law05_times_3 a1_0 a1_1 a1_2 a1_3 x2); let x23 : Nat := (s_law05_times_2 a1_0 a1_1 a1_2 a1_3 x2); let x24 : Nat := (s_law05_times_1 a1_0 a1_1 a1_2 a1_3 x2); let x25 : Nat := (s_law05_times_0 a1_0 a1_1 a1_2 a1_3 x2); let x26 : Nat := (s_box_Meet_3 a0_0 a0_1 a0_2 a0_3 a1_0 a1_1 a1_2 a1_3); let x27 : Nat := (s_box_Meet_2 a0_0 a0_1 a0_2 a0_3 a1_0 a1_1 a1_2 a1_3); let x28 : Nat := (s_box_Meet_1 a0_0 a0_1 a0_2 a0_3 a1_0 a1_1 a1_2 a1_3); let x29 : Nat := (s_box_Meet_0 a0_0 a0_1 a0_2 a0_3 a1_0 a1_1 a1_2 a1_3); let x30 : Nat := (s_vec_Scale_1 a2_0 a2_1 x2); let x31 : Nat := (s_vec_Scale_0 a2_0 a2_1 x2); (((((((!(s_law05_middling_0 a0_0 a0_1)) || (!(s_law05_middling_0 a0_2 a0_3))) || (!(s_law05_middling_0 a1_0 a1_1))) || (!(s_law05_middling_0 a1_2 a1_3))) || (!(s_law05_middling_0 a2_0 a2_1))) || (!(s_law05_middling_0 a3_0 a3_1))) || ((((((((((((((s_box_Over_0 x6 x5 x4 x3 x25 x24 x23 x22) == (s_box_Over_0 a0_0 a0_1 a0_2 a0_3 a1_0 a1_1 a1_2 a1_3)) && ((s_box_In_0 x6 x5 x4 x3 x25 x24 x23 x22) == (s_box_In_0 a0_0 a0_1 a0_2 a0_3 a1_0 a1_1 a1_2 a1_3))) && ((s_box_Has_0 x6 x5 x4 x3 x31 x30) == (s_box_Has_0 a0_0 a0_1 a0_2 a0_3 a2_0 a2_1))) && (ieq (s_box_Check_0 x6 x5 x4 x3) (s_box_Check_0 a0_0 a0_1 a0_2 a0_3))) && ((s_box_Ray_1 a0_0 a0_1 a0_2 a0_3 a2_0 a2_1 a3_0 a3_1) == (s_box_Ray_1 x6 x5 x4 x3 x31 x30 x17 x16))) && (feq (s_box_Ray_0 a0_0 a0_1 a0_2 a0_3 a2_0 a2_1 a3_0 a3_1) (s_box_Ray_0 x6 x5 x4 x3 x31 x30 x17 x16))) && ((s_box_Meet_4 a0_0 a0_1 a0_2 a0_3 a1_0 a1_1 a1_2 a1_3) == (s_box_Meet_4 x6 x5 x4 x3 x25 x24 x23 x22))) && (s_law05_is_0 (s_box_Meet_0 x6 x5 x4 x3 x25 x24 x23 x22) (s_box_Meet_1 x6 x5 x4 x3 x25 x24 x23 x22) (s_box_Meet_2 x6 x5 x4 x3 x25 x24 x23 x22) (s_box_Meet_3 x6 x5 x4 x3 x25 x24 x23 x22) (s_law05_times_0 x29 x28 x27 x26 x2) (s_law05_times_1 x29 x28 x27 x26 x2) (s_law05_times_2 x29 x28 x27 x26 x2) (s_law05_times_3 x29 x28 x27 x26 x2))) && (s_law05_is_0 (s_box_Join_0 x6 x5 x4 x3 x25 x24 x23 x22) (s_box_Join_1 x6 x5 x4 x3 x25 x24 x23 x22) (s_box_Join_2 x6 x5 x4 x3 x25 x24 x23 x22) (s_box_Join_3 x6 x5 x4 x3 x25 x24 x23 x22) (s_law05_times_0 x21 x20 x19 x18 x2) (s_law05_times_1 x21 x20 x19 x18 x2) (s_law05_times_2 x21 x20 x19 x18 x2) (s_law05_times_3 x21 x20 x19 x18 x2))) && (s_law05_is_0 (s_box_Moved_0 x6 x5 x4 x3 x17 x16) (s_box_Moved_1 x6 x5 x4 x3 x17 x16) (s_box_Moved_2 x6 x5 x4 x3 x17 x16) (s_box_Moved_3 x6 x5 x4 x3 x17 x16) (s_law05_times_0 x15 x14 x13 x12 x2) (s_law05_times_1 x15 x14 x13 x12 x2) (s_law05_times_2 x15 x14 x13 x12 x2) (s_law05_times_3 x15 x14 x13 x12 x2))) && (s_law05_is_0 (s_box_Grow_0 x6 x5 x4 x3 x11) (s_box_Grow_1 x6 x5 x4 x3 x11) (s_box_Grow_2 x6 x5 x4 x3 x11) (s_box_Grow_3 x6 x5 x4 x3 x11) (s_law05_times_0 x10 x9 x8 x7 x2) (s_law05_times_1 x10 x9 x8 x7 x2) (s_law05_times_2 x10 x9 x8 x7 x2) (s_law05_times_3 x10 x9 x8 x7 x2))) && (feq (s_box_Size_0 x6 x5 x4 x3) (fmul (s_box_Size_0 a0_0 a0_1 a0_2 a0_3) x2))) && (feq (s_box_Area_0 x6 x5 x4 x3) (fmul (fmul (s_box_Area_0 a0_0 a0_1 a0_2 a0_3) x2) x2))))
noncomputable def O_law05_BoxScaled (a0_0 : Nat) (a0_1 : Nat) (a0_2 : Nat) (a0_3 : Nat) (a1_0 : Nat) (a1_1 : Nat) (a1_2 : Nat) (a1_3 : Nat) (a2_0 : Nat) (a2_1 : Nat) (a3_0 : Nat) (a3_1 : Nat) (a4_0 : Int) : Bool := let x0 : Int := (IntKind.wrap .i64 ((IntKind.wrap .i64 ((Int.tmod a4_0 (101 : Int)) + (0 : Int))) + (0 : Int))); let x1 : Bool := (ilt x0 (-1022 : Int)); let x2 : Int := (IntKind.wrap .u64 ((((0 : Int) % (18446744073709551616 : Int)).toNat ||| ((IntKind.wrap .u64 ((IntKind.wrap .u64 (IntKind.wrap .i64 ((bif x1 then (IntKind.wrap .i64 (x0 + (53 : Int))) else x0) + (1023 : Int)))) * (4503599627370496 : Int))) % (18446744073709551616 : Int)).toNat : Nat) : Int)); let x3 : Bool := (ilt (1023 : Int) x0); let x4 : Bool := (ilt x0 (-1075 : Int)); let x5 : Bool := (x4 || (x3 || ((u64ok x2) && (x1 || true)))); let x6 : Nat := (bif x4 then 0 else (bif x3 then 9218868437227405312 else (fmul (bif x1 then 4368491638549381120 else 4607182418800017408) (cn (Int.toNat x2))))); let x7 : Nat := (s_law05_times_3 a1_0 a1_1 a1_2 a1_3 x6); let x8 : Nat := (s_law05_times_2 a1_0 a1_1 a1_2 a1_3 x6); let x9 : Nat := (s_law05_times_1 a1_0 a1_1 a1_2 a1_3 x6); let x10 : Nat := (s_law05_times_0 a1_0 a1_1 a1_2 a1_3 x6); let x11 : Nat := (s_law05_times_3 a0_0 a0_1 a0_2 a0_3 x6); let x12 : Nat := (s_law05_times_2 a0_0 a0_1 a0_2 a0_3 x6); let x13 : Nat := (s_law05_times_1 a0_0 a0_1 a0_2 a0_3 x6); let x14 : Nat := (s_law05_times_0 a0_0 a0_1 a0_2 a0_3 x6); let x15 : Bool := ((s_box_Over_0 x14 x13 x12 x11 x10 x9 x8 x7) == (s_box_Over_0 a0_0 a0_1 a0_2 a0_3 a1_0 a1_1 a1_2 a1_3)); let x16 : Bool := (bif x15 then x5 else x5); let x17 : Bool := (x15 && ((s_box_In_0 x14 x13 x12 x11 x10 x9 x8 x7) == (s_box_In_0 a0_0 a0_1 a0_2 a0_3 a1_0 a1_1 a1_2 a1_3))); let x18 : Bool := (bif x17 then x16 else x16); let x19 : Nat := (s_vec_Scale_1 a2_0 a2_1 x6); let x20 : Nat := (s_vec_Scale_0 a2_0 a2_1 x6); let x21 : Bool := (x17 && ((s_box_Has_0 x14 x13 x12 x11 x20 x19) == (s_box_Has_0 a0_0 a0_1 a0_2 a0_3 a2_0 a2_1))); let x22 : Bool := (bif x21 then x18 else x18); let x23 : Bool := (x21 && (ieq (s_box_Check_0 x14 x13 x12 x11) (s_box_Check_0 a0_0 a0_1 a0_2 a0_3))); let x24 : Bool := (bif x23 then x22 else x22); let x25 : Nat := (s_vec_Scale_1 a3_0 a3_1 x6); let x26 : Nat := (s_vec_Scale_0 a3_0 a3_1 x6); let x27 : Bool := (x23 && ((s_box_Ray_1 a0_0 a0_1 a0_2 a0_3 a2_0 a2_1 a3_0 a3_1) == (s_box_Ray_1 x14 x13 x12 x11 x20 x19 x26 x25))); let x28 : Bool := (bif x27 then x24 else x24); let x29 : Bool := (x27 && (feq (s_box_Ray_0 a0_0 a0_1 a0_2 a0_3 a2_0 a2_1 a3_0 a3_1) (s_box_Ray_0 x14 x13 x12 x11 x20 x19 x26 x25))); let x30 : Bool := (bif x29 then x28 else x28); let x31 : Bool := (x29 && ((s_box_Meet_4 a0_0 a0_1 a0_2 a0_3 a1_0 a1_1 a1_2 a1_3) == (s_box_Meet_4 x14 x13 x12 x11 x10 x9 x8 x7))); let x32 : Bool := (bif x31 then x30 else x30); let x33 : Nat := (s_box_Meet_3 a0_0 a0_1 a0_2 a0_3 a1_0 a1_1 a1_2 a1_3); let x34 : Nat := (s_box_Meet_2 a0_0 a0_1 a0_2 a0_3 a1_0 a1_1 a1_2 a1_3); let x35 : Nat := (s_box_Meet_1 a0_0 a0_1 a0_2 a0_3 a1_0 a1_1 a1_2 a1_3); let x36 : Nat := (s_box_Meet_0 a0_0 a0_1 a0_2 a0_3 a1_0 a1_1 a1_2 a1_3); let x37 : Bool := (x31 && (s_law05_is_0 (s_box_Meet_0 x14 x13 x12 x11 x10 x9 x8 x7) (s_box_Meet_1 x14 x13 x12 x11 x10 x9 x8 x7) (s_box_Meet_2 x14 x13 x12 x11 x10 x9 x8 x7) (s_box_Meet_3 x14 x13 x12 x11 x10 x9 x8 x7) (s_law05_times_0 x36 x35 x34 x33 x6) (s_law05_times_1 x36 x35 x34 x33 x6) (s_law05_times_2 x36 x35 x34 x33 x6) (s_law05_times_3 x36 x35 x34 x33 x6))); let x38 : Bool := (bif x37 then x32 else x32); let x39 : Nat := (s_box_Join_3 a0_0 a0_1 a0_2 a0_3 a1_0 a1_1 a1_2 a1_3); let x40 : Nat := (s_box_Join_2 a0_0 a0_1 a0_2 a0_3 a1_0 a1_1 a1_2 a1_3); let x41 : Nat := (s_box_Join_1 a0_0 a0_1 a0_2 a0_3 a1_0 a1_1 a1_2 a1_3); let x42 : Nat := (s_box_Join_0 a0_0 a0_1 a0_2 a0_3 a1_0 a1_1 a1_2 a1_3); let x43 : Bool := (x37 && (s_law05_is_0 (s_box_Join_0 x14 x13 x12 x11 x10 x9 x8 x7) (s_box_Join_1 x14 x13 x12 x11 x10 x9 x8 x7) (s_box_Join_2 x14 x13 x12 x11 x10 x9 x8 x7) (s_box_Join_3 x14 x13 x12 x11 x10 x9 x8 x7) (s_law05_times_0 x42 x41 x40 x39 x6) (s_law05_times_1 x42 x41 x40 x39 x6) (s_law05_times_2 x42 x41 x40 x39 x6) (s_law05_times_3 x42 x41 x40 x39 x6))); let x44 : Bool := (bif x43 then x38 else x38); let x45 : Nat := (s_box_Moved_3 a0_0 a0_1 a0_2 a0_3 a3_0 a3_1); let x46 : Nat := (s_box_Moved_2 a0_0 a0_1 a0_2 a0_3 a3_0 a3_1); let x47 : Nat := (s_box_Moved_1 a0_0 a0_1 a0_2 a0_3 a3_0 a3_1); let x48 : Nat := (s_box_Moved_0 a0_0 a0_1 a0_2 a0_3 a3_0 a3_1); let x49 : Bool := (x43 && (s_law05_is_0 (s_box_Moved_0 x14 x13 x12 x11 x26 x25) (s_box_Moved_1 x14 x13 x12 x11 x26 x25) (s_box_Moved_2 x14 x13 x12 x11 x26 x25) (s_box_Moved_3 x14 x13 x12 x11 x26 x25) (s_law05_times_0 x48 x47 x46 x45 x6) (s_law05_times_1 x48 x47 x46 x45 x6) (s_law05_times_2 x48 x47 x46 x45 x6) (s_law05_times_3 x48 x47 x46 x45 x6))); let x50 : Bool := (bif x49 then x44 else x44); let x51 : Nat := (s_box_Grow_3 a0_0 a0_1 a0_2 a0_3 4613937818241073152); let x52 : Nat := (s_box_Grow_2 a0_0 a0_1 a0_2 a0_3 4613937818241073152); let x53 : Nat := (s_box_Grow_1 a0_0 a0_1 a0_2 a0_3 4613937818241073152); let x54 : Nat := (s_box_Grow_0 a0_0 a0_1 a0_2 a0_3 4613937818241073152); let x55 : Nat := (fmul 4613937818241073152 x6); let x56 : Bool := (x49 && (s_law05_is_0 (s_box_Grow_0 x14 x13 x12 x11 x55) (s_box_Grow_1 x14 x13 x12 x11 x55) (s_box_Grow_2 x14 x13 x12 x11 x55) (s_box_Grow_3 x14 x13 x12 x11 x55) (s_law05_times_0 x54 x53 x52 x51 x6) (s_law05_times_1 x54 x53 x52 x51 x6) (s_law05_times_2 x54 x53 x52 x51 x6) (s_law05_times_3 x54 x53 x52 x51 x6))); let x57 : Bool := (bif x56 then x50 else x50); (((((((!(s_law05_middling_0 a0_0 a0_1)) || (!(s_law05_middling_0 a0_2 a0_3))) || (!(s_law05_middling_0 a1_0 a1_1))) || (!(s_law05_middling_0 a1_2 a1_3))) || (!(s_law05_middling_0 a2_0 a2_1))) || (!(s_law05_middling_0 a3_0 a3_1))) || (bif (x56 && (feq (s_box_Size_0 x14 x13 x12 x11) (fmul (s_box_Size_0 a0_0 a0_1 a0_2 a0_3) x6))) then x57 else x57))
theorem tree_law05_BoxScaled (a0_0 : Nat) (a0_1 : Nat) (a0_2 : Nat) (a0_3 : Nat) (a1_0 : Nat) (a1_1 : Nat) (a1_2 : Nat) (a1_3 : Nat) (a2_0 : Nat) (a2_1 : Nat) (a3_0 : Nat) (a3_1 : Nat) (a4_0 : Int) : outB (evFnM Try.prog false menv46 [28] [] 64 Try.f9 [AV.agg [.float a0_0, .float a0_1, .float a0_2, .float a0_3], AV.agg [.float a1_0, .float a1_1, .float a1_2, .float a1_3], AV.agg [.float a2_0, .float a2_1], AV.agg [.float a3_0, .float a3_1], AV.int .i64 a4_0] []) = some (O_law05_BoxScaled a0_0 a0_1 a0_2 a0_3 a1_0 a1_1 a1_2 a1_3 a2_0 a2_1 a3_0 a3_1 a4_0, AV.bool (T_law05_BoxScaled a0_0 a0_1 a0_2 a0_3 a1_0 a1_1 a1_2 a1_3 a2_0 a2_1 a3_0 a3_1 a4_0)) := by kernel_rfl

end Go.Proofs.Ytbbopbelaamlaaa
