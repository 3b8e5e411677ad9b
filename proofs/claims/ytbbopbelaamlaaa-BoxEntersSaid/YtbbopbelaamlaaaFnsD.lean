/- The contracts of the functions that these laws reach, printed by a program of this work: each says what the Go function gives, up to which NaN. -/
import Derived.Test.YtbbopbelaamlaaaProg
import Derived.KernelRfl
import Derived.Test.YtbbopbelaamlaaaSimDEnv
set_option linter.unusedVariables false
set_option linter.unusedSimpArgs false
namespace Go.Proofs.Ytbbopbelaamlaaa
open Go.Sim
def xxs : List (FuncId × XF) := [(79, xF true .frombits), (72, xF true .tobits)]
def xenv : Env := mkEnv xxs [] []
theorem xxs_ok : All (XOk Try.prog true) xxs := All.cons (x_ok (f := 79) .frombits fun args w => run_callFunc_extern Try.func79 (by kernel_rfl) (by kernel_rfl) (by kernel_rfl) (by kernel_rfl) args w)
  (All.cons (x_ok (f := 72) .tobits fun args w => run_callFunc_extern Try.func72 (by kernel_rfl) (by kernel_rfl) (by kernel_rfl) (by kernel_rfl) args w)
  (All.nil))
theorem xenv_ok : xenv.Ok Try.prog true := mkEnv_ok xxs_ok All.nil All.nil
def mxs : List (FuncId × XFM) := [(79, xFM false .frombits), (72, xFM false .tobits)]
theorem mxs_ok : All (XOkM Try.prog false) mxs := All.cons (xM_ok (f := 79) .frombits fun args w => run_callFunc_extern Try.func79 (by kernel_rfl) (by kernel_rfl) (by kernel_rfl) (by kernel_rfl) args w)
  (All.cons (xM_ok (f := 72) .tobits fun args w => run_callFunc_extern Try.func72 (by kernel_rfl) (by kernel_rfl) (by kernel_rfl) (by kernel_rfl) args w)
  (All.nil))
def mrs0 : List (FuncId × RFM) := []
def mws0 : List (FuncId × WFM) := []
def menv0 : EnvM := mkEnvM mxs mrs0 mws0
theorem mrs0_ok : All (ROkM Try.prog false) mrs0 := All.nil
theorem mws0_ok : All (WOkM Try.prog false) mws0 := All.nil
theorem menv0_ok : menv0.Ok Try.prog false := mkEnvM_ok mxs_ok mrs0_ok mws0_ok
-- tumble/tumblelaw05.four
noncomputable def s_law05_four_0 (a0_0 : Nat) (a1_0 : Nat) (a2_0 : Nat) (a3_0 : Nat) : Nat := a0_0
noncomputable def s_law05_four_1 (a0_0 : Nat) (a1_0 : Nat) (a2_0 : Nat) (a3_0 : Nat) : Nat := a1_0
noncomputable def s_law05_four_2 (a0_0 : Nat) (a1_0 : Nat) (a2_0 : Nat) (a3_0 : Nat) : Nat := a2_0
noncomputable def s_law05_four_3 (a0_0 : Nat) (a1_0 : Nat) (a2_0 : Nat) (a3_0 : Nat) : Nat := a3_0
theorem e_law05_four (a0_0 : Nat) (a1_0 : Nat) (a2_0 : Nat) (a3_0 : Nat) : outB (evFnM Try.prog false menv0 [] [] 96 Try.f46 [AV.float a0_0, AV.float a1_0, AV.float a2_0, AV.float a3_0] []) = some ((true), AV.agg [AV.float (s_law05_four_0 a0_0 a1_0 a2_0 a3_0), AV.float (s_law05_four_1 a0_0 a1_0 a2_0 a3_0), AV.float (s_law05_four_2 a0_0 a1_0 a2_0 a3_0), AV.float (s_law05_four_3 a0_0 a1_0 a2_0 a3_0)]) := by kernel_rfl
noncomputable def S_law05_four : List AV → Option (Ob × AV)
  | [AV.float a0_0, AV.float a1_0, AV.float a2_0, AV.float a3_0] => some (Ob.tt, AV.agg [AV.float (s_law05_four_0 a0_0 a1_0 a2_0 a3_0), AV.float (s_law05_four_1 a0_0 a1_0 a2_0 a3_0), AV.float (s_law05_four_2 a0_0 a1_0 a2_0 a3_0), AV.float (s_law05_four_3 a0_0 a1_0 a2_0 a3_0)])
  | _ => none
theorem t_law05_four : ROkM Try.prog false (46, pureM S_law05_four) := ROkM.pure (N := 96) menv0_ok Try.func46 Try.call46 fun args o v h => by
  unfold S_law05_four at h
  split at h
  · rename_i a0_0 a1_0 a2_0 a3_0
    cases h
    exact ⟨rfl, rfl, _, e_law05_four a0_0 a1_0 a2_0 a3_0, fun _ => rfl⟩
  · cases h
noncomputable def mrs1 : List (FuncId × RFM) := (46, pureM S_law05_four) :: mrs0
noncomputable def menv1 : EnvM := mkEnvM mxs mrs1 mws0
theorem mrs1_ok : All (ROkM Try.prog false) mrs1 := All.cons t_law05_four mrs0_ok
theorem menv1_ok : menv1.Ok Try.prog false := mkEnvM_ok mxs_ok mrs1_ok mws0_ok
-- tumble/box.below
noncomputable def s_box_below_0 (a0_0 : Nat) (a0_1 : Nat) (a1_0 : Nat) (a1_1 : Nat) : Bool := ((fle a0_0 a1_0) && (fle a0_1 a1_1))
theorem e_box_below (a0_0 : Nat) (a0_1 : Nat) (a1_0 : Nat) (a1_1 : Nat) : outB (evFnM Try.prog false menv1 [] [] 96 Try.f53 [AV.agg [.float a0_0, .float a0_1], AV.agg [.float a1_0, .float a1_1]] []) = some ((true), AV.bool (s_box_below_0 a0_0 a0_1 a1_0 a1_1)) := by kernel_rfl
noncomputable def S_box_below : List AV → Option (Ob × AV)
  | [AV.agg [.float a0_0, .float a0_1], AV.agg [.float a1_0, .float a1_1]] => some (Ob.tt, AV.bool (s_box_below_0 a0_0 a0_1 a1_0 a1_1))
  | _ => none
theorem t_box_below : ROkM Try.prog false (53, pureM S_box_below) := ROkM.pure (N := 96) menv1_ok Try.func53 Try.call53 fun args o v h => by
  unfold S_box_below at h
  split at h
  · rename_i a0_0 a0_1 a1_0 a1_1
    cases h
    exact ⟨rfl, rfl, _, e_box_below a0_0 a0_1 a1_0 a1_1, fun _ => rfl⟩
  · cases h
noncomputable def mrs2 : List (FuncId × RFM) := (53, pureM S_box_below) :: mrs1
noncomputable def menv2 : EnvM := mkEnvM mxs mrs2 mws0
theorem mrs2_ok : All (ROkM Try.prog false) mrs2 := All.cons t_box_below mrs1_ok
theorem menv2_ok : menv2.Ok Try.prog false := mkEnvM_ok mxs_ok mrs2_ok mws0_ok
-- tumble/box.Over
noncomputable def s_box_Over_0 (a0_0 : Nat) (a0_1 : Nat) (a0_2 : Nat) (a0_3 : Nat) (a1_0 : Nat) (a1_1 : Nat) (a1_2 : Nat) (a1_3 : Nat) : Bool := ((s_box_below_0 a0_0 a0_1 a1_2 a1_3) && (s_box_below_0 a1_0 a1_1 a0_2 a0_3))
theorem e_box_Over (a0_0 : Nat) (a0_1 : Nat) (a0_2 : Nat) (a0_3 : Nat) (a1_0 : Nat) (a1_1 : Nat) (a1_2 : Nat) (a1_3 : Nat) : outB (evFnM Try.prog false menv2 [] [] 96 Try.f19 [AV.agg [.float a0_0, .float a0_1, .float a0_2, .float a0_3], AV.agg [.float a1_0, .float a1_1, .float a1_2, .float a1_3]] []) = some ((true), AV.bool (s_box_Over_0 a0_0 a0_1 a0_2 a0_3 a1_0 a1_1 a1_2 a1_3)) := by kernel_rfl
noncomputable def S_box_Over : List AV → Option (Ob × AV)
  | [AV.agg [.float a0_0, .float a0_1, .float a0_2, .float a0_3], AV.agg [.float a1_0, .float a1_1, .float a1_2, .float a1_3]] => some (Ob.tt, AV.bool (s_box_Over_0 a0_0 a0_1 a0_2 a0_3 a1_0 a1_1 a1_2 a1_3))
  | _ => none
theorem t_box_Over : ROkM Try.prog false (19, pureM S_box_Over) := ROkM.pure (N := 96) menv2_ok Try.func19 Try.call19 fun args o v h => by
  unfold S_box_Over at h
  split at h
  · rename_i a0_0 a0_1 a0_2 a0_3 a1_0 a1_1 a1_2 a1_3
    cases h
    exact ⟨rfl, rfl, _, e_box_Over a0_0 a0_1 a0_2 a0_3 a1_0 a1_1 a1_2 a1_3, fun _ => rfl⟩
  · cases h
noncomputable def mrs3 : List (FuncId × RFM) := (19, pureM S_box_Over) :: mrs2
noncomputable def menv3 : EnvM := mkEnvM mxs mrs3 mws0
theorem mrs3_ok : All (ROkM Try.prog false) mrs3 := All.cons t_box_Over mrs2_ok
theorem menv3_ok : menv3.Ok Try.prog false := mkEnvM_ok mxs_ok mrs3_ok mws0_ok
-- tumble/num.none[float64]
noncomputable def s_num_none_float64__0 (a0_0 : Nat) : Bool := (!(feq a0_0 a0_0))
theorem e_num_none_float64_ (a0_0 : Nat) : outB (evFnM Try.prog false menv3 [] [] 96 Try.f83 [AV.float a0_0] []) = some ((true), AV.bool (s_num_none_float64__0 a0_0)) := by kernel_rfl
noncomputable def S_num_none_float64_ : List AV → Option (Ob × AV)
  | [AV.float a0_0] => some (Ob.tt, AV.bool (s_num_none_float64__0 a0_0))
  | _ => none
theorem t_num_none_float64_ : ROkM Try.prog false (83, pureM S_num_none_float64_) := ROkM.pure (N := 96) menv3_ok Try.func83 Try.call83 fun args o v h => by
  unfold S_num_none_float64_ at h
  split at h
  · rename_i a0_0
    cases h
    exact ⟨rfl, rfl, _, e_num_none_float64_ a0_0, fun _ => rfl⟩
  · cases h
noncomputable def mrs4 : List (FuncId × RFM) := (83, pureM S_num_none_float64_) :: mrs3
noncomputable def menv4 : EnvM := mkEnvM mxs mrs4 mws0
theorem mrs4_ok : All (ROkM Try.prog false) mrs4 := All.cons t_num_none_float64_ mrs3_ok
theorem menv4_ok : menv4.Ok Try.prog false := mkEnvM_ok mxs_ok mrs4_ok mws0_ok
-- tumble/num.minus[float64]
noncomputable def s_num_minus_float64__0 (a0_0 : Nat) : Bool := (flt (fdiv 4607182418800017408 a0_0) 0)
theorem e_num_minus_float64_ (a0_0 : Nat) : outB (evFnM Try.prog false menv4 [] [] 96 Try.f84 [AV.float a0_0] []) = some ((true), AV.bool (s_num_minus_float64__0 a0_0)) := by kernel_rfl
noncomputable def S_num_minus_float64_ : List AV → Option (Ob × AV)
  | [AV.float a0_0] => some (Ob.tt, AV.bool (s_num_minus_float64__0 a0_0))
  | _ => none
theorem t_num_minus_float64_ : ROkM Try.prog false (84, pureM S_num_minus_float64_) := ROkM.pure (N := 96) menv4_ok Try.func84 Try.call84 fun args o v h => by
  unfold S_num_minus_float64_ at h
  split at h
  · rename_i a0_0
    cases h
    exact ⟨rfl, rfl, _, e_num_minus_float64_ a0_0, fun _ => rfl⟩
  · cases h
noncomputable def mrs5 : List (FuncId × RFM) := (84, pureM S_num_minus_float64_) :: mrs4
noncomputable def menv5 : EnvM := mkEnvM mxs mrs5 mws0
theorem mrs5_ok : All (ROkM Try.prog false) mrs5 := All.cons t_num_minus_float64_ mrs4_ok
theorem menv5_ok : menv5.Ok Try.prog false := mkEnvM_ok mxs_ok mrs5_ok mws0_ok
-- tumble/num.Most[float64]
noncomputable def s_num_Most_float64__0 (a0_0 : Nat) (a1_0 : Nat) : Nat := (bif (((s_num_none_float64__0 a0_0) || (flt a0_0 a1_0)) || (((feq a0_0 0) && (feq a1_0 0)) && (s_num_minus_float64__0 a0_0))) then a1_0 else a0_0)
theorem e_num_Most_float64_ (a0_0 : Nat) (a1_0 : Nat) : outB (evFnM Try.prog false menv5 [] [] 96 Try.f74 [AV.float a0_0, AV.float a1_0] []) = some ((true), AV.float (s_num_Most_float64__0 a0_0 a1_0)) := by kernel_rfl
noncomputable def S_num_Most_float64_ : List AV → Option (Ob × AV)
  | [AV.float a0_0, AV.float a1_0] => some (Ob.tt, AV.float (s_num_Most_float64__0 a0_0 a1_0))
  | _ => none
theorem t_num_Most_float64_ : ROkM Try.prog false (74, pureM S_num_Most_float64_) := ROkM.pure (N := 96) menv5_ok Try.func74 Try.call74 fun args o v h => by
  unfold S_num_Most_float64_ at h
  split at h
  · rename_i a0_0 a1_0
    cases h
    exact ⟨rfl, rfl, _, e_num_Most_float64_ a0_0 a1_0, fun _ => rfl⟩
  · cases h
noncomputable def mrs6 : List (FuncId × RFM) := (74, pureM S_num_Most_float64_) :: mrs5
noncomputable def menv6 : EnvM := mkEnvM mxs mrs6 mws0
theorem mrs6_ok : All (ROkM Try.prog false) mrs6 := All.cons t_num_Most_float64_ mrs5_ok
theorem menv6_ok : menv6.Ok Try.prog false := mkEnvM_ok mxs_ok mrs6_ok mws0_ok
-- tumble/box.most
noncomputable def s_box_most_0 (a0_0 : Nat) (a0_1 : Nat) (a1_0 : Nat) (a1_1 : Nat) : Nat := (s_num_Most_float64__0 a0_0 a1_0)
noncomputable def s_box_most_1 (a0_0 : Nat) (a0_1 : Nat) (a1_0 : Nat) (a1_1 : Nat) : Nat := (s_num_Most_float64__0 a0_1 a1_1)
theorem e_box_most (a0_0 : Nat) (a0_1 : Nat) (a1_0 : Nat) (a1_1 : Nat) : outB (evFnM Try.prog false menv6 [] [] 96 Try.f52 [AV.agg [.float a0_0, .float a0_1], AV.agg [.float a1_0, .float a1_1]] []) = some ((true), AV.agg [AV.float (s_box_most_0 a0_0 a0_1 a1_0 a1_1), AV.float (s_box_most_1 a0_0 a0_1 a1_0 a1_1)]) := by kernel_rfl
noncomputable def S_box_most : List AV → Option (Ob × AV)
  | [AV.agg [.float a0_0, .float a0_1], AV.agg [.float a1_0, .float a1_1]] => some (Ob.tt, AV.agg [AV.float (s_box_most_0 a0_0 a0_1 a1_0 a1_1), AV.float (s_box_most_1 a0_0 a0_1 a1_0 a1_1)])
  | _ => none
theorem t_box_most : ROkM Try.prog false (52, pureM S_box_most) := ROkM.pure (N := 96) menv6_ok Try.func52 Try.call52 fun args o v h => by
  unfold S_box_most at h
  split at h
  · rename_i a0_0 a0_1 a1_0 a1_1
    cases h
    exact ⟨rfl, rfl, _, e_box_most a0_0 a0_1 a1_0 a1_1, fun _ => rfl⟩
  · cases h
noncomputable def mrs7 : List (FuncId × RFM) := (52, pureM S_box_most) :: mrs6
noncomputable def menv7 : EnvM := mkEnvM mxs mrs7 mws0
theorem mrs7_ok : All (ROkM Try.prog false) mrs7 := All.cons t_box_most mrs6_ok
theorem menv7_ok : menv7.Ok Try.prog false := mkEnvM_ok mxs_ok mrs7_ok mws0_ok
-- tumble/num.Least[float64]
noncomputable def s_num_Least_float64__0 (a0_0 : Nat) (a1_0 : Nat) : Nat := (bif (((s_num_none_float64__0 a0_0) || (flt a1_0 a0_0)) || (((feq a0_0 0) && (feq a1_0 0)) && (s_num_minus_float64__0 a1_0))) then a1_0 else a0_0)
theorem e_num_Least_float64_ (a0_0 : Nat) (a1_0 : Nat) : outB (evFnM Try.prog false menv7 [] [] 96 Try.f73 [AV.float a0_0, AV.float a1_0] []) = some ((true), AV.float (s_num_Least_float64__0 a0_0 a1_0)) := by kernel_rfl
noncomputable def S_num_Least_float64_ : List AV → Option (Ob × AV)
  | [AV.float a0_0, AV.float a1_0] => some (Ob.tt, AV.float (s_num_Least_float64__0 a0_0 a1_0))
  | _ => none
theorem t_num_Least_float64_ : ROkM Try.prog false (73, pureM S_num_Least_float64_) := ROkM.pure (N := 96) menv7_ok Try.func73 Try.call73 fun args o v h => by
  unfold S_num_Least_float64_ at h
  split at h
  · rename_i a0_0 a1_0
    cases h
    exact ⟨rfl, rfl, _, e_num_Least_float64_ a0_0 a1_0, fun _ => rfl⟩
  · cases h
noncomputable def mrs8 : List (FuncId × RFM) := (73, pureM S_num_Least_float64_) :: mrs7
noncomputable def menv8 : EnvM := mkEnvM mxs mrs8 mws0
theorem mrs8_ok : All (ROkM Try.prog false) mrs8 := All.cons t_num_Least_float64_ mrs7_ok
theorem menv8_ok : menv8.Ok Try.prog false := mkEnvM_ok mxs_ok mrs8_ok mws0_ok
-- tumble/box.least
noncomputable def s_box_least_0 (a0_0 : Nat) (a0_1 : Nat) (a1_0 : Nat) (a1_1 : Nat) : Nat := (s_num_Least_float64__0 a0_0 a1_0)
noncomputable def s_box_least_1 (a0_0 : Nat) (a0_1 : Nat) (a1_0 : Nat) (a1_1 : Nat) : Nat := (s_num_Least_float64__0 a0_1 a1_1)
theorem e_box_least (a0_0 : Nat) (a0_1 : Nat) (a1_0 : Nat) (a1_1 : Nat) : outB (evFnM Try.prog false menv8 [] [] 96 Try.f51 [AV.agg [.float a0_0, .float a0_1], AV.agg [.float a1_0, .float a1_1]] []) = some ((true), AV.agg [AV.float (s_box_least_0 a0_0 a0_1 a1_0 a1_1), AV.float (s_box_least_1 a0_0 a0_1 a1_0 a1_1)]) := by kernel_rfl
noncomputable def S_box_least : List AV → Option (Ob × AV)
  | [AV.agg [.float a0_0, .float a0_1], AV.agg [.float a1_0, .float a1_1]] => some (Ob.tt, AV.agg [AV.float (s_box_least_0 a0_0 a0_1 a1_0 a1_1), AV.float (s_box_least_1 a0_0 a0_1 a1_0 a1_1)])
  | _ => none
theorem t_box_least : ROkM Try.prog false (51, pureM S_box_least) := ROkM.pure (N := 96) menv8_ok Try.func51 Try.call51 fun args o v h => by
  unfold S_box_least at h
  split at h
  · rename_i a0_0 a0_1 a1_0 a1_1
    cases h
    exact ⟨rfl, rfl, _, e_box_least a0_0 a0_1 a1_0 a1_1, fun _ => rfl⟩
  · cases h
noncomputable def mrs9 : List (FuncId × RFM) := (51, pureM S_box_least) :: mrs8
noncomputable def menv9 : EnvM := mkEnvM mxs mrs9 mws0
theorem mrs9_ok : All (ROkM Try.prog false) mrs9 := All.cons t_box_least mrs8_ok
theorem menv9_ok : menv9.Ok Try.prog false := mkEnvM_ok mxs_ok mrs9_ok mws0_ok
-- tumble/box.Meet
noncomputable def s_box_Meet_0 (a0_0 : Nat) (a0_1 : Nat) (a0_2 : Nat) (a0_3 : Nat) (a1_0 : Nat) (a1_1 : Nat) (a1_2 : Nat) (a1_3 : Nat) : Nat := (bif (!(s_box_Over_0 a0_0 a0_1 a0_2 a0_3 a1_0 a1_1 a1_2 a1_3)) then 0 else (s_box_most_0 a0_0 a0_1 a1_0 a1_1))
noncomputable def s_box_Meet_1 (a0_0 : Nat) (a0_1 : Nat) (a0_2 : Nat) (a0_3 : Nat) (a1_0 : Nat) (a1_1 : Nat) (a1_2 : Nat) (a1_3 : Nat) : Nat := (bif (!(s_box_Over_0 a0_0 a0_1 a0_2 a0_3 a1_0 a1_1 a1_2 a1_3)) then 0 else (s_box_most_1 a0_0 a0_1 a1_0 a1_1))
noncomputable def s_box_Meet_2 (a0_0 : Nat) (a0_1 : Nat) (a0_2 : Nat) (a0_3 : Nat) (a1_0 : Nat) (a1_1 : Nat) (a1_2 : Nat) (a1_3 : Nat) : Nat := (bif (!(s_box_Over_0 a0_0 a0_1 a0_2 a0_3 a1_0 a1_1 a1_2 a1_3)) then 0 else (s_box_least_0 a0_2 a0_3 a1_2 a1_3))
noncomputable def s_box_Meet_3 (a0_0 : Nat) (a0_1 : Nat) (a0_2 : Nat) (a0_3 : Nat) (a1_0 : Nat) (a1_1 : Nat) (a1_2 : Nat) (a1_3 : Nat) : Nat := (bif (!(s_box_Over_0 a0_0 a0_1 a0_2 a0_3 a1_0 a1_1 a1_2 a1_3)) then 0 else (s_box_least_1 a0_2 a0_3 a1_2 a1_3))
noncomputable def s_box_Meet_4 (a0_0 : Nat) (a0_1 : Nat) (a0_2 : Nat) (a0_3 : Nat) (a1_0 : Nat) (a1_1 : Nat) (a1_2 : Nat) (a1_3 : Nat) : Bool := (bif (!(s_box_Over_0 a0_0 a0_1 a0_2 a0_3 a1_0 a1_1 a1_2 a1_3)) then false else true)
theorem e_box_Meet (a0_0 : Nat) (a0_1 : Nat) (a0_2 : Nat) (a0_3 : Nat) (a1_0 : Nat) (a1_1 : Nat) (a1_2 : Nat) (a1_3 : Nat) : outB (evFnM Try.prog false menv9 [] [] 96 Try.f16 [AV.agg [.float a0_0, .float a0_1, .float a0_2, .float a0_3], AV.agg [.float a1_0, .float a1_1, .float a1_2, .float a1_3]] []) = some ((true), AV.tup [AV.agg [AV.float (s_box_Meet_0 a0_0 a0_1 a0_2 a0_3 a1_0 a1_1 a1_2 a1_3), AV.float (s_box_Meet_1 a0_0 a0_1 a0_2 a0_3 a1_0 a1_1 a1_2 a1_3), AV.float (s_box_Meet_2 a0_0 a0_1 a0_2 a0_3 a1_0 a1_1 a1_2 a1_3), AV.float (s_box_Meet_3 a0_0 a0_1 a0_2 a0_3 a1_0 a1_1 a1_2 a1_3)], AV.bool (s_box_Meet_4 a0_0 a0_1 a0_2 a0_3 a1_0 a1_1 a1_2 a1_3)]) := by kernel_rfl
noncomputable def S_box_Meet : List AV → Option (Ob × AV)
  | [AV.agg [.float a0_0, .float a0_1, .float a0_2, .float a0_3], AV.agg [.float a1_0, .float a1_1, .float a1_2, .float a1_3]] => some (Ob.tt, AV.tup [AV.agg [AV.float (s_box_Meet_0 a0_0 a0_1 a0_2 a0_3 a1_0 a1_1 a1_2 a1_3), AV.float (s_box_Meet_1 a0_0 a0_1 a0_2 a0_3 a1_0 a1_1 a1_2 a1_3), AV.float (s_box_Meet_2 a0_0 a0_1 a0_2 a0_3 a1_0 a1_1 a1_2 a1_3), AV.float (s_box_Meet_3 a0_0 a0_1 a0_2 a0_3 a1_0 a1_1 a1_2 a1_3)], AV.bool (s_box_Meet_4 a0_0 a0_1 a0_2 a0_3 a1_0 a1_1 a1_2 a1_3)])
  | _ => none
theorem t_box_Meet : ROkM Try.prog false (16, pureM S_box_Meet) := ROkM.pure (N := 96) menv9_ok Try.func16 Try.call16 fun args o v h => by
  unfold S_box_Meet at h
  split at h
  · rename_i a0_0 a0_1 a0_2 a0_3 a1_0 a1_1 a1_2 a1_3
    cases h
    exact ⟨rfl, rfl, _, e_box_Meet a0_0 a0_1 a0_2 a0_3 a1_0 a1_1 a1_2 a1_3, fun _ => rfl⟩
  · cases h
noncomputable def mrs10 : List (FuncId × RFM) := (16, pureM S_box_Meet) :: mrs9
noncomputable def menv10 : EnvM := mkEnvM mxs mrs10 mws0
theorem mrs10_ok : All (ROkM Try.prog false) mrs10 := All.cons t_box_Meet mrs9_ok
theorem menv10_ok : menv10.Ok Try.prog false := mkEnvM_ok mxs_ok mrs10_ok mws0_ok
-- (*tumble/box.span).cut
noncomputable def mws1 : List (FuncId × WFM) := (48, inlWM Try.prog false menv10 [] [] 96 Try.f48) :: mws0
noncomputable def menv11 : EnvM := mkEnvM mxs mrs10 mws1
theorem mws1_ok : All (WOkM Try.prog false) mws1 := All.cons (WOkM.inl menv10_ok Try.func48 Try.call48) mws0_ok
theorem menv11_ok : menv11.Ok Try.prog false := mkEnvM_ok mxs_ok mrs10_ok mws1_ok
-- tumble/box.Ray
noncomputable def s_box_Ray_0 (a0_0 : Nat) (a0_1 : Nat) (a0_2 : Nat) (a0_3 : Nat) (a1_0 : Nat) (a1_1 : Nat) (a2_0 : Nat) (a2_1 : Nat) : Nat := let x0 : Nat := (fdiv (fsub a0_0 a1_0) a2_0); let x1 : Nat := (fdiv (fsub a0_2 a1_0) a2_0); let x2 : Bool := (flt x1 x0); let x3 : Nat := (bif x2 then x1 else x0); let x4 : Nat := (bif (flt 0 x3) then x3 else 0); let x5 : Bool := ((feq a2_0 0) || (!(feq a2_0 a2_0))); let x6 : Nat := (bif x5 then 0 else x4); let x7 : Nat := (fdiv (fsub a0_1 a1_1) a2_1); let x8 : Nat := (fdiv (fsub a0_3 a1_1) a2_1); let x9 : Bool := (flt x8 x7); let x10 : Nat := (bif x9 then x8 else x7); let x11 : Nat := (bif (flt x6 x10) then x10 else x6); let x12 : Bool := ((feq a2_1 0) || (!(feq a2_1 a2_1))); let x13 : Nat := (bif x2 then x0 else x1); let x14 : Nat := (bif (flt x13 4607182418800017408) then x13 else 4607182418800017408); let x15 : Bool := (!(bif x5 then ((fle a0_0 a1_0) && (fle a1_0 a0_2)) else ((fle x3 x13) && (fle x4 x14)))); let x16 : Nat := (bif x5 then 4607182418800017408 else x14); let x17 : Nat := (bif x9 then x7 else x8); (bif (x15 || (!(bif x12 then ((fle a0_1 a1_1) && (fle a1_1 a0_3)) else ((fle x10 x17) && (fle x11 (bif (flt x17 x16) then x17 else x16)))))) then 0 else (bif x15 then x6 else (bif x12 then x6 else x11)))
noncomputable def s_box_Ray_1 (a0_0 : Nat) (a0_1 : Nat) (a0_2 : Nat) (a0_3 : Nat) (a1_0 : Nat) (a1_1 : Nat) (a2_0 : Nat) (a2_1 : Nat) : Bool := let x0 : Nat := (fdiv (fsub a0_2 a1_0) a2_0); let x1 : Nat := (fdiv (fsub a0_0 a1_0) a2_0); let x2 : Bool := (flt x0 x1); let x3 : Nat := (bif x2 then x1 else x0); let x4 : Nat := (bif (flt x3 4607182418800017408) then x3 else 4607182418800017408); let x5 : Bool := ((feq a2_0 0) || (!(feq a2_0 a2_0))); let x6 : Nat := (bif x5 then 4607182418800017408 else x4); let x7 : Nat := (fdiv (fsub a0_3 a1_1) a2_1); let x8 : Nat := (fdiv (fsub a0_1 a1_1) a2_1); let x9 : Bool := (flt x7 x8); let x10 : Nat := (bif x9 then x8 else x7); let x11 : Nat := (bif x2 then x0 else x1); let x12 : Nat := (bif (flt 0 x11) then x11 else 0); let x13 : Nat := (bif x5 then 0 else x12); let x14 : Nat := (bif x9 then x7 else x8); (bif ((!(bif x5 then ((fle a0_0 a1_0) && (fle a1_0 a0_2)) else ((fle x11 x3) && (fle x12 x4)))) || (!(bif ((feq a2_1 0) || (!(feq a2_1 a2_1))) then ((fle a0_1 a1_1) && (fle a1_1 a0_3)) else ((fle x14 x10) && (fle (bif (flt x13 x14) then x14 else x13) (bif (flt x10 x6) then x10 else x6)))))) then false else true)
theorem e_box_Ray (a0_0 : Nat) (a0_1 : Nat) (a0_2 : Nat) (a0_3 : Nat) (a1_0 : Nat) (a1_1 : Nat) (a2_0 : Nat) (a2_1 : Nat) : outB (evFnM Try.prog false menv11 [] [] 96 Try.f11 [AV.agg [.float a0_0, .float a0_1, .float a0_2, .float a0_3], AV.agg [.float a1_0, .float a1_1], AV.agg [.float a2_0, .float a2_1]] []) = some ((true), AV.tup [AV.float (s_box_Ray_0 a0_0 a0_1 a0_2 a0_3 a1_0 a1_1 a2_0 a2_1), AV.bool (s_box_Ray_1 a0_0 a0_1 a0_2 a0_3 a1_0 a1_1 a2_0 a2_1)]) := by kernel_rfl
noncomputable def S_box_Ray : List AV → Option (Ob × AV)
  | [AV.agg [.float a0_0, .float a0_1, .float a0_2, .float a0_3], AV.agg [.float a1_0, .float a1_1], AV.agg [.float a2_0, .float a2_1]] => some (Ob.tt, AV.tup [AV.float (s_box_Ray_0 a0_0 a0_1 a0_2 a0_3 a1_0 a1_1 a2_0 a2_1), AV.bool (s_box_Ray_1 a0_0 a0_1 a0_2 a0_3 a1_0 a1_1 a2_0 a2_1)])
  | _ => none
theorem t_box_Ray : ROkM Try.prog false (11, pureM S_box_Ray) := ROkM.pure (N := 96) menv11_ok Try.func11 Try.call11 fun args o v h => by
  unfold S_box_Ray at h
  split at h
  · rename_i a0_0 a0_1 a0_2 a0_3 a1_0 a1_1 a2_0 a2_1
    cases h
    exact ⟨rfl, rfl, _, e_box_Ray a0_0 a0_1 a0_2 a0_3 a1_0 a1_1 a2_0 a2_1, fun _ => rfl⟩
  · cases h
noncomputable def mrs11 : List (FuncId × RFM) := (11, pureM S_box_Ray) :: mrs10
noncomputable def menv12 : EnvM := mkEnvM mxs mrs11 mws1
theorem mrs11_ok : All (ROkM Try.prog false) mrs11 := All.cons t_box_Ray mrs10_ok
theorem menv12_ok : menv12.Ok Try.prog false := mkEnvM_ok mxs_ok mrs11_ok mws1_ok
-- math.NaN
noncomputable def s_math_NaN_0 : Nat := 9221120237041090561
theorem e_math_NaN : outB (evFnM Try.prog false menv12 [] [] 96 Try.f67 [] []) = some ((true), AV.float (s_math_NaN_0)) := by kernel_rfl
noncomputable def S_math_NaN : List AV → Option (Ob × AV)
  | [] => some (Ob.tt, AV.float (s_math_NaN_0))
  | _ => none
theorem t_math_NaN : ROkM Try.prog false (67, pureM S_math_NaN) := ROkM.pure (N := 96) menv12_ok Try.func67 Try.call67 fun args o v h => by
  unfold S_math_NaN at h
  split at h
  · skip
    cases h
    exact ⟨rfl, rfl, _, e_math_NaN, fun _ => rfl⟩
  · cases h
noncomputable def mrs12 : List (FuncId × RFM) := (67, pureM S_math_NaN) :: mrs11
noncomputable def menv13 : EnvM := mkEnvM mxs mrs12 mws1
theorem mrs12_ok : All (ROkM Try.prog false) mrs12 := All.cons t_math_NaN mrs11_ok
theorem menv13_ok : menv13.Ok Try.prog false := mkEnvM_ok mxs_ok mrs12_ok mws1_ok
-- math.Inf
noncomputable def s_math_Inf_0 (a0_0 : Int) : Nat := (cn (Int.toNat (bif (ile (0 : Int) a0_0) then (9218868437227405312 : Int) else (18442240474082181120 : Int))))
theorem e_math_Inf (a0_0 : Int) : outB (evFnM Try.prog false menv13 [] [] 96 Try.f68 [AV.int .i64 a0_0] []) = some (((u64ok (bif (ile (0 : Int) a0_0) then (9218868437227405312 : Int) else (18442240474082181120 : Int)))), AV.float (s_math_Inf_0 a0_0)) := by kernel_rfl
noncomputable def S_math_Inf : List AV → Option (Ob × AV)
  | [AV.int .i64 a0_0] => some (Ob.tt, AV.float (s_math_Inf_0 a0_0))
  | _ => none
theorem t_math_Inf : ROkM Try.prog false (68, pureM S_math_Inf) := ROkM.pure (N := 96) menv13_ok Try.func68 Try.call68 fun args o v h => by
  unfold S_math_Inf at h
  split at h
  · rename_i a0_0
    cases h
    exact ⟨rfl, rfl, _, e_math_Inf a0_0, fun _ => by show ((u64ok (bif (ile (0 : Int) a0_0) then (9218868437227405312 : Int) else (18442240474082181120 : Int)))) = true; generalize (ile (0 : Int) a0_0) = q0; cases q0 <;> rfl⟩
  · cases h
noncomputable def mrs13 : List (FuncId × RFM) := (68, pureM S_math_Inf) :: mrs12
noncomputable def menv14 : EnvM := mkEnvM mxs mrs13 mws1
theorem mrs13_ok : All (ROkM Try.prog false) mrs13 := All.cons t_math_Inf mrs12_ok
theorem menv14_ok : menv14.Ok Try.prog false := mkEnvM_ok mxs_ok mrs13_ok mws1_ok
-- math.Copysign
noncomputable def S_math_Copysign : List AV → Option AV
  | [AV.float a, AV.float c] => cond (nanb c) none (some (AV.float (fcps a c)))
  | _ => none
theorem t_math_Copysign : ROk Try.prog false (69, pureF S_math_Copysign) := exact2f (N := 64) xenv_ok Try.func69 Try.call69 fcps (fun args v h => by
    unfold S_math_Copysign at h
    split at h
    · obtain ⟨hn, h⟩ := cond_some' h rfl; cases h; exact ⟨_, _, rfl, hn, rfl⟩
    · cases h) fun b d hb hd _ => ⟨_, by refine Eq.trans ?_ (cps_tree hb hd); kernel_rfl, cps_cn⟩
noncomputable def mrs14 : List (FuncId × RFM) := (69, pureM fun args => match S_math_Copysign args with | some v => some (.tt, v) | none => none) :: mrs13
noncomputable def menv15 : EnvM := mkEnvM mxs mrs14 mws1
theorem mrs14_ok : All (ROkM Try.prog false) mrs14 := All.cons t_math_Copysign.toM mrs13_ok
theorem menv15_ok : menv15.Ok Try.prog false := mkEnvM_ok mxs_ok mrs14_ok mws1_ok
-- tumble/box.Join
noncomputable def s_box_Join_0 (a0_0 : Nat) (a0_1 : Nat) (a0_2 : Nat) (a0_3 : Nat) (a1_0 : Nat) (a1_1 : Nat) (a1_2 : Nat) (a1_3 : Nat) : Nat := (s_box_least_0 a0_0 a0_1 a1_0 a1_1)
noncomputable def s_box_Join_1 (a0_0 : Nat) (a0_1 : Nat) (a0_2 : Nat) (a0_3 : Nat) (a1_0 : Nat) (a1_1 : Nat) (a1_2 : Nat) (a1_3 : Nat) : Nat := (s_box_least_1 a0_0 a0_1 a1_0 a1_1)
noncomputable def s_box_Join_2 (a0_0 : Nat) (a0_1 : Nat) (a0_2 : Nat) (a0_3 : Nat) (a1_0 : Nat) (a1_1 : Nat) (a1_2 : Nat) (a1_3 : Nat) : Nat := (s_box_most_0 a0_2 a0_3 a1_2 a1_3)
noncomputable def s_box_Join_3 (a0_0 : Nat) (a0_1 : Nat) (a0_2 : Nat) (a0_3 : Nat) (a1_0 : Nat) (a1_1 : Nat) (a1_2 : Nat) (a1_3 : Nat) : Nat := (s_box_most_1 a0_2 a0_3 a1_2 a1_3)
theorem e_box_Join (a0_0 : Nat) (a0_1 : Nat) (a0_2 : Nat) (a0_3 : Nat) (a1_0 : Nat) (a1_1 : Nat) (a1_2 : Nat) (a1_3 : Nat) : outB (evFnM Try.prog false menv15 [] [] 96 Try.f15 [AV.agg [.float a0_0, .float a0_1, .float a0_2, .float a0_3], AV.agg [.float a1_0, .float a1_1, .float a1_2, .float a1_3]] []) = some ((true), AV.agg [AV.float (s_box_Join_0 a0_0 a0_1 a0_2 a0_3 a1_0 a1_1 a1_2 a1_3), AV.float (s_box_Join_1 a0_0 a0_1 a0_2 a0_3 a1_0 a1_1 a1_2 a1_3), AV.float (s_box_Join_2 a0_0 a0_1 a0_2 a0_3 a1_0 a1_1 a1_2 a1_3), AV.float (s_box_Join_3 a0_0 a0_1 a0_2 a0_3 a1_0 a1_1 a1_2 a1_3)]) := by kernel_rfl
noncomputable def S_box_Join : List AV → Option (Ob × AV)
  | [AV.agg [.float a0_0, .float a0_1, .float a0_2, .float a0_3], AV.agg [.float a1_0, .float a1_1, .float a1_2, .float a1_3]] => some (Ob.tt, AV.agg [AV.float (s_box_Join_0 a0_0 a0_1 a0_2 a0_3 a1_0 a1_1 a1_2 a1_3), AV.float (s_box_Join_1 a0_0 a0_1 a0_2 a0_3 a1_0 a1_1 a1_2 a1_3), AV.float (s_box_Join_2 a0_0 a0_1 a0_2 a0_3 a1_0 a1_1 a1_2 a1_3), AV.float (s_box_Join_3 a0_0 a0_1 a0_2 a0_3 a1_0 a1_1 a1_2 a1_3)])
  | _ => none
theorem t_box_Join : ROkM Try.prog false (15, pureM S_box_Join) := ROkM.pure (N := 96) menv15_ok Try.func15 Try.call15 fun args o v h => by
  unfold S_box_Join at h
  split at h
  · rename_i a0_0 a0_1 a0_2 a0_3 a1_0 a1_1 a1_2 a1_3
    cases h
    exact ⟨rfl, rfl, _, e_box_Join a0_0 a0_1 a0_2 a0_3 a1_0 a1_1 a1_2 a1_3, fun _ => rfl⟩
  · cases h
noncomputable def mrs15 : List (FuncId × RFM) := (15, pureM S_box_Join) :: mrs14
noncomputable def menv16 : EnvM := mkEnvM mxs mrs15 mws1
theorem mrs15_ok : All (ROkM Try.prog false) mrs15 := All.cons t_box_Join mrs14_ok
theorem menv16_ok : menv16.Ok Try.prog false := mkEnvM_ok mxs_ok mrs15_ok mws1_ok
-- tumble/box.Moved$1
noncomputable def mws2 : List (FuncId × WFM) := (61, inlWM Try.prog false menv16 [] [7] 96 Try.f61) :: mws1
noncomputable def menv17 : EnvM := mkEnvM mxs mrs15 mws2
theorem mws2_ok : All (WOkM Try.prog false) mws2 := All.cons (WOkM.inl menv16_ok Try.func61 Try.call61) mws1_ok
theorem menv17_ok : menv17.Ok Try.prog false := mkEnvM_ok mxs_ok mrs15_ok mws2_ok
-- tumble/box.Moved
noncomputable def s_box_Moved_0 (a0_0 : Nat) (a0_1 : Nat) (a0_2 : Nat) (a0_3 : Nat) (a1_0 : Nat) (a1_1 : Nat) : Nat := (bif (flt a1_0 0) then (fadd a0_0 a1_0) else a0_0)
noncomputable def s_box_Moved_1 (a0_0 : Nat) (a0_1 : Nat) (a0_2 : Nat) (a0_3 : Nat) (a1_0 : Nat) (a1_1 : Nat) : Nat := (bif (flt a1_1 0) then (fadd a0_1 a1_1) else a0_1)
noncomputable def s_box_Moved_2 (a0_0 : Nat) (a0_1 : Nat) (a0_2 : Nat) (a0_3 : Nat) (a1_0 : Nat) (a1_1 : Nat) : Nat := (bif (flt a1_0 0) then a0_2 else (fadd a0_2 a1_0))
noncomputable def s_box_Moved_3 (a0_0 : Nat) (a0_1 : Nat) (a0_2 : Nat) (a0_3 : Nat) (a1_0 : Nat) (a1_1 : Nat) : Nat := (bif (flt a1_1 0) then a0_3 else (fadd a0_3 a1_1))
theorem e_box_Moved (a0_0 : Nat) (a0_1 : Nat) (a0_2 : Nat) (a0_3 : Nat) (a1_0 : Nat) (a1_1 : Nat) : outB (evFnM Try.prog false menv17 [] [] 96 Try.f29 [AV.agg [.float a0_0, .float a0_1, .float a0_2, .float a0_3], AV.agg [.float a1_0, .float a1_1]] []) = some ((true), AV.agg [AV.float (s_box_Moved_0 a0_0 a0_1 a0_2 a0_3 a1_0 a1_1), AV.float (s_box_Moved_1 a0_0 a0_1 a0_2 a0_3 a1_0 a1_1), AV.float (s_box_Moved_2 a0_0 a0_1 a0_2 a0_3 a1_0 a1_1), AV.float (s_box_Moved_3 a0_0 a0_1 a0_2 a0_3 a1_0 a1_1)]) := by kernel_rfl
noncomputable def S_box_Moved : List AV → Option (Ob × AV)
  | [AV.agg [.float a0_0, .float a0_1, .float a0_2, .float a0_3], AV.agg [.float a1_0, .float a1_1]] => some (Ob.tt, AV.agg [AV.float (s_box_Moved_0 a0_0 a0_1 a0_2 a0_3 a1_0 a1_1), AV.float (s_box_Moved_1 a0_0 a0_1 a0_2 a0_3 a1_0 a1_1), AV.float (s_box_Moved_2 a0_0 a0_1 a0_2 a0_3 a1_0 a1_1), AV.float (s_box_Moved_3 a0_0 a0_1 a0_2 a0_3 a1_0 a1_1)])
  | _ => none
theorem t_box_Moved : ROkM Try.prog false (29, pureM S_box_Moved) := ROkM.pure (N := 96) menv17_ok Try.func29 Try.call29 fun args o v h => by
  unfold S_box_Moved at h
  split at h
  · rename_i a0_0 a0_1 a0_2 a0_3 a1_0 a1_1
    cases h
    exact ⟨rfl, rfl, _, e_box_Moved a0_0 a0_1 a0_2 a0_3 a1_0 a1_1, fun _ => rfl⟩
  · cases h
noncomputable def mrs16 : List (FuncId × RFM) := (29, pureM S_box_Moved) :: mrs15
noncomputable def menv18 : EnvM := mkEnvM mxs mrs16 mws2
theorem mrs16_ok : All (ROkM Try.prog false) mrs16 := All.cons t_box_Moved mrs15_ok
theorem menv18_ok : menv18.Ok Try.prog false := mkEnvM_ok mxs_ok mrs16_ok mws2_ok
-- math.Signbit
noncomputable def s_math_Signbit_0 (a0_0 : Nat) : Bool := (ilt (IntKind.wrap .i64 (Int.ofNat a0_0)) (0 : Int))
theorem e_math_Signbit (a0_0 : Nat) : outB (evFnM Try.prog false menv18 [] [] 96 Try.f70 [AV.float a0_0] []) = some (((!(nanb a0_0))), AV.bool (s_math_Signbit_0 a0_0)) := by kernel_rfl
noncomputable def S_math_Signbit : List AV → Option (Ob × AV)
  | [AV.float a0_0] => some (Ob.bit ((!(nanb a0_0))), AV.bool (s_math_Signbit_0 a0_0))
  | _ => none
theorem t_math_Signbit : ROkM Try.prog false (70, pureM S_math_Signbit) := ROkM.pure (N := 96) menv18_ok Try.func70 Try.call70 fun args o v h => by
  unfold S_math_Signbit at h
  split at h
  · rename_i a0_0
    cases h
    exact ⟨rfl, rfl, _, e_math_Signbit a0_0, fun h => h⟩
  · cases h
noncomputable def mrs17 : List (FuncId × RFM) := (70, pureM S_math_Signbit) :: mrs16
noncomputable def menv19 : EnvM := mkEnvM mxs mrs17 mws2
theorem mrs17_ok : All (ROkM Try.prog false) mrs17 := All.cons t_math_Signbit mrs16_ok
theorem menv19_ok : menv19.Ok Try.prog false := mkEnvM_ok mxs_ok mrs17_ok mws2_ok
-- tumble/box.In
noncomputable def s_box_In_0 (a0_0 : Nat) (a0_1 : Nat) (a0_2 : Nat) (a0_3 : Nat) (a1_0 : Nat) (a1_1 : Nat) (a1_2 : Nat) (a1_3 : Nat) : Bool := ((s_box_below_0 a1_0 a1_1 a0_0 a0_1) && (s_box_below_0 a0_2 a0_3 a1_2 a1_3))
theorem e_box_In (a0_0 : Nat) (a0_1 : Nat) (a0_2 : Nat) (a0_3 : Nat) (a1_0 : Nat) (a1_1 : Nat) (a1_2 : Nat) (a1_3 : Nat) : outB (evFnM Try.prog false menv19 [] [] 96 Try.f20 [AV.agg [.float a0_0, .float a0_1, .float a0_2, .float a0_3], AV.agg [.float a1_0, .float a1_1, .float a1_2, .float a1_3]] []) = some ((true), AV.bool (s_box_In_0 a0_0 a0_1 a0_2 a0_3 a1_0 a1_1 a1_2 a1_3)) := by kernel_rfl
noncomputable def S_box_In : List AV → Option (Ob × AV)
  | [AV.agg [.float a0_0, .float a0_1, .float a0_2, .float a0_3], AV.agg [.float a1_0, .float a1_1, .float a1_2, .float a1_3]] => some (Ob.tt, AV.bool (s_box_In_0 a0_0 a0_1 a0_2 a0_3 a1_0 a1_1 a1_2 a1_3))
  | _ => none
theorem t_box_In : ROkM Try.prog false (20, pureM S_box_In) := ROkM.pure (N := 96) menv19_ok Try.func20 Try.call20 fun args o v h => by
  unfold S_box_In at h
  split at h
  · rename_i a0_0 a0_1 a0_2 a0_3 a1_0 a1_1 a1_2 a1_3
    cases h
    exact ⟨rfl, rfl, _, e_box_In a0_0 a0_1 a0_2 a0_3 a1_0 a1_1 a1_2 a1_3, fun _ => rfl⟩
  · cases h
noncomputable def mrs18 : List (FuncId × RFM) := (20, pureM S_box_In) :: mrs17
noncomputable def menv20 : EnvM := mkEnvM mxs mrs18 mws2
theorem mrs18_ok : All (ROkM Try.prog false) mrs18 := All.cons t_box_In mrs17_ok
theorem menv20_ok : menv20.Ok Try.prog false := mkEnvM_ok mxs_ok mrs18_ok mws2_ok
-- tumble/box.Has
noncomputable def s_box_Has_0 (a0_0 : Nat) (a0_1 : Nat) (a0_2 : Nat) (a0_3 : Nat) (a1_0 : Nat) (a1_1 : Nat) : Bool := ((s_box_below_0 a0_0 a0_1 a1_0 a1_1) && (s_box_below_0 a1_0 a1_1 a0_2 a0_3))
theorem e_box_Has (a0_0 : Nat) (a0_1 : Nat) (a0_2 : Nat) (a0_3 : Nat) (a1_0 : Nat) (a1_1 : Nat) : outB (evFnM Try.prog false menv20 [] [] 96 Try.f17 [AV.agg [.float a0_0, .float a0_1, .float a0_2, .float a0_3], AV.agg [.float a1_0, .float a1_1]] []) = some ((true), AV.bool (s_box_Has_0 a0_0 a0_1 a0_2 a0_3 a1_0 a1_1)) := by kernel_rfl
noncomputable def S_box_Has : List AV → Option (Ob × AV)
  | [AV.agg [.float a0_0, .float a0_1, .float a0_2, .float a0_3], AV.agg [.float a1_0, .float a1_1]] => some (Ob.tt, AV.bool (s_box_Has_0 a0_0 a0_1 a0_2 a0_3 a1_0 a1_1))
  | _ => none
theorem t_box_Has : ROkM Try.prog false (17, pureM S_box_Has) := ROkM.pure (N := 96) menv20_ok Try.func17 Try.call17 fun args o v h => by
  unfold S_box_Has at h
  split at h
  · rename_i a0_0 a0_1 a0_2 a0_3 a1_0 a1_1
    cases h
    exact ⟨rfl, rfl, _, e_box_Has a0_0 a0_1 a0_2 a0_3 a1_0 a1_1, fun _ => rfl⟩
  · cases h
noncomputable def mrs19 : List (FuncId × RFM) := (17, pureM S_box_Has) :: mrs18
noncomputable def menv21 : EnvM := mkEnvM mxs mrs19 mws2
theorem mrs19_ok : All (ROkM Try.prog false) mrs19 := All.cons t_box_Has mrs18_ok
theorem menv21_ok : menv21.Ok Try.prog false := mkEnvM_ok mxs_ok mrs19_ok mws2_ok
-- tumble/num.Finite[float64]
noncomputable def s_num_Finite_float64__0 (a0_0 : Nat) : Bool := (feq (fsub a0_0 a0_0) 0)
theorem e_num_Finite_float64_ (a0_0 : Nat) : outB (evFnM Try.prog false menv21 [] [] 96 Try.f62 [AV.float a0_0] []) = some ((true), AV.bool (s_num_Finite_float64__0 a0_0)) := by kernel_rfl
noncomputable def S_num_Finite_float64_ : List AV → Option (Ob × AV)
  | [AV.float a0_0] => some (Ob.tt, AV.bool (s_num_Finite_float64__0 a0_0))
  | _ => none
theorem t_num_Finite_float64_ : ROkM Try.prog false (62, pureM S_num_Finite_float64_) := ROkM.pure (N := 96) menv21_ok Try.func62 Try.call62 fun args o v h => by
  unfold S_num_Finite_float64_ at h
  split at h
  · rename_i a0_0
    cases h
    exact ⟨rfl, rfl, _, e_num_Finite_float64_ a0_0, fun _ => rfl⟩
  · cases h
noncomputable def mrs20 : List (FuncId × RFM) := (62, pureM S_num_Finite_float64_) :: mrs19
noncomputable def menv22 : EnvM := mkEnvM mxs mrs20 mws2
theorem mrs20_ok : All (ROkM Try.prog false) mrs20 := All.cons t_num_Finite_float64_ mrs19_ok
theorem menv22_ok : menv22.Ok Try.prog false := mkEnvM_ok mxs_ok mrs20_ok mws2_ok
-- tumble/vec.Finite
noncomputable def s_vec_Finite_0 (a0_0 : Nat) (a0_1 : Nat) : Bool := ((s_num_Finite_float64__0 a0_0) && (s_num_Finite_float64__0 a0_1))
theorem e_vec_Finite (a0_0 : Nat) (a0_1 : Nat) : outB (evFnM Try.prog false menv22 [] [] 96 Try.f38 [AV.agg [.float a0_0, .float a0_1]] []) = some ((true), AV.bool (s_vec_Finite_0 a0_0 a0_1)) := by kernel_rfl
noncomputable def S_vec_Finite : List AV → Option (Ob × AV)
  | [AV.agg [.float a0_0, .float a0_1]] => some (Ob.tt, AV.bool (s_vec_Finite_0 a0_0 a0_1))
  | _ => none
theorem t_vec_Finite : ROkM Try.prog false (38, pureM S_vec_Finite) := ROkM.pure (N := 96) menv22_ok Try.func38 Try.call38 fun args o v h => by
  unfold S_vec_Finite at h
  split at h
  · rename_i a0_0 a0_1
    cases h
    exact ⟨rfl, rfl, _, e_vec_Finite a0_0 a0_1, fun _ => rfl⟩
  · cases h
noncomputable def mrs21 : List (FuncId × RFM) := (38, pureM S_vec_Finite) :: mrs20
noncomputable def menv23 : EnvM := mkEnvM mxs mrs21 mws2
theorem mrs21_ok : All (ROkM Try.prog false) mrs21 := All.cons t_vec_Finite mrs20_ok
theorem menv23_ok : menv23.Ok Try.prog false := mkEnvM_ok mxs_ok mrs21_ok mws2_ok
-- tumble/box.Check
noncomputable def s_box_Check_0 (a0_0 : Nat) (a0_1 : Nat) (a0_2 : Nat) (a0_3 : Nat) : Int := (bif ((((!(s_vec_Finite_0 a0_0 a0_1)) || (!(s_vec_Finite_0 a0_2 a0_3))) || (flt a0_2 a0_0)) || (flt a0_3 a0_1)) then (50 : Int) else (0 : Int))
theorem e_box_Check (a0_0 : Nat) (a0_1 : Nat) (a0_2 : Nat) (a0_3 : Nat) : outB (evFnM Try.prog false menv23 [] [] 96 Try.f14 [AV.agg [.float a0_0, .float a0_1, .float a0_2, .float a0_3]] []) = some ((true), AV.int .i64 (s_box_Check_0 a0_0 a0_1 a0_2 a0_3)) := by kernel_rfl
noncomputable def S_box_Check : List AV → Option (Ob × AV)
  | [AV.agg [.float a0_0, .float a0_1, .float a0_2, .float a0_3]] => some (Ob.tt, AV.int .i64 (s_box_Check_0 a0_0 a0_1 a0_2 a0_3))
  | _ => none
theorem t_box_Check : ROkM Try.prog false (14, pureM S_box_Check) := ROkM.pure (N := 96) menv23_ok Try.func14 Try.call14 fun args o v h => by
  unfold S_box_Check at h
  split at h
  · rename_i a0_0 a0_1 a0_2 a0_3
    cases h
    exact ⟨rfl, rfl, _, e_box_Check a0_0 a0_1 a0_2 a0_3, fun _ => rfl⟩
  · cases h
noncomputable def mrs22 : List (FuncId × RFM) := (14, pureM S_box_Check) :: mrs21
noncomputable def menv24 : EnvM := mkEnvM mxs mrs22 mws2
theorem mrs22_ok : All (ROkM Try.prog false) mrs22 := All.cons t_box_Check mrs21_ok
theorem menv24_ok : menv24.Ok Try.prog false := mkEnvM_ok mxs_ok mrs22_ok mws2_ok
-- tumble/tumblelaw05.odds
noncomputable def s_law05_odds_0 : Bool := true
theorem e_law05_odds : outB (evFnM Try.prog false menv24 [] [] 96 Try.f47 [] []) = some ((true), AV.bool (s_law05_odds_0)) := by kernel_rfl
noncomputable def S_law05_odds : List AV → Option (Ob × AV)
  | [] => some (Ob.tt, AV.bool (s_law05_odds_0))
  | _ => none
theorem t_law05_odds : ROkM Try.prog false (47, pureM S_law05_odds) := ROkM.pure (N := 96) menv24_ok Try.func47 Try.call47 fun args o v h => by
  unfold S_law05_odds at h
  split at h
  · skip
    cases h
    exact ⟨rfl, rfl, _, e_law05_odds, fun _ => rfl⟩
  · cases h
noncomputable def mrs23 : List (FuncId × RFM) := (47, pureM S_law05_odds) :: mrs22
noncomputable def menv25 : EnvM := mkEnvM mxs mrs23 mws2
theorem mrs23_ok : All (ROkM Try.prog false) mrs23 := All.cons t_law05_odds mrs22_ok
theorem menv25_ok : menv25.Ok Try.prog false := mkEnvM_ok mxs_ok mrs23_ok mws2_ok
-- tumble/vec.Sub
noncomputable def s_vec_Sub_0 (a0_0 : Nat) (a0_1 : Nat) (a1_0 : Nat) (a1_1 : Nat) : Nat := (fsub a0_0 a1_0)
noncomputable def s_vec_Sub_1 (a0_0 : Nat) (a0_1 : Nat) (a1_0 : Nat) (a1_1 : Nat) : Nat := (fsub a0_1 a1_1)
theorem e_vec_Sub (a0_0 : Nat) (a0_1 : Nat) (a1_0 : Nat) (a1_1 : Nat) : outB (evFnM Try.prog false menv25 [] [] 96 Try.f59 [AV.agg [.float a0_0, .float a0_1], AV.agg [.float a1_0, .float a1_1]] []) = some ((true), AV.agg [AV.float (s_vec_Sub_0 a0_0 a0_1 a1_0 a1_1), AV.float (s_vec_Sub_1 a0_0 a0_1 a1_0 a1_1)]) := by kernel_rfl
noncomputable def S_vec_Sub : List AV → Option (Ob × AV)
  | [AV.agg [.float a0_0, .float a0_1], AV.agg [.float a1_0, .float a1_1]] => some (Ob.tt, AV.agg [AV.float (s_vec_Sub_0 a0_0 a0_1 a1_0 a1_1), AV.float (s_vec_Sub_1 a0_0 a0_1 a1_0 a1_1)])
  | _ => none
theorem t_vec_Sub : ROkM Try.prog false (59, pureM S_vec_Sub) := ROkM.pure (N := 96) menv25_ok Try.func59 Try.call59 fun args o v h => by
  unfold S_vec_Sub at h
  split at h
  · rename_i a0_0 a0_1 a1_0 a1_1
    cases h
    exact ⟨rfl, rfl, _, e_vec_Sub a0_0 a0_1 a1_0 a1_1, fun _ => rfl⟩
  · cases h
noncomputable def mrs24 : List (FuncId × RFM) := (59, pureM S_vec_Sub) :: mrs23
noncomputable def menv26 : EnvM := mkEnvM mxs mrs24 mws2
theorem mrs24_ok : All (ROkM Try.prog false) mrs24 := All.cons t_vec_Sub mrs23_ok
theorem menv26_ok : menv26.Ok Try.prog false := mkEnvM_ok mxs_ok mrs24_ok mws2_ok
-- tumble/box.Size
noncomputable def s_box_Size_0 (a0_0 : Nat) (a0_1 : Nat) (a0_2 : Nat) (a0_3 : Nat) : Nat := (fadd (s_vec_Sub_0 a0_2 a0_3 a0_0 a0_1) (s_vec_Sub_1 a0_2 a0_3 a0_0 a0_1))
theorem e_box_Size (a0_0 : Nat) (a0_1 : Nat) (a0_2 : Nat) (a0_3 : Nat) : outB (evFnM Try.prog false menv26 [] [] 96 Try.f31 [AV.agg [.float a0_0, .float a0_1, .float a0_2, .float a0_3]] []) = some ((true), AV.float (s_box_Size_0 a0_0 a0_1 a0_2 a0_3)) := by kernel_rfl
noncomputable def S_box_Size : List AV → Option (Ob × AV)
  | [AV.agg [.float a0_0, .float a0_1, .float a0_2, .float a0_3]] => some (Ob.tt, AV.float (s_box_Size_0 a0_0 a0_1 a0_2 a0_3))
  | _ => none
theorem t_box_Size : ROkM Try.prog false (31, pureM S_box_Size) := ROkM.pure (N := 96) menv26_ok Try.func31 Try.call31 fun args o v h => by
  unfold S_box_Size at h
  split at h
  · rename_i a0_0 a0_1 a0_2 a0_3
    cases h
    exact ⟨rfl, rfl, _, e_box_Size a0_0 a0_1 a0_2 a0_3, fun _ => rfl⟩
  · cases h
noncomputable def mrs25 : List (FuncId × RFM) := (31, pureM S_box_Size) :: mrs24
noncomputable def menv27 : EnvM := mkEnvM mxs mrs25 mws2
theorem mrs25_ok : All (ROkM Try.prog false) mrs25 := All.cons t_box_Size mrs24_ok
theorem menv27_ok : menv27.Ok Try.prog false := mkEnvM_ok mxs_ok mrs25_ok mws2_ok
-- tumble/tumblelaw05.alive
noncomputable def s_law05_alive_0 : Bool := true
theorem e_law05_alive : outB (evFnM Try.prog false menv27 [] [] 96 Try.f10 [] []) = some ((true), AV.bool (s_law05_alive_0)) := by kernel_rfl
noncomputable def S_law05_alive : List AV → Option (Ob × AV)
  | [] => some (Ob.tt, AV.bool (s_law05_alive_0))
  | _ => none
theorem t_law05_alive : ROkM Try.prog false (10, pureM S_law05_alive) := ROkM.pure (N := 96) menv27_ok Try.func10 Try.call10 fun args o v h => by
  unfold S_law05_alive at h
  split at h
  · skip
    cases h
    exact ⟨rfl, rfl, _, e_law05_alive, fun _ => rfl⟩
  · cases h
noncomputable def mrs26 : List (FuncId × RFM) := (10, pureM S_law05_alive) :: mrs25
noncomputable def menv28 : EnvM := mkEnvM mxs mrs26 mws2
theorem mrs26_ok : All (ROkM Try.prog false) mrs26 := All.cons t_law05_alive mrs25_ok
theorem menv28_ok : menv28.Ok Try.prog false := mkEnvM_ok mxs_ok mrs26_ok mws2_ok
-- tumble/num.Within[float64]
noncomputable def s_num_Within_float64__0 (a0_0 : Nat) (a1_0 : Nat) : Bool := ((fle (fneg a1_0) a0_0) && (fle a0_0 a1_0))
theorem e_num_Within_float64_ (a0_0 : Nat) (a1_0 : Nat) : outB (evFnM Try.prog false menv28 [] [] 96 Try.f63 [AV.float a0_0, AV.float a1_0] []) = some ((true), AV.bool (s_num_Within_float64__0 a0_0 a1_0)) := by kernel_rfl
noncomputable def S_num_Within_float64_ : List AV → Option (Ob × AV)
  | [AV.float a0_0, AV.float a1_0] => some (Ob.tt, AV.bool (s_num_Within_float64__0 a0_0 a1_0))
  | _ => none
theorem t_num_Within_float64_ : ROkM Try.prog false (63, pureM S_num_Within_float64_) := ROkM.pure (N := 96) menv28_ok Try.func63 Try.call63 fun args o v h => by
  unfold S_num_Within_float64_ at h
  split at h
  · rename_i a0_0 a1_0
    cases h
    exact ⟨rfl, rfl, _, e_num_Within_float64_ a0_0 a1_0, fun _ => rfl⟩
  · cases h
noncomputable def mrs27 : List (FuncId × RFM) := (63, pureM S_num_Within_float64_) :: mrs26
noncomputable def menv29 : EnvM := mkEnvM mxs mrs27 mws2
theorem mrs27_ok : All (ROkM Try.prog false) mrs27 := All.cons t_num_Within_float64_ mrs26_ok
theorem menv29_ok : menv29.Ok Try.prog false := mkEnvM_ok mxs_ok mrs27_ok mws2_ok
-- tumble/vec.Within
noncomputable def s_vec_Within_0 (a0_0 : Nat) (a0_1 : Nat) (a1_0 : Nat) : Bool := ((s_num_Within_float64__0 a0_0 a1_0) && (s_num_Within_float64__0 a0_1 a1_0))
theorem e_vec_Within (a0_0 : Nat) (a0_1 : Nat) (a1_0 : Nat) : outB (evFnM Try.prog false menv29 [] [] 96 Try.f39 [AV.agg [.float a0_0, .float a0_1], AV.float a1_0] []) = some ((true), AV.bool (s_vec_Within_0 a0_0 a0_1 a1_0)) := by kernel_rfl
noncomputable def S_vec_Within : List AV → Option (Ob × AV)
  | [AV.agg [.float a0_0, .float a0_1], AV.float a1_0] => some (Ob.tt, AV.bool (s_vec_Within_0 a0_0 a0_1 a1_0))
  | _ => none
theorem t_vec_Within : ROkM Try.prog false (39, pureM S_vec_Within) := ROkM.pure (N := 96) menv29_ok Try.func39 Try.call39 fun args o v h => by
  unfold S_vec_Within at h
  split at h
  · rename_i a0_0 a0_1 a1_0
    cases h
    exact ⟨rfl, rfl, _, e_vec_Within a0_0 a0_1 a1_0, fun _ => rfl⟩
  · cases h
noncomputable def mrs28 : List (FuncId × RFM) := (39, pureM S_vec_Within) :: mrs27
noncomputable def menv30 : EnvM := mkEnvM mxs mrs28 mws2
theorem mrs28_ok : All (ROkM Try.prog false) mrs28 := All.cons t_vec_Within mrs27_ok
theorem menv30_ok : menv30.Ok Try.prog false := mkEnvM_ok mxs_ok mrs28_ok mws2_ok
-- math.Abs
noncomputable def S_math_Abs : List AV → Option AV
  | [AV.float a] => some (AV.float (fabs a))
  | _ => none
theorem t_math_Abs : ROk Try.prog false (64, pureF S_math_Abs) := exact1f (N := 64) xenv_ok Try.func64 Try.call64 fabs (fun args v h => by
    unfold S_math_Abs at h
    split at h
    · cases h; exact ⟨_, rfl, rfl⟩
    · cases h) fun b hb => ⟨_, by refine Eq.trans ?_ (abs_tree hb); kernel_rfl, (fabs_cn b).symm⟩
noncomputable def mrs29 : List (FuncId × RFM) := (64, pureM fun args => match S_math_Abs args with | some v => some (.tt, v) | none => none) :: mrs28
noncomputable def menv31 : EnvM := mkEnvM mxs mrs29 mws2
theorem mrs29_ok : All (ROkM Try.prog false) mrs29 := All.cons t_math_Abs.toM mrs28_ok
theorem menv31_ok : menv31.Ok Try.prog false := mkEnvM_ok mxs_ok mrs29_ok mws2_ok
-- tumble/tumblelaw05.small
noncomputable def s_law05_small_0 (a0_0 : Nat) : Bool := ((feq a0_0 0) || ((fle 4517110426252607488 (fabs a0_0)) && (fle (fabs a0_0) 4697254411347427328)))
theorem e_law05_small (a0_0 : Nat) : outB (evFnM Try.prog false menv31 [] [] 96 Try.f40 [AV.float a0_0] []) = some ((true), AV.bool (s_law05_small_0 a0_0)) := by kernel_rfl
noncomputable def S_law05_small : List AV → Option (Ob × AV)
  | [AV.float a0_0] => some (Ob.tt, AV.bool (s_law05_small_0 a0_0))
  | _ => none
theorem t_law05_small : ROkM Try.prog false (40, pureM S_law05_small) := ROkM.pure (N := 96) menv31_ok Try.func40 Try.call40 fun args o v h => by
  unfold S_law05_small at h
  split at h
  · rename_i a0_0
    cases h
    exact ⟨rfl, rfl, _, e_law05_small a0_0, fun _ => rfl⟩
  · cases h
noncomputable def mrs30 : List (FuncId × RFM) := (40, pureM S_law05_small) :: mrs29
noncomputable def menv32 : EnvM := mkEnvM mxs mrs30 mws2
theorem mrs30_ok : All (ROkM Try.prog false) mrs30 := All.cons t_law05_small mrs29_ok
theorem menv32_ok : menv32.Ok Try.prog false := mkEnvM_ok mxs_ok mrs30_ok mws2_ok
-- tumble/vec.Add
noncomputable def s_vec_Add_0 (a0_0 : Nat) (a0_1 : Nat) (a1_0 : Nat) (a1_1 : Nat) : Nat := (fadd a0_0 a1_0)
noncomputable def s_vec_Add_1 (a0_0 : Nat) (a0_1 : Nat) (a1_0 : Nat) (a1_1 : Nat) : Nat := (fadd a0_1 a1_1)
theorem e_vec_Add (a0_0 : Nat) (a0_1 : Nat) (a1_0 : Nat) (a1_1 : Nat) : outB (evFnM Try.prog false menv32 [] [] 96 Try.f60 [AV.agg [.float a0_0, .float a0_1], AV.agg [.float a1_0, .float a1_1]] []) = some ((true), AV.agg [AV.float (s_vec_Add_0 a0_0 a0_1 a1_0 a1_1), AV.float (s_vec_Add_1 a0_0 a0_1 a1_0 a1_1)]) := by kernel_rfl
noncomputable def S_vec_Add : List AV → Option (Ob × AV)
  | [AV.agg [.float a0_0, .float a0_1], AV.agg [.float a1_0, .float a1_1]] => some (Ob.tt, AV.agg [AV.float (s_vec_Add_0 a0_0 a0_1 a1_0 a1_1), AV.float (s_vec_Add_1 a0_0 a0_1 a1_0 a1_1)])
  | _ => none
theorem t_vec_Add : ROkM Try.prog false (60, pureM S_vec_Add) := ROkM.pure (N := 96) menv32_ok Try.func60 Try.call60 fun args o v h => by
  unfold S_vec_Add at h
  split at h
  · rename_i a0_0 a0_1 a1_0 a1_1
    cases h
    exact ⟨rfl, rfl, _, e_vec_Add a0_0 a0_1 a1_0 a1_1, fun _ => rfl⟩
  · cases h
noncomputable def mrs31 : List (FuncId × RFM) := (60, pureM S_vec_Add) :: mrs30
noncomputable def menv33 : EnvM := mkEnvM mxs mrs31 mws2
theorem mrs31_ok : All (ROkM Try.prog false) mrs31 := All.cons t_vec_Add mrs30_ok
theorem menv33_ok : menv33.Ok Try.prog false := mkEnvM_ok mxs_ok mrs31_ok mws2_ok
-- tumble/box.Grow
noncomputable def s_box_Grow_0 (a0_0 : Nat) (a0_1 : Nat) (a0_2 : Nat) (a0_3 : Nat) (a1_0 : Nat) : Nat := (s_vec_Sub_0 a0_0 a0_1 a1_0 a1_0)
noncomputable def s_box_Grow_1 (a0_0 : Nat) (a0_1 : Nat) (a0_2 : Nat) (a0_3 : Nat) (a1_0 : Nat) : Nat := (s_vec_Sub_1 a0_0 a0_1 a1_0 a1_0)
noncomputable def s_box_Grow_2 (a0_0 : Nat) (a0_1 : Nat) (a0_2 : Nat) (a0_3 : Nat) (a1_0 : Nat) : Nat := (s_vec_Add_0 a0_2 a0_3 a1_0 a1_0)
noncomputable def s_box_Grow_3 (a0_0 : Nat) (a0_1 : Nat) (a0_2 : Nat) (a0_3 : Nat) (a1_0 : Nat) : Nat := (s_vec_Add_1 a0_2 a0_3 a1_0 a1_0)
theorem e_box_Grow (a0_0 : Nat) (a0_1 : Nat) (a0_2 : Nat) (a0_3 : Nat) (a1_0 : Nat) : outB (evFnM Try.prog false menv33 [] [] 96 Try.f27 [AV.agg [.float a0_0, .float a0_1, .float a0_2, .float a0_3], AV.float a1_0] []) = some ((true), AV.agg [AV.float (s_box_Grow_0 a0_0 a0_1 a0_2 a0_3 a1_0), AV.float (s_box_Grow_1 a0_0 a0_1 a0_2 a0_3 a1_0), AV.float (s_box_Grow_2 a0_0 a0_1 a0_2 a0_3 a1_0), AV.float (s_box_Grow_3 a0_0 a0_1 a0_2 a0_3 a1_0)]) := by kernel_rfl
noncomputable def S_box_Grow : List AV → Option (Ob × AV)
  | [AV.agg [.float a0_0, .float a0_1, .float a0_2, .float a0_3], AV.float a1_0] => some (Ob.tt, AV.agg [AV.float (s_box_Grow_0 a0_0 a0_1 a0_2 a0_3 a1_0), AV.float (s_box_Grow_1 a0_0 a0_1 a0_2 a0_3 a1_0), AV.float (s_box_Grow_2 a0_0 a0_1 a0_2 a0_3 a1_0), AV.float (s_box_Grow_3 a0_0 a0_1 a0_2 a0_3 a1_0)])
  | _ => none
theorem t_box_Grow : ROkM Try.prog false (27, pureM S_box_Grow) := ROkM.pure (N := 96) menv33_ok Try.func27 Try.call27 fun args o v h => by
  unfold S_box_Grow at h
  split at h
  · rename_i a0_0 a0_1 a0_2 a0_3 a1_0
    cases h
    exact ⟨rfl, rfl, _, e_box_Grow a0_0 a0_1 a0_2 a0_3 a1_0, fun _ => rfl⟩
  · cases h
noncomputable def mrs32 : List (FuncId × RFM) := (27, pureM S_box_Grow) :: mrs31
noncomputable def menv34 : EnvM := mkEnvM mxs mrs32 mws2
theorem mrs32_ok : All (ROkM Try.prog false) mrs32 := All.cons t_box_Grow mrs31_ok
theorem menv34_ok : menv34.Ok Try.prog false := mkEnvM_ok mxs_ok mrs32_ok mws2_ok
-- tumble/vec.More
noncomputable def s_vec_More_0 (a0_0 : Nat) (a0_1 : Nat) (a1_0 : Nat) (a2_0 : Nat) (a2_1 : Nat) : Nat := (fadd a0_0 (fmul a1_0 a2_0))
noncomputable def s_vec_More_1 (a0_0 : Nat) (a0_1 : Nat) (a1_0 : Nat) (a2_0 : Nat) (a2_1 : Nat) : Nat := (fadd a0_1 (fmul a1_0 a2_1))
theorem e_vec_More (a0_0 : Nat) (a0_1 : Nat) (a1_0 : Nat) (a2_0 : Nat) (a2_1 : Nat) : outB (evFnM Try.prog false menv34 [] [] 96 Try.f41 [AV.agg [.float a0_0, .float a0_1], AV.float a1_0, AV.agg [.float a2_0, .float a2_1]] []) = some ((true), AV.agg [AV.float (s_vec_More_0 a0_0 a0_1 a1_0 a2_0 a2_1), AV.float (s_vec_More_1 a0_0 a0_1 a1_0 a2_0 a2_1)]) := by kernel_rfl
noncomputable def S_vec_More : List AV → Option (Ob × AV)
  | [AV.agg [.float a0_0, .float a0_1], AV.float a1_0, AV.agg [.float a2_0, .float a2_1]] => some (Ob.tt, AV.agg [AV.float (s_vec_More_0 a0_0 a0_1 a1_0 a2_0 a2_1), AV.float (s_vec_More_1 a0_0 a0_1 a1_0 a2_0 a2_1)])
  | _ => none
theorem t_vec_More : ROkM Try.prog false (41, pureM S_vec_More) := ROkM.pure (N := 96) menv34_ok Try.func41 Try.call41 fun args o v h => by
  unfold S_vec_More at h
  split at h
  · rename_i a0_0 a0_1 a1_0 a2_0 a2_1
    cases h
    exact ⟨rfl, rfl, _, e_vec_More a0_0 a0_1 a1_0 a2_0 a2_1, fun _ => rfl⟩
  · cases h
noncomputable def mrs33 : List (FuncId × RFM) := (41, pureM S_vec_More) :: mrs32
noncomputable def menv35 : EnvM := mkEnvM mxs mrs33 mws2
theorem mrs33_ok : All (ROkM Try.prog false) mrs33 := All.cons t_vec_More mrs32_ok
theorem menv35_ok : menv35.Ok Try.prog false := mkEnvM_ok mxs_ok mrs33_ok mws2_ok
-- tumble/tumblelaw05.BoxEnters
noncomputable def T_law05_BoxEnters (a0_0 : Nat) (a0_1 : Nat) (a0_2 : Nat) (a0_3 : Nat) (a1_0 : Nat) (a1_1 : Nat) (a2_0 : Nat) (a2_1 : Nat) : Bool := let x0 : Nat := (s_box_Grow_3 a0_0 a0_1 a0_2 a0_3 13740482463107383296); let x1 : Nat := (s_box_Grow_2 a0_0 a0_1 a0_2 a0_3 13740482463107383296); let x2 : Nat := (s_box_Grow_1 a0_0 a0_1 a0_2 a0_3 13740482463107383296); let x3 : Nat := (s_box_Grow_0 a0_0 a0_1 a0_2 a0_3 13740482463107383296); let x4 : Bool := (s_box_Has_0 x3 x2 x1 x0 (s_vec_More_0 a1_0 a1_1 4606971312567484416 a2_0 a2_1) (s_vec_More_1 a1_0 a1_1 4606971312567484416 a2_0 a2_1)); let x5 : Bool := (s_box_Has_0 x3 x2 x1 x0 (s_vec_More_0 a1_0 a1_1 4606830575079129088 a2_0 a2_1) (s_vec_More_1 a1_0 a1_1 4606830575079129088 a2_0 a2_1)); let x6 : Bool := (s_box_Has_0 x3 x2 x1 x0 (s_vec_More_0 a1_0 a1_1 4606689837590773760 a2_0 a2_1) (s_vec_More_1 a1_0 a1_1 4606689837590773760 a2_0 a2_1)); let x7 : Bool := (s_box_Has_0 x3 x2 x1 x0 (s_vec_More_0 a1_0 a1_1 4606549100102418432 a2_0 a2_1) (s_vec_More_1 a1_0 a1_1 4606549100102418432 a2_0 a2_1)); let x8 : Bool := (s_box_Has_0 x3 x2 x1 x0 (s_vec_More_0 a1_0 a1_1 4606408362614063104 a2_0 a2_1) (s_vec_More_1 a1_0 a1_1 4606408362614063104 a2_0 a2_1)); let x9 : Bool := (s_box_Has_0 x3 x2 x1 x0 (s_vec_More_0 a1_0 a1_1 4606267625125707776 a2_0 a2_1) (s_vec_More_1 a1_0 a1_1 4606267625125707776 a2_0 a2_1)); let x10 : Bool := (s_box_Has_0 x3 x2 x1 x0 (s_vec_More_0 a1_0 a1_1 4606126887637352448 a2_0 a2_1) (s_vec_More_1 a1_0 a1_1 4606126887637352448 a2_0 a2_1)); let x11 : Bool := (s_box_Has_0 x3 x2 x1 x0 (s_vec_More_0 a1_0 a1_1 4605986150148997120 a2_0 a2_1) (s_vec_More_1 a1_0 a1_1 4605986150148997120 a2_0 a2_1)); let x12 : Bool := (s_box_Has_0 x3 x2 x1 x0 (s_vec_More_0 a1_0 a1_1 4605845412660641792 a2_0 a2_1) (s_vec_More_1 a1_0 a1_1 4605845412660641792 a2_0 a2_1)); let x13 : Bool := (s_box_Has_0 x3 x2 x1 x0 (s_vec_More_0 a1_0 a1_1 4605704675172286464 a2_0 a2_1) (s_vec_More_1 a1_0 a1_1 4605704675172286464 a2_0 a2_1)); let x14 : Bool := (s_box_Has_0 x3 x2 x1 x0 (s_vec_More_0 a1_0 a1_1 4605563937683931136 a2_0 a2_1) (s_vec_More_1 a1_0 a1_1 4605563937683931136 a2_0 a2_1)); let x15 : Bool := (s_box_Has_0 x3 x2 x1 x0 (s_vec_More_0 a1_0 a1_1 4605423200195575808 a2_0 a2_1) (s_vec_More_1 a1_0 a1_1 4605423200195575808 a2_0 a2_1)); let x16 : Bool := (s_box_Has_0 x3 x2 x1 x0 (s_vec_More_0 a1_0 a1_1 4605282462707220480 a2_0 a2_1) (s_vec_More_1 a1_0 a1_1 4605282462707220480 a2_0 a2_1)); let x17 : Bool := (s_box_Has_0 x3 x2 x1 x0 (s_vec_More_0 a1_0 a1_1 4605141725218865152 a2_0 a2_1) (s_vec_More_1 a1_0 a1_1 4605141725218865152 a2_0 a2_1)); let x18 : Bool := (s_box_Has_0 x3 x2 x1 x0 (s_vec_More_0 a1_0 a1_1 4605000987730509824 a2_0 a2_1) (s_vec_More_1 a1_0 a1_1 4605000987730509824 a2_0 a2_1)); let x19 : Bool := (s_box_Has_0 x3 x2 x1 x0 (s_vec_More_0 a1_0 a1_1 4604860250242154496 a2_0 a2_1) (s_vec_More_1 a1_0 a1_1 4604860250242154496 a2_0 a2_1)); let x20 : Bool := (s_box_Has_0 x3 x2 x1 x0 (s_vec_More_0 a1_0 a1_1 4604719512753799168 a2_0 a2_1) (s_vec_More_1 a1_0 a1_1 4604719512753799168 a2_0 a2_1)); let x21 : Bool := (s_box_Has_0 x3 x2 x1 x0 (s_vec_More_0 a1_0 a1_1 4604578775265443840 a2_0 a2_1) (s_vec_More_1 a1_0 a1_1 4604578775265443840 a2_0 a2_1)); let x22 : Bool := (s_box_Has_0 x3 x2 x1 x0 (s_vec_More_0 a1_0 a1_1 4604438037777088512 a2_0 a2_1) (s_vec_More_1 a1_0 a1_1 4604438037777088512 a2_0 a2_1)); let x23 : Bool := (s_box_Has_0 x3 x2 x1 x0 (s_vec_More_0 a1_0 a1_1 4604297300288733184 a2_0 a2_1) (s_vec_More_1 a1_0 a1_1 4604297300288733184 a2_0 a2_1)); let x24 : Bool := (s_box_Has_0 x3 x2 x1 x0 (s_vec_More_0 a1_0 a1_1 4604156562800377856 a2_0 a2_1) (s_vec_More_1 a1_0 a1_1 4604156562800377856 a2_0 a2_1)); let x25 : Bool := (s_box_Has_0 x3 x2 x1 x0 (s_vec_More_0 a1_0 a1_1 4604015825312022528 a2_0 a2_1) (s_vec_More_1 a1_0 a1_1 4604015825312022528 a2_0 a2_1)); let x26 : Bool := (s_box_Has_0 x3 x2 x1 x0 (s_vec_More_0 a1_0 a1_1 4603875087823667200 a2_0 a2_1) (s_vec_More_1 a1_0 a1_1 4603875087823667200 a2_0 a2_1)); let x27 : Bool := (s_box_Has_0 x3 x2 x1 x0 (s_vec_More_0 a1_0 a1_1 4603734350335311872 a2_0 a2_1) (s_vec_More_1 a1_0 a1_1 4603734350335311872 a2_0 a2_1)); let x28 : Bool := (s_box_Has_0 x3 x2 x1 x0 (s_vec_More_0 a1_0 a1_1 4603593612846956544 a2_0 a2_1) (s_vec_More_1 a1_0 a1_1 4603593612846956544 a2_0 a2_1)); let x29 : Bool := (s_box_Has_0 x3 x2 x1 x0 (s_vec_More_0 a1_0 a1_1 4603452875358601216 a2_0 a2_1) (s_vec_More_1 a1_0 a1_1 4603452875358601216 a2_0 a2_1)); let x30 : Bool := (s_box_Has_0 x3 x2 x1 x0 (s_vec_More_0 a1_0 a1_1 4603312137870245888 a2_0 a2_1) (s_vec_More_1 a1_0 a1_1 4603312137870245888 a2_0 a2_1)); let x31 : Bool := (s_box_Has_0 x3 x2 x1 x0 (s_vec_More_0 a1_0 a1_1 4603171400381890560 a2_0 a2_1) (s_vec_More_1 a1_0 a1_1 4603171400381890560 a2_0 a2_1)); let x32 : Bool := (s_box_Has_0 x3 x2 x1 x0 (s_vec_More_0 a1_0 a1_1 4603030662893535232 a2_0 a2_1) (s_vec_More_1 a1_0 a1_1 4603030662893535232 a2_0 a2_1)); let x33 : Bool := (s_box_Has_0 x3 x2 x1 x0 (s_vec_More_0 a1_0 a1_1 4602889925405179904 a2_0 a2_1) (s_vec_More_1 a1_0 a1_1 4602889925405179904 a2_0 a2_1)); let x34 : Bool := (s_box_Has_0 x3 x2 x1 x0 (s_vec_More_0 a1_0 a1_1 4602749187916824576 a2_0 a2_1) (s_vec_More_1 a1_0 a1_1 4602749187916824576 a2_0 a2_1)); let x35 : Bool := (s_box_Has_0 x3 x2 x1 x0 (s_vec_More_0 a1_0 a1_1 4602538081684291584 a2_0 a2_1) (s_vec_More_1 a1_0 a1_1 4602538081684291584 a2_0 a2_1)); let x36 : Bool := (s_box_Has_0 x3 x2 x1 x0 (s_vec_More_0 a1_0 a1_1 4602256606707580928 a2_0 a2_1) (s_vec_More_1 a1_0 a1_1 4602256606707580928 a2_0 a2_1)); let x37 : Bool := (s_box_Has_0 x3 x2 x1 x0 (s_vec_More_0 a1_0 a1_1 4601975131730870272 a2_0 a2_1) (s_vec_More_1 a1_0 a1_1 4601975131730870272 a2_0 a2_1)); let x38 : Bool := (s_box_Has_0 x3 x2 x1 x0 (s_vec_More_0 a1_0 a1_1 4601693656754159616 a2_0 a2_1) (s_vec_More_1 a1_0 a1_1 4601693656754159616 a2_0 a2_1)); let x39 : Bool := (s_box_Has_0 x3 x2 x1 x0 (s_vec_More_0 a1_0 a1_1 4601412181777448960 a2_0 a2_1) (s_vec_More_1 a1_0 a1_1 4601412181777448960 a2_0 a2_1)); let x40 : Bool := (s_box_Has_0 x3 x2 x1 x0 (s_vec_More_0 a1_0 a1_1 4601130706800738304 a2_0 a2_1) (s_vec_More_1 a1_0 a1_1 4601130706800738304 a2_0 a2_1)); let x41 : Bool := (s_box_Has_0 x3 x2 x1 x0 (s_vec_More_0 a1_0 a1_1 4600849231824027648 a2_0 a2_1) (s_vec_More_1 a1_0 a1_1 4600849231824027648 a2_0 a2_1)); let x42 : Bool := (s_box_Has_0 x3 x2 x1 x0 (s_vec_More_0 a1_0 a1_1 4600567756847316992 a2_0 a2_1) (s_vec_More_1 a1_0 a1_1 4600567756847316992 a2_0 a2_1)); let x43 : Bool := (s_box_Has_0 x3 x2 x1 x0 (s_vec_More_0 a1_0 a1_1 4600286281870606336 a2_0 a2_1) (s_vec_More_1 a1_0 a1_1 4600286281870606336 a2_0 a2_1)); let x44 : Bool := (s_box_Has_0 x3 x2 x1 x0 (s_vec_More_0 a1_0 a1_1 4600004806893895680 a2_0 a2_1) (s_vec_More_1 a1_0 a1_1 4600004806893895680 a2_0 a2_1)); let x45 : Bool := (s_box_Has_0 x3 x2 x1 x0 (s_vec_More_0 a1_0 a1_1 4599723331917185024 a2_0 a2_1) (s_vec_More_1 a1_0 a1_1 4599723331917185024 a2_0 a2_1)); let x46 : Bool := (s_box_Has_0 x3 x2 x1 x0 (s_vec_More_0 a1_0 a1_1 4599441856940474368 a2_0 a2_1) (s_vec_More_1 a1_0 a1_1 4599441856940474368 a2_0 a2_1)); let x47 : Bool := (s_box_Has_0 x3 x2 x1 x0 (s_vec_More_0 a1_0 a1_1 4599160381963763712 a2_0 a2_1) (s_vec_More_1 a1_0 a1_1 4599160381963763712 a2_0 a2_1)); let x48 : Bool := (s_box_Has_0 x3 x2 x1 x0 (s_vec_More_0 a1_0 a1_1 4598878906987053056 a2_0 a2_1) (s_vec_More_1 a1_0 a1_1 4598878906987053056 a2_0 a2_1)); let x49 : Bool := (s_box_Has_0 x3 x2 x1 x0 (s_vec_More_0 a1_0 a1_1 4598597432010342400 a2_0 a2_1) (s_vec_More_1 a1_0 a1_1 4598597432010342400 a2_0 a2_1)); let x50 : Bool := (s_box_Has_0 x3 x2 x1 x0 (s_vec_More_0 a1_0 a1_1 4598315957033631744 a2_0 a2_1) (s_vec_More_1 a1_0 a1_1 4598315957033631744 a2_0 a2_1)); let x51 : Bool := (s_box_Has_0 x3 x2 x1 x0 (s_vec_More_0 a1_0 a1_1 4597893744568565760 a2_0 a2_1) (s_vec_More_1 a1_0 a1_1 4597893744568565760 a2_0 a2_1)); let x52 : Bool := (s_box_Has_0 x3 x2 x1 x0 (s_vec_More_0 a1_0 a1_1 4597330794615144448 a2_0 a2_1) (s_vec_More_1 a1_0 a1_1 4597330794615144448 a2_0 a2_1)); let x53 : Bool := (s_box_Has_0 x3 x2 x1 x0 (s_vec_More_0 a1_0 a1_1 4596767844661723136 a2_0 a2_1) (s_vec_More_1 a1_0 a1_1 4596767844661723136 a2_0 a2_1)); let x54 : Bool := (s_box_Has_0 x3 x2 x1 x0 (s_vec_More_0 a1_0 a1_1 4596204894708301824 a2_0 a2_1) (s_vec_More_1 a1_0 a1_1 4596204894708301824 a2_0 a2_1)); let x55 : Bool := (s_box_Has_0 x3 x2 x1 x0 (s_vec_More_0 a1_0 a1_1 4595641944754880512 a2_0 a2_1) (s_vec_More_1 a1_0 a1_1 4595641944754880512 a2_0 a2_1)); let x56 : Bool := (s_box_Has_0 x3 x2 x1 x0 (s_vec_More_0 a1_0 a1_1 4595078994801459200 a2_0 a2_1) (s_vec_More_1 a1_0 a1_1 4595078994801459200 a2_0 a2_1)); let x57 : Bool := (s_box_Has_0 x3 x2 x1 x0 (s_vec_More_0 a1_0 a1_1 4594516044848037888 a2_0 a2_1) (s_vec_More_1 a1_0 a1_1 4594516044848037888 a2_0 a2_1)); let x58 : Bool := (s_box_Has_0 x3 x2 x1 x0 (s_vec_More_0 a1_0 a1_1 4593953094894616576 a2_0 a2_1) (s_vec_More_1 a1_0 a1_1 4593953094894616576 a2_0 a2_1)); let x59 : Bool := (s_box_Has_0 x3 x2 x1 x0 (s_vec_More_0 a1_0 a1_1 4593108669964484608 a2_0 a2_1) (s_vec_More_1 a1_0 a1_1 4593108669964484608 a2_0 a2_1)); let x60 : Bool := (s_box_Has_0 x3 x2 x1 x0 (s_vec_More_0 a1_0 a1_1 4591982770057641984 a2_0 a2_1) (s_vec_More_1 a1_0 a1_1 4591982770057641984 a2_0 a2_1)); let x61 : Bool := (s_box_Has_0 x3 x2 x1 x0 (s_vec_More_0 a1_0 a1_1 4590856870150799360 a2_0 a2_1) (s_vec_More_1 a1_0 a1_1 4590856870150799360 a2_0 a2_1)); let x62 : Bool := (s_box_Has_0 x3 x2 x1 x0 (s_vec_More_0 a1_0 a1_1 4589730970243956736 a2_0 a2_1) (s_vec_More_1 a1_0 a1_1 4589730970243956736 a2_0 a2_1)); let x63 : Bool := (s_box_Has_0 x3 x2 x1 x0 (s_vec_More_0 a1_0 a1_1 4588042120383692800 a2_0 a2_1) (s_vec_More_1 a1_0 a1_1 4588042120383692800 a2_0 a2_1)); let x64 : Bool := (s_box_Has_0 x3 x2 x1 x0 (s_vec_More_0 a1_0 a1_1 4585790320570007552 a2_0 a2_1) (s_vec_More_1 a1_0 a1_1 4585790320570007552 a2_0 a2_1)); let x65 : Bool := (s_box_Has_0 x3 x2 x1 x0 (s_vec_More_0 a1_0 a1_1 4582412620849479680 a2_0 a2_1) (s_vec_More_1 a1_0 a1_1 4582412620849479680 a2_0 a2_1)); let x66 : Bool := (s_box_Has_0 x3 x2 x1 x0 (s_vec_More_0 a1_0 a1_1 4575657221408423936 a2_0 a2_1) (s_vec_More_1 a1_0 a1_1 4575657221408423936 a2_0 a2_1)); let x67 : Nat := (s_box_Ray_0 a0_0 a0_1 a0_2 a0_3 a1_0 a1_1 a2_0 a2_1); let x68 : Bool := (s_box_Ray_1 a0_0 a0_1 a0_2 a0_3 a1_0 a1_1 a2_0 a2_1); (((((((!(ieq (s_box_Check_0 a0_0 a0_1 a0_2 a0_3) (0 : Int))) || (!(s_vec_Within_0 a0_0 a0_1 4697254411347427328))) || (!(s_vec_Within_0 a0_2 a0_3 4697254411347427328))) || (!(s_vec_Within_0 a1_0 a1_1 4697254411347427328))) || (!(s_law05_small_0 a2_0))) || (!(s_law05_small_0 a2_1))) || (bif ((((!(feq x67 x67)) || (flt x67 0)) || (flt 4607182418800017408 x67)) || ((!x68) && (!(feq x67 0)))) then false else (bif x68 then (s_box_Has_0 (s_box_Grow_0 a0_0 a0_1 a0_2 a0_3 4517110426252607488) (s_box_Grow_1 a0_0 a0_1 a0_2 a0_3 4517110426252607488) (s_box_Grow_2 a0_0 a0_1 a0_2 a0_3 4517110426252607488) (s_box_Grow_3 a0_0 a0_1 a0_2 a0_3 4517110426252607488) (s_vec_More_0 a1_0 a1_1 x67 a2_0 a2_1) (s_vec_More_1 a1_0 a1_1 x67 a2_0 a2_1)) else (bif (x66 || (x65 || (x64 || (x63 || (x62 || (x61 || (x60 || (x59 || (x58 || (x57 || (x56 || (x55 || (x54 || (x53 || (x52 || (x51 || (x50 || (x49 || (x48 || (x47 || (x46 || (x45 || (x44 || (x43 || (x42 || (x41 || (x40 || (x39 || (x38 || (x37 || (x36 || (x35 || (x34 || (x33 || (x32 || (x31 || (x30 || (x29 || (x28 || (x27 || (x26 || (x25 || (x24 || (x23 || (x22 || (x21 || (x20 || (x19 || (x18 || (x17 || (x16 || (x15 || (x14 || (x13 || (x12 || (x11 || (x10 || (x9 || (x8 || (x7 || (x6 || (x5 || (x4 || (s_box_Has_0 x3 x2 x1 x0 (s_vec_More_0 a1_0 a1_1 4607112050055839744 a2_0 a2_1) (s_vec_More_1 a1_0 a1_1 4607112050055839744 a2_0 a2_1))))))))))))))))))))))))))))))))))))))))))))))))))))))))))))))))) then (bif x66 then false else (bif x65 then false else (bif x64 then false else (bif x63 then false else (bif x62 then false else (bif x61 then false else (bif x60 then false else (bif x59 then false else (bif x58 then false else (bif x57 then false else (bif x56 then false else (bif x55 then false else (bif x54 then false else (bif x53 then false else (bif x52 then false else (bif x51 then false else (bif x50 then false else (bif x49 then false else (bif x48 then false else (bif x47 then false else (bif x46 then false else (bif x45 then false else (bif x44 then false else (bif x43 then false else (bif x42 then false else (bif x41 then false else (bif x40 then false else (bif x39 then false else (bif x38 then false else (bif x37 then false else (bif x36 then false else (bif x35 then false else (bif x34 then false else (bif x33 then false else (bif x32 then false else (bif x31 then false else (bif x30 then false else (bif x29 then false else (bif x28 then false else (bif x27 then false else (bif x26 then false else (bif x25 then false else (bif x24 then false else (bif x23 then false else (bif x22 then false else (bif x21 then false else (bif x20 then false else (bif x19 then false else (bif x18 then false else (bif x17 then false else (bif x16 then false else (bif x15 then false else (bif x14 then false else (bif x13 then false else (bif x12 then false else (bif x11 then false else (bif x10 then false else (bif x9 then false else (bif x8 then false else (bif x7 then false else (bif x6 then false else (bif x5 then false else (x4 && false))))))))))))))))))))))))))))))))))))))))))))))))))))))))))))))) else true))))
noncomputable def O_law05_BoxEnters (a0_0 : Nat) (a0_1 : Nat) (a0_2 : Nat) (a0_3 : Nat) (a1_0 : Nat) (a1_1 : Nat) (a2_0 : Nat) (a2_1 : Nat) : Bool := true
theorem tree_law05_BoxEnters (a0_0 : Nat) (a0_1 : Nat) (a0_2 : Nat) (a0_3 : Nat) (a1_0 : Nat) (a1_1 : Nat) (a2_0 : Nat) (a2_1 : Nat) : outB (evFnM Try.prog false menv35 [14, 89] [] 96 Try.f8 [AV.agg [.float a0_0, .float a0_1, .float a0_2, .float a0_3], AV.agg [.float a1_0, .float a1_1], AV.agg [.float a2_0, .float a2_1]] []) = some (O_law05_BoxEnters a0_0 a0_1 a0_2 a0_3 a1_0 a1_1 a2_0 a2_1, AV.bool (T_law05_BoxEnters a0_0 a0_1 a0_2 a0_3 a1_0 a1_1 a2_0 a2_1)) := by kernel_rfl

end Go.Proofs.Ytbbopbelaamlaaa
