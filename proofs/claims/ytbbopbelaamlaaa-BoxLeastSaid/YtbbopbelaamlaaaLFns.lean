/- The contracts of the functions that these laws reach, loops too, printed by a program of this work: each says what the Go function gives, up to which NaN. -/
import Derived.Test.YtbbopbelaamlaaaProg
import Derived.KernelRfl
import Derived.Test.YtbbopbelaamlaaaLExact
set_option linter.unusedVariables false
set_option linter.unusedSimpArgs false
set_option maxRecDepth 100000
namespace Go.Proofs.Ytbbopbelaamlaaa
open Go.Lst
open Go.Sim (fadd fsub fmul fdiv fneg feq flt fle fsqrt cn nanb fabs fcps fsame feq_self cps_cn fabs_cn)
def xxs : List (FuncId × XFM) := [(79, xFM true .frombits), (72, xFM true .tobits)]
def xenv : EnvM := mkEnvM xxs [] []
theorem xxs_ok : All (XOkM Try.prog true) xxs := All.cons (xM_ok (ex := true) (f := 79) .frombits fun args w => run_callFunc_extern Try.func79 (by kernel_rfl) (by kernel_rfl) (by kernel_rfl) (by kernel_rfl) args w)
  (All.cons (xM_ok (ex := true) (f := 72) .tobits fun args w => run_callFunc_extern Try.func72 (by kernel_rfl) (by kernel_rfl) (by kernel_rfl) (by kernel_rfl) args w)
  (All.nil))
theorem xenv_ok : xenv.Ok Try.prog true := mkEnvM_ok xxs_ok All.nil All.nil
def mxs : List (FuncId × XFM) := [(79, xFM false .frombits), (72, xFM false .tobits)]
theorem mxs_ok : All (XOkM Try.prog false) mxs := All.cons (xM_ok (ex := false) (f := 79) .frombits fun args w => run_callFunc_extern Try.func79 (by kernel_rfl) (by kernel_rfl) (by kernel_rfl) (by kernel_rfl) args w)
  (All.cons (xM_ok (ex := false) (f := 72) .tobits fun args w => run_callFunc_extern Try.func72 (by kernel_rfl) (by kernel_rfl) (by kernel_rfl) (by kernel_rfl) args w)
  (All.nil))
def mss0 : List (FuncId × SFM) := []
def mws0 : List (FuncId × WFM) := []
def menv0 : EnvM := mkEnvM mxs mss0 mws0
theorem mss0_ok : All (SOkM Try.prog false) mss0 := All.nil
theorem mws0_ok : All (WOkM Try.prog false) mws0 := All.nil
theorem menv0_ok : menv0.Ok Try.prog false := mkEnvM_ok mxs_ok mss0_ok mws0_ok
-- tumble/tumblelaw05.four
theorem ann_law05_four : FnOk Try.prog false 0 Try.f46 Ann.no := (fnNo _)
noncomputable def s_law05_four_0 (a0_0 : Nat) (a1_0 : Nat) (a2_0 : Nat) (a3_0 : Nat) : Nat := a0_0
noncomputable def s_law05_four_1 (a0_0 : Nat) (a1_0 : Nat) (a2_0 : Nat) (a3_0 : Nat) : Nat := a1_0
noncomputable def s_law05_four_2 (a0_0 : Nat) (a1_0 : Nat) (a2_0 : Nat) (a3_0 : Nat) : Nat := a2_0
noncomputable def s_law05_four_3 (a0_0 : Nat) (a1_0 : Nat) (a2_0 : Nat) (a3_0 : Nat) : Nat := a3_0
theorem e_law05_four (a0_0 : Nat) (a1_0 : Nat) (a2_0 : Nat) (a3_0 : Nat) : outB (evFnM Try.prog false menv0 [] [] 96 Ann.no Try.f46 [AV.float a0_0, AV.float a1_0, AV.float a2_0, AV.float a3_0] []) = some (true, AV.agg [AV.float (s_law05_four_0 a0_0 a1_0 a2_0 a3_0), AV.float (s_law05_four_1 a0_0 a1_0 a2_0 a3_0), AV.float (s_law05_four_2 a0_0 a1_0 a2_0 a3_0), AV.float (s_law05_four_3 a0_0 a1_0 a2_0 a3_0)]) := by kernel_rfl
noncomputable def S_law05_four : List AV → Option (Ob × AV)
  | [AV.float a0_0, AV.float a1_0, AV.float a2_0, AV.float a3_0] => some (Ob.tt, AV.agg [AV.float (s_law05_four_0 a0_0 a1_0 a2_0 a3_0), AV.float (s_law05_four_1 a0_0 a1_0 a2_0 a3_0), AV.float (s_law05_four_2 a0_0 a1_0 a2_0 a3_0), AV.float (s_law05_four_3 a0_0 a1_0 a2_0 a3_0)])
  | _ => none
theorem ob_law05_four (a0_0 : Nat) (a1_0 : Nat) (a2_0 : Nat) (a3_0 : Nat) : true = true := rfl
theorem t_law05_four : SOkM Try.prog false (46, fun args => match S_law05_four args with | some (o, v) => some (o, v, []) | none => none) := SOkM.flat (N := 96) menv0_ok Try.func46 ann_law05_four Try.call46 fun args o v h ho => by
  unfold S_law05_four at h
  split at h
  · rename_i a0_0 a1_0 a2_0 a3_0
    cases h
    have ho2 := ho
    have this : outB (evFnM Try.prog false menv0 [] [] 96 Ann.no Try.f46 [AV.float a0_0, AV.float a1_0, AV.float a2_0, AV.float a3_0] []) = some (true, AV.agg [AV.float (s_law05_four_0 a0_0 a1_0 a2_0 a3_0), AV.float (s_law05_four_1 a0_0 a1_0 a2_0 a3_0), AV.float (s_law05_four_2 a0_0 a1_0 a2_0 a3_0), AV.float (s_law05_four_3 a0_0 a1_0 a2_0 a3_0)]) := Eq.trans (show outB (evFnM Try.prog false menv0 [] [] 96 Ann.no Try.f46 [AV.float a0_0, AV.float a1_0, AV.float a2_0, AV.float a3_0] []) = _ from e_law05_four a0_0 a1_0 a2_0 a3_0) (by rw [(ob_law05_four a0_0 a1_0 a2_0 a3_0)])
    exact ⟨this, rfl⟩
  · cases h
noncomputable def mss1 : List (FuncId × SFM) := (46, fun args => match S_law05_four args with | some (o, v) => some (o, v, []) | none => none) :: mss0
noncomputable def menv1 : EnvM := mkEnvM mxs mss1 mws0
theorem mss1_ok : All (SOkM Try.prog false) mss1 := All.cons t_law05_four mss0_ok
theorem menv1_ok : menv1.Ok Try.prog false := mkEnvM_ok mxs_ok mss1_ok mws0_ok
-- tumble/box.below
theorem ann_box_below : FnOk Try.prog false 0 Try.f53 Ann.no := (fnNo _)
noncomputable def s_box_below_0 (a0_0 : Nat) (a0_1 : Nat) (a1_0 : Nat) (a1_1 : Nat) : Bool := ((fle a0_0 a1_0) && (fle a0_1 a1_1))
theorem e_box_below (a0_0 : Nat) (a0_1 : Nat) (a1_0 : Nat) (a1_1 : Nat) : outB (evFnM Try.prog false menv1 [] [] 96 Ann.no Try.f53 [AV.agg [.float a0_0, .float a0_1], AV.agg [.float a1_0, .float a1_1]] []) = some (true, AV.bool (s_box_below_0 a0_0 a0_1 a1_0 a1_1)) := by kernel_rfl
noncomputable def S_box_below : List AV → Option (Ob × AV)
  | [AV.agg [.float a0_0, .float a0_1], AV.agg [.float a1_0, .float a1_1]] => some (Ob.tt, AV.bool (s_box_below_0 a0_0 a0_1 a1_0 a1_1))
  | _ => none
theorem ob_box_below (a0_0 : Nat) (a0_1 : Nat) (a1_0 : Nat) (a1_1 : Nat) : true = true := rfl
theorem t_box_below : SOkM Try.prog false (53, fun args => match S_box_below args with | some (o, v) => some (o, v, []) | none => none) := SOkM.flat (N := 96) menv1_ok Try.func53 ann_box_below Try.call53 fun args o v h ho => by
  unfold S_box_below at h
  split at h
  · rename_i a0_0 a0_1 a1_0 a1_1
    cases h
    have ho2 := ho
    have this : outB (evFnM Try.prog false menv1 [] [] 96 Ann.no Try.f53 [AV.agg [.float a0_0, .float a0_1], AV.agg [.float a1_0, .float a1_1]] []) = some (true, AV.bool (s_box_below_0 a0_0 a0_1 a1_0 a1_1)) := Eq.trans (show outB (evFnM Try.prog false menv1 [] [] 96 Ann.no Try.f53 [AV.agg [.float a0_0, .float a0_1], AV.agg [.float a1_0, .float a1_1]] []) = _ from e_box_below a0_0 a0_1 a1_0 a1_1) (by rw [(ob_box_below a0_0 a0_1 a1_0 a1_1)])
    exact ⟨this, rfl⟩
  · cases h
noncomputable def mss2 : List (FuncId × SFM) := (53, fun args => match S_box_below args with | some (o, v) => some (o, v, []) | none => none) :: mss1
noncomputable def menv2 : EnvM := mkEnvM mxs mss2 mws0
theorem mss2_ok : All (SOkM Try.prog false) mss2 := All.cons t_box_below mss1_ok
theorem menv2_ok : menv2.Ok Try.prog false := mkEnvM_ok mxs_ok mss2_ok mws0_ok
-- tumble/box.Over
theorem ann_box_Over : FnOk Try.prog false 0 Try.f19 Ann.no := (fnNo _)
noncomputable def s_box_Over_0 (a0_0 : Nat) (a0_1 : Nat) (a0_2 : Nat) (a0_3 : Nat) (a1_0 : Nat) (a1_1 : Nat) (a1_2 : Nat) (a1_3 : Nat) : Bool := ((s_box_below_0 a0_0 a0_1 a1_2 a1_3) && (s_box_below_0 a1_0 a1_1 a0_2 a0_3))
theorem e_box_Over (a0_0 : Nat) (a0_1 : Nat) (a0_2 : Nat) (a0_3 : Nat) (a1_0 : Nat) (a1_1 : Nat) (a1_2 : Nat) (a1_3 : Nat) : outB (evFnM Try.prog false menv2 [] [] 96 Ann.no Try.f19 [AV.agg [.float a0_0, .float a0_1, .float a0_2, .float a0_3], AV.agg [.float a1_0, .float a1_1, .float a1_2, .float a1_3]] []) = some (true, AV.bool (s_box_Over_0 a0_0 a0_1 a0_2 a0_3 a1_0 a1_1 a1_2 a1_3)) := by kernel_rfl
noncomputable def S_box_Over : List AV → Option (Ob × AV)
  | [AV.agg [.float a0_0, .float a0_1, .float a0_2, .float a0_3], AV.agg [.float a1_0, .float a1_1, .float a1_2, .float a1_3]] => some (Ob.tt, AV.bool (s_box_Over_0 a0_0 a0_1 a0_2 a0_3 a1_0 a1_1 a1_2 a1_3))
  | _ => none
theorem ob_box_Over (a0_0 : Nat) (a0_1 : Nat) (a0_2 : Nat) (a0_3 : Nat) (a1_0 : Nat) (a1_1 : Nat) (a1_2 : Nat) (a1_3 : Nat) : true = true := rfl
theorem t_box_Over : SOkM Try.prog false (19, fun args => match S_box_Over args with | some (o, v) => some (o, v, []) | none => none) := SOkM.flat (N := 96) menv2_ok Try.func19 ann_box_Over Try.call19 fun args o v h ho => by
  unfold S_box_Over at h
  split at h
  · rename_i a0_0 a0_1 a0_2 a0_3 a1_0 a1_1 a1_2 a1_3
    cases h
    have ho2 := ho
    have this : outB (evFnM Try.prog false menv2 [] [] 96 Ann.no Try.f19 [AV.agg [.float a0_0, .float a0_1, .float a0_2, .float a0_3], AV.agg [.float a1_0, .float a1_1, .float a1_2, .float a1_3]] []) = some (true, AV.bool (s_box_Over_0 a0_0 a0_1 a0_2 a0_3 a1_0 a1_1 a1_2 a1_3)) := Eq.trans (show outB (evFnM Try.prog false menv2 [] [] 96 Ann.no Try.f19 [AV.agg [.float a0_0, .float a0_1, .float a0_2, .float a0_3], AV.agg [.float a1_0, .float a1_1, .float a1_2, .float a1_3]] []) = _ from e_box_Over a0_0 a0_1 a0_2 a0_3 a1_0 a1_1 a1_2 a1_3) (by rw [(ob_box_Over a0_0 a0_1 a0_2 a0_3 a1_0 a1_1 a1_2 a1_3)])
    exact ⟨this, rfl⟩
  · cases h
noncomputable def mss3 : List (FuncId × SFM) := (19, fun args => match S_box_Over args with | some (o, v) => some (o, v, []) | none => none) :: mss2
noncomputable def menv3 : EnvM := mkEnvM mxs mss3 mws0
theorem mss3_ok : All (SOkM Try.prog false) mss3 := All.cons t_box_Over mss2_ok
theorem menv3_ok : menv3.Ok Try.prog false := mkEnvM_ok mxs_ok mss3_ok mws0_ok
-- tumble/num.none[float64]
theorem ann_num_none_float64_ : FnOk Try.prog false 0 Try.f83 Ann.no := (fnNo _)
noncomputable def s_num_none_float64__0 (a0_0 : Nat) : Bool := (!(feq a0_0 a0_0))
theorem e_num_none_float64_ (a0_0 : Nat) : outB (evFnM Try.prog false menv3 [] [] 96 Ann.no Try.f83 [AV.float a0_0] []) = some (true, AV.bool (s_num_none_float64__0 a0_0)) := by kernel_rfl
noncomputable def S_num_none_float64_ : List AV → Option (Ob × AV)
  | [AV.float a0_0] => some (Ob.tt, AV.bool (s_num_none_float64__0 a0_0))
  | _ => none
theorem ob_num_none_float64_ (a0_0 : Nat) : true = true := rfl
theorem t_num_none_float64_ : SOkM Try.prog false (83, fun args => match S_num_none_float64_ args with | some (o, v) => some (o, v, []) | none => none) := SOkM.flat (N := 96) menv3_ok Try.func83 ann_num_none_float64_ Try.call83 fun args o v h ho => by
  unfold S_num_none_float64_ at h
  split at h
  · rename_i a0_0
    cases h
    have ho2 := ho
    have this : outB (evFnM Try.prog false menv3 [] [] 96 Ann.no Try.f83 [AV.float a0_0] []) = some (true, AV.bool (s_num_none_float64__0 a0_0)) := Eq.trans (show outB (evFnM Try.prog false menv3 [] [] 96 Ann.no Try.f83 [AV.float a0_0] []) = _ from e_num_none_float64_ a0_0) (by rw [(ob_num_none_float64_ a0_0)])
    exact ⟨this, rfl⟩
  · cases h
noncomputable def mss4 : List (FuncId × SFM) := (83, fun args => match S_num_none_float64_ args with | some (o, v) => some (o, v, []) | none => none) :: mss3
noncomputable def menv4 : EnvM := mkEnvM mxs mss4 mws0
theorem mss4_ok : All (SOkM Try.prog false) mss4 := All.cons t_num_none_float64_ mss3_ok
theorem menv4_ok : menv4.Ok Try.prog false := mkEnvM_ok mxs_ok mss4_ok mws0_ok
-- tumble/num.minus[float64]
theorem ann_num_minus_float64_ : FnOk Try.prog false 0 Try.f84 Ann.no := (fnNo _)
noncomputable def s_num_minus_float64__0 (a0_0 : Nat) : Bool := (flt (fdiv 4607182418800017408 a0_0) 0)
theorem e_num_minus_float64_ (a0_0 : Nat) : outB (evFnM Try.prog false menv4 [] [] 96 Ann.no Try.f84 [AV.float a0_0] []) = some (true, AV.bool (s_num_minus_float64__0 a0_0)) := by kernel_rfl
noncomputable def S_num_minus_float64_ : List AV → Option (Ob × AV)
  | [AV.float a0_0] => some (Ob.tt, AV.bool (s_num_minus_float64__0 a0_0))
  | _ => none
theorem ob_num_minus_float64_ (a0_0 : Nat) : true = true := rfl
theorem t_num_minus_float64_ : SOkM Try.prog false (84, fun args => match S_num_minus_float64_ args with | some (o, v) => some (o, v, []) | none => none) := SOkM.flat (N := 96) menv4_ok Try.func84 ann_num_minus_float64_ Try.call84 fun args o v h ho => by
  unfold S_num_minus_float64_ at h
  split at h
  · rename_i a0_0
    cases h
    have ho2 := ho
    have this : outB (evFnM Try.prog false menv4 [] [] 96 Ann.no Try.f84 [AV.float a0_0] []) = some (true, AV.bool (s_num_minus_float64__0 a0_0)) := Eq.trans (show outB (evFnM Try.prog false menv4 [] [] 96 Ann.no Try.f84 [AV.float a0_0] []) = _ from e_num_minus_float64_ a0_0) (by rw [(ob_num_minus_float64_ a0_0)])
    exact ⟨this, rfl⟩
  · cases h
noncomputable def mss5 : List (FuncId × SFM) := (84, fun args => match S_num_minus_float64_ args with | some (o, v) => some (o, v, []) | none => none) :: mss4
noncomputable def menv5 : EnvM := mkEnvM mxs mss5 mws0
theorem mss5_ok : All (SOkM Try.prog false) mss5 := All.cons t_num_minus_float64_ mss4_ok
theorem menv5_ok : menv5.Ok Try.prog false := mkEnvM_ok mxs_ok mss5_ok mws0_ok
-- tumble/num.Most[float64]
theorem ann_num_Most_float64_ : FnOk Try.prog false 0 Try.f74 Ann.no := (fnNo _)
noncomputable def s_num_Most_float64__0 (a0_0 : Nat) (a1_0 : Nat) : Nat := (bif (((s_num_none_float64__0 a0_0) || (flt a0_0 a1_0)) || (((feq a0_0 0) && (feq a1_0 0)) && (s_num_minus_float64__0 a0_0))) then a1_0 else a0_0)
theorem e_num_Most_float64_ (a0_0 : Nat) (a1_0 : Nat) : outB (evFnM Try.prog false menv5 [] [] 96 Ann.no Try.f74 [AV.float a0_0, AV.float a1_0] []) = some (true, AV.float (s_num_Most_float64__0 a0_0 a1_0)) := by kernel_rfl
noncomputable def S_num_Most_float64_ : List AV → Option (Ob × AV)
  | [AV.float a0_0, AV.float a1_0] => some (Ob.tt, AV.float (s_num_Most_float64__0 a0_0 a1_0))
  | _ => none
theorem ob_num_Most_float64_ (a0_0 : Nat) (a1_0 : Nat) : true = true := rfl
theorem t_num_Most_float64_ : SOkM Try.prog false (74, fun args => match S_num_Most_float64_ args with | some (o, v) => some (o, v, []) | none => none) := SOkM.flat (N := 96) menv5_ok Try.func74 ann_num_Most_float64_ Try.call74 fun args o v h ho => by
  unfold S_num_Most_float64_ at h
  split at h
  · rename_i a0_0 a1_0
    cases h
    have ho2 := ho
    have this : outB (evFnM Try.prog false menv5 [] [] 96 Ann.no Try.f74 [AV.float a0_0, AV.float a1_0] []) = some (true, AV.float (s_num_Most_float64__0 a0_0 a1_0)) := Eq.trans (show outB (evFnM Try.prog false menv5 [] [] 96 Ann.no Try.f74 [AV.float a0_0, AV.float a1_0] []) = _ from e_num_Most_float64_ a0_0 a1_0) (by rw [(ob_num_Most_float64_ a0_0 a1_0)])
    exact ⟨this, rfl⟩
  · cases h
noncomputable def mss6 : List (FuncId × SFM) := (74, fun args => match S_num_Most_float64_ args with | some (o, v) => some (o, v, []) | none => none) :: mss5
noncomputable def menv6 : EnvM := mkEnvM mxs mss6 mws0
theorem mss6_ok : All (SOkM Try.prog false) mss6 := All.cons t_num_Most_float64_ mss5_ok
theorem menv6_ok : menv6.Ok Try.prog false := mkEnvM_ok mxs_ok mss6_ok mws0_ok
-- tumble/box.most
theorem ann_box_most : FnOk Try.prog false 0 Try.f52 Ann.no := (fnNo _)
noncomputable def s_box_most_0 (a0_0 : Nat) (a0_1 : Nat) (a1_0 : Nat) (a1_1 : Nat) : Nat := (s_num_Most_float64__0 a0_0 a1_0)
noncomputable def s_box_most_1 (a0_0 : Nat) (a0_1 : Nat) (a1_0 : Nat) (a1_1 : Nat) : Nat := (s_num_Most_float64__0 a0_1 a1_1)
theorem e_box_most (a0_0 : Nat) (a0_1 : Nat) (a1_0 : Nat) (a1_1 : Nat) : outB (evFnM Try.prog false menv6 [] [] 96 Ann.no Try.f52 [AV.agg [.float a0_0, .float a0_1], AV.agg [.float a1_0, .float a1_1]] []) = some (true, AV.agg [AV.float (s_box_most_0 a0_0 a0_1 a1_0 a1_1), AV.float (s_box_most_1 a0_0 a0_1 a1_0 a1_1)]) := by kernel_rfl
noncomputable def S_box_most : List AV → Option (Ob × AV)
  | [AV.agg [.float a0_0, .float a0_1], AV.agg [.float a1_0, .float a1_1]] => some (Ob.tt, AV.agg [AV.float (s_box_most_0 a0_0 a0_1 a1_0 a1_1), AV.float (s_box_most_1 a0_0 a0_1 a1_0 a1_1)])
  | _ => none
theorem ob_box_most (a0_0 : Nat) (a0_1 : Nat) (a1_0 : Nat) (a1_1 : Nat) : true = true := rfl
theorem t_box_most : SOkM Try.prog false (52, fun args => match S_box_most args with | some (o, v) => some (o, v, []) | none => none) := SOkM.flat (N := 96) menv6_ok Try.func52 ann_box_most Try.call52 fun args o v h ho => by
  unfold S_box_most at h
  split at h
  · rename_i a0_0 a0_1 a1_0 a1_1
    cases h
    have ho2 := ho
    have this : outB (evFnM Try.prog false menv6 [] [] 96 Ann.no Try.f52 [AV.agg [.float a0_0, .float a0_1], AV.agg [.float a1_0, .float a1_1]] []) = some (true, AV.agg [AV.float (s_box_most_0 a0_0 a0_1 a1_0 a1_1), AV.float (s_box_most_1 a0_0 a0_1 a1_0 a1_1)]) := Eq.trans (show outB (evFnM Try.prog false menv6 [] [] 96 Ann.no Try.f52 [AV.agg [.float a0_0, .float a0_1], AV.agg [.float a1_0, .float a1_1]] []) = _ from e_box_most a0_0 a0_1 a1_0 a1_1) (by rw [(ob_box_most a0_0 a0_1 a1_0 a1_1)])
    exact ⟨this, rfl⟩
  · cases h
noncomputable def mss7 : List (FuncId × SFM) := (52, fun args => match S_box_most args with | some (o, v) => some (o, v, []) | none => none) :: mss6
noncomputable def menv7 : EnvM := mkEnvM mxs mss7 mws0
theorem mss7_ok : All (SOkM Try.prog false) mss7 := All.cons t_box_most mss6_ok
theorem menv7_ok : menv7.Ok Try.prog false := mkEnvM_ok mxs_ok mss7_ok mws0_ok
-- tumble/num.Least[float64]
theorem ann_num_Least_float64_ : FnOk Try.prog false 0 Try.f73 Ann.no := (fnNo _)
noncomputable def s_num_Least_float64__0 (a0_0 : Nat) (a1_0 : Nat) : Nat := (bif (((s_num_none_float64__0 a0_0) || (flt a1_0 a0_0)) || (((feq a0_0 0) && (feq a1_0 0)) && (s_num_minus_float64__0 a1_0))) then a1_0 else a0_0)
theorem e_num_Least_float64_ (a0_0 : Nat) (a1_0 : Nat) : outB (evFnM Try.prog false menv7 [] [] 96 Ann.no Try.f73 [AV.float a0_0, AV.float a1_0] []) = some (true, AV.float (s_num_Least_float64__0 a0_0 a1_0)) := by kernel_rfl
noncomputable def S_num_Least_float64_ : List AV → Option (Ob × AV)
  | [AV.float a0_0, AV.float a1_0] => some (Ob.tt, AV.float (s_num_Least_float64__0 a0_0 a1_0))
  | _ => none
theorem ob_num_Least_float64_ (a0_0 : Nat) (a1_0 : Nat) : true = true := rfl
theorem t_num_Least_float64_ : SOkM Try.prog false (73, fun args => match S_num_Least_float64_ args with | some (o, v) => some (o, v, []) | none => none) := SOkM.flat (N := 96) menv7_ok Try.func73 ann_num_Least_float64_ Try.call73 fun args o v h ho => by
  unfold S_num_Least_float64_ at h
  split at h
  · rename_i a0_0 a1_0
    cases h
    have ho2 := ho
    have this : outB (evFnM Try.prog false menv7 [] [] 96 Ann.no Try.f73 [AV.float a0_0, AV.float a1_0] []) = some (true, AV.float (s_num_Least_float64__0 a0_0 a1_0)) := Eq.trans (show outB (evFnM Try.prog false menv7 [] [] 96 Ann.no Try.f73 [AV.float a0_0, AV.float a1_0] []) = _ from e_num_Least_float64_ a0_0 a1_0) (by rw [(ob_num_Least_float64_ a0_0 a1_0)])
    exact ⟨this, rfl⟩
  · cases h
noncomputable def mss8 : List (FuncId × SFM) := (73, fun args => match S_num_Least_float64_ args with | some (o, v) => some (o, v, []) | none => none) :: mss7
noncomputable def menv8 : EnvM := mkEnvM mxs mss8 mws0
theorem mss8_ok : All (SOkM Try.prog false) mss8 := All.cons t_num_Least_float64_ mss7_ok
theorem menv8_ok : menv8.Ok Try.prog false := mkEnvM_ok mxs_ok mss8_ok mws0_ok
-- tumble/box.least
theorem ann_box_least : FnOk Try.prog false 0 Try.f51 Ann.no := (fnNo _)
noncomputable def s_box_least_0 (a0_0 : Nat) (a0_1 : Nat) (a1_0 : Nat) (a1_1 : Nat) : Nat := (s_num_Least_float64__0 a0_0 a1_0)
noncomputable def s_box_least_1 (a0_0 : Nat) (a0_1 : Nat) (a1_0 : Nat) (a1_1 : Nat) : Nat := (s_num_Least_float64__0 a0_1 a1_1)
theorem e_box_least (a0_0 : Nat) (a0_1 : Nat) (a1_0 : Nat) (a1_1 : Nat) : outB (evFnM Try.prog false menv8 [] [] 96 Ann.no Try.f51 [AV.agg [.float a0_0, .float a0_1], AV.agg [.float a1_0, .float a1_1]] []) = some (true, AV.agg [AV.float (s_box_least_0 a0_0 a0_1 a1_0 a1_1), AV.float (s_box_least_1 a0_0 a0_1 a1_0 a1_1)]) := by kernel_rfl
noncomputable def S_box_least : List AV → Option (Ob × AV)
  | [AV.agg [.float a0_0, .float a0_1], AV.agg [.float a1_0, .float a1_1]] => some (Ob.tt, AV.agg [AV.float (s_box_least_0 a0_0 a0_1 a1_0 a1_1), AV.float (s_box_least_1 a0_0 a0_1 a1_0 a1_1)])
  | _ => none
theorem ob_box_least (a0_0 : Nat) (a0_1 : Nat) (a1_0 : Nat) (a1_1 : Nat) : true = true := rfl
theorem t_box_least : SOkM Try.prog false (51, fun args => match S_box_least args with | some (o, v) => some (o, v, []) | none => none) := SOkM.flat (N := 96) menv8_ok Try.func51 ann_box_least Try.call51 fun args o v h ho => by
  unfold S_box_least at h
  split at h
  · rename_i a0_0 a0_1 a1_0 a1_1
    cases h
    have ho2 := ho
    have this : outB (evFnM Try.prog false menv8 [] [] 96 Ann.no Try.f51 [AV.agg [.float a0_0, .float a0_1], AV.agg [.float a1_0, .float a1_1]] []) = some (true, AV.agg [AV.float (s_box_least_0 a0_0 a0_1 a1_0 a1_1), AV.float (s_box_least_1 a0_0 a0_1 a1_0 a1_1)]) := Eq.trans (show outB (evFnM Try.prog false menv8 [] [] 96 Ann.no Try.f51 [AV.agg [.float a0_0, .float a0_1], AV.agg [.float a1_0, .float a1_1]] []) = _ from e_box_least a0_0 a0_1 a1_0 a1_1) (by rw [(ob_box_least a0_0 a0_1 a1_0 a1_1)])
    exact ⟨this, rfl⟩
  · cases h
noncomputable def mss9 : List (FuncId × SFM) := (51, fun args => match S_box_least args with | some (o, v) => some (o, v, []) | none => none) :: mss8
noncomputable def menv9 : EnvM := mkEnvM mxs mss9 mws0
theorem mss9_ok : All (SOkM Try.prog false) mss9 := All.cons t_box_least mss8_ok
theorem menv9_ok : menv9.Ok Try.prog false := mkEnvM_ok mxs_ok mss9_ok mws0_ok
-- tumble/box.Meet
theorem ann_box_Meet : FnOk Try.prog false 0 Try.f16 Ann.no := (fnNo _)
noncomputable def s_box_Meet_0 (a0_0 : Nat) (a0_1 : Nat) (a0_2 : Nat) (a0_3 : Nat) (a1_0 : Nat) (a1_1 : Nat) (a1_2 : Nat) (a1_3 : Nat) : Nat := (bif (!(s_box_Over_0 a0_0 a0_1 a0_2 a0_3 a1_0 a1_1 a1_2 a1_3)) then 0 else (s_box_most_0 a0_0 a0_1 a1_0 a1_1))
noncomputable def s_box_Meet_1 (a0_0 : Nat) (a0_1 : Nat) (a0_2 : Nat) (a0_3 : Nat) (a1_0 : Nat) (a1_1 : Nat) (a1_2 : Nat) (a1_3 : Nat) : Nat := (bif (!(s_box_Over_0 a0_0 a0_1 a0_2 a0_3 a1_0 a1_1 a1_2 a1_3)) then 0 else (s_box_most_1 a0_0 a0_1 a1_0 a1_1))
noncomputable def s_box_Meet_2 (a0_0 : Nat) (a0_1 : Nat) (a0_2 : Nat) (a0_3 : Nat) (a1_0 : Nat) (a1_1 : Nat) (a1_2 : Nat) (a1_3 : Nat) : Nat := (bif (!(s_box_Over_0 a0_0 a0_1 a0_2 a0_3 a1_0 a1_1 a1_2 a1_3)) then 0 else (s_box_least_0 a0_2 a0_3 a1_2 a1_3))
noncomputable def s_box_Meet_3 (a0_0 : Nat) (a0_1 : Nat) (a0_2 : Nat) (a0_3 : Nat) (a1_0 : Nat) (a1_1 : Nat) (a1_2 : Nat) (a1_3 : Nat) : Nat := (bif (!(s_box_Over_0 a0_0 a0_1 a0_2 a0_3 a1_0 a1_1 a1_2 a1_3)) then 0 else (s_box_least_1 a0_2 a0_3 a1_2 a1_3))
noncomputable def s_box_Meet_4 (a0_0 : Nat) (a0_1 : Nat) (a0_2 : Nat) (a0_3 : Nat) (a1_0 : Nat) (a1_1 : Nat) (a1_2 : Nat) (a1_3 : Nat) : Bool := (bif (!(s_box_Over_0 a0_0 a0_1 a0_2 a0_3 a1_0 a1_1 a1_2 a1_3)) then false else true)
theorem e_box_Meet (a0_0 : Nat) (a0_1 : Nat) (a0_2 : Nat) (a0_3 : Nat) (a1_0 : Nat) (a1_1 : Nat) (a1_2 : Nat) (a1_3 : Nat) : outB (evFnM Try.prog false menv9 [] [] 96 Ann.no Try.f16 [AV.agg [.float a0_0, .float a0_1, .float a0_2, .float a0_3], AV.agg [.float a1_0, .float a1_1, .float a1_2, .float a1_3]] []) = some (true, AV.tup [AV.agg [AV.float (s_box_Meet_0 a0_0 a0_1 a0_2 a0_3 a1_0 a1_1 a1_2 a1_3), AV.float (s_box_Meet_1 a0_0 a0_1 a0_2 a0_3 a1_0 a1_1 a1_2 a1_3), AV.float (s_box_Meet_2 a0_0 a0_1 a0_2 a0_3 a1_0 a1_1 a1_2 a1_3), AV.float (s_box_Meet_3 a0_0 a0_1 a0_2 a0_3 a1_0 a1_1 a1_2 a1_3)], AV.bool (s_box_Meet_4 a0_0 a0_1 a0_2 a0_3 a1_0 a1_1 a1_2 a1_3)]) := by kernel_rfl
noncomputable def S_box_Meet : List AV → Option (Ob × AV)
  | [AV.agg [.float a0_0, .float a0_1, .float a0_2, .float a0_3], AV.agg [.float a1_0, .float a1_1, .float a1_2, .float a1_3]] => some (Ob.tt, AV.tup [AV.agg [AV.float (s_box_Meet_0 a0_0 a0_1 a0_2 a0_3 a1_0 a1_1 a1_2 a1_3), AV.float (s_box_Meet_1 a0_0 a0_1 a0_2 a0_3 a1_0 a1_1 a1_2 a1_3), AV.float (s_box_Meet_2 a0_0 a0_1 a0_2 a0_3 a1_0 a1_1 a1_2 a1_3), AV.float (s_box_Meet_3 a0_0 a0_1 a0_2 a0_3 a1_0 a1_1 a1_2 a1_3)], AV.bool (s_box_Meet_4 a0_0 a0_1 a0_2 a0_3 a1_0 a1_1 a1_2 a1_3)])
  | _ => none
theorem ob_box_Meet (a0_0 : Nat) (a0_1 : Nat) (a0_2 : Nat) (a0_3 : Nat) (a1_0 : Nat) (a1_1 : Nat) (a1_2 : Nat) (a1_3 : Nat) : true = true := rfl
theorem t_box_Meet : SOkM Try.prog false (16, fun args => match S_box_Meet args with | some (o, v) => some (o, v, []) | none => none) := SOkM.flat (N := 96) menv9_ok Try.func16 ann_box_Meet Try.call16 fun args o v h ho => by
  unfold S_box_Meet at h
  split at h
  · rename_i a0_0 a0_1 a0_2 a0_3 a1_0 a1_1 a1_2 a1_3
    cases h
    have ho2 := ho
    have this : outB (evFnM Try.prog false menv9 [] [] 96 Ann.no Try.f16 [AV.agg [.float a0_0, .float a0_1, .float a0_2, .float a0_3], AV.agg [.float a1_0, .float a1_1, .float a1_2, .float a1_3]] []) = some (true, AV.tup [AV.agg [AV.float (s_box_Meet_0 a0_0 a0_1 a0_2 a0_3 a1_0 a1_1 a1_2 a1_3), AV.float (s_box_Meet_1 a0_0 a0_1 a0_2 a0_3 a1_0 a1_1 a1_2 a1_3), AV.float (s_box_Meet_2 a0_0 a0_1 a0_2 a0_3 a1_0 a1_1 a1_2 a1_3), AV.float (s_box_Meet_3 a0_0 a0_1 a0_2 a0_3 a1_0 a1_1 a1_2 a1_3)], AV.bool (s_box_Meet_4 a0_0 a0_1 a0_2 a0_3 a1_0 a1_1 a1_2 a1_3)]) := Eq.trans (show outB (evFnM Try.prog false menv9 [] [] 96 Ann.no Try.f16 [AV.agg [.float a0_0, .float a0_1, .float a0_2, .float a0_3], AV.agg [.float a1_0, .float a1_1, .float a1_2, .float a1_3]] []) = _ from e_box_Meet a0_0 a0_1 a0_2 a0_3 a1_0 a1_1 a1_2 a1_3) (by rw [(ob_box_Meet a0_0 a0_1 a0_2 a0_3 a1_0 a1_1 a1_2 a1_3)])
    exact ⟨this, rfl⟩
  · cases h
noncomputable def mss10 : List (FuncId × SFM) := (16, fun args => match S_box_Meet args with | some (o, v) => some (o, v, []) | none => none) :: mss9
noncomputable def menv10 : EnvM := mkEnvM mxs mss10 mws0
theorem mss10_ok : All (SOkM Try.prog false) mss10 := All.cons t_box_Meet mss9_ok
theorem menv10_ok : menv10.Ok Try.prog false := mkEnvM_ok mxs_ok mss10_ok mws0_ok
-- (*tumble/box.span).cut
noncomputable def mws1 : List (FuncId × WFM) := (48, inlWM Try.prog false menv10 [] [] 96 .no Try.f48 100000) :: mws0
noncomputable def menv11 : EnvM := mkEnvM mxs mss10 mws1
theorem mws1_ok : All (WOkM Try.prog false) mws1 := All.cons (WOkM.inl menv10_ok Try.func48 (fnNo _) Try.call48) mws0_ok
theorem menv11_ok : menv11.Ok Try.prog false := mkEnvM_ok mxs_ok mss10_ok mws1_ok
-- tumble/box.Ray
theorem ann_box_Ray : FnOk Try.prog false 0 Try.f11 Ann.no := (fnNo _)
noncomputable def s_box_Ray_0 (a0_0 : Nat) (a0_1 : Nat) (a0_2 : Nat) (a0_3 : Nat) (a1_0 : Nat) (a1_1 : Nat) (a2_0 : Nat) (a2_1 : Nat) : Nat := let x0 : Nat := (fdiv (fsub a0_0 a1_0) a2_0); let x1 : Nat := (fdiv (fsub a0_2 a1_0) a2_0); let x2 : Bool := (flt x1 x0); let x3 : Nat := (bif x2 then x1 else x0); let x4 : Nat := (bif (flt 0 x3) then x3 else 0); let x5 : Bool := ((feq a2_0 0) || (!(feq a2_0 a2_0))); let x6 : Nat := (bif x5 then 0 else x4); let x7 : Nat := (fdiv (fsub a0_1 a1_1) a2_1); let x8 : Nat := (fdiv (fsub a0_3 a1_1) a2_1); let x9 : Bool := (flt x8 x7); let x10 : Nat := (bif x9 then x8 else x7); let x11 : Nat := (bif (flt x6 x10) then x10 else x6); let x12 : Bool := ((feq a2_1 0) || (!(feq a2_1 a2_1))); let x13 : Nat := (bif x2 then x0 else x1); let x14 : Nat := (bif (flt x13 4607182418800017408) then x13 else 4607182418800017408); let x15 : Bool := (!(bif x5 then ((fle a0_0 a1_0) && (fle a1_0 a0_2)) else ((fle x3 x13) && (fle x4 x14)))); let x16 : Nat := (bif x5 then 4607182418800017408 else x14); let x17 : Nat := (bif x9 then x7 else x8); (bif (x15 || (!(bif x12 then ((fle a0_1 a1_1) && (fle a1_1 a0_3)) else ((fle x10 x17) && (fle x11 (bif (flt x17 x16) then x17 else x16)))))) then 0 else (bif x15 then x6 else (bif x12 then x6 else x11)))
noncomputable def s_box_Ray_1 (a0_0 : Nat) (a0_1 : Nat) (a0_2 : Nat) (a0_3 : Nat) (a1_0 : Nat) (a1_1 : Nat) (a2_0 : Nat) (a2_1 : Nat) : Bool := let x0 : Nat := (fdiv (fsub a0_2 a1_0) a2_0); let x1 : Nat := (fdiv (fsub a0_0 a1_0) a2_0); let x2 : Bool := (flt x0 x1); let x3 : Nat := (bif x2 then x1 else x0); let x4 : Nat := (bif (flt x3 4607182418800017408) then x3 else 4607182418800017408); let x5 : Bool := ((feq a2_0 0) || (!(feq a2_0 a2_0))); let x6 : Nat := (bif x5 then 4607182418800017408 else x4); let x7 : Nat := (fdiv (fsub a0_3 a1_1) a2_1); let x8 : Nat := (fdiv (fsub a0_1 a1_1) a2_1); let x9 : Bool := (flt x7 x8); let x10 : Nat := (bif x9 then x8 else x7); let x11 : Nat := (bif x2 then x0 else x1); let x12 : Nat := (bif (flt 0 x11) then x11 else 0); let x13 : Nat := (bif x5 then 0 else x12); let x14 : Nat := (bif x9 then x7 else x8); (bif ((!(bif x5 then ((fle a0_0 a1_0) && (fle a1_0 a0_2)) else ((fle x11 x3) && (fle x12 x4)))) || (!(bif ((feq a2_1 0) || (!(feq a2_1 a2_1))) then ((fle a0_1 a1_1) && (fle a1_1 a0_3)) else ((fle x14 x10) && (fle (bif (flt x13 x14) then x14 else x13) (bif (flt x10 x6) then x10 else x6)))))) then false else true)
theorem e_box_Ray (a0_0 : Nat) (a0_1 : Nat) (a0_2 : Nat) (a0_3 : Nat) (a1_0 : Nat) (a1_1 : Nat) (a2_0 : Nat) (a2_1 : Nat) : outB (evFnM Try.prog false menv11 [] [] 96 Ann.no Try.f11 [AV.agg [.float a0_0, .float a0_1, .float a0_2, .float a0_3], AV.agg [.float a1_0, .float a1_1], AV.agg [.float a2_0, .float a2_1]] []) = some (true, AV.tup [AV.float (s_box_Ray_0 a0_0 a0_1 a0_2 a0_3 a1_0 a1_1 a2_0 a2_1), AV.bool (s_box_Ray_1 a0_0 a0_1 a0_2 a0_3 a1_0 a1_1 a2_0 a2_1)]) := by kernel_rfl
noncomputable def S_box_Ray : List AV → Option (Ob × AV)
  | [AV.agg [.float a0_0, .float a0_1, .float a0_2, .float a0_3], AV.agg [.float a1_0, .float a1_1], AV.agg [.float a2_0, .float a2_1]] => some (Ob.tt, AV.tup [AV.float (s_box_Ray_0 a0_0 a0_1 a0_2 a0_3 a1_0 a1_1 a2_0 a2_1), AV.bool (s_box_Ray_1 a0_0 a0_1 a0_2 a0_3 a1_0 a1_1 a2_0 a2_1)])
  | _ => none
theorem ob_box_Ray (a0_0 : Nat) (a0_1 : Nat) (a0_2 : Nat) (a0_3 : Nat) (a1_0 : Nat) (a1_1 : Nat) (a2_0 : Nat) (a2_1 : Nat) : true = true := rfl
theorem t_box_Ray : SOkM Try.prog false (11, fun args => match S_box_Ray args with | some (o, v) => some (o, v, []) | none => none) := SOkM.flat (N := 96) menv11_ok Try.func11 ann_box_Ray Try.call11 fun args o v h ho => by
  unfold S_box_Ray at h
  split at h
  · rename_i a0_0 a0_1 a0_2 a0_3 a1_0 a1_1 a2_0 a2_1
    cases h
    have ho2 := ho
    have this : outB (evFnM Try.prog false menv11 [] [] 96 Ann.no Try.f11 [AV.agg [.float a0_0, .float a0_1, .float a0_2, .float a0_3], AV.agg [.float a1_0, .float a1_1], AV.agg [.float a2_0, .float a2_1]] []) = some (true, AV.tup [AV.float (s_box_Ray_0 a0_0 a0_1 a0_2 a0_3 a1_0 a1_1 a2_0 a2_1), AV.bool (s_box_Ray_1 a0_0 a0_1 a0_2 a0_3 a1_0 a1_1 a2_0 a2_1)]) := Eq.trans (show outB (evFnM Try.prog false menv11 [] [] 96 Ann.no Try.f11 [AV.agg [.float a0_0, .float a0_1, .float a0_2, .float a0_3], AV.agg [.float a1_0, .float a1_1], AV.agg [.float a2_0, .float a2_1]] []) = _ from e_box_Ray a0_0 a0_1 a0_2 a0_3 a1_0 a1_1 a2_0 a2_1) (by rw [(ob_box_Ray a0_0 a0_1 a0_2 a0_3 a1_0 a1_1 a2_0 a2_1)])
    exact ⟨this, rfl⟩
  · cases h
noncomputable def mss11 : List (FuncId × SFM) := (11, fun args => match S_box_Ray args with | some (o, v) => some (o, v, []) | none => none) :: mss10
noncomputable def menv12 : EnvM := mkEnvM mxs mss11 mws1
theorem mss11_ok : All (SOkM Try.prog false) mss11 := All.cons t_box_Ray mss10_ok
theorem menv12_ok : menv12.Ok Try.prog false := mkEnvM_ok mxs_ok mss11_ok mws1_ok
-- math.NaN
theorem ann_math_NaN : FnOk Try.prog false 0 Try.f67 Ann.no := (fnNo _)
noncomputable def s_math_NaN_0 : Nat := 9221120237041090561
theorem e_math_NaN : outB (evFnM Try.prog false menv12 [] [] 96 Ann.no Try.f67 [] []) = some (true, AV.float (s_math_NaN_0)) := by kernel_rfl
noncomputable def S_math_NaN : List AV → Option (Ob × AV)
  | [] => some (Ob.tt, AV.float (s_math_NaN_0))
  | _ => none
theorem ob_math_NaN : true = true := rfl
theorem t_math_NaN : SOkM Try.prog false (67, fun args => match S_math_NaN args with | some (o, v) => some (o, v, []) | none => none) := SOkM.flat (N := 96) menv12_ok Try.func67 ann_math_NaN Try.call67 fun args o v h ho => by
  unfold S_math_NaN at h
  split at h
  · skip
    cases h
    have ho2 := ho
    have this : outB (evFnM Try.prog false menv12 [] [] 96 Ann.no Try.f67 [] []) = some (true, AV.float (s_math_NaN_0)) := Eq.trans (show outB (evFnM Try.prog false menv12 [] [] 96 Ann.no Try.f67 [] []) = _ from e_math_NaN) (by rw [(ob_math_NaN)])
    exact ⟨this, rfl⟩
  · cases h
noncomputable def mss12 : List (FuncId × SFM) := (67, fun args => match S_math_NaN args with | some (o, v) => some (o, v, []) | none => none) :: mss11
noncomputable def menv13 : EnvM := mkEnvM mxs mss12 mws1
theorem mss12_ok : All (SOkM Try.prog false) mss12 := All.cons t_math_NaN mss11_ok
theorem menv13_ok : menv13.Ok Try.prog false := mkEnvM_ok mxs_ok mss12_ok mws1_ok
-- math.Inf
theorem ann_math_Inf : FnOk Try.prog false 0 Try.f68 Ann.no := (fnNo _)
noncomputable def s_math_Inf_0 (a0_0 : Int) : Nat := (cn (Int.toNat (bif (ile (0 : Int) a0_0) then (9218868437227405312 : Int) else (18442240474082181120 : Int))))
theorem e_math_Inf (a0_0 : Int) : outB (evFnM Try.prog false menv13 [] [] 96 Ann.no Try.f68 [AV.int .i64 a0_0] []) = some ((u64ok (bif (ile (0 : Int) a0_0) then (9218868437227405312 : Int) else (18442240474082181120 : Int))), AV.float (s_math_Inf_0 a0_0)) := by kernel_rfl
noncomputable def S_math_Inf : List AV → Option (Ob × AV)
  | [AV.int .i64 a0_0] => some (Ob.tt, AV.float (s_math_Inf_0 a0_0))
  | _ => none
theorem ob_math_Inf (a0_0 : Int) : (u64ok (bif (ile (0 : Int) a0_0) then (9218868437227405312 : Int) else (18442240474082181120 : Int))) = true := by show ((u64ok (bif (ile (0 : Int) a0_0) then (9218868437227405312 : Int) else (18442240474082181120 : Int)))) = true; generalize (ile (0 : Int) a0_0) = q0; cases q0 <;> rfl
theorem t_math_Inf : SOkM Try.prog false (68, fun args => match S_math_Inf args with | some (o, v) => some (o, v, []) | none => none) := SOkM.flat (N := 96) menv13_ok Try.func68 ann_math_Inf Try.call68 fun args o v h ho => by
  unfold S_math_Inf at h
  split at h
  · rename_i a0_0
    cases h
    have ho2 := ho
    have this : outB (evFnM Try.prog false menv13 [] [] 96 Ann.no Try.f68 [AV.int .i64 a0_0] []) = some (true, AV.float (s_math_Inf_0 a0_0)) := Eq.trans (show outB (evFnM Try.prog false menv13 [] [] 96 Ann.no Try.f68 [AV.int .i64 a0_0] []) = _ from e_math_Inf a0_0) (by rw [(ob_math_Inf a0_0)])
    exact ⟨this, rfl⟩
  · cases h
noncomputable def mss13 : List (FuncId × SFM) := (68, fun args => match S_math_Inf args with | some (o, v) => some (o, v, []) | none => none) :: mss12
noncomputable def menv14 : EnvM := mkEnvM mxs mss13 mws1
theorem mss13_ok : All (SOkM Try.prog false) mss13 := All.cons t_math_Inf mss12_ok
theorem menv14_ok : menv14.Ok Try.prog false := mkEnvM_ok mxs_ok mss13_ok mws1_ok
-- math.Copysign
noncomputable def S_math_Copysign : List AV → Option AV
  | [AV.float a, AV.float c] => cond (nanb c) none (some (AV.float (fcps a c)))
  | _ => none
theorem t_math_Copysign : SOkM Try.prog false (69, pureS S_math_Copysign) := exact2 (N := 96) (A := .no) (lits := []) (fk := []) xenv_ok Try.func69 (fnNo _) Try.call69 (fun a c v => nanb c = false ∧ v = .float (fcps a c)) (fun args v h => by
    unfold S_math_Copysign at h
    split at h
    · obtain ⟨hn, h⟩ := cond_some' h rfl; cases h; exact ⟨_, _, rfl, hn, rfl⟩
    · cases h) fun b d v hb hd h => ⟨.float (cpsI b d).toNat, (show outB (evFnM Try.prog true xenv [] [] 96 .no Try.f69 [.float b, .float d] []) = some (u64ok (cpsI b d), .float (cpsI b d).toNat) by kernel_rfl).trans (by rw [cps_ob]), rfl, fun μ x hx => by obtain ⟨hn, rfl⟩ := h; exact toFloat hx (by rw [cps_val hb hd, not_nan_cn hn]; exact cps_cn)⟩
noncomputable def mss14 : List (FuncId × SFM) := (69, pureS S_math_Copysign) :: mss13
noncomputable def menv15 : EnvM := mkEnvM mxs mss14 mws1
theorem mss14_ok : All (SOkM Try.prog false) mss14 := All.cons t_math_Copysign mss13_ok
theorem menv15_ok : menv15.Ok Try.prog false := mkEnvM_ok mxs_ok mss14_ok mws1_ok
-- tumble/box.Join
theorem ann_box_Join : FnOk Try.prog false 0 Try.f15 Ann.no := (fnNo _)
noncomputable def s_box_Join_0 (a0_0 : Nat) (a0_1 : Nat) (a0_2 : Nat) (a0_3 : Nat) (a1_0 : Nat) (a1_1 : Nat) (a1_2 : Nat) (a1_3 : Nat) : Nat := (s_box_least_0 a0_0 a0_1 a1_0 a1_1)
noncomputable def s_box_Join_1 (a0_0 : Nat) (a0_1 : Nat) (a0_2 : Nat) (a0_3 : Nat) (a1_0 : Nat) (a1_1 : Nat) (a1_2 : Nat) (a1_3 : Nat) : Nat := (s_box_least_1 a0_0 a0_1 a1_0 a1_1)
noncomputable def s_box_Join_2 (a0_0 : Nat) (a0_1 : Nat) (a0_2 : Nat) (a0_3 : Nat) (a1_0 : Nat) (a1_1 : Nat) (a1_2 : Nat) (a1_3 : Nat) : Nat := (s_box_most_0 a0_2 a0_3 a1_2 a1_3)
noncomputable def s_box_Join_3 (a0_0 : Nat) (a0_1 : Nat) (a0_2 : Nat) (a0_3 : Nat) (a1_0 : Nat) (a1_1 : Nat) (a1_2 : Nat) (a1_3 : Nat) : Nat := (s_box_most_1 a0_2 a0_3 a1_2 a1_3)
theorem e_box_Join (a0_0 : Nat) (a0_1 : Nat) (a0_2 : Nat) (a0_3 : Nat) (a1_0 : Nat) (a1_1 : Nat) (a1_2 : Nat) (a1_3 : Nat) : outB (evFnM Try.prog false menv15 [] [] 96 Ann.no Try.f15 [AV.agg [.float a0_0, .float a0_1, .float a0_2, .float a0_3], AV.agg [.float a1_0, .float a1_1, .float a1_2, .float a1_3]] []) = some (true, AV.agg [AV.float (s_box_Join_0 a0_0 a0_1 a0_2 a0_3 a1_0 a1_1 a1_2 a1_3), AV.float (s_box_Join_1 a0_0 a0_1 a0_2 a0_3 a1_0 a1_1 a1_2 a1_3), AV.float (s_box_Join_2 a0_0 a0_1 a0_2 a0_3 a1_0 a1_1 a1_2 a1_3), AV.float (s_box_Join_3 a0_0 a0_1 a0_2 a0_3 a1_0 a1_1 a1_2 a1_3)]) := by kernel_rfl
noncomputable def S_box_Join : List AV → Option (Ob × AV)
  | [AV.agg [.float a0_0, .float a0_1, .float a0_2, .float a0_3], AV.agg [.float a1_0, .float a1_1, .float a1_2, .float a1_3]] => some (Ob.tt, AV.agg [AV.float (s_box_Join_0 a0_0 a0_1 a0_2 a0_3 a1_0 a1_1 a1_2 a1_3), AV.float (s_box_Join_1 a0_0 a0_1 a0_2 a0_3 a1_0 a1_1 a1_2 a1_3), AV.float (s_box_Join_2 a0_0 a0_1 a0_2 a0_3 a1_0 a1_1 a1_2 a1_3), AV.float (s_box_Join_3 a0_0 a0_1 a0_2 a0_3 a1_0 a1_1 a1_2 a1_3)])
  | _ => none
theorem ob_box_Join (a0_0 : Nat) (a0_1 : Nat) (a0_2 : Nat) (a0_3 : Nat) (a1_0 : Nat) (a1_1 : Nat) (a1_2 : Nat) (a1_3 : Nat) : true = true := rfl
theorem t_box_Join : SOkM Try.prog false (15, fun args => match S_box_Join args with | some (o, v) => some (o, v, []) | none => none) := SOkM.flat (N := 96) menv15_ok Try.func15 ann_box_Join Try.call15 fun args o v h ho => by
  unfold S_box_Join at h
  split at h
  · rename_i a0_0 a0_1 a0_2 a0_3 a1_0 a1_1 a1_2 a1_3
    cases h
    have ho2 := ho
    have this : outB (evFnM Try.prog false menv15 [] [] 96 Ann.no Try.f15 [AV.agg [.float a0_0, .float a0_1, .float a0_2, .float a0_3], AV.agg [.float a1_0, .float a1_1, .float a1_2, .float a1_3]] []) = some (true, AV.agg [AV.float (s_box_Join_0 a0_0 a0_1 a0_2 a0_3 a1_0 a1_1 a1_2 a1_3), AV.float (s_box_Join_1 a0_0 a0_1 a0_2 a0_3 a1_0 a1_1 a1_2 a1_3), AV.float (s_box_Join_2 a0_0 a0_1 a0_2 a0_3 a1_0 a1_1 a1_2 a1_3), AV.float (s_box_Join_3 a0_0 a0_1 a0_2 a0_3 a1_0 a1_1 a1_2 a1_3)]) := Eq.trans (show outB (evFnM Try.prog false menv15 [] [] 96 Ann.no Try.f15 [AV.agg [.float a0_0, .float a0_1, .float a0_2, .float a0_3], AV.agg [.float a1_0, .float a1_1, .float a1_2, .float a1_3]] []) = _ from e_box_Join a0_0 a0_1 a0_2 a0_3 a1_0 a1_1 a1_2 a1_3) (by rw [(ob_box_Join a0_0 a0_1 a0_2 a0_3 a1_0 a1_1 a1_2 a1_3)])
    exact ⟨this, rfl⟩
  · cases h
noncomputable def mss15 : List (FuncId × SFM) := (15, fun args => match S_box_Join args with | some (o, v) => some (o, v, []) | none => none) :: mss14
noncomputable def menv16 : EnvM := mkEnvM mxs mss15 mws1
theorem mss15_ok : All (SOkM Try.prog false) mss15 := All.cons t_box_Join mss14_ok
theorem menv16_ok : menv16.Ok Try.prog false := mkEnvM_ok mxs_ok mss15_ok mws1_ok
-- tumble/box.Moved$1
noncomputable def mws2 : List (FuncId × WFM) := (61, inlWM Try.prog false menv16 [] [] 96 .no Try.f61 100000) :: mws1
noncomputable def menv17 : EnvM := mkEnvM mxs mss15 mws2
theorem mws2_ok : All (WOkM Try.prog false) mws2 := All.cons (WOkM.inl menv16_ok Try.func61 (fnNo _) Try.call61) mws1_ok
theorem menv17_ok : menv17.Ok Try.prog false := mkEnvM_ok mxs_ok mss15_ok mws2_ok
-- tumble/box.Moved
noncomputable def mss16 : List (FuncId × SFM) := (29, inlSM Try.prog false menv17 [] [] 96 .no Try.f29) :: mss15
noncomputable def menv18 : EnvM := mkEnvM mxs mss16 mws2
theorem mss16_ok : All (SOkM Try.prog false) mss16 := All.cons (SOkM.inl menv17_ok Try.func29 (fnNo _) Try.call29) mss15_ok
theorem menv18_ok : menv18.Ok Try.prog false := mkEnvM_ok mxs_ok mss16_ok mws2_ok
-- math.Signbit
theorem ann_math_Signbit : FnOk Try.prog false 0 Try.f70 Ann.no := (fnNo _)
noncomputable def s_math_Signbit_0 (a0_0 : Nat) : Bool := (ilt (IntKind.wrap .i64 (Int.ofNat a0_0)) (0 : Int))
theorem e_math_Signbit (a0_0 : Nat) : outB (evFnM Try.prog false menv18 [] [] 96 Ann.no Try.f70 [AV.float a0_0] []) = some ((!(nanb a0_0)), AV.bool (s_math_Signbit_0 a0_0)) := by kernel_rfl
noncomputable def o_math_Signbit (a0_0 : Nat) : Bool := (!(nanb a0_0))
noncomputable def S_math_Signbit : List AV → Option (Ob × AV)
  | [AV.float a0_0] => some (Ob.bit (o_math_Signbit a0_0), AV.bool (s_math_Signbit_0 a0_0))
  | _ => none
theorem ob_math_Signbit (a0_0 : Nat) (ho : o_math_Signbit a0_0 = true) : (!(nanb a0_0)) = true := by
  unfold o_math_Signbit at ho
  exact ho
theorem t_math_Signbit : SOkM Try.prog false (70, fun args => match S_math_Signbit args with | some (o, v) => some (o, v, []) | none => none) := SOkM.flat (N := 96) menv18_ok Try.func70 ann_math_Signbit Try.call70 fun args o v h ho => by
  unfold S_math_Signbit at h
  split at h
  · rename_i a0_0
    cases h
    have ho2 := ho
    have this : outB (evFnM Try.prog false menv18 [] [] 96 Ann.no Try.f70 [AV.float a0_0] []) = some (true, AV.bool (s_math_Signbit_0 a0_0)) := Eq.trans (show outB (evFnM Try.prog false menv18 [] [] 96 Ann.no Try.f70 [AV.float a0_0] []) = _ from e_math_Signbit a0_0) (by rw [(ob_math_Signbit a0_0 ho2)])
    exact ⟨this, rfl⟩
  · cases h
noncomputable def mss17 : List (FuncId × SFM) := (70, fun args => match S_math_Signbit args with | some (o, v) => some (o, v, []) | none => none) :: mss16
noncomputable def menv19 : EnvM := mkEnvM mxs mss17 mws2
theorem mss17_ok : All (SOkM Try.prog false) mss17 := All.cons t_math_Signbit mss16_ok
theorem menv19_ok : menv19.Ok Try.prog false := mkEnvM_ok mxs_ok mss17_ok mws2_ok
-- tumble/box.In
theorem ann_box_In : FnOk Try.prog false 0 Try.f20 Ann.no := (fnNo _)
noncomputable def s_box_In_0 (a0_0 : Nat) (a0_1 : Nat) (a0_2 : Nat) (a0_3 : Nat) (a1_0 : Nat) (a1_1 : Nat) (a1_2 : Nat) (a1_3 : Nat) : Bool := ((s_box_below_0 a1_0 a1_1 a0_0 a0_1) && (s_box_below_0 a0_2 a0_3 a1_2 a1_3))
theorem e_box_In (a0_0 : Nat) (a0_1 : Nat) (a0_2 : Nat) (a0_3 : Nat) (a1_0 : Nat) (a1_1 : Nat) (a1_2 : Nat) (a1_3 : Nat) : outB (evFnM Try.prog false menv19 [] [] 96 Ann.no Try.f20 [AV.agg [.float a0_0, .float a0_1, .float a0_2, .float a0_3], AV.agg [.float a1_0, .float a1_1, .float a1_2, .float a1_3]] []) = some (true, AV.bool (s_box_In_0 a0_0 a0_1 a0_2 a0_3 a1_0 a1_1 a1_2 a1_3)) := by kernel_rfl
noncomputable def S_box_In : List AV → Option (Ob × AV)
  | [AV.agg [.float a0_0, .float a0_1, .float a0_2, .float a0_3], AV.agg [.float a1_0, .float a1_1, .float a1_2, .float a1_3]] => some (Ob.tt, AV.bool (s_box_In_0 a0_0 a0_1 a0_2 a0_3 a1_0 a1_1 a1_2 a1_3))
  | _ => none
theorem ob_box_In (a0_0 : Nat) (a0_1 : Nat) (a0_2 : Nat) (a0_3 : Nat) (a1_0 : Nat) (a1_1 : Nat) (a1_2 : Nat) (a1_3 : Nat) : true = true := rfl
theorem t_box_In : SOkM Try.prog false (20, fun args => match S_box_In args with | some (o, v) => some (o, v, []) | none => none) := SOkM.flat (N := 96) menv19_ok Try.func20 ann_box_In Try.call20 fun args o v h ho => by
  unfold S_box_In at h
  split at h
  · rename_i a0_0 a0_1 a0_2 a0_3 a1_0 a1_1 a1_2 a1_3
    cases h
    have ho2 := ho
    have this : outB (evFnM Try.prog false menv19 [] [] 96 Ann.no Try.f20 [AV.agg [.float a0_0, .float a0_1, .float a0_2, .float a0_3], AV.agg [.float a1_0, .float a1_1, .float a1_2, .float a1_3]] []) = some (true, AV.bool (s_box_In_0 a0_0 a0_1 a0_2 a0_3 a1_0 a1_1 a1_2 a1_3)) := Eq.trans (show outB (evFnM Try.prog false menv19 [] [] 96 Ann.no Try.f20 [AV.agg [.float a0_0, .float a0_1, .float a0_2, .float a0_3], AV.agg [.float a1_0, .float a1_1, .float a1_2, .float a1_3]] []) = _ from e_box_In a0_0 a0_1 a0_2 a0_3 a1_0 a1_1 a1_2 a1_3) (by rw [(ob_box_In a0_0 a0_1 a0_2 a0_3 a1_0 a1_1 a1_2 a1_3)])
    exact ⟨this, rfl⟩
  · cases h
noncomputable def mss18 : List (FuncId × SFM) := (20, fun args => match S_box_In args with | some (o, v) => some (o, v, []) | none => none) :: mss17
noncomputable def menv20 : EnvM := mkEnvM mxs mss18 mws2
theorem mss18_ok : All (SOkM Try.prog false) mss18 := All.cons t_box_In mss17_ok
theorem menv20_ok : menv20.Ok Try.prog false := mkEnvM_ok mxs_ok mss18_ok mws2_ok
-- tumble/box.Has
theorem ann_box_Has : FnOk Try.prog false 0 Try.f17 Ann.no := (fnNo _)
noncomputable def s_box_Has_0 (a0_0 : Nat) (a0_1 : Nat) (a0_2 : Nat) (a0_3 : Nat) (a1_0 : Nat) (a1_1 : Nat) : Bool := ((s_box_below_0 a0_0 a0_1 a1_0 a1_1) && (s_box_below_0 a1_0 a1_1 a0_2 a0_3))
theorem e_box_Has (a0_0 : Nat) (a0_1 : Nat) (a0_2 : Nat) (a0_3 : Nat) (a1_0 : Nat) (a1_1 : Nat) : outB (evFnM Try.prog false menv20 [] [] 96 Ann.no Try.f17 [AV.agg [.float a0_0, .float a0_1, .float a0_2, .float a0_3], AV.agg [.float a1_0, .float a1_1]] []) = some (true, AV.bool (s_box_Has_0 a0_0 a0_1 a0_2 a0_3 a1_0 a1_1)) := by kernel_rfl
noncomputable def S_box_Has : List AV → Option (Ob × AV)
  | [AV.agg [.float a0_0, .float a0_1, .float a0_2, .float a0_3], AV.agg [.float a1_0, .float a1_1]] => some (Ob.tt, AV.bool (s_box_Has_0 a0_0 a0_1 a0_2 a0_3 a1_0 a1_1))
  | _ => none
theorem ob_box_Has (a0_0 : Nat) (a0_1 : Nat) (a0_2 : Nat) (a0_3 : Nat) (a1_0 : Nat) (a1_1 : Nat) : true = true := rfl
theorem t_box_Has : SOkM Try.prog false (17, fun args => match S_box_Has args with | some (o, v) => some (o, v, []) | none => none) := SOkM.flat (N := 96) menv20_ok Try.func17 ann_box_Has Try.call17 fun args o v h ho => by
  unfold S_box_Has at h
  split at h
  · rename_i a0_0 a0_1 a0_2 a0_3 a1_0 a1_1
    cases h
    have ho2 := ho
    have this : outB (evFnM Try.prog false menv20 [] [] 96 Ann.no Try.f17 [AV.agg [.float a0_0, .float a0_1, .float a0_2, .float a0_3], AV.agg [.float a1_0, .float a1_1]] []) = some (true, AV.bool (s_box_Has_0 a0_0 a0_1 a0_2 a0_3 a1_0 a1_1)) := Eq.trans (show outB (evFnM Try.prog false menv20 [] [] 96 Ann.no Try.f17 [AV.agg [.float a0_0, .float a0_1, .float a0_2, .float a0_3], AV.agg [.float a1_0, .float a1_1]] []) = _ from e_box_Has a0_0 a0_1 a0_2 a0_3 a1_0 a1_1) (by rw [(ob_box_Has a0_0 a0_1 a0_2 a0_3 a1_0 a1_1)])
    exact ⟨this, rfl⟩
  · cases h
noncomputable def mss19 : List (FuncId × SFM) := (17, fun args => match S_box_Has args with | some (o, v) => some (o, v, []) | none => none) :: mss18
noncomputable def menv21 : EnvM := mkEnvM mxs mss19 mws2
theorem mss19_ok : All (SOkM Try.prog false) mss19 := All.cons t_box_Has mss18_ok
theorem menv21_ok : menv21.Ok Try.prog false := mkEnvM_ok mxs_ok mss19_ok mws2_ok
-- tumble/num.Finite[float64]
theorem ann_num_Finite_float64_ : FnOk Try.prog false 0 Try.f62 Ann.no := (fnNo _)
noncomputable def s_num_Finite_float64__0 (a0_0 : Nat) : Bool := (feq (fsub a0_0 a0_0) 0)
theorem e_num_Finite_float64_ (a0_0 : Nat) : outB (evFnM Try.prog false menv21 [] [] 96 Ann.no Try.f62 [AV.float a0_0] []) = some (true, AV.bool (s_num_Finite_float64__0 a0_0)) := by kernel_rfl
noncomputable def S_num_Finite_float64_ : List AV → Option (Ob × AV)
  | [AV.float a0_0] => some (Ob.tt, AV.bool (s_num_Finite_float64__0 a0_0))
  | _ => none
theorem ob_num_Finite_float64_ (a0_0 : Nat) : true = true := rfl
theorem t_num_Finite_float64_ : SOkM Try.prog false (62, fun args => match S_num_Finite_float64_ args with | some (o, v) => some (o, v, []) | none => none) := SOkM.flat (N := 96) menv21_ok Try.func62 ann_num_Finite_float64_ Try.call62 fun args o v h ho => by
  unfold S_num_Finite_float64_ at h
  split at h
  · rename_i a0_0
    cases h
    have ho2 := ho
    have this : outB (evFnM Try.prog false menv21 [] [] 96 Ann.no Try.f62 [AV.float a0_0] []) = some (true, AV.bool (s_num_Finite_float64__0 a0_0)) := Eq.trans (show outB (evFnM Try.prog false menv21 [] [] 96 Ann.no Try.f62 [AV.float a0_0] []) = _ from e_num_Finite_float64_ a0_0) (by rw [(ob_num_Finite_float64_ a0_0)])
    exact ⟨this, rfl⟩
  · cases h
noncomputable def mss20 : List (FuncId × SFM) := (62, fun args => match S_num_Finite_float64_ args with | some (o, v) => some (o, v, []) | none => none) :: mss19
noncomputable def menv22 : EnvM := mkEnvM mxs mss20 mws2
theorem mss20_ok : All (SOkM Try.prog false) mss20 := All.cons t_num_Finite_float64_ mss19_ok
theorem menv22_ok : menv22.Ok Try.prog false := mkEnvM_ok mxs_ok mss20_ok mws2_ok
-- tumble/vec.Finite
theorem ann_vec_Finite : FnOk Try.prog false 0 Try.f38 Ann.no := (fnNo _)
noncomputable def s_vec_Finite_0 (a0_0 : Nat) (a0_1 : Nat) : Bool := ((s_num_Finite_float64__0 a0_0) && (s_num_Finite_float64__0 a0_1))
theorem e_vec_Finite (a0_0 : Nat) (a0_1 : Nat) : outB (evFnM Try.prog false menv22 [] [] 96 Ann.no Try.f38 [AV.agg [.float a0_0, .float a0_1]] []) = some (true, AV.bool (s_vec_Finite_0 a0_0 a0_1)) := by kernel_rfl
noncomputable def S_vec_Finite : List AV → Option (Ob × AV)
  | [AV.agg [.float a0_0, .float a0_1]] => some (Ob.tt, AV.bool (s_vec_Finite_0 a0_0 a0_1))
  | _ => none
theorem ob_vec_Finite (a0_0 : Nat) (a0_1 : Nat) : true = true := rfl
theorem t_vec_Finite : SOkM Try.prog false (38, fun args => match S_vec_Finite args with | some (o, v) => some (o, v, []) | none => none) := SOkM.flat (N := 96) menv22_ok Try.func38 ann_vec_Finite Try.call38 fun args o v h ho => by
  unfold S_vec_Finite at h
  split at h
  · rename_i a0_0 a0_1
    cases h
    have ho2 := ho
    have this : outB (evFnM Try.prog false menv22 [] [] 96 Ann.no Try.f38 [AV.agg [.float a0_0, .float a0_1]] []) = some (true, AV.bool (s_vec_Finite_0 a0_0 a0_1)) := Eq.trans (show outB (evFnM Try.prog false menv22 [] [] 96 Ann.no Try.f38 [AV.agg [.float a0_0, .float a0_1]] []) = _ from e_vec_Finite a0_0 a0_1) (by rw [(ob_vec_Finite a0_0 a0_1)])
    exact ⟨this, rfl⟩
  · cases h
noncomputable def mss21 : List (FuncId × SFM) := (38, fun args => match S_vec_Finite args with | some (o, v) => some (o, v, []) | none => none) :: mss20
noncomputable def menv23 : EnvM := mkEnvM mxs mss21 mws2
theorem mss21_ok : All (SOkM Try.prog false) mss21 := All.cons t_vec_Finite mss20_ok
theorem menv23_ok : menv23.Ok Try.prog false := mkEnvM_ok mxs_ok mss21_ok mws2_ok
-- tumble/box.Check
theorem ann_box_Check : FnOk Try.prog false 0 Try.f14 Ann.no := (fnNo _)
noncomputable def s_box_Check_0 (a0_0 : Nat) (a0_1 : Nat) (a0_2 : Nat) (a0_3 : Nat) : Int := (bif ((((!(s_vec_Finite_0 a0_0 a0_1)) || (!(s_vec_Finite_0 a0_2 a0_3))) || (flt a0_2 a0_0)) || (flt a0_3 a0_1)) then (50 : Int) else (0 : Int))
theorem e_box_Check (a0_0 : Nat) (a0_1 : Nat) (a0_2 : Nat) (a0_3 : Nat) : outB (evFnM Try.prog false menv23 [] [] 96 Ann.no Try.f14 [AV.agg [.float a0_0, .float a0_1, .float a0_2, .float a0_3]] []) = some (true, AV.int .i64 (s_box_Check_0 a0_0 a0_1 a0_2 a0_3)) := by kernel_rfl
noncomputable def S_box_Check : List AV → Option (Ob × AV)
  | [AV.agg [.float a0_0, .float a0_1, .float a0_2, .float a0_3]] => some (Ob.tt, AV.int .i64 (s_box_Check_0 a0_0 a0_1 a0_2 a0_3))
  | _ => none
theorem ob_box_Check (a0_0 : Nat) (a0_1 : Nat) (a0_2 : Nat) (a0_3 : Nat) : true = true := rfl
theorem t_box_Check : SOkM Try.prog false (14, fun args => match S_box_Check args with | some (o, v) => some (o, v, []) | none => none) := SOkM.flat (N := 96) menv23_ok Try.func14 ann_box_Check Try.call14 fun args o v h ho => by
  unfold S_box_Check at h
  split at h
  · rename_i a0_0 a0_1 a0_2 a0_3
    cases h
    have ho2 := ho
    have this : outB (evFnM Try.prog false menv23 [] [] 96 Ann.no Try.f14 [AV.agg [.float a0_0, .float a0_1, .float a0_2, .float a0_3]] []) = some (true, AV.int .i64 (s_box_Check_0 a0_0 a0_1 a0_2 a0_3)) := Eq.trans (show outB (evFnM Try.prog false menv23 [] [] 96 Ann.no Try.f14 [AV.agg [.float a0_0, .float a0_1, .float a0_2, .float a0_3]] []) = _ from e_box_Check a0_0 a0_1 a0_2 a0_3) (by rw [(ob_box_Check a0_0 a0_1 a0_2 a0_3)])
    exact ⟨this, rfl⟩
  · cases h
noncomputable def mss22 : List (FuncId × SFM) := (14, fun args => match S_box_Check args with | some (o, v) => some (o, v, []) | none => none) :: mss21
noncomputable def menv24 : EnvM := mkEnvM mxs mss22 mws2
theorem mss22_ok : All (SOkM Try.prog false) mss22 := All.cons t_box_Check mss21_ok
theorem menv24_ok : menv24.Ok Try.prog false := mkEnvM_ok mxs_ok mss22_ok mws2_ok
-- tumble/tumblelaw05.odds
theorem ann_law05_odds : FnOk Try.prog false 0 Try.f47 Ann.no := (fnNo _)
noncomputable def s_law05_odds_0 : Bool := true
theorem e_law05_odds : outB (evFnM Try.prog false menv24 [] [] 96 Ann.no Try.f47 [] []) = some (true, AV.bool (s_law05_odds_0)) := by kernel_rfl
noncomputable def S_law05_odds : List AV → Option (Ob × AV)
  | [] => some (Ob.tt, AV.bool (s_law05_odds_0))
  | _ => none
theorem ob_law05_odds : true = true := rfl
theorem t_law05_odds : SOkM Try.prog false (47, fun args => match S_law05_odds args with | some (o, v) => some (o, v, []) | none => none) := SOkM.flat (N := 96) menv24_ok Try.func47 ann_law05_odds Try.call47 fun args o v h ho => by
  unfold S_law05_odds at h
  split at h
  · skip
    cases h
    have ho2 := ho
    have this : outB (evFnM Try.prog false menv24 [] [] 96 Ann.no Try.f47 [] []) = some (true, AV.bool (s_law05_odds_0)) := Eq.trans (show outB (evFnM Try.prog false menv24 [] [] 96 Ann.no Try.f47 [] []) = _ from e_law05_odds) (by rw [(ob_law05_odds)])
    exact ⟨this, rfl⟩
  · cases h
noncomputable def mss23 : List (FuncId × SFM) := (47, fun args => match S_law05_odds args with | some (o, v) => some (o, v, []) | none => none) :: mss22
noncomputable def menv25 : EnvM := mkEnvM mxs mss23 mws2
theorem mss23_ok : All (SOkM Try.prog false) mss23 := All.cons t_law05_odds mss22_ok
theorem menv25_ok : menv25.Ok Try.prog false := mkEnvM_ok mxs_ok mss23_ok mws2_ok
-- tumble/vec.Sub
theorem ann_vec_Sub : FnOk Try.prog false 0 Try.f59 Ann.no := (fnNo _)
noncomputable def s_vec_Sub_0 (a0_0 : Nat) (a0_1 : Nat) (a1_0 : Nat) (a1_1 : Nat) : Nat := (fsub a0_0 a1_0)
noncomputable def s_vec_Sub_1 (a0_0 : Nat) (a0_1 : Nat) (a1_0 : Nat) (a1_1 : Nat) : Nat := (fsub a0_1 a1_1)
theorem e_vec_Sub (a0_0 : Nat) (a0_1 : Nat) (a1_0 : Nat) (a1_1 : Nat) : outB (evFnM Try.prog false menv25 [] [] 96 Ann.no Try.f59 [AV.agg [.float a0_0, .float a0_1], AV.agg [.float a1_0, .float a1_1]] []) = some (true, AV.agg [AV.float (s_vec_Sub_0 a0_0 a0_1 a1_0 a1_1), AV.float (s_vec_Sub_1 a0_0 a0_1 a1_0 a1_1)]) := by kernel_rfl
noncomputable def S_vec_Sub : List AV → Option (Ob × AV)
  | [AV.agg [.float a0_0, .float a0_1], AV.agg [.float a1_0, .float a1_1]] => some (Ob.tt, AV.agg [AV.float (s_vec_Sub_0 a0_0 a0_1 a1_0 a1_1), AV.float (s_vec_Sub_1 a0_0 a0_1 a1_0 a1_1)])
  | _ => none
theorem ob_vec_Sub (a0_0 : Nat) (a0_1 : Nat) (a1_0 : Nat) (a1_1 : Nat) : true = true := rfl
theorem t_vec_Sub : SOkM Try.prog false (59, fun args => match S_vec_Sub args with | some (o, v) => some (o, v, []) | none => none) := SOkM.flat (N := 96) menv25_ok Try.func59 ann_vec_Sub Try.call59 fun args o v h ho => by
  unfold S_vec_Sub at h
  split at h
  · rename_i a0_0 a0_1 a1_0 a1_1
    cases h
    have ho2 := ho
    have this : outB (evFnM Try.prog false menv25 [] [] 96 Ann.no Try.f59 [AV.agg [.float a0_0, .float a0_1], AV.agg [.float a1_0, .float a1_1]] []) = some (true, AV.agg [AV.float (s_vec_Sub_0 a0_0 a0_1 a1_0 a1_1), AV.float (s_vec_Sub_1 a0_0 a0_1 a1_0 a1_1)]) := Eq.trans (show outB (evFnM Try.prog false menv25 [] [] 96 Ann.no Try.f59 [AV.agg [.float a0_0, .float a0_1], AV.agg [.float a1_0, .float a1_1]] []) = _ from e_vec_Sub a0_0 a0_1 a1_0 a1_1) (by rw [(ob_vec_Sub a0_0 a0_1 a1_0 a1_1)])
    exact ⟨this, rfl⟩
  · cases h
noncomputable def mss24 : List (FuncId × SFM) := (59, fun args => match S_vec_Sub args with | some (o, v) => some (o, v, []) | none => none) :: mss23
noncomputable def menv26 : EnvM := mkEnvM mxs mss24 mws2
theorem mss24_ok : All (SOkM Try.prog false) mss24 := All.cons t_vec_Sub mss23_ok
theorem menv26_ok : menv26.Ok Try.prog false := mkEnvM_ok mxs_ok mss24_ok mws2_ok
-- tumble/box.Size
theorem ann_box_Size : FnOk Try.prog false 0 Try.f31 Ann.no := (fnNo _)
noncomputable def s_box_Size_0 (a0_0 : Nat) (a0_1 : Nat) (a0_2 : Nat) (a0_3 : Nat) : Nat := (fadd (s_vec_Sub_0 a0_2 a0_3 a0_0 a0_1) (s_vec_Sub_1 a0_2 a0_3 a0_0 a0_1))
theorem e_box_Size (a0_0 : Nat) (a0_1 : Nat) (a0_2 : Nat) (a0_3 : Nat) : outB (evFnM Try.prog false menv26 [] [] 96 Ann.no Try.f31 [AV.agg [.float a0_0, .float a0_1, .float a0_2, .float a0_3]] []) = some (true, AV.float (s_box_Size_0 a0_0 a0_1 a0_2 a0_3)) := by kernel_rfl
noncomputable def S_box_Size : List AV → Option (Ob × AV)
  | [AV.agg [.float a0_0, .float a0_1, .float a0_2, .float a0_3]] => some (Ob.tt, AV.float (s_box_Size_0 a0_0 a0_1 a0_2 a0_3))
  | _ => none
theorem ob_box_Size (a0_0 : Nat) (a0_1 : Nat) (a0_2 : Nat) (a0_3 : Nat) : true = true := rfl
theorem t_box_Size : SOkM Try.prog false (31, fun args => match S_box_Size args with | some (o, v) => some (o, v, []) | none => none) := SOkM.flat (N := 96) menv26_ok Try.func31 ann_box_Size Try.call31 fun args o v h ho => by
  unfold S_box_Size at h
  split at h
  · rename_i a0_0 a0_1 a0_2 a0_3
    cases h
    have ho2 := ho
    have this : outB (evFnM Try.prog false menv26 [] [] 96 Ann.no Try.f31 [AV.agg [.float a0_0, .float a0_1, .float a0_2, .float a0_3]] []) = some (true, AV.float (s_box_Size_0 a0_0 a0_1 a0_2 a0_3)) := Eq.trans (show outB (evFnM Try.prog false menv26 [] [] 96 Ann.no Try.f31 [AV.agg [.float a0_0, .float a0_1, .float a0_2, .float a0_3]] []) = _ from e_box_Size a0_0 a0_1 a0_2 a0_3) (by rw [(ob_box_Size a0_0 a0_1 a0_2 a0_3)])
    exact ⟨this, rfl⟩
  · cases h
noncomputable def mss25 : List (FuncId × SFM) := (31, fun args => match S_box_Size args with | some (o, v) => some (o, v, []) | none => none) :: mss24
noncomputable def menv27 : EnvM := mkEnvM mxs mss25 mws2
theorem mss25_ok : All (SOkM Try.prog false) mss25 := All.cons t_box_Size mss24_ok
theorem menv27_ok : menv27.Ok Try.prog false := mkEnvM_ok mxs_ok mss25_ok mws2_ok
-- tumble/tumblelaw05.alive
theorem ann_law05_alive : FnOk Try.prog false 0 Try.f10 Ann.no := (fnNo _)
noncomputable def s_law05_alive_0 : Bool := true
theorem e_law05_alive : outB (evFnM Try.prog false menv27 [] [] 96 Ann.no Try.f10 [] []) = some (true, AV.bool (s_law05_alive_0)) := by kernel_rfl
noncomputable def S_law05_alive : List AV → Option (Ob × AV)
  | [] => some (Ob.tt, AV.bool (s_law05_alive_0))
  | _ => none
theorem ob_law05_alive : true = true := rfl
theorem t_law05_alive : SOkM Try.prog false (10, fun args => match S_law05_alive args with | some (o, v) => some (o, v, []) | none => none) := SOkM.flat (N := 96) menv27_ok Try.func10 ann_law05_alive Try.call10 fun args o v h ho => by
  unfold S_law05_alive at h
  split at h
  · skip
    cases h
    have ho2 := ho
    have this : outB (evFnM Try.prog false menv27 [] [] 96 Ann.no Try.f10 [] []) = some (true, AV.bool (s_law05_alive_0)) := Eq.trans (show outB (evFnM Try.prog false menv27 [] [] 96 Ann.no Try.f10 [] []) = _ from e_law05_alive) (by rw [(ob_law05_alive)])
    exact ⟨this, rfl⟩
  · cases h
noncomputable def mss26 : List (FuncId × SFM) := (10, fun args => match S_law05_alive args with | some (o, v) => some (o, v, []) | none => none) :: mss25
noncomputable def menv28 : EnvM := mkEnvM mxs mss26 mws2
theorem mss26_ok : All (SOkM Try.prog false) mss26 := All.cons t_law05_alive mss25_ok
theorem menv28_ok : menv28.Ok Try.prog false := mkEnvM_ok mxs_ok mss26_ok mws2_ok
-- tumble/box.Of
-- a loop of tumble/box.Of
structure V_box_Of_L0 where
  v0 : Int
  v1 : Nat
  v2 : Nat
  v3 : Nat
  v4 : Nat
def tpl_box_Of_L0 : List AV := [AV.top, AV.top, AV.nul, AV.top, AV.nul, AV.top, AV.top, AV.top, AV.top, AV.top, AV.top, AV.top, AV.top, AV.top, AV.top, AV.top, AV.top, AV.top, AV.nul, AV.nul, AV.nul, AV.top, AV.top, AV.top, AV.top, AV.top, AV.top, AV.top, AV.top, AV.top, AV.top, AV.top, AV.top, AV.top, AV.top]
def cts_box_Of_L0 : List CT := [CT.keep, CT.keep]
def phs_box_Of_L0 : List Src := []
def T_box_Of_L0 (c0 : Nat) (c1 : (Nat → Nat)) (c2 : (Nat → Nat)) (c3 : Int) (x : V_box_Of_L0) (F0 : Nat → List AV) : List AV × Heap := ([AV.top, AV.top, AV.ptr (some ⟨0, 0, .lit 0⟩), AV.top, AV.ptr (some ⟨1, 0, .lit 0⟩), AV.top, AV.top, AV.top, AV.top, AV.top, AV.top, AV.top, AV.top, AV.top, AV.top, AV.top, AV.top, AV.top, AV.view c0 2 F0, AV.int .i64 c3, AV.int .i64 x.v0, AV.top, AV.top, AV.top, AV.top, AV.top, AV.top, AV.top, AV.top, AV.top, AV.top, AV.top, AV.top, AV.top, AV.top], [⟨.flat [AV.float 0, AV.float 0, AV.float 0, AV.float 0], 26, 0⟩, ⟨.flat [AV.float x.v1, AV.float x.v2, AV.float x.v3, AV.float x.v4], 26, 0⟩])
def sh_box_Of_L0 (c0 : Nat) (c1 : (Nat → Nat)) (c2 : (Nat → Nat)) (c3 : Int) (x : V_box_Of_L0) : List AV × Heap := T_box_Of_L0 c0 c1 c2 c3 x (fun (j0 : Nat) => [AV.float (c1 j0), AV.float (c2 j0)])
noncomputable def step_box_Of_L0 (c0 : Nat) (c1 : (Nat → Nat)) (c2 : (Nat → Nat)) (c3 : Int) (x : V_box_Of_L0) : V_box_Of_L0 := V_box_Of_L0.mk (IntKind.wrap .i64 (x.v0 + (1 : Int))) (s_box_least_0 x.v1 x.v2 (c1 (Int.toNat x.v0)) (c2 (Int.toNat x.v0))) (s_box_least_1 x.v1 x.v2 (c1 (Int.toNat x.v0)) (c2 (Int.toNat x.v0))) (s_box_most_0 x.v3 x.v4 (c1 (Int.toNat x.v0)) (c2 (Int.toNat x.v0))) (s_box_most_1 x.v3 x.v4 (c1 (Int.toNat x.v0)) (c2 (Int.toNat x.v0)))
noncomputable def go_box_Of_L0 (c0 : Nat) (c1 : (Nat → Nat)) (c2 : (Nat → Nat)) (c3 : Int) (x : V_box_Of_L0) : Bool := (bif (!(ilt x.v0 c3)) then false else true)
noncomputable def ok_box_Of_L0 (c0 : Nat) (c1 : (Nat → Nat)) (c2 : (Nat → Nat)) (c3 : Int) (x : V_box_Of_L0) : Bool := ((!(ilt x.v0 c3)) || ((ile (0 : Int) x.v0) && (Nat.blt (Int.toNat x.v0) c0)))
noncomputable def L_box_Of_L0 (c0 : Nat) (c1 : (Nat → Nat)) (c2 : (Nat → Nat)) (c3 : Int) (x : V_box_Of_L0) : V_box_Of_L0 := lastL (ok_box_Of_L0 c0 c1 c2 c3) (go_box_Of_L0 c0 c1 c2 c3) (step_box_Of_L0 c0 c1 c2 c3) x
noncomputable def E_box_Of_L0 (c0 : Nat) (c1 : (Nat → Nat)) (c2 : (Nat → Nat)) (c3 : Int) (x : V_box_Of_L0) : Bool := endsL (ok_box_Of_L0 c0 c1 c2 c3) (go_box_Of_L0 c0 c1 c2 c3) (step_box_Of_L0 c0 c1 c2 c3) x
theorem all_box_Of_L0 (c0 : Nat) (c1 : (Nat → Nat)) (c2 : (Nat → Nat)) (c3 : Int) (x : V_box_Of_L0) : rnd Try.prog false menv28 [] [] 96 Ann.no (subC [1, 1, 1, 0, 1, 0, 0] (codeOf Try.f35)) 0 [⟨some 0, 0, 0, []⟩, ⟨some 1, 0, 0, []⟩] tpl_box_Of_L0 cts_box_Of_L0 [true, true, false, true, false, true, true, true, true, true, true, true, true, true, true, true, true, true, false, false, true, true, true, true, true, true, true, true, true, true, true, true, true, true, true] [false, true] (sh_box_Of_L0 c0 c1 c2 c3 x) = (true, true, go_box_Of_L0 c0 c1 c2 c3 x, ok_box_Of_L0 c0 c1 c2 c3 x, true, sh_box_Of_L0 c0 c1 c2 c3 (step_box_Of_L0 c0 c1 c2 c3 x), true) := by kernel_rfl
noncomputable def fam_box_Of_L0 (c0 : Nat) (c1 : (Nat → Nat)) (c2 : (Nat → Nat)) (c3 : Int) : Fam Try.prog false menv28 [] [] 96 0 Ann.no (subC [1, 1, 1, 0, 1, 0, 0] (codeOf Try.f35)) V_box_Of_L0 where
  sh := sh_box_Of_L0 c0 c1 c2 c3
  ok := ok_box_Of_L0 c0 c1 c2 c3
  go := go_box_Of_L0 c0 c1 c2 c3
  step := step_box_Of_L0 c0 c1 c2 c3
  chg := [true, true, false, true, false, true, true, true, true, true, true, true, true, true, true, true, true, true, false, false, true, true, true, true, true, true, true, true, true, true, true, true, true, true, true]
  chgH := [false, true]
  tpl := tpl_box_Of_L0
  cts := cts_box_Of_L0
  keep := 0
  srcs := [⟨some 0, 0, 0, []⟩, ⟨some 1, 0, 0, []⟩]
  ann := (annNo (subC [1, 1, 1, 0, 1, 0, 0] (codeOf Try.f35)))
  le := by kernel_rfl
  kept := by kernel_rfl
  keptB := by kernel_rfl
  all := all_box_Of_L0 c0 c1 c2 c3
  len := fun x => by kernel_rfl
  head := fun x y => by kernel_rfl
  con := fun x y => by kernel_rfl
  conH := fun x y => by kernel_rfl
noncomputable def F_box_Of_L0 : St → Option Ch := fun s => cond (Nat.beq s.tm.length 35 && Nat.beq s.H.length 2) (tkTops 2 (alL tpl_box_Of_L0 s.tm) fun t0 => tkCons t0 fun a1 t1 => tkPtr 0 0 0 a1 <| tkTops 1 t1 fun t2 => tkCons t2 fun a3 t3 => tkPtr 1 0 0 a3 <| tkTops 13 t3 fun t4 => tkCons t4 fun a5 t5 => tkView 2 a5 fun s0 f0 => tkCons t5 fun a6 t6 => tkI .i64 a6 fun s3 => tkCons t6 fun a7 t7 => tkI .i64 a7 fun s4 => tkTops 14 t7 fun t8 => tkNil t8 <| tkCons (alH cts_box_Of_L0 (s.H ++ List.map phan phs_box_Of_L0)) fun b9 t9 => tkFlat 26 0 b9 fun m9 => tkCons m9 fun a10 t10 => tkFL 0 a10 <| tkCons t10 fun a11 t11 => tkFL 0 a11 <| tkCons t11 fun a12 t12 => tkFL 0 a12 <| tkCons t12 fun a13 t13 => tkFL 0 a13 <| tkNil t13 <| tkCons t9 fun b14 t14 => tkFlat 26 0 b14 fun m14 => tkCons m14 fun a15 t15 => tkF a15 fun s9 => tkCons t15 fun a16 t16 => tkF a16 fun s10 => tkCons t16 fun a17 t17 => tkF a17 fun s11 => tkCons t17 fun a18 t18 => tkF a18 fun s12 => tkNil t18 <| tkNil t14 <| Fam.out (fam_box_Of_L0 s0 (fun (i : Nat) => flO (atL (f0 i) 0)) (fun (i : Nat) => flO (atL (f0 i) 1)) s3) s (allB fun (i : Nat) => isNrm [Ck.f, Ck.f] (f0 i)) (V_box_Of_L0.mk s4 s9 s10 s11 s12)) none
theorem F_box_Of_L0_ok : ∀ s ch, F_box_Of_L0 s = some ch → AllI s ch ∧ LoopSpec Try.prog false 0 (subC [1, 1, 1, 0, 1, 0, 0] (codeOf Try.f35)) s (sel ch) := by
  intro s ch h
  unfold F_box_Of_L0 at h
  obtain ⟨hl, h0⟩ := cond_some h rfl
  clear h
  obtain ⟨hl, hb⟩ := and_beq2 hl
  obtain ⟨t0, e0, h1⟩ := tkTops_some h0
  obtain ⟨a1, t1, rfl, h2⟩ := tkCons_some h1
  obtain ⟨rfl, h3⟩ := tkPtr_some h2
  obtain ⟨t2, rfl, h4⟩ := tkTops_some h3
  obtain ⟨a3, t3, rfl, h5⟩ := tkCons_some h4
  obtain ⟨rfl, h6⟩ := tkPtr_some h5
  obtain ⟨t4, rfl, h7⟩ := tkTops_some h6
  obtain ⟨a5, t5, rfl, h8⟩ := tkCons_some h7
  obtain ⟨s0, f0, rfl, h9⟩ := tkView_some h8
  obtain ⟨a6, t6, rfl, h10⟩ := tkCons_some h9
  obtain ⟨s3, rfl, h11⟩ := tkI_some h10
  obtain ⟨a7, t7, rfl, h12⟩ := tkCons_some h11
  obtain ⟨s4, rfl, h13⟩ := tkI_some h12
  obtain ⟨t8, rfl, h14⟩ := tkTops_some h13
  obtain ⟨rfl, h15⟩ := tkNil_some h14
  obtain ⟨b9, t9, eH, h16⟩ := tkCons_some h15
  obtain ⟨m9, rfl, h17⟩ := tkFlat_some h16
  obtain ⟨a10, t10, rfl, h18⟩ := tkCons_some h17
  obtain ⟨rfl, h19⟩ := tkFL_some h18
  obtain ⟨a11, t11, rfl, h20⟩ := tkCons_some h19
  obtain ⟨rfl, h21⟩ := tkFL_some h20
  obtain ⟨a12, t12, rfl, h22⟩ := tkCons_some h21
  obtain ⟨rfl, h23⟩ := tkFL_some h22
  obtain ⟨a13, t13, rfl, h24⟩ := tkCons_some h23
  obtain ⟨rfl, h25⟩ := tkFL_some h24
  obtain ⟨rfl, h26⟩ := tkNil_some h25
  obtain ⟨b14, t14, rfl, h27⟩ := tkCons_some h26
  obtain ⟨m14, rfl, h28⟩ := tkFlat_some h27
  obtain ⟨a15, t15, rfl, h29⟩ := tkCons_some h28
  obtain ⟨s9, rfl, h30⟩ := tkF_some h29
  obtain ⟨a16, t16, rfl, h31⟩ := tkCons_some h30
  obtain ⟨s10, rfl, h32⟩ := tkF_some h31
  obtain ⟨a17, t17, rfl, h33⟩ := tkCons_some h32
  obtain ⟨s11, rfl, h34⟩ := tkF_some h33
  obtain ⟨a18, t18, rfl, h35⟩ := tkCons_some h34
  obtain ⟨s12, rfl, h36⟩ := tkF_some h35
  obtain ⟨rfl, h37⟩ := tkNil_some h36
  obtain ⟨rfl, h38⟩ := tkNil_some h37
  refine Fam.spec menv28_ok (fam_box_Of_L0 s0 (fun (i : Nat) => flO (atL (f0 i) 0)) (fun (i : Nat) => flO (atL (f0 i) 1)) s3) (phs := phs_box_Of_L0) (hl.trans (by kernel_rfl)) (hb.trans (by kernel_rfl)) ?_ ?_ h38
  · rw [← hdr_alH cts_box_Of_L0 (s.H ++ List.map phan phs_box_Of_L0), eH]; kernel_rfl
  · intro hq
    have hq0 := hq
    have n0 := nrm_fun hq0
    show sh_box_Of_L0 s0 (fun (i : Nat) => flO (atL (f0 i) 0)) (fun (i : Nat) => flO (atL (f0 i) 1)) s3 (V_box_Of_L0.mk s4 s9 s10 s11 s12) = (alL tpl_box_Of_L0 s.tm, alH cts_box_Of_L0 (s.H ++ List.map phan phs_box_Of_L0))
    rw [e0, eH]
    refine Eq.trans (show sh_box_Of_L0 s0 (fun (i : Nat) => flO (atL (f0 i) 0)) (fun (i : Nat) => flO (atL (f0 i) 1)) s3 (V_box_Of_L0.mk s4 s9 s10 s11 s12) = T_box_Of_L0 s0 (fun (i : Nat) => flO (atL (f0 i) 0)) (fun (i : Nat) => flO (atL (f0 i) 1)) s3 (V_box_Of_L0.mk s4 s9 s10 s11 s12) (fun (i : Nat) => mkN [Ck.f, Ck.f] (f0 i) 0) by kernel_rfl) ?_
    rw [n0]
    kernel_rfl
theorem ann_box_Of : FnOk Try.prog false 0 Try.f35 (Ann.two Ann.no (Ann.two Ann.no (Ann.two Ann.no (Ann.two (Ann.two Ann.no (Ann.one (Ann.loop F_box_Of_L0))) Ann.no)))) := (fnOk_of (c := codeOf Try.f35) (by kernel_rfl) (annSeq (a := (subC [0] (codeOf Try.f35))) (b := (subC [1] (codeOf Try.f35))) (by kernel_rfl) (annNo (subC [0] (codeOf Try.f35))) (annSeq (a := (subC [1, 0] (codeOf Try.f35))) (b := (subC [1, 1] (codeOf Try.f35))) (by kernel_rfl) (annNo (subC [1, 0] (codeOf Try.f35))) (annSeq (a := (subC [1, 1, 0] (codeOf Try.f35))) (b := (subC [1, 1, 1] (codeOf Try.f35))) (by kernel_rfl) (annNo (subC [1, 1, 0] (codeOf Try.f35))) (annSeq (a := (subC [1, 1, 1, 0] (codeOf Try.f35))) (b := (subC [1, 1, 1, 1] (codeOf Try.f35))) (by kernel_rfl) (annSeq (a := (subC [1, 1, 1, 0, 0] (codeOf Try.f35))) (b := (subC [1, 1, 1, 0, 1] (codeOf Try.f35))) (by kernel_rfl) (annNo (subC [1, 1, 1, 0, 0] (codeOf Try.f35))) (annBlock (a := (subC [1, 1, 1, 0, 1, 0] (codeOf Try.f35))) (i := 0) (by kernel_rfl) (annLoop (a := (subC [1, 1, 1, 0, 1, 0, 0] (codeOf Try.f35))) (by kernel_rfl) F_box_Of_L0_ok))) (annNo (subC [1, 1, 1, 1] (codeOf Try.f35))))))))
noncomputable def s_box_Of_0 (a0_0n : Nat) (a0_0_0 : Nat → Nat) (a0_0_1 : Nat → Nat) : Nat := (bif (ieq (Int.ofNat a0_0n) (0 : Int)) then 0 else ((L_box_Of_L0 a0_0n a0_0_0 a0_0_1 (Int.ofNat a0_0n) (V_box_Of_L0.mk (0 : Int) (a0_0_0 0) (a0_0_1 0) (a0_0_0 0) (a0_0_1 0))).v1))
noncomputable def s_box_Of_1 (a0_0n : Nat) (a0_0_0 : Nat → Nat) (a0_0_1 : Nat → Nat) : Nat := (bif (ieq (Int.ofNat a0_0n) (0 : Int)) then 0 else ((L_box_Of_L0 a0_0n a0_0_0 a0_0_1 (Int.ofNat a0_0n) (V_box_Of_L0.mk (0 : Int) (a0_0_0 0) (a0_0_1 0) (a0_0_0 0) (a0_0_1 0))).v2))
noncomputable def s_box_Of_2 (a0_0n : Nat) (a0_0_0 : Nat → Nat) (a0_0_1 : Nat → Nat) : Nat := (bif (ieq (Int.ofNat a0_0n) (0 : Int)) then 0 else ((L_box_Of_L0 a0_0n a0_0_0 a0_0_1 (Int.ofNat a0_0n) (V_box_Of_L0.mk (0 : Int) (a0_0_0 0) (a0_0_1 0) (a0_0_0 0) (a0_0_1 0))).v3))
noncomputable def s_box_Of_3 (a0_0n : Nat) (a0_0_0 : Nat → Nat) (a0_0_1 : Nat → Nat) : Nat := (bif (ieq (Int.ofNat a0_0n) (0 : Int)) then 0 else ((L_box_Of_L0 a0_0n a0_0_0 a0_0_1 (Int.ofNat a0_0n) (V_box_Of_L0.mk (0 : Int) (a0_0_0 0) (a0_0_1 0) (a0_0_0 0) (a0_0_1 0))).v4))
noncomputable def s_box_Of_4 (a0_0n : Nat) (a0_0_0 : Nat → Nat) (a0_0_1 : Nat → Nat) : Bool := (bif (ieq (Int.ofNat a0_0n) (0 : Int)) then false else true)
theorem e_box_Of (a0_0n : Nat) (a0_0_0 : Nat → Nat) (a0_0_1 : Nat → Nat) : outB (evFnM Try.prog false menv28 [] [] 96 (Ann.two Ann.no (Ann.two Ann.no (Ann.two Ann.no (Ann.two (Ann.two Ann.no (Ann.one (Ann.loop F_box_Of_L0))) Ann.no)))) Try.f35 [AV.view a0_0n 2 (fun (i0 : Nat) => [AV.float (a0_0_0 i0), AV.float (a0_0_1 i0)])] []) = some (((ieq (Int.ofNat a0_0n) (0 : Int)) || (((Nat.blt 0 a0_0n) && (Nat.blt 0 a0_0n)) && ((allB fun _ => true) && (E_box_Of_L0 a0_0n a0_0_0 a0_0_1 (Int.ofNat a0_0n) (V_box_Of_L0.mk (0 : Int) (a0_0_0 0) (a0_0_1 0) (a0_0_0 0) (a0_0_1 0)))))), AV.tup [AV.agg [AV.float (s_box_Of_0 a0_0n a0_0_0 a0_0_1), AV.float (s_box_Of_1 a0_0n a0_0_0 a0_0_1), AV.float (s_box_Of_2 a0_0n a0_0_0 a0_0_1), AV.float (s_box_Of_3 a0_0n a0_0_0 a0_0_1)], AV.bool (s_box_Of_4 a0_0n a0_0_0 a0_0_1)]) := by kernel_rfl
noncomputable def o_box_Of (a0_0n : Nat) (a0_0_0 : Nat → Nat) (a0_0_1 : Nat → Nat) : Bool := ((ieq (Int.ofNat a0_0n) (0 : Int)) || (((Nat.blt 0 a0_0n) && (Nat.blt 0 a0_0n)) && (E_box_Of_L0 a0_0n a0_0_0 a0_0_1 (Int.ofNat a0_0n) (V_box_Of_L0.mk (0 : Int) (a0_0_0 0) (a0_0_1 0) (a0_0_0 0) (a0_0_1 0)))))
noncomputable def S_box_Of : List AV → Option (Ob × AV)
  | [AV.view a0_0n 2 a0_0f] => some (Ob.both (Ob.bit (allB fun (i : Nat) => isNrm [Ck.f, Ck.f] (a0_0f i))) (Ob.bit (o_box_Of a0_0n (fun (i0 : Nat) => (flO (atL (a0_0f i0) 0))) (fun (i0 : Nat) => (flO (atL (a0_0f i0) 1))))), AV.tup [AV.agg [AV.float (s_box_Of_0 a0_0n (fun (i0 : Nat) => (flO (atL (a0_0f i0) 0))) (fun (i0 : Nat) => (flO (atL (a0_0f i0) 1)))), AV.float (s_box_Of_1 a0_0n (fun (i0 : Nat) => (flO (atL (a0_0f i0) 0))) (fun (i0 : Nat) => (flO (atL (a0_0f i0) 1)))), AV.float (s_box_Of_2 a0_0n (fun (i0 : Nat) => (flO (atL (a0_0f i0) 0))) (fun (i0 : Nat) => (flO (atL (a0_0f i0) 1)))), AV.float (s_box_Of_3 a0_0n (fun (i0 : Nat) => (flO (atL (a0_0f i0) 0))) (fun (i0 : Nat) => (flO (atL (a0_0f i0) 1))))], AV.bool (s_box_Of_4 a0_0n (fun (i0 : Nat) => (flO (atL (a0_0f i0) 0))) (fun (i0 : Nat) => (flO (atL (a0_0f i0) 1))))])
  | _ => none
theorem ob_box_Of (a0_0n : Nat) (a0_0_0 : Nat → Nat) (a0_0_1 : Nat → Nat) (ho : o_box_Of a0_0n a0_0_0 a0_0_1 = true) : ((ieq (Int.ofNat a0_0n) (0 : Int)) || (((Nat.blt 0 a0_0n) && (Nat.blt 0 a0_0n)) && ((allB fun _ => true) && (E_box_Of_L0 a0_0n a0_0_0 a0_0_1 (Int.ofNat a0_0n) (V_box_Of_L0.mk (0 : Int) (a0_0_0 0) (a0_0_1 0) (a0_0_0 0) (a0_0_1 0)))))) = true := by
  unfold o_box_Of at ho
  simp only [allB_true, eqT_self, Bool.true_and, Bool.and_true] at ho ⊢
  exact ho
theorem t_box_Of : SOkM Try.prog false (35, fun args => match S_box_Of args with | some (o, v) => some (o, v, []) | none => none) := SOkM.flat (N := 96) menv28_ok Try.func35 ann_box_Of Try.call35 fun args o v h ho => by
  unfold S_box_Of at h
  split at h
  · rename_i a0_0n a0_0f
    cases h
    rw [Ob.both_ok, Bool.and_eq_true] at ho
    obtain ⟨hn, ho2⟩ := ho
    have n0 := hn
    simp only [Ob.ok] at n0
    replace n0 := nrm_fun n0
    have this : outB (evFnM Try.prog false menv28 [] [] 96 (Ann.two Ann.no (Ann.two Ann.no (Ann.two Ann.no (Ann.two (Ann.two Ann.no (Ann.one (Ann.loop F_box_Of_L0))) Ann.no)))) Try.f35 [AV.view a0_0n 2 (fun (i : Nat) => mkN [Ck.f, Ck.f] (a0_0f i) 0)] []) = some (true, AV.tup [AV.agg [AV.float (s_box_Of_0 a0_0n (fun (i0 : Nat) => (flO (atL (a0_0f i0) 0))) (fun (i0 : Nat) => (flO (atL (a0_0f i0) 1)))), AV.float (s_box_Of_1 a0_0n (fun (i0 : Nat) => (flO (atL (a0_0f i0) 0))) (fun (i0 : Nat) => (flO (atL (a0_0f i0) 1)))), AV.float (s_box_Of_2 a0_0n (fun (i0 : Nat) => (flO (atL (a0_0f i0) 0))) (fun (i0 : Nat) => (flO (atL (a0_0f i0) 1)))), AV.float (s_box_Of_3 a0_0n (fun (i0 : Nat) => (flO (atL (a0_0f i0) 0))) (fun (i0 : Nat) => (flO (atL (a0_0f i0) 1))))], AV.bool (s_box_Of_4 a0_0n (fun (i0 : Nat) => (flO (atL (a0_0f i0) 0))) (fun (i0 : Nat) => (flO (atL (a0_0f i0) 1))))]) := Eq.trans (show outB (evFnM Try.prog false menv28 [] [] 96 (Ann.two Ann.no (Ann.two Ann.no (Ann.two Ann.no (Ann.two (Ann.two Ann.no (Ann.one (Ann.loop F_box_Of_L0))) Ann.no)))) Try.f35 [AV.view a0_0n 2 (fun (i : Nat) => mkN [Ck.f, Ck.f] (a0_0f i) 0)] []) = _ from e_box_Of a0_0n (fun (i0 : Nat) => (flO (atL (a0_0f i0) 0))) (fun (i0 : Nat) => (flO (atL (a0_0f i0) 1)))) (by rw [(ob_box_Of a0_0n (fun (i0 : Nat) => (flO (atL (a0_0f i0) 0))) (fun (i0 : Nat) => (flO (atL (a0_0f i0) 1))) ho2)])
    rw [n0] at this
    exact ⟨this, rfl⟩
  · cases h
noncomputable def mss27 : List (FuncId × SFM) := (35, fun args => match S_box_Of args with | some (o, v) => some (o, v, []) | none => none) :: mss26
noncomputable def menv29 : EnvM := mkEnvM mxs mss27 mws2
theorem mss27_ok : All (SOkM Try.prog false) mss27 := All.cons t_box_Of mss26_ok
theorem menv29_ok : menv29.Ok Try.prog false := mkEnvM_ok mxs_ok mss27_ok mws2_ok
-- tumble/tumbleref01.None
noncomputable def S_ref01_None : List AV → Option AV
  | [AV.float a] => some (AV.bool (nanb a))
  | _ => none
theorem t_ref01_None : SOkM Try.prog false (76, pureS S_ref01_None) := exact1 (N := 96) (A := .no) (lits := []) (fk := []) xenv_ok Try.func76 (fnNo _) Try.call76 (fun a v => v = .bool (nanb a)) (fun args v h => by
    unfold S_ref01_None at h
    split at h
    · cases h; exact ⟨_, rfl, rfl⟩
    · cases h) fun b v hb h => ⟨.bool (noneV b), by kernel_rfl, rfl, fun μ x hx => by subst h; exact toBool hx (none_val hb)⟩
noncomputable def mss28 : List (FuncId × SFM) := (76, pureS S_ref01_None) :: mss27
noncomputable def menv30 : EnvM := mkEnvM mxs mss28 mws2
theorem mss28_ok : All (SOkM Try.prog false) mss28 := All.cons t_ref01_None mss27_ok
theorem menv30_ok : menv30.Ok Try.prog false := mkEnvM_ok mxs_ok mss28_ok mws2_ok
-- tumble/tumbleref01.place
theorem ann_ref01_place : FnOk Try.prog false 0 Try.f77 Ann.no := (fnNo _)
noncomputable def s_ref01_place_0 (a0_0 : Nat) : Int := (bif (ieq (Int.fdiv (Int.ofNat a0_0) (9223372036854775808 : Int)) (1 : Int)) then (IntKind.wrap .i64 ((IntKind.wrap .i64 ((0 : Int) - (IntKind.wrap .i64 (Int.fdiv (IntKind.wrap .u64 ((Int.ofNat a0_0) * (2 : Int))) (2 : Int))))) - (1 : Int))) else (IntKind.wrap .i64 (Int.fdiv (IntKind.wrap .u64 ((Int.ofNat a0_0) * (2 : Int))) (2 : Int))))
theorem e_ref01_place (a0_0 : Nat) : outB (evFnM Try.prog false menv30 [] [] 96 Ann.no Try.f77 [AV.float a0_0] []) = some ((bif (ieq (Int.fdiv (Int.ofNat a0_0) (9223372036854775808 : Int)) (1 : Int)) then ((!(nanb a0_0)) && (!(nanb a0_0))) else ((!(nanb a0_0)) && (!(nanb a0_0)))), AV.int .i64 (s_ref01_place_0 a0_0)) := by kernel_rfl
noncomputable def o_ref01_place (a0_0 : Nat) : Bool := (bif (ieq (Int.fdiv (Int.ofNat a0_0) (9223372036854775808 : Int)) (1 : Int)) then ((!(nanb a0_0)) && (!(nanb a0_0))) else ((!(nanb a0_0)) && (!(nanb a0_0))))
noncomputable def S_ref01_place : List AV → Option (Ob × AV)
  | [AV.float a0_0] => some (Ob.bit (o_ref01_place a0_0), AV.int .i64 (s_ref01_place_0 a0_0))
  | _ => none
theorem ob_ref01_place (a0_0 : Nat) (ho : o_ref01_place a0_0 = true) : (bif (ieq (Int.fdiv (Int.ofNat a0_0) (9223372036854775808 : Int)) (1 : Int)) then ((!(nanb a0_0)) && (!(nanb a0_0))) else ((!(nanb a0_0)) && (!(nanb a0_0)))) = true := by
  unfold o_ref01_place at ho
  exact ho
theorem t_ref01_place : SOkM Try.prog false (77, fun args => match S_ref01_place args with | some (o, v) => some (o, v, []) | none => none) := SOkM.flat (N := 96) menv30_ok Try.func77 ann_ref01_place Try.call77 fun args o v h ho => by
  unfold S_ref01_place at h
  split at h
  · rename_i a0_0
    cases h
    have ho2 := ho
    have this : outB (evFnM Try.prog false menv30 [] [] 96 Ann.no Try.f77 [AV.float a0_0] []) = some (true, AV.int .i64 (s_ref01_place_0 a0_0)) := Eq.trans (show outB (evFnM Try.prog false menv30 [] [] 96 Ann.no Try.f77 [AV.float a0_0] []) = _ from e_ref01_place a0_0) (by rw [(ob_ref01_place a0_0 ho2)])
    exact ⟨this, rfl⟩
  · cases h
noncomputable def mss29 : List (FuncId × SFM) := (77, fun args => match S_ref01_place args with | some (o, v) => some (o, v, []) | none => none) :: mss28
noncomputable def menv31 : EnvM := mkEnvM mxs mss29 mws2
theorem mss29_ok : All (SOkM Try.prog false) mss29 := All.cons t_ref01_place mss28_ok
theorem menv31_ok : menv31.Ok Try.prog false := mkEnvM_ok mxs_ok mss29_ok mws2_ok
-- tumble/tumbleref01.Least
theorem ann_ref01_Least : FnOk Try.prog false 0 Try.f57 Ann.no := (fnNo _)
noncomputable def s_ref01_Least_0 (a0_0 : Nat) (a1_0 : Nat) : Nat := (bif (nanb a0_0) then a1_0 else (bif ((nanb a1_0) || (ile (s_ref01_place_0 a0_0) (s_ref01_place_0 a1_0))) then a0_0 else a1_0))
theorem e_ref01_Least (a0_0 : Nat) (a1_0 : Nat) : outB (evFnM Try.prog false menv31 [] [] 96 Ann.no Try.f57 [AV.float a0_0, AV.float a1_0] []) = some ((let x0 : Bool := ((!(nanb a0_0)) && (!(nanb a0_0))); let x1 : Bool := ((!(nanb a1_0)) && (!(nanb a1_0))); let x2 : Bool := ((nanb a1_0) || ((bif (ieq (Int.fdiv (Int.ofNat a1_0) (9223372036854775808 : Int)) (1 : Int)) then x1 else x1) && (bif (ieq (Int.fdiv (Int.ofNat a0_0) (9223372036854775808 : Int)) (1 : Int)) then x0 else x0))); ((nanb a0_0) || (bif ((nanb a1_0) || (ile (s_ref01_place_0 a0_0) (s_ref01_place_0 a1_0))) then x2 else x2))), AV.float (s_ref01_Least_0 a0_0 a1_0)) := by kernel_rfl
noncomputable def S_ref01_Least : List AV → Option (Ob × AV)
  | [AV.float a0_0, AV.float a1_0] => some (Ob.tt, AV.float (s_ref01_Least_0 a0_0 a1_0))
  | _ => none
theorem ob_ref01_Least (a0_0 : Nat) (a1_0 : Nat) : (let x0 : Bool := ((!(nanb a0_0)) && (!(nanb a0_0))); let x1 : Bool := ((!(nanb a1_0)) && (!(nanb a1_0))); let x2 : Bool := ((nanb a1_0) || ((bif (ieq (Int.fdiv (Int.ofNat a1_0) (9223372036854775808 : Int)) (1 : Int)) then x1 else x1) && (bif (ieq (Int.fdiv (Int.ofNat a0_0) (9223372036854775808 : Int)) (1 : Int)) then x0 else x0))); ((nanb a0_0) || (bif ((nanb a1_0) || (ile (s_ref01_place_0 a0_0) (s_ref01_place_0 a1_0))) then x2 else x2))) = true := by show (((nanb a0_0) || (bif ((nanb a1_0) || (ile (s_ref01_place_0 a0_0) (s_ref01_place_0 a1_0))) then ((nanb a1_0) || ((bif (ieq (Int.fdiv (Int.ofNat a1_0) (9223372036854775808 : Int)) (1 : Int)) then ((!(nanb a1_0)) && (!(nanb a1_0))) else ((!(nanb a1_0)) && (!(nanb a1_0)))) && (bif (ieq (Int.fdiv (Int.ofNat a0_0) (9223372036854775808 : Int)) (1 : Int)) then ((!(nanb a0_0)) && (!(nanb a0_0))) else ((!(nanb a0_0)) && (!(nanb a0_0)))))) else ((nanb a1_0) || ((bif (ieq (Int.fdiv (Int.ofNat a1_0) (9223372036854775808 : Int)) (1 : Int)) then ((!(nanb a1_0)) && (!(nanb a1_0))) else ((!(nanb a1_0)) && (!(nanb a1_0)))) && (bif (ieq (Int.fdiv (Int.ofNat a0_0) (9223372036854775808 : Int)) (1 : Int)) then ((!(nanb a0_0)) && (!(nanb a0_0))) else ((!(nanb a0_0)) && (!(nanb a0_0))))))))) = true; generalize (ieq (Int.fdiv (Int.ofNat a1_0) (9223372036854775808 : Int)) (1 : Int)) = q0; generalize (ieq (Int.fdiv (Int.ofNat a0_0) (9223372036854775808 : Int)) (1 : Int)) = q1; generalize (ile (s_ref01_place_0 a0_0) (s_ref01_place_0 a1_0)) = q2; generalize (nanb a0_0) = q3; generalize (nanb a1_0) = q4; cases q0 <;> cases q1 <;> cases q2 <;> cases q3 <;> cases q4 <;> rfl
theorem t_ref01_Least : SOkM Try.prog false (57, fun args => match S_ref01_Least args with | some (o, v) => some (o, v, []) | none => none) := SOkM.flat (N := 96) menv31_ok Try.func57 ann_ref01_Least Try.call57 fun args o v h ho => by
  unfold S_ref01_Least at h
  split at h
  · rename_i a0_0 a1_0
    cases h
    have ho2 := ho
    have this : outB (evFnM Try.prog false menv31 [] [] 96 Ann.no Try.f57 [AV.float a0_0, AV.float a1_0] []) = some (true, AV.float (s_ref01_Least_0 a0_0 a1_0)) := Eq.trans (show outB (evFnM Try.prog false menv31 [] [] 96 Ann.no Try.f57 [AV.float a0_0, AV.float a1_0] []) = _ from e_ref01_Least a0_0 a1_0) (by rw [(ob_ref01_Least a0_0 a1_0)])
    exact ⟨this, rfl⟩
  · cases h
noncomputable def mss30 : List (FuncId × SFM) := (57, fun args => match S_ref01_Least args with | some (o, v) => some (o, v, []) | none => none) :: mss29
noncomputable def menv32 : EnvM := mkEnvM mxs mss30 mws2
theorem mss30_ok : All (SOkM Try.prog false) mss30 := All.cons t_ref01_Least mss29_ok
theorem menv32_ok : menv32.Ok Try.prog false := mkEnvM_ok mxs_ok mss30_ok mws2_ok
-- tumble/tumbleref01.Most
theorem ann_ref01_Most : FnOk Try.prog false 0 Try.f56 Ann.no := (fnNo _)
noncomputable def s_ref01_Most_0 (a0_0 : Nat) (a1_0 : Nat) : Nat := (bif (nanb a0_0) then a1_0 else (bif ((nanb a1_0) || (ile (s_ref01_place_0 a1_0) (s_ref01_place_0 a0_0))) then a0_0 else a1_0))
theorem e_ref01_Most (a0_0 : Nat) (a1_0 : Nat) : outB (evFnM Try.prog false menv32 [] [] 96 Ann.no Try.f56 [AV.float a0_0, AV.float a1_0] []) = some ((let x0 : Bool := ((!(nanb a0_0)) && (!(nanb a0_0))); let x1 : Bool := ((!(nanb a1_0)) && (!(nanb a1_0))); let x2 : Bool := ((nanb a1_0) || ((bif (ieq (Int.fdiv (Int.ofNat a1_0) (9223372036854775808 : Int)) (1 : Int)) then x1 else x1) && (bif (ieq (Int.fdiv (Int.ofNat a0_0) (9223372036854775808 : Int)) (1 : Int)) then x0 else x0))); ((nanb a0_0) || (bif ((nanb a1_0) || (ile (s_ref01_place_0 a1_0) (s_ref01_place_0 a0_0))) then x2 else x2))), AV.float (s_ref01_Most_0 a0_0 a1_0)) := by kernel_rfl
noncomputable def S_ref01_Most : List AV → Option (Ob × AV)
  | [AV.float a0_0, AV.float a1_0] => some (Ob.tt, AV.float (s_ref01_Most_0 a0_0 a1_0))
  | _ => none
theorem ob_ref01_Most (a0_0 : Nat) (a1_0 : Nat) : (let x0 : Bool := ((!(nanb a0_0)) && (!(nanb a0_0))); let x1 : Bool := ((!(nanb a1_0)) && (!(nanb a1_0))); let x2 : Bool := ((nanb a1_0) || ((bif (ieq (Int.fdiv (Int.ofNat a1_0) (9223372036854775808 : Int)) (1 : Int)) then x1 else x1) && (bif (ieq (Int.fdiv (Int.ofNat a0_0) (9223372036854775808 : Int)) (1 : Int)) then x0 else x0))); ((nanb a0_0) || (bif ((nanb a1_0) || (ile (s_ref01_place_0 a1_0) (s_ref01_place_0 a0_0))) then x2 else x2))) = true := by show (((nanb a0_0) || (bif ((nanb a1_0) || (ile (s_ref01_place_0 a1_0) (s_ref01_place_0 a0_0))) then ((nanb a1_0) || ((bif (ieq (Int.fdiv (Int.ofNat a1_0) (9223372036854775808 : Int)) (1 : Int)) then ((!(nanb a1_0)) && (!(nanb a1_0))) else ((!(nanb a1_0)) && (!(nanb a1_0)))) && (bif (ieq (Int.fdiv (Int.ofNat a0_0) (9223372036854775808 : Int)) (1 : Int)) then ((!(nanb a0_0)) && (!(nanb a0_0))) else ((!(nanb a0_0)) && (!(nanb a0_0)))))) else ((nanb a1_0) || ((bif (ieq (Int.fdiv (Int.ofNat a1_0) (9223372036854775808 : Int)) (1 : Int)) then ((!(nanb a1_0)) && (!(nanb a1_0))) else ((!(nanb a1_0)) && (!(nanb a1_0)))) && (bif (ieq (Int.fdiv (Int.ofNat a0_0) (9223372036854775808 : Int)) (1 : Int)) then ((!(nanb a0_0)) && (!(nanb a0_0))) else ((!(nanb a0_0)) && (!(nanb a0_0))))))))) = true; generalize (ieq (Int.fdiv (Int.ofNat a1_0) (9223372036854775808 : Int)) (1 : Int)) = q0; generalize (ieq (Int.fdiv (Int.ofNat a0_0) (9223372036854775808 : Int)) (1 : Int)) = q1; generalize (ile (s_ref01_place_0 a1_0) (s_ref01_place_0 a0_0)) = q2; generalize (nanb a0_0) = q3; generalize (nanb a1_0) = q4; cases q0 <;> cases q1 <;> cases q2 <;> cases q3 <;> cases q4 <;> rfl
theorem t_ref01_Most : SOkM Try.prog false (56, fun args => match S_ref01_Most args with | some (o, v) => some (o, v, []) | none => none) := SOkM.flat (N := 96) menv32_ok Try.func56 ann_ref01_Most Try.call56 fun args o v h ho => by
  unfold S_ref01_Most at h
  split at h
  · rename_i a0_0 a1_0
    cases h
    have ho2 := ho
    have this : outB (evFnM Try.prog false menv32 [] [] 96 Ann.no Try.f56 [AV.float a0_0, AV.float a1_0] []) = some (true, AV.float (s_ref01_Most_0 a0_0 a1_0)) := Eq.trans (show outB (evFnM Try.prog false menv32 [] [] 96 Ann.no Try.f56 [AV.float a0_0, AV.float a1_0] []) = _ from e_ref01_Most a0_0 a1_0) (by rw [(ob_ref01_Most a0_0 a1_0)])
    exact ⟨this, rfl⟩
  · cases h
noncomputable def mss31 : List (FuncId × SFM) := (56, fun args => match S_ref01_Most args with | some (o, v) => some (o, v, []) | none => none) :: mss30
noncomputable def menv33 : EnvM := mkEnvM mxs mss31 mws2
theorem mss31_ok : All (SOkM Try.prog false) mss31 := All.cons t_ref01_Most mss30_ok
theorem menv33_ok : menv33.Ok Try.prog false := mkEnvM_ok mxs_ok mss31_ok mws2_ok
-- tumble/tumbleref02.Vec
theorem ann_ref02_Vec : FnOk Try.prog false 0 Try.f75 Ann.no := (fnNo _)
noncomputable def s_ref02_Vec_0 (a0_0 : Nat) (a1_0 : Nat) : Nat := a0_0
noncomputable def s_ref02_Vec_1 (a0_0 : Nat) (a1_0 : Nat) : Nat := a1_0
theorem e_ref02_Vec (a0_0 : Nat) (a1_0 : Nat) : outB (evFnM Try.prog false menv33 [] [] 96 Ann.no Try.f75 [AV.float a0_0, AV.float a1_0] []) = some (true, AV.agg [AV.float (s_ref02_Vec_0 a0_0 a1_0), AV.float (s_ref02_Vec_1 a0_0 a1_0)]) := by kernel_rfl
noncomputable def S_ref02_Vec : List AV → Option (Ob × AV)
  | [AV.float a0_0, AV.float a1_0] => some (Ob.tt, AV.agg [AV.float (s_ref02_Vec_0 a0_0 a1_0), AV.float (s_ref02_Vec_1 a0_0 a1_0)])
  | _ => none
theorem ob_ref02_Vec (a0_0 : Nat) (a1_0 : Nat) : true = true := rfl
theorem t_ref02_Vec : SOkM Try.prog false (75, fun args => match S_ref02_Vec args with | some (o, v) => some (o, v, []) | none => none) := SOkM.flat (N := 96) menv33_ok Try.func75 ann_ref02_Vec Try.call75 fun args o v h ho => by
  unfold S_ref02_Vec at h
  split at h
  · rename_i a0_0 a1_0
    cases h
    have ho2 := ho
    have this : outB (evFnM Try.prog false menv33 [] [] 96 Ann.no Try.f75 [AV.float a0_0, AV.float a1_0] []) = some (true, AV.agg [AV.float (s_ref02_Vec_0 a0_0 a1_0), AV.float (s_ref02_Vec_1 a0_0 a1_0)]) := Eq.trans (show outB (evFnM Try.prog false menv33 [] [] 96 Ann.no Try.f75 [AV.float a0_0, AV.float a1_0] []) = _ from e_ref02_Vec a0_0 a1_0) (by rw [(ob_ref02_Vec a0_0 a1_0)])
    exact ⟨this, rfl⟩
  · cases h
noncomputable def mss32 : List (FuncId × SFM) := (75, fun args => match S_ref02_Vec args with | some (o, v) => some (o, v, []) | none => none) :: mss31
noncomputable def menv34 : EnvM := mkEnvM mxs mss32 mws2
theorem mss32_ok : All (SOkM Try.prog false) mss32 := All.cons t_ref02_Vec mss31_ok
theorem menv34_ok : menv34.Ok Try.prog false := mkEnvM_ok mxs_ok mss32_ok mws2_ok
-- tumble/tumbleref05.Box
theorem ann_ref05_Box : FnOk Try.prog false 0 Try.f55 Ann.no := (fnNo _)
noncomputable def s_ref05_Box_0 (a0_0 : Nat) (a1_0 : Nat) (a2_0 : Nat) (a3_0 : Nat) : Nat := (s_ref02_Vec_0 a0_0 a1_0)
noncomputable def s_ref05_Box_1 (a0_0 : Nat) (a1_0 : Nat) (a2_0 : Nat) (a3_0 : Nat) : Nat := (s_ref02_Vec_1 a0_0 a1_0)
noncomputable def s_ref05_Box_2 (a0_0 : Nat) (a1_0 : Nat) (a2_0 : Nat) (a3_0 : Nat) : Nat := (s_ref02_Vec_0 a2_0 a3_0)
noncomputable def s_ref05_Box_3 (a0_0 : Nat) (a1_0 : Nat) (a2_0 : Nat) (a3_0 : Nat) : Nat := (s_ref02_Vec_1 a2_0 a3_0)
theorem e_ref05_Box (a0_0 : Nat) (a1_0 : Nat) (a2_0 : Nat) (a3_0 : Nat) : outB (evFnM Try.prog false menv34 [] [] 96 Ann.no Try.f55 [AV.float a0_0, AV.float a1_0, AV.float a2_0, AV.float a3_0] []) = some (true, AV.agg [AV.float (s_ref05_Box_0 a0_0 a1_0 a2_0 a3_0), AV.float (s_ref05_Box_1 a0_0 a1_0 a2_0 a3_0), AV.float (s_ref05_Box_2 a0_0 a1_0 a2_0 a3_0), AV.float (s_ref05_Box_3 a0_0 a1_0 a2_0 a3_0)]) := by kernel_rfl
noncomputable def S_ref05_Box : List AV → Option (Ob × AV)
  | [AV.float a0_0, AV.float a1_0, AV.float a2_0, AV.float a3_0] => some (Ob.tt, AV.agg [AV.float (s_ref05_Box_0 a0_0 a1_0 a2_0 a3_0), AV.float (s_ref05_Box_1 a0_0 a1_0 a2_0 a3_0), AV.float (s_ref05_Box_2 a0_0 a1_0 a2_0 a3_0), AV.float (s_ref05_Box_3 a0_0 a1_0 a2_0 a3_0)])
  | _ => none
theorem ob_ref05_Box (a0_0 : Nat) (a1_0 : Nat) (a2_0 : Nat) (a3_0 : Nat) : true = true := rfl
theorem t_ref05_Box : SOkM Try.prog false (55, fun args => match S_ref05_Box args with | some (o, v) => some (o, v, []) | none => none) := SOkM.flat (N := 96) menv34_ok Try.func55 ann_ref05_Box Try.call55 fun args o v h ho => by
  unfold S_ref05_Box at h
  split at h
  · rename_i a0_0 a1_0 a2_0 a3_0
    cases h
    have ho2 := ho
    have this : outB (evFnM Try.prog false menv34 [] [] 96 Ann.no Try.f55 [AV.float a0_0, AV.float a1_0, AV.float a2_0, AV.float a3_0] []) = some (true, AV.agg [AV.float (s_ref05_Box_0 a0_0 a1_0 a2_0 a3_0), AV.float (s_ref05_Box_1 a0_0 a1_0 a2_0 a3_0), AV.float (s_ref05_Box_2 a0_0 a1_0 a2_0 a3_0), AV.float (s_ref05_Box_3 a0_0 a1_0 a2_0 a3_0)]) := Eq.trans (show outB (evFnM Try.prog false menv34 [] [] 96 Ann.no Try.f55 [AV.float a0_0, AV.float a1_0, AV.float a2_0, AV.float a3_0] []) = _ from e_ref05_Box a0_0 a1_0 a2_0 a3_0) (by rw [(ob_ref05_Box a0_0 a1_0 a2_0 a3_0)])
    exact ⟨this, rfl⟩
  · cases h
noncomputable def mss33 : List (FuncId × SFM) := (55, fun args => match S_ref05_Box args with | some (o, v) => some (o, v, []) | none => none) :: mss32
noncomputable def menv35 : EnvM := mkEnvM mxs mss33 mws2
theorem mss33_ok : All (SOkM Try.prog false) mss33 := All.cons t_ref05_Box mss32_ok
theorem menv35_ok : menv35.Ok Try.prog false := mkEnvM_ok mxs_ok mss33_ok mws2_ok
-- tumble/tumbleref05.Join
theorem ann_ref05_Join : FnOk Try.prog false 0 Try.f23 Ann.no := (fnNo _)
noncomputable def s_ref05_Join_0 (a0_0 : Nat) (a0_1 : Nat) (a0_2 : Nat) (a0_3 : Nat) (a1_0 : Nat) (a1_1 : Nat) (a1_2 : Nat) (a1_3 : Nat) : Nat := (s_ref05_Box_0 (s_ref01_Least_0 a0_0 a1_0) (s_ref01_Least_0 a0_1 a1_1) (s_ref01_Most_0 a0_2 a1_2) (s_ref01_Most_0 a0_3 a1_3))
noncomputable def s_ref05_Join_1 (a0_0 : Nat) (a0_1 : Nat) (a0_2 : Nat) (a0_3 : Nat) (a1_0 : Nat) (a1_1 : Nat) (a1_2 : Nat) (a1_3 : Nat) : Nat := (s_ref05_Box_1 (s_ref01_Least_0 a0_0 a1_0) (s_ref01_Least_0 a0_1 a1_1) (s_ref01_Most_0 a0_2 a1_2) (s_ref01_Most_0 a0_3 a1_3))
noncomputable def s_ref05_Join_2 (a0_0 : Nat) (a0_1 : Nat) (a0_2 : Nat) (a0_3 : Nat) (a1_0 : Nat) (a1_1 : Nat) (a1_2 : Nat) (a1_3 : Nat) : Nat := (s_ref05_Box_2 (s_ref01_Least_0 a0_0 a1_0) (s_ref01_Least_0 a0_1 a1_1) (s_ref01_Most_0 a0_2 a1_2) (s_ref01_Most_0 a0_3 a1_3))
noncomputable def s_ref05_Join_3 (a0_0 : Nat) (a0_1 : Nat) (a0_2 : Nat) (a0_3 : Nat) (a1_0 : Nat) (a1_1 : Nat) (a1_2 : Nat) (a1_3 : Nat) : Nat := (s_ref05_Box_3 (s_ref01_Least_0 a0_0 a1_0) (s_ref01_Least_0 a0_1 a1_1) (s_ref01_Most_0 a0_2 a1_2) (s_ref01_Most_0 a0_3 a1_3))
theorem e_ref05_Join (a0_0 : Nat) (a0_1 : Nat) (a0_2 : Nat) (a0_3 : Nat) (a1_0 : Nat) (a1_1 : Nat) (a1_2 : Nat) (a1_3 : Nat) : outB (evFnM Try.prog false menv35 [] [] 96 Ann.no Try.f23 [AV.agg [.float a0_0, .float a0_1, .float a0_2, .float a0_3], AV.agg [.float a1_0, .float a1_1, .float a1_2, .float a1_3]] []) = some (true, AV.agg [AV.float (s_ref05_Join_0 a0_0 a0_1 a0_2 a0_3 a1_0 a1_1 a1_2 a1_3), AV.float (s_ref05_Join_1 a0_0 a0_1 a0_2 a0_3 a1_0 a1_1 a1_2 a1_3), AV.float (s_ref05_Join_2 a0_0 a0_1 a0_2 a0_3 a1_0 a1_1 a1_2 a1_3), AV.float (s_ref05_Join_3 a0_0 a0_1 a0_2 a0_3 a1_0 a1_1 a1_2 a1_3)]) := by kernel_rfl
noncomputable def S_ref05_Join : List AV → Option (Ob × AV)
  | [AV.agg [.float a0_0, .float a0_1, .float a0_2, .float a0_3], AV.agg [.float a1_0, .float a1_1, .float a1_2, .float a1_3]] => some (Ob.tt, AV.agg [AV.float (s_ref05_Join_0 a0_0 a0_1 a0_2 a0_3 a1_0 a1_1 a1_2 a1_3), AV.float (s_ref05_Join_1 a0_0 a0_1 a0_2 a0_3 a1_0 a1_1 a1_2 a1_3), AV.float (s_ref05_Join_2 a0_0 a0_1 a0_2 a0_3 a1_0 a1_1 a1_2 a1_3), AV.float (s_ref05_Join_3 a0_0 a0_1 a0_2 a0_3 a1_0 a1_1 a1_2 a1_3)])
  | _ => none
theorem ob_ref05_Join (a0_0 : Nat) (a0_1 : Nat) (a0_2 : Nat) (a0_3 : Nat) (a1_0 : Nat) (a1_1 : Nat) (a1_2 : Nat) (a1_3 : Nat) : true = true := rfl
theorem t_ref05_Join : SOkM Try.prog false (23, fun args => match S_ref05_Join args with | some (o, v) => some (o, v, []) | none => none) := SOkM.flat (N := 96) menv35_ok Try.func23 ann_ref05_Join Try.call23 fun args o v h ho => by
  unfold S_ref05_Join at h
  split at h
  · rename_i a0_0 a0_1 a0_2 a0_3 a1_0 a1_1 a1_2 a1_3
    cases h
    have ho2 := ho
    have this : outB (evFnM Try.prog false menv35 [] [] 96 Ann.no Try.f23 [AV.agg [.float a0_0, .float a0_1, .float a0_2, .float a0_3], AV.agg [.float a1_0, .float a1_1, .float a1_2, .float a1_3]] []) = some (true, AV.agg [AV.float (s_ref05_Join_0 a0_0 a0_1 a0_2 a0_3 a1_0 a1_1 a1_2 a1_3), AV.float (s_ref05_Join_1 a0_0 a0_1 a0_2 a0_3 a1_0 a1_1 a1_2 a1_3), AV.float (s_ref05_Join_2 a0_0 a0_1 a0_2 a0_3 a1_0 a1_1 a1_2 a1_3), AV.float (s_ref05_Join_3 a0_0 a0_1 a0_2 a0_3 a1_0 a1_1 a1_2 a1_3)]) := Eq.trans (show outB (evFnM Try.prog false menv35 [] [] 96 Ann.no Try.f23 [AV.agg [.float a0_0, .float a0_1, .float a0_2, .float a0_3], AV.agg [.float a1_0, .float a1_1, .float a1_2, .float a1_3]] []) = _ from e_ref05_Join a0_0 a0_1 a0_2 a0_3 a1_0 a1_1 a1_2 a1_3) (by rw [(ob_ref05_Join a0_0 a0_1 a0_2 a0_3 a1_0 a1_1 a1_2 a1_3)])
    exact ⟨this, rfl⟩
  · cases h
noncomputable def mss34 : List (FuncId × SFM) := (23, fun args => match S_ref05_Join args with | some (o, v) => some (o, v, []) | none => none) :: mss33
noncomputable def menv36 : EnvM := mkEnvM mxs mss34 mws2
theorem mss34_ok : All (SOkM Try.prog false) mss34 := All.cons t_ref05_Join mss33_ok
theorem menv36_ok : menv36.Ok Try.prog false := mkEnvM_ok mxs_ok mss34_ok mws2_ok
-- tumble/tumbleref05.Of
-- a loop of tumble/tumbleref05.Of
structure V_ref05_Of_L0 where
  v0 : Int
  v1 : Nat
  v2 : Nat
  v3 : Nat
  v4 : Nat
def tpl_ref05_Of_L0 : List AV := [AV.nul, AV.top, AV.nul, AV.top, AV.nul, AV.nul, AV.top, AV.top, AV.top, AV.top, AV.top, AV.top, AV.top, AV.top, AV.top, AV.top, AV.top, AV.top, AV.top, AV.top, AV.top, AV.top, AV.top, AV.top, AV.top, AV.top, AV.top, AV.top, AV.top, AV.top, AV.top, AV.top, AV.top, AV.top, AV.top]
def cts_ref05_Of_L0 : List CT := [CT.keep, CT.keep]
def phs_ref05_Of_L0 : List Src := []
def T_ref05_Of_L0 (c0 : Nat) (c1 : (Nat → Nat)) (c2 : (Nat → Nat)) (x : V_ref05_Of_L0) (F0 : Nat → List AV) : List AV × Heap := ([AV.view c0 2 F0, AV.top, AV.ptr (some ⟨0, 0, .lit 0⟩), AV.top, AV.ptr (some ⟨1, 0, .lit 0⟩), AV.int .i64 x.v0, AV.top, AV.top, AV.top, AV.top, AV.top, AV.top, AV.top, AV.top, AV.top, AV.top, AV.top, AV.top, AV.top, AV.top, AV.top, AV.top, AV.top, AV.top, AV.top, AV.top, AV.top, AV.top, AV.top, AV.top, AV.top, AV.top, AV.top, AV.top, AV.top], [⟨.flat [AV.float 0, AV.float 0, AV.float 0, AV.float 0], 26, 0⟩, ⟨.flat [AV.float x.v1, AV.float x.v2, AV.float x.v3, AV.float x.v4], 26, 0⟩])
def sh_ref05_Of_L0 (c0 : Nat) (c1 : (Nat → Nat)) (c2 : (Nat → Nat)) (x : V_ref05_Of_L0) : List AV × Heap := T_ref05_Of_L0 c0 c1 c2 x (fun (j0 : Nat) => [AV.float (c1 j0), AV.float (c2 j0)])
noncomputable def step_ref05_Of_L0 (c0 : Nat) (c1 : (Nat → Nat)) (c2 : (Nat → Nat)) (x : V_ref05_Of_L0) : V_ref05_Of_L0 := V_ref05_Of_L0.mk (IntKind.wrap .i64 (x.v0 + (1 : Int))) (s_ref05_Join_0 x.v1 x.v2 x.v3 x.v4 (c1 (Int.toNat x.v0)) (c2 (Int.toNat x.v0)) (c1 (Int.toNat x.v0)) (c2 (Int.toNat x.v0))) (s_ref05_Join_1 x.v1 x.v2 x.v3 x.v4 (c1 (Int.toNat x.v0)) (c2 (Int.toNat x.v0)) (c1 (Int.toNat x.v0)) (c2 (Int.toNat x.v0))) (s_ref05_Join_2 x.v1 x.v2 x.v3 x.v4 (c1 (Int.toNat x.v0)) (c2 (Int.toNat x.v0)) (c1 (Int.toNat x.v0)) (c2 (Int.toNat x.v0))) (s_ref05_Join_3 x.v1 x.v2 x.v3 x.v4 (c1 (Int.toNat x.v0)) (c2 (Int.toNat x.v0)) (c1 (Int.toNat x.v0)) (c2 (Int.toNat x.v0)))
noncomputable def go_ref05_Of_L0 (c0 : Nat) (c1 : (Nat → Nat)) (c2 : (Nat → Nat)) (x : V_ref05_Of_L0) : Bool := (bif (!(ilt x.v0 (Int.ofNat c0))) then false else true)
noncomputable def ok_ref05_Of_L0 (c0 : Nat) (c1 : (Nat → Nat)) (c2 : (Nat → Nat)) (x : V_ref05_Of_L0) : Bool := ((!(ilt x.v0 (Int.ofNat c0))) || (((ile (0 : Int) x.v0) && (Nat.blt (Int.toNat x.v0) c0)) && ((ile (0 : Int) x.v0) && (Nat.blt (Int.toNat x.v0) c0))))
noncomputable def L_ref05_Of_L0 (c0 : Nat) (c1 : (Nat → Nat)) (c2 : (Nat → Nat)) (x : V_ref05_Of_L0) : V_ref05_Of_L0 := lastL (ok_ref05_Of_L0 c0 c1 c2) (go_ref05_Of_L0 c0 c1 c2) (step_ref05_Of_L0 c0 c1 c2) x
noncomputable def E_ref05_Of_L0 (c0 : Nat) (c1 : (Nat → Nat)) (c2 : (Nat → Nat)) (x : V_ref05_Of_L0) : Bool := endsL (ok_ref05_Of_L0 c0 c1 c2) (go_ref05_Of_L0 c0 c1 c2) (step_ref05_Of_L0 c0 c1 c2) x
theorem all_ref05_Of_L0 (c0 : Nat) (c1 : (Nat → Nat)) (c2 : (Nat → Nat)) (x : V_ref05_Of_L0) : rnd Try.prog false menv36 [] [] 96 Ann.no (subC [1, 1, 1, 0, 1, 0, 0] (codeOf Try.f36)) 0 [⟨some 0, 0, 0, []⟩, ⟨some 1, 0, 0, []⟩] tpl_ref05_Of_L0 cts_ref05_Of_L0 [false, true, false, true, false, true, true, true, true, true, true, true, true, true, true, true, true, true, true, true, true, true, true, true, true, true, true, true, true, true, true, true, true, true, true] [false, true] (sh_ref05_Of_L0 c0 c1 c2 x) = (true, true, go_ref05_Of_L0 c0 c1 c2 x, ok_ref05_Of_L0 c0 c1 c2 x, true, sh_ref05_Of_L0 c0 c1 c2 (step_ref05_Of_L0 c0 c1 c2 x), true) := by kernel_rfl
noncomputable def fam_ref05_Of_L0 (c0 : Nat) (c1 : (Nat → Nat)) (c2 : (Nat → Nat)) : Fam Try.prog false menv36 [] [] 96 0 Ann.no (subC [1, 1, 1, 0, 1, 0, 0] (codeOf Try.f36)) V_ref05_Of_L0 where
  sh := sh_ref05_Of_L0 c0 c1 c2
  ok := ok_ref05_Of_L0 c0 c1 c2
  go := go_ref05_Of_L0 c0 c1 c2
  step := step_ref05_Of_L0 c0 c1 c2
  chg := [false, true, false, true, false, true, true, true, true, true, true, true, true, true, true, true, true, true, true, true, true, true, true, true, true, true, true, true, true, true, true, true, true, true, true]
  chgH := [false, true]
  tpl := tpl_ref05_Of_L0
  cts := cts_ref05_Of_L0
  keep := 0
  srcs := [⟨some 0, 0, 0, []⟩, ⟨some 1, 0, 0, []⟩]
  ann := (annNo (subC [1, 1, 1, 0, 1, 0, 0] (codeOf Try.f36)))
  le := by kernel_rfl
  kept := by kernel_rfl
  keptB := by kernel_rfl
  all := all_ref05_Of_L0 c0 c1 c2
  len := fun x => by kernel_rfl
  head := fun x y => by kernel_rfl
  con := fun x y => by kernel_rfl
  conH := fun x y => by kernel_rfl
noncomputable def F_ref05_Of_L0 : St → Option Ch := fun s => cond (Nat.beq s.tm.length 35 && Nat.beq s.H.length 2) (tkCons (alL tpl_ref05_Of_L0 s.tm) fun a0 t0 => tkView 2 a0 fun s0 f0 => tkTops 1 t0 fun t1 => tkCons t1 fun a2 t2 => tkPtr 0 0 0 a2 <| tkTops 1 t2 fun t3 => tkCons t3 fun a4 t4 => tkPtr 1 0 0 a4 <| tkCons t4 fun a5 t5 => tkI .i64 a5 fun s3 => tkTops 29 t5 fun t6 => tkNil t6 <| tkCons (alH cts_ref05_Of_L0 (s.H ++ List.map phan phs_ref05_Of_L0)) fun b7 t7 => tkFlat 26 0 b7 fun m7 => tkCons m7 fun a8 t8 => tkFL 0 a8 <| tkCons t8 fun a9 t9 => tkFL 0 a9 <| tkCons t9 fun a10 t10 => tkFL 0 a10 <| tkCons t10 fun a11 t11 => tkFL 0 a11 <| tkNil t11 <| tkCons t7 fun b12 t12 => tkFlat 26 0 b12 fun m12 => tkCons m12 fun a13 t13 => tkF a13 fun s8 => tkCons t13 fun a14 t14 => tkF a14 fun s9 => tkCons t14 fun a15 t15 => tkF a15 fun s10 => tkCons t15 fun a16 t16 => tkF a16 fun s11 => tkNil t16 <| tkNil t12 <| Fam.out (fam_ref05_Of_L0 s0 (fun (i : Nat) => flO (atL (f0 i) 0)) (fun (i : Nat) => flO (atL (f0 i) 1))) s (allB fun (i : Nat) => isNrm [Ck.f, Ck.f] (f0 i)) (V_ref05_Of_L0.mk s3 s8 s9 s10 s11)) none
theorem F_ref05_Of_L0_ok : ∀ s ch, F_ref05_Of_L0 s = some ch → AllI s ch ∧ LoopSpec Try.prog false 0 (subC [1, 1, 1, 0, 1, 0, 0] (codeOf Try.f36)) s (sel ch) := by
  intro s ch h
  unfold F_ref05_Of_L0 at h
  obtain ⟨hl, h0⟩ := cond_some h rfl
  clear h
  obtain ⟨hl, hb⟩ := and_beq2 hl
  obtain ⟨a0, t0, e0, h1⟩ := tkCons_some h0
  obtain ⟨s0, f0, rfl, h2⟩ := tkView_some h1
  obtain ⟨t1, rfl, h3⟩ := tkTops_some h2
  obtain ⟨a2, t2, rfl, h4⟩ := tkCons_some h3
  obtain ⟨rfl, h5⟩ := tkPtr_some h4
  obtain ⟨t3, rfl, h6⟩ := tkTops_some h5
  obtain ⟨a4, t4, rfl, h7⟩ := tkCons_some h6
  obtain ⟨rfl, h8⟩ := tkPtr_some h7
  obtain ⟨a5, t5, rfl, h9⟩ := tkCons_some h8
  obtain ⟨s3, rfl, h10⟩ := tkI_some h9
  obtain ⟨t6, rfl, h11⟩ := tkTops_some h10
  obtain ⟨rfl, h12⟩ := tkNil_some h11
  obtain ⟨b7, t7, eH, h13⟩ := tkCons_some h12
  obtain ⟨m7, rfl, h14⟩ := tkFlat_some h13
  obtain ⟨a8, t8, rfl, h15⟩ := tkCons_some h14
  obtain ⟨rfl, h16⟩ := tkFL_some h15
  obtain ⟨a9, t9, rfl, h17⟩ := tkCons_some h16
  obtain ⟨rfl, h18⟩ := tkFL_some h17
  obtain ⟨a10, t10, rfl, h19⟩ := tkCons_some h18
  obtain ⟨rfl, h20⟩ := tkFL_some h19
  obtain ⟨a11, t11, rfl, h21⟩ := tkCons_some h20
  obtain ⟨rfl, h22⟩ := tkFL_some h21
  obtain ⟨rfl, h23⟩ := tkNil_some h22
  obtain ⟨b12, t12, rfl, h24⟩ := tkCons_some h23
  obtain ⟨m12, rfl, h25⟩ := tkFlat_some h24
  obtain ⟨a13, t13, rfl, h26⟩ := tkCons_some h25
  obtain ⟨s8, rfl, h27⟩ := tkF_some h26
  obtain ⟨a14, t14, rfl, h28⟩ := tkCons_some h27
  obtain ⟨s9, rfl, h29⟩ := tkF_some h28
  obtain ⟨a15, t15, rfl, h30⟩ := tkCons_some h29
  obtain ⟨s10, rfl, h31⟩ := tkF_some h30
  obtain ⟨a16, t16, rfl, h32⟩ := tkCons_some h31
  obtain ⟨s11, rfl, h33⟩ := tkF_some h32
  obtain ⟨rfl, h34⟩ := tkNil_some h33
  obtain ⟨rfl, h35⟩ := tkNil_some h34
  refine Fam.spec menv36_ok (fam_ref05_Of_L0 s0 (fun (i : Nat) => flO (atL (f0 i) 0)) (fun (i : Nat) => flO (atL (f0 i) 1))) (phs := phs_ref05_Of_L0) (hl.trans (by kernel_rfl)) (hb.trans (by kernel_rfl)) ?_ ?_ h35
  · rw [← hdr_alH cts_ref05_Of_L0 (s.H ++ List.map phan phs_ref05_Of_L0), eH]; kernel_rfl
  · intro hq
    have hq0 := hq
    have n0 := nrm_fun hq0
    show sh_ref05_Of_L0 s0 (fun (i : Nat) => flO (atL (f0 i) 0)) (fun (i : Nat) => flO (atL (f0 i) 1)) (V_ref05_Of_L0.mk s3 s8 s9 s10 s11) = (alL tpl_ref05_Of_L0 s.tm, alH cts_ref05_Of_L0 (s.H ++ List.map phan phs_ref05_Of_L0))
    rw [e0, eH]
    refine Eq.trans (show sh_ref05_Of_L0 s0 (fun (i : Nat) => flO (atL (f0 i) 0)) (fun (i : Nat) => flO (atL (f0 i) 1)) (V_ref05_Of_L0.mk s3 s8 s9 s10 s11) = T_ref05_Of_L0 s0 (fun (i : Nat) => flO (atL (f0 i) 0)) (fun (i : Nat) => flO (atL (f0 i) 1)) (V_ref05_Of_L0.mk s3 s8 s9 s10 s11) (fun (i : Nat) => mkN [Ck.f, Ck.f] (f0 i) 0) by kernel_rfl) ?_
    rw [n0]
    kernel_rfl
theorem ann_ref05_Of : FnOk Try.prog false 0 Try.f36 (Ann.two Ann.no (Ann.two Ann.no (Ann.two Ann.no (Ann.two (Ann.two Ann.no (Ann.one (Ann.loop F_ref05_Of_L0))) Ann.no)))) := (fnOk_of (c := codeOf Try.f36) (by kernel_rfl) (annSeq (a := (subC [0] (codeOf Try.f36))) (b := (subC [1] (codeOf Try.f36))) (by kernel_rfl) (annNo (subC [0] (codeOf Try.f36))) (annSeq (a := (subC [1, 0] (codeOf Try.f36))) (b := (subC [1, 1] (codeOf Try.f36))) (by kernel_rfl) (annNo (subC [1, 0] (codeOf Try.f36))) (annSeq (a := (subC [1, 1, 0] (codeOf Try.f36))) (b := (subC [1, 1, 1] (codeOf Try.f36))) (by kernel_rfl) (annNo (subC [1, 1, 0] (codeOf Try.f36))) (annSeq (a := (subC [1, 1, 1, 0] (codeOf Try.f36))) (b := (subC [1, 1, 1, 1] (codeOf Try.f36))) (by kernel_rfl) (annSeq (a := (subC [1, 1, 1, 0, 0] (codeOf Try.f36))) (b := (subC [1, 1, 1, 0, 1] (codeOf Try.f36))) (by kernel_rfl) (annNo (subC [1, 1, 1, 0, 0] (codeOf Try.f36))) (annBlock (a := (subC [1, 1, 1, 0, 1, 0] (codeOf Try.f36))) (i := 0) (by kernel_rfl) (annLoop (a := (subC [1, 1, 1, 0, 1, 0, 0] (codeOf Try.f36))) (by kernel_rfl) F_ref05_Of_L0_ok))) (annNo (subC [1, 1, 1, 1] (codeOf Try.f36))))))))
noncomputable def s_ref05_Of_0 (a0_0n : Nat) (a0_0_0 : Nat → Nat) (a0_0_1 : Nat → Nat) : Nat := (bif (ieq (Int.ofNat a0_0n) (0 : Int)) then 0 else ((L_ref05_Of_L0 a0_0n a0_0_0 a0_0_1 (V_ref05_Of_L0.mk (1 : Int) (a0_0_0 0) (a0_0_1 0) (a0_0_0 0) (a0_0_1 0))).v1))
noncomputable def s_ref05_Of_1 (a0_0n : Nat) (a0_0_0 : Nat → Nat) (a0_0_1 : Nat → Nat) : Nat := (bif (ieq (Int.ofNat a0_0n) (0 : Int)) then 0 else ((L_ref05_Of_L0 a0_0n a0_0_0 a0_0_1 (V_ref05_Of_L0.mk (1 : Int) (a0_0_0 0) (a0_0_1 0) (a0_0_0 0) (a0_0_1 0))).v2))
noncomputable def s_ref05_Of_2 (a0_0n : Nat) (a0_0_0 : Nat → Nat) (a0_0_1 : Nat → Nat) : Nat := (bif (ieq (Int.ofNat a0_0n) (0 : Int)) then 0 else ((L_ref05_Of_L0 a0_0n a0_0_0 a0_0_1 (V_ref05_Of_L0.mk (1 : Int) (a0_0_0 0) (a0_0_1 0) (a0_0_0 0) (a0_0_1 0))).v3))
noncomputable def s_ref05_Of_3 (a0_0n : Nat) (a0_0_0 : Nat → Nat) (a0_0_1 : Nat → Nat) : Nat := (bif (ieq (Int.ofNat a0_0n) (0 : Int)) then 0 else ((L_ref05_Of_L0 a0_0n a0_0_0 a0_0_1 (V_ref05_Of_L0.mk (1 : Int) (a0_0_0 0) (a0_0_1 0) (a0_0_0 0) (a0_0_1 0))).v4))
noncomputable def s_ref05_Of_4 (a0_0n : Nat) (a0_0_0 : Nat → Nat) (a0_0_1 : Nat → Nat) : Bool := (bif (ieq (Int.ofNat a0_0n) (0 : Int)) then false else true)
theorem e_ref05_Of (a0_0n : Nat) (a0_0_0 : Nat → Nat) (a0_0_1 : Nat → Nat) : outB (evFnM Try.prog false menv36 [] [] 96 (Ann.two Ann.no (Ann.two Ann.no (Ann.two Ann.no (Ann.two (Ann.two Ann.no (Ann.one (Ann.loop F_ref05_Of_L0))) Ann.no)))) Try.f36 [AV.view a0_0n 2 (fun (i0 : Nat) => [AV.float (a0_0_0 i0), AV.float (a0_0_1 i0)])] []) = some (((ieq (Int.ofNat a0_0n) (0 : Int)) || (((Nat.blt 0 a0_0n) && (Nat.blt 0 a0_0n)) && ((allB fun _ => true) && (E_ref05_Of_L0 a0_0n a0_0_0 a0_0_1 (V_ref05_Of_L0.mk (1 : Int) (a0_0_0 0) (a0_0_1 0) (a0_0_0 0) (a0_0_1 0)))))), AV.tup [AV.agg [AV.float (s_ref05_Of_0 a0_0n a0_0_0 a0_0_1), AV.float (s_ref05_Of_1 a0_0n a0_0_0 a0_0_1), AV.float (s_ref05_Of_2 a0_0n a0_0_0 a0_0_1), AV.float (s_ref05_Of_3 a0_0n a0_0_0 a0_0_1)], AV.bool (s_ref05_Of_4 a0_0n a0_0_0 a0_0_1)]) := by kernel_rfl
noncomputable def o_ref05_Of (a0_0n : Nat) (a0_0_0 : Nat → Nat) (a0_0_1 : Nat → Nat) : Bool := ((ieq (Int.ofNat a0_0n) (0 : Int)) || (((Nat.blt 0 a0_0n) && (Nat.blt 0 a0_0n)) && (E_ref05_Of_L0 a0_0n a0_0_0 a0_0_1 (V_ref05_Of_L0.mk (1 : Int) (a0_0_0 0) (a0_0_1 0) (a0_0_0 0) (a0_0_1 0)))))
noncomputable def S_ref05_Of : List AV → Option (Ob × AV)
  | [AV.view a0_0n 2 a0_0f] => some (Ob.both (Ob.bit (allB fun (i : Nat) => isNrm [Ck.f, Ck.f] (a0_0f i))) (Ob.bit (o_ref05_Of a0_0n (fun (i0 : Nat) => (flO (atL (a0_0f i0) 0))) (fun (i0 : Nat) => (flO (atL (a0_0f i0) 1))))), AV.tup [AV.agg [AV.float (s_ref05_Of_0 a0_0n (fun (i0 : Nat) => (flO (atL (a0_0f i0) 0))) (fun (i0 : Nat) => (flO (atL (a0_0f i0) 1)))), AV.float (s_ref05_Of_1 a0_0n (fun (i0 : Nat) => (flO (atL (a0_0f i0) 0))) (fun (i0 : Nat) => (flO (atL (a0_0f i0) 1)))), AV.float (s_ref05_Of_2 a0_0n (fun (i0 : Nat) => (flO (atL (a0_0f i0) 0))) (fun (i0 : Nat) => (flO (atL (a0_0f i0) 1)))), AV.float (s_ref05_Of_3 a0_0n (fun (i0 : Nat) => (flO (atL (a0_0f i0) 0))) (fun (i0 : Nat) => (flO (atL (a0_0f i0) 1))))], AV.bool (s_ref05_Of_4 a0_0n (fun (i0 : Nat) => (flO (atL (a0_0f i0) 0))) (fun (i0 : Nat) => (flO (atL (a0_0f i0) 1))))])
  | _ => none
theorem ob_ref05_Of (a0_0n : Nat) (a0_0_0 : Nat → Nat) (a0_0_1 : Nat → Nat) (ho : o_ref05_Of a0_0n a0_0_0 a0_0_1 = true) : ((ieq (Int.ofNat a0_0n) (0 : Int)) || (((Nat.blt 0 a0_0n) && (Nat.blt 0 a0_0n)) && ((allB fun _ => true) && (E_ref05_Of_L0 a0_0n a0_0_0 a0_0_1 (V_ref05_Of_L0.mk (1 : Int) (a0_0_0 0) (a0_0_1 0) (a0_0_0 0) (a0_0_1 0)))))) = true := by
  unfold o_ref05_Of at ho
  simp only [allB_true, eqT_self, Bool.true_and, Bool.and_true] at ho ⊢
  exact ho
theorem t_ref05_Of : SOkM Try.prog false (36, fun args => match S_ref05_Of args with | some (o, v) => some (o, v, []) | none => none) := SOkM.flat (N := 96) menv36_ok Try.func36 ann_ref05_Of Try.call36 fun args o v h ho => by
  unfold S_ref05_Of at h
  split at h
  · rename_i a0_0n a0_0f
    cases h
    rw [Ob.both_ok, Bool.and_eq_true] at ho
    obtain ⟨hn, ho2⟩ := ho
    have n0 := hn
    simp only [Ob.ok] at n0
    replace n0 := nrm_fun n0
    have this : outB (evFnM Try.prog false menv36 [] [] 96 (Ann.two Ann.no (Ann.two Ann.no (Ann.two Ann.no (Ann.two (Ann.two Ann.no (Ann.one (Ann.loop F_ref05_Of_L0))) Ann.no)))) Try.f36 [AV.view a0_0n 2 (fun (i : Nat) => mkN [Ck.f, Ck.f] (a0_0f i) 0)] []) = some (true, AV.tup [AV.agg [AV.float (s_ref05_Of_0 a0_0n (fun (i0 : Nat) => (flO (atL (a0_0f i0) 0))) (fun (i0 : Nat) => (flO (atL (a0_0f i0) 1)))), AV.float (s_ref05_Of_1 a0_0n (fun (i0 : Nat) => (flO (atL (a0_0f i0) 0))) (fun (i0 : Nat) => (flO (atL (a0_0f i0) 1)))), AV.float (s_ref05_Of_2 a0_0n (fun (i0 : Nat) => (flO (atL (a0_0f i0) 0))) (fun (i0 : Nat) => (flO (atL (a0_0f i0) 1)))), AV.float (s_ref05_Of_3 a0_0n (fun (i0 : Nat) => (flO (atL (a0_0f i0) 0))) (fun (i0 : Nat) => (flO (atL (a0_0f i0) 1))))], AV.bool (s_ref05_Of_4 a0_0n (fun (i0 : Nat) => (flO (atL (a0_0f i0) 0))) (fun (i0 : Nat) => (flO (atL (a0_0f i0) 1))))]) := Eq.trans (show outB (evFnM Try.prog false menv36 [] [] 96 (Ann.two Ann.no (Ann.two Ann.no (Ann.two Ann.no (Ann.two (Ann.two Ann.no (Ann.one (Ann.loop F_ref05_Of_L0))) Ann.no)))) Try.f36 [AV.view a0_0n 2 (fun (i : Nat) => mkN [Ck.f, Ck.f] (a0_0f i) 0)] []) = _ from e_ref05_Of a0_0n (fun (i0 : Nat) => (flO (atL (a0_0f i0) 0))) (fun (i0 : Nat) => (flO (atL (a0_0f i0) 1)))) (by rw [(ob_ref05_Of a0_0n (fun (i0 : Nat) => (flO (atL (a0_0f i0) 0))) (fun (i0 : Nat) => (flO (atL (a0_0f i0) 1))) ho2)])
    rw [n0] at this
    exact ⟨this, rfl⟩
  · cases h
noncomputable def mss35 : List (FuncId × SFM) := (36, fun args => match S_ref05_Of args with | some (o, v) => some (o, v, []) | none => none) :: mss34
noncomputable def menv37 : EnvM := mkEnvM mxs mss35 mws2
theorem mss35_ok : All (SOkM Try.prog false) mss35 := All.cons t_ref05_Of mss34_ok
theorem menv37_ok : menv37.Ok Try.prog false := mkEnvM_ok mxs_ok mss35_ok mws2_ok
-- tumble/tumbleref02.Bits
theorem ann_ref02_Bits : FnOk Try.prog false 0 Try.f50 Ann.no := (fnNo _)
noncomputable def s_ref02_Bits_0 (a0_0 : Nat) : Int := (bif (!(feq a0_0 a0_0)) then (9221120237041090561 : Int) else (Int.ofNat a0_0))
theorem e_ref02_Bits (a0_0 : Nat) : outB (evFnM Try.prog false menv37 [] [] 96 Ann.no Try.f50 [AV.float a0_0] []) = some (((!(feq a0_0 a0_0)) || (!(nanb a0_0))), AV.int .u64 (s_ref02_Bits_0 a0_0)) := by kernel_rfl
noncomputable def S_ref02_Bits : List AV → Option (Ob × AV)
  | [AV.float a0_0] => some (Ob.tt, AV.int .u64 (s_ref02_Bits_0 a0_0))
  | _ => none
theorem ob_ref02_Bits (a0_0 : Nat) : ((!(feq a0_0 a0_0)) || (!(nanb a0_0))) = true := by show (((!(feq a0_0 a0_0)) || (!(nanb a0_0)))) = true; simp only [feq_self]; generalize (nanb a0_0) = q0; cases q0 <;> rfl
theorem t_ref02_Bits : SOkM Try.prog false (50, fun args => match S_ref02_Bits args with | some (o, v) => some (o, v, []) | none => none) := SOkM.flat (N := 96) menv37_ok Try.func50 ann_ref02_Bits Try.call50 fun args o v h ho => by
  unfold S_ref02_Bits at h
  split at h
  · rename_i a0_0
    cases h
    have ho2 := ho
    have this : outB (evFnM Try.prog false menv37 [] [] 96 Ann.no Try.f50 [AV.float a0_0] []) = some (true, AV.int .u64 (s_ref02_Bits_0 a0_0)) := Eq.trans (show outB (evFnM Try.prog false menv37 [] [] 96 Ann.no Try.f50 [AV.float a0_0] []) = _ from e_ref02_Bits a0_0) (by rw [(ob_ref02_Bits a0_0)])
    exact ⟨this, rfl⟩
  · cases h
noncomputable def mss36 : List (FuncId × SFM) := (50, fun args => match S_ref02_Bits args with | some (o, v) => some (o, v, []) | none => none) :: mss35
noncomputable def menv38 : EnvM := mkEnvM mxs mss36 mws2
theorem mss36_ok : All (SOkM Try.prog false) mss36 := All.cons t_ref02_Bits mss35_ok
theorem menv38_ok : menv38.Ok Try.prog false := mkEnvM_ok mxs_ok mss36_ok mws2_ok
-- tumble/tumbleref02.Is
theorem ann_ref02_Is : FnOk Try.prog false 0 Try.f13 Ann.no := (fnNo _)
noncomputable def s_ref02_Is_0 (a0_0 : Nat) (a1_0 : Nat) : Bool := (ieq (s_ref02_Bits_0 a0_0) (s_ref02_Bits_0 a1_0))
theorem e_ref02_Is (a0_0 : Nat) (a1_0 : Nat) : outB (evFnM Try.prog false menv38 [] [] 96 Ann.no Try.f13 [AV.float a0_0, AV.float a1_0] []) = some (true, AV.bool (s_ref02_Is_0 a0_0 a1_0)) := by kernel_rfl
noncomputable def S_ref02_Is : List AV → Option (Ob × AV)
  | [AV.float a0_0, AV.float a1_0] => some (Ob.tt, AV.bool (s_ref02_Is_0 a0_0 a1_0))
  | _ => none
theorem ob_ref02_Is (a0_0 : Nat) (a1_0 : Nat) : true = true := rfl
theorem t_ref02_Is : SOkM Try.prog false (13, fun args => match S_ref02_Is args with | some (o, v) => some (o, v, []) | none => none) := SOkM.flat (N := 96) menv38_ok Try.func13 ann_ref02_Is Try.call13 fun args o v h ho => by
  unfold S_ref02_Is at h
  split at h
  · rename_i a0_0 a1_0
    cases h
    have ho2 := ho
    have this : outB (evFnM Try.prog false menv38 [] [] 96 Ann.no Try.f13 [AV.float a0_0, AV.float a1_0] []) = some (true, AV.bool (s_ref02_Is_0 a0_0 a1_0)) := Eq.trans (show outB (evFnM Try.prog false menv38 [] [] 96 Ann.no Try.f13 [AV.float a0_0, AV.float a1_0] []) = _ from e_ref02_Is a0_0 a1_0) (by rw [(ob_ref02_Is a0_0 a1_0)])
    exact ⟨this, rfl⟩
  · cases h
noncomputable def mss37 : List (FuncId × SFM) := (13, fun args => match S_ref02_Is args with | some (o, v) => some (o, v, []) | none => none) :: mss36
noncomputable def menv39 : EnvM := mkEnvM mxs mss37 mws2
theorem mss37_ok : All (SOkM Try.prog false) mss37 := All.cons t_ref02_Is mss36_ok
theorem menv39_ok : menv39.Ok Try.prog false := mkEnvM_ok mxs_ok mss37_ok mws2_ok
-- tumble/tumbleref02.Same
theorem ann_ref02_Same : FnOk Try.prog false 0 Try.f37 Ann.no := (fnNo _)
noncomputable def s_ref02_Same_0 (a0_0 : Nat) (a0_1 : Nat) (a1_0 : Nat) (a1_1 : Nat) : Bool := ((s_ref02_Is_0 a0_0 a1_0) && (s_ref02_Is_0 a0_1 a1_1))
theorem e_ref02_Same (a0_0 : Nat) (a0_1 : Nat) (a1_0 : Nat) (a1_1 : Nat) : outB (evFnM Try.prog false menv39 [] [] 96 Ann.no Try.f37 [AV.agg [.float a0_0, .float a0_1], AV.agg [.float a1_0, .float a1_1]] []) = some (true, AV.bool (s_ref02_Same_0 a0_0 a0_1 a1_0 a1_1)) := by kernel_rfl
noncomputable def S_ref02_Same : List AV → Option (Ob × AV)
  | [AV.agg [.float a0_0, .float a0_1], AV.agg [.float a1_0, .float a1_1]] => some (Ob.tt, AV.bool (s_ref02_Same_0 a0_0 a0_1 a1_0 a1_1))
  | _ => none
theorem ob_ref02_Same (a0_0 : Nat) (a0_1 : Nat) (a1_0 : Nat) (a1_1 : Nat) : true = true := rfl
theorem t_ref02_Same : SOkM Try.prog false (37, fun args => match S_ref02_Same args with | some (o, v) => some (o, v, []) | none => none) := SOkM.flat (N := 96) menv39_ok Try.func37 ann_ref02_Same Try.call37 fun args o v h ho => by
  unfold S_ref02_Same at h
  split at h
  · rename_i a0_0 a0_1 a1_0 a1_1
    cases h
    have ho2 := ho
    have this : outB (evFnM Try.prog false menv39 [] [] 96 Ann.no Try.f37 [AV.agg [.float a0_0, .float a0_1], AV.agg [.float a1_0, .float a1_1]] []) = some (true, AV.bool (s_ref02_Same_0 a0_0 a0_1 a1_0 a1_1)) := Eq.trans (show outB (evFnM Try.prog false menv39 [] [] 96 Ann.no Try.f37 [AV.agg [.float a0_0, .float a0_1], AV.agg [.float a1_0, .float a1_1]] []) = _ from e_ref02_Same a0_0 a0_1 a1_0 a1_1) (by rw [(ob_ref02_Same a0_0 a0_1 a1_0 a1_1)])
    exact ⟨this, rfl⟩
  · cases h
noncomputable def mss38 : List (FuncId × SFM) := (37, fun args => match S_ref02_Same args with | some (o, v) => some (o, v, []) | none => none) :: mss37
noncomputable def menv40 : EnvM := mkEnvM mxs mss38 mws2
theorem mss38_ok : All (SOkM Try.prog false) mss38 := All.cons t_ref02_Same mss37_ok
theorem menv40_ok : menv40.Ok Try.prog false := mkEnvM_ok mxs_ok mss38_ok mws2_ok
-- tumble/tumbleref05.Same
theorem ann_ref05_Same : FnOk Try.prog false 0 Try.f54 Ann.no := (fnNo _)
noncomputable def s_ref05_Same_0 (a0_0 : Nat) (a0_1 : Nat) (a0_2 : Nat) (a0_3 : Nat) (a1_0 : Nat) (a1_1 : Nat) (a1_2 : Nat) (a1_3 : Nat) : Bool := ((s_ref02_Same_0 a0_0 a0_1 a1_0 a1_1) && (s_ref02_Same_0 a0_2 a0_3 a1_2 a1_3))
theorem e_ref05_Same (a0_0 : Nat) (a0_1 : Nat) (a0_2 : Nat) (a0_3 : Nat) (a1_0 : Nat) (a1_1 : Nat) (a1_2 : Nat) (a1_3 : Nat) : outB (evFnM Try.prog false menv40 [] [] 96 Ann.no Try.f54 [AV.agg [.float a0_0, .float a0_1, .float a0_2, .float a0_3], AV.agg [.float a1_0, .float a1_1, .float a1_2, .float a1_3]] []) = some (true, AV.bool (s_ref05_Same_0 a0_0 a0_1 a0_2 a0_3 a1_0 a1_1 a1_2 a1_3)) := by kernel_rfl
noncomputable def S_ref05_Same : List AV → Option (Ob × AV)
  | [AV.agg [.float a0_0, .float a0_1, .float a0_2, .float a0_3], AV.agg [.float a1_0, .float a1_1, .float a1_2, .float a1_3]] => some (Ob.tt, AV.bool (s_ref05_Same_0 a0_0 a0_1 a0_2 a0_3 a1_0 a1_1 a1_2 a1_3))
  | _ => none
theorem ob_ref05_Same (a0_0 : Nat) (a0_1 : Nat) (a0_2 : Nat) (a0_3 : Nat) (a1_0 : Nat) (a1_1 : Nat) (a1_2 : Nat) (a1_3 : Nat) : true = true := rfl
theorem t_ref05_Same : SOkM Try.prog false (54, fun args => match S_ref05_Same args with | some (o, v) => some (o, v, []) | none => none) := SOkM.flat (N := 96) menv40_ok Try.func54 ann_ref05_Same Try.call54 fun args o v h ho => by
  unfold S_ref05_Same at h
  split at h
  · rename_i a0_0 a0_1 a0_2 a0_3 a1_0 a1_1 a1_2 a1_3
    cases h
    have ho2 := ho
    have this : outB (evFnM Try.prog false menv40 [] [] 96 Ann.no Try.f54 [AV.agg [.float a0_0, .float a0_1, .float a0_2, .float a0_3], AV.agg [.float a1_0, .float a1_1, .float a1_2, .float a1_3]] []) = some (true, AV.bool (s_ref05_Same_0 a0_0 a0_1 a0_2 a0_3 a1_0 a1_1 a1_2 a1_3)) := Eq.trans (show outB (evFnM Try.prog false menv40 [] [] 96 Ann.no Try.f54 [AV.agg [.float a0_0, .float a0_1, .float a0_2, .float a0_3], AV.agg [.float a1_0, .float a1_1, .float a1_2, .float a1_3]] []) = _ from e_ref05_Same a0_0 a0_1 a0_2 a0_3 a1_0 a1_1 a1_2 a1_3) (by rw [(ob_ref05_Same a0_0 a0_1 a0_2 a0_3 a1_0 a1_1 a1_2 a1_3)])
    exact ⟨this, rfl⟩
  · cases h
noncomputable def mss39 : List (FuncId × SFM) := (54, fun args => match S_ref05_Same args with | some (o, v) => some (o, v, []) | none => none) :: mss38
noncomputable def menv41 : EnvM := mkEnvM mxs mss39 mws2
theorem mss39_ok : All (SOkM Try.prog false) mss39 := All.cons t_ref05_Same mss38_ok
theorem menv41_ok : menv41.Ok Try.prog false := mkEnvM_ok mxs_ok mss39_ok mws2_ok
-- tumble/tumblelaw05.is
theorem ann_law05_is : FnOk Try.prog false 0 Try.f18 Ann.no := (fnNo _)
noncomputable def s_law05_is_0 (a0_0 : Nat) (a0_1 : Nat) (a0_2 : Nat) (a0_3 : Nat) (a1_0 : Nat) (a1_1 : Nat) (a1_2 : Nat) (a1_3 : Nat) : Bool := (s_ref05_Same_0 a0_0 a0_1 a0_2 a0_3 a1_0 a1_1 a1_2 a1_3)
theorem e_law05_is (a0_0 : Nat) (a0_1 : Nat) (a0_2 : Nat) (a0_3 : Nat) (a1_0 : Nat) (a1_1 : Nat) (a1_2 : Nat) (a1_3 : Nat) : outB (evFnM Try.prog false menv41 [] [] 96 Ann.no Try.f18 [AV.agg [.float a0_0, .float a0_1, .float a0_2, .float a0_3], AV.agg [.float a1_0, .float a1_1, .float a1_2, .float a1_3]] []) = some (true, AV.bool (s_law05_is_0 a0_0 a0_1 a0_2 a0_3 a1_0 a1_1 a1_2 a1_3)) := by kernel_rfl
noncomputable def S_law05_is : List AV → Option (Ob × AV)
  | [AV.agg [.float a0_0, .float a0_1, .float a0_2, .float a0_3], AV.agg [.float a1_0, .float a1_1, .float a1_2, .float a1_3]] => some (Ob.tt, AV.bool (s_law05_is_0 a0_0 a0_1 a0_2 a0_3 a1_0 a1_1 a1_2 a1_3))
  | _ => none
theorem ob_law05_is (a0_0 : Nat) (a0_1 : Nat) (a0_2 : Nat) (a0_3 : Nat) (a1_0 : Nat) (a1_1 : Nat) (a1_2 : Nat) (a1_3 : Nat) : true = true := rfl
theorem t_law05_is : SOkM Try.prog false (18, fun args => match S_law05_is args with | some (o, v) => some (o, v, []) | none => none) := SOkM.flat (N := 96) menv41_ok Try.func18 ann_law05_is Try.call18 fun args o v h ho => by
  unfold S_law05_is at h
  split at h
  · rename_i a0_0 a0_1 a0_2 a0_3 a1_0 a1_1 a1_2 a1_3
    cases h
    have ho2 := ho
    have this : outB (evFnM Try.prog false menv41 [] [] 96 Ann.no Try.f18 [AV.agg [.float a0_0, .float a0_1, .float a0_2, .float a0_3], AV.agg [.float a1_0, .float a1_1, .float a1_2, .float a1_3]] []) = some (true, AV.bool (s_law05_is_0 a0_0 a0_1 a0_2 a0_3 a1_0 a1_1 a1_2 a1_3)) := Eq.trans (show outB (evFnM Try.prog false menv41 [] [] 96 Ann.no Try.f18 [AV.agg [.float a0_0, .float a0_1, .float a0_2, .float a0_3], AV.agg [.float a1_0, .float a1_1, .float a1_2, .float a1_3]] []) = _ from e_law05_is a0_0 a0_1 a0_2 a0_3 a1_0 a1_1 a1_2 a1_3) (by rw [(ob_law05_is a0_0 a0_1 a0_2 a0_3 a1_0 a1_1 a1_2 a1_3)])
    exact ⟨this, rfl⟩
  · cases h
noncomputable def mss40 : List (FuncId × SFM) := (18, fun args => match S_law05_is args with | some (o, v) => some (o, v, []) | none => none) :: mss39
noncomputable def menv42 : EnvM := mkEnvM mxs mss40 mws2
theorem mss40_ok : All (SOkM Try.prog false) mss40 := All.cons t_law05_is mss39_ok
theorem menv42_ok : menv42.Ok Try.prog false := mkEnvM_ok mxs_ok mss40_ok mws2_ok
-- tumble/tumblelaw05.BoxOf
-- a loop of tumble/tumblelaw05.BoxOf
structure V_law05_BoxOf_L0 where
  v0 : Int
def tpl_law05_BoxOf_L0 : List AV := [AV.nul, AV.top, AV.top, AV.nul, AV.nul, AV.nul, AV.nul, AV.nul, AV.nul, AV.nul, AV.top, AV.top, AV.top, AV.top, AV.top, AV.top, AV.top, AV.top, AV.top, AV.top, AV.top, AV.top, AV.top, AV.top, AV.top, AV.top, AV.top, AV.top, AV.top, AV.top, AV.top, AV.top, AV.top, AV.top, AV.top, AV.top, AV.top, AV.top, AV.top, AV.top, AV.top, AV.top, AV.top, AV.top, AV.top, AV.top, AV.top, AV.top, AV.top, AV.top, AV.top, AV.top, AV.top, AV.top, AV.top, AV.top, AV.top, AV.top, AV.top, AV.top, AV.top, AV.top, AV.top, AV.top, AV.top, AV.top, AV.top, AV.top, AV.top, AV.top, AV.top, AV.top, AV.top, AV.top, AV.top, AV.top, AV.top, AV.top, AV.top, AV.top, AV.top, AV.top]
def cts_law05_BoxOf_L0 : List CT := [CT.keep, CT.keep, CT.keep, CT.keep]
def phs_law05_BoxOf_L0 : List Src := []
def T_law05_BoxOf_L0 (c0 : Nat) (c1 : (Nat → Nat)) (c2 : (Nat → Nat)) (c3 : Nat) (c4 : Bool) (c5 : Bool) (c6 : (Nat → Nat)) (c7 : (Nat → Nat)) (c8 : Nat) (c9 : Nat) (c10 : Nat) (c11 : Nat) (c12 : Nat) (c13 : Nat) (c14 : Nat) (c15 : Nat) (x : V_law05_BoxOf_L0) (F0 : Nat → List AV) (F1 : Nat → List AV) : List AV × Heap := ([AV.view c0 2 F0, AV.top, AV.top, AV.bool true, AV.lst 0 2 2 c3 c3, AV.ptr (some ⟨2, 0, .lit 0⟩), AV.bool c4, AV.ptr (some ⟨3, 0, .lit 0⟩), AV.bool c5, AV.int .i64 x.v0, AV.top, AV.top, AV.top, AV.top, AV.top, AV.top, AV.top, AV.top, AV.top, AV.top, AV.top, AV.top, AV.top, AV.top, AV.top, AV.top, AV.top, AV.top, AV.top, AV.top, AV.top, AV.top, AV.top, AV.top, AV.top, AV.top, AV.top, AV.top, AV.top, AV.top, AV.top, AV.top, AV.top, AV.top, AV.top, AV.top, AV.top, AV.top, AV.top, AV.top, AV.top, AV.top, AV.top, AV.top, AV.top, AV.top, AV.top, AV.top, AV.top, AV.top, AV.top, AV.top, AV.top, AV.top, AV.top, AV.top, AV.top, AV.top, AV.top, AV.top, AV.top, AV.top, AV.top, AV.top, AV.top, AV.top, AV.top, AV.top, AV.top, AV.top, AV.top, AV.top], [⟨.sym c3 2 F1, 24, 2⟩, ⟨.flat [AV.float 4635118810238550016, AV.float 0, AV.float 0, AV.float 4635189178982727680], 24, 0⟩, ⟨.flat [AV.float c8, AV.float c9, AV.float c10, AV.float c11], 26, 0⟩, ⟨.flat [AV.float c12, AV.float c13, AV.float c14, AV.float c15], 26, 0⟩])
def sh_law05_BoxOf_L0 (c0 : Nat) (c1 : (Nat → Nat)) (c2 : (Nat → Nat)) (c3 : Nat) (c4 : Bool) (c5 : Bool) (c6 : (Nat → Nat)) (c7 : (Nat → Nat)) (c8 : Nat) (c9 : Nat) (c10 : Nat) (c11 : Nat) (c12 : Nat) (c13 : Nat) (c14 : Nat) (c15 : Nat) (x : V_law05_BoxOf_L0) : List AV × Heap := T_law05_BoxOf_L0 c0 c1 c2 c3 c4 c5 c6 c7 c8 c9 c10 c11 c12 c13 c14 c15 x (fun (j0 : Nat) => [AV.float (c1 j0), AV.float (c2 j0)]) (fun (j0 : Nat) => [AV.float (c6 j0), AV.float (c7 j0)])
noncomputable def step_law05_BoxOf_L0 (c0 : Nat) (c1 : (Nat → Nat)) (c2 : (Nat → Nat)) (c3 : Nat) (c6 : (Nat → Nat)) (c7 : (Nat → Nat)) (x : V_law05_BoxOf_L0) : V_law05_BoxOf_L0 := V_law05_BoxOf_L0.mk (IntKind.wrap .i64 (x.v0 + (1 : Int)))
noncomputable def go_law05_BoxOf_L0 (c0 : Nat) (c1 : (Nat → Nat)) (c2 : (Nat → Nat)) (c3 : Nat) (c6 : (Nat → Nat)) (c7 : (Nat → Nat)) (x : V_law05_BoxOf_L0) : Bool := (bif (bif (!(ilt x.v0 (Int.ofNat c0))) then false else (!(s_ref02_Same_0 (c6 (Int.toNat x.v0)) (c7 (Int.toNat x.v0)) (c1 (Int.toNat x.v0)) (c2 (Int.toNat x.v0))))) then false else (bif (!(ilt x.v0 (Int.ofNat c0))) then false else true))
noncomputable def ok_law05_BoxOf_L0 (c0 : Nat) (c1 : (Nat → Nat)) (c2 : (Nat → Nat)) (c3 : Nat) (c6 : (Nat → Nat)) (c7 : (Nat → Nat)) (x : V_law05_BoxOf_L0) : Bool := let x0 : Bool := (Nat.blt (Int.toNat x.v0) c3); let x1 : Bool := (((ile (0 : Int) x.v0) && (Nat.blt (Int.toNat x.v0) c0)) && (x0 && ((ile (0 : Int) x.v0) && x0))); let x2 : Bool := (!(ilt x.v0 (Int.ofNat c0))); (bif (bif x2 then false else (!(s_ref02_Same_0 (c6 (Int.toNat x.v0)) (c7 (Int.toNat x.v0)) (c1 (Int.toNat x.v0)) (c2 (Int.toNat x.v0))))) then x1 else (x2 || x1))
noncomputable def L_law05_BoxOf_L0 (c0 : Nat) (c1 : (Nat → Nat)) (c2 : (Nat → Nat)) (c3 : Nat) (c6 : (Nat → Nat)) (c7 : (Nat → Nat)) (x : V_law05_BoxOf_L0) : V_law05_BoxOf_L0 := lastL (ok_law05_BoxOf_L0 c0 c1 c2 c3 c6 c7) (go_law05_BoxOf_L0 c0 c1 c2 c3 c6 c7) (step_law05_BoxOf_L0 c0 c1 c2 c3 c6 c7) x
noncomputable def E_law05_BoxOf_L0 (c0 : Nat) (c1 : (Nat → Nat)) (c2 : (Nat → Nat)) (c3 : Nat) (c6 : (Nat → Nat)) (c7 : (Nat → Nat)) (x : V_law05_BoxOf_L0) : Bool := endsL (ok_law05_BoxOf_L0 c0 c1 c2 c3 c6 c7) (go_law05_BoxOf_L0 c0 c1 c2 c3 c6 c7) (step_law05_BoxOf_L0 c0 c1 c2 c3 c6 c7) x
theorem all_law05_BoxOf_L0 (c0 : Nat) (c1 : (Nat → Nat)) (c2 : (Nat → Nat)) (c3 : Nat) (c4 : Bool) (c5 : Bool) (c6 : (Nat → Nat)) (c7 : (Nat → Nat)) (c8 : Nat) (c9 : Nat) (c10 : Nat) (c11 : Nat) (c12 : Nat) (c13 : Nat) (c14 : Nat) (c15 : Nat) (x : V_law05_BoxOf_L0) : rnd Try.prog false menv42 [13] [] 96 Ann.no (subC [1, 1, 1, 1, 1, 1, 1, 0, 1, 0, 0] (codeOf Try.f6)) 0 [⟨some 0, 2, 0, []⟩, ⟨some 1, 0, 0, []⟩, ⟨some 2, 0, 0, []⟩, ⟨some 3, 0, 0, []⟩] tpl_law05_BoxOf_L0 cts_law05_BoxOf_L0 [false, true, true, false, false, false, false, false, false, true, true, true, true, true, true, true, true, true, true, true, true, true, true, true, true, true, true, true, true, true, true, true, true, true, true, true, true, true, true, true, true, true, true, true, true, true, true, true, true, true, true, true, true, true, true, true, true, true, true, true, true, true, true, true, true, true, true, true, true, true, true, true, true, true, true, true, true, true, true, true, true, true] [false, false, false, false] (sh_law05_BoxOf_L0 c0 c1 c2 c3 c4 c5 c6 c7 c8 c9 c10 c11 c12 c13 c14 c15 x) = (true, true, go_law05_BoxOf_L0 c0 c1 c2 c3 c6 c7 x, ok_law05_BoxOf_L0 c0 c1 c2 c3 c6 c7 x, true, sh_law05_BoxOf_L0 c0 c1 c2 c3 c4 c5 c6 c7 c8 c9 c10 c11 c12 c13 c14 c15 (step_law05_BoxOf_L0 c0 c1 c2 c3 c6 c7 x), true) := by kernel_rfl
noncomputable def fam_law05_BoxOf_L0 (c0 : Nat) (c1 : (Nat → Nat)) (c2 : (Nat → Nat)) (c3 : Nat) (c4 : Bool) (c5 : Bool) (c6 : (Nat → Nat)) (c7 : (Nat → Nat)) (c8 : Nat) (c9 : Nat) (c10 : Nat) (c11 : Nat) (c12 : Nat) (c13 : Nat) (c14 : Nat) (c15 : Nat) : Fam Try.prog false menv42 [13] [] 96 0 Ann.no (subC [1, 1, 1, 1, 1, 1, 1, 0, 1, 0, 0] (codeOf Try.f6)) V_law05_BoxOf_L0 where
  sh := sh_law05_BoxOf_L0 c0 c1 c2 c3 c4 c5 c6 c7 c8 c9 c10 c11 c12 c13 c14 c15
  ok := ok_law05_BoxOf_L0 c0 c1 c2 c3 c6 c7
  go := go_law05_BoxOf_L0 c0 c1 c2 c3 c6 c7
  step := step_law05_BoxOf_L0 c0 c1 c2 c3 c6 c7
  chg := [false, true, true, false, false, false, false, false, false, true, true, true, true, true, true, true, true, true, true, true, true, true, true, true, true, true, true, true, true, true, true, true, true, true, true, true, true, true, true, true, true, true, true, true, true, true, true, true, true, true, true, true, true, true, true, true, true, true, true, true, true, true, true, true, true, true, true, true, true, true, true, true, true, true, true, true, true, true, true, true, true, true]
  chgH := [false, false, false, false]
  tpl := tpl_law05_BoxOf_L0
  cts := cts_law05_BoxOf_L0
  keep := 0
  srcs := [⟨some 0, 2, 0, []⟩, ⟨some 1, 0, 0, []⟩, ⟨some 2, 0, 0, []⟩, ⟨some 3, 0, 0, []⟩]
  ann := (annNo (subC [1, 1, 1, 1, 1, 1, 1, 0, 1, 0, 0] (codeOf Try.f6)))
  le := by kernel_rfl
  kept := by kernel_rfl
  keptB := by kernel_rfl
  all := all_law05_BoxOf_L0 c0 c1 c2 c3 c4 c5 c6 c7 c8 c9 c10 c11 c12 c13 c14 c15
  len := fun x => by kernel_rfl
  head := fun x y => by kernel_rfl
  con := fun x y => by kernel_rfl
  conH := fun x y => by kernel_rfl
noncomputable def F_law05_BoxOf_L0 : St → Option Ch := fun s => cond (Nat.beq s.tm.length 82 && Nat.beq s.H.length 4) (tkCons (alL tpl_law05_BoxOf_L0 s.tm) fun a0 t0 => tkView 2 a0 fun s0 f0 => tkTops 2 t0 fun t1 => tkCons t1 fun a2 t2 => tkBL true a2 <| tkCons t2 fun a3 t3 => tkLst 0 2 2 a3 fun s4 s5 => tkCons t3 fun a4 t4 => tkPtr 2 0 0 a4 <| tkCons t4 fun a5 t5 => tkB a5 fun s6 => tkCons t5 fun a6 t6 => tkPtr 3 0 0 a6 <| tkCons t6 fun a7 t7 => tkB a7 fun s7 => tkCons t7 fun a8 t8 => tkI .i64 a8 fun s8 => tkTops 72 t8 fun t9 => tkNil t9 <| tkCons (alH cts_law05_BoxOf_L0 (s.H ++ List.map phan phs_law05_BoxOf_L0)) fun b10 t10 => tkSym 24 2 2 b10 fun s9 f1 => tkCons t10 fun b11 t11 => tkFlat 24 0 b11 fun m11 => tkCons m11 fun a12 t12 => tkFL 4635118810238550016 a12 <| tkCons t12 fun a13 t13 => tkFL 0 a13 <| tkCons t13 fun a14 t14 => tkFL 0 a14 <| tkCons t14 fun a15 t15 => tkFL 4635189178982727680 a15 <| tkNil t15 <| tkCons t11 fun b16 t16 => tkFlat 26 0 b16 fun m16 => tkCons m16 fun a17 t17 => tkF a17 fun s16 => tkCons t17 fun a18 t18 => tkF a18 fun s17 => tkCons t18 fun a19 t19 => tkF a19 fun s18 => tkCons t19 fun a20 t20 => tkF a20 fun s19 => tkNil t20 <| tkCons t16 fun b21 t21 => tkFlat 26 0 b21 fun m21 => tkCons m21 fun a22 t22 => tkF a22 fun s20 => tkCons t22 fun a23 t23 => tkF a23 fun s21 => tkCons t23 fun a24 t24 => tkF a24 fun s22 => tkCons t24 fun a25 t25 => tkF a25 fun s23 => tkNil t25 <| tkNil t21 <| Fam.out (fam_law05_BoxOf_L0 s0 (fun (i : Nat) => flO (atL (f0 i) 0)) (fun (i : Nat) => flO (atL (f0 i) 1)) s4 s6 s7 (fun (i : Nat) => flO (atL (f1 i) 0)) (fun (i : Nat) => flO (atL (f1 i) 1)) s16 s17 s18 s19 s20 s21 s22 s23) s ((((allB fun (i : Nat) => isNrm [Ck.f, Ck.f] (f0 i)) && (allB fun (i : Nat) => isNrm [Ck.f, Ck.f] (f1 i))) && (eqT s5 s4)) && (eqT s9 s4)) (V_law05_BoxOf_L0.mk s8)) none
theorem F_law05_BoxOf_L0_ok : ∀ s ch, F_law05_BoxOf_L0 s = some ch → AllI s ch ∧ LoopSpec Try.prog false 0 (subC [1, 1, 1, 1, 1, 1, 1, 0, 1, 0, 0] (codeOf Try.f6)) s (sel ch) := by
  intro s ch h
  unfold F_law05_BoxOf_L0 at h
  obtain ⟨hl, h0⟩ := cond_some h rfl
  clear h
  obtain ⟨hl, hb⟩ := and_beq2 hl
  obtain ⟨a0, t0, e0, h1⟩ := tkCons_some h0
  obtain ⟨s0, f0, rfl, h2⟩ := tkView_some h1
  obtain ⟨t1, rfl, h3⟩ := tkTops_some h2
  obtain ⟨a2, t2, rfl, h4⟩ := tkCons_some h3
  obtain ⟨rfl, h5⟩ := tkBL_some h4
  obtain ⟨a3, t3, rfl, h6⟩ := tkCons_some h5
  obtain ⟨s4, s5, rfl, h7⟩ := tkLst_some h6
  obtain ⟨a4, t4, rfl, h8⟩ := tkCons_some h7
  obtain ⟨rfl, h9⟩ := tkPtr_some h8
  obtain ⟨a5, t5, rfl, h10⟩ := tkCons_some h9
  obtain ⟨s6, rfl, h11⟩ := tkB_some h10
  obtain ⟨a6, t6, rfl, h12⟩ := tkCons_some h11
  obtain ⟨rfl, h13⟩ := tkPtr_some h12
  obtain ⟨a7, t7, rfl, h14⟩ := tkCons_some h13
  obtain ⟨s7, rfl, h15⟩ := tkB_some h14
  obtain ⟨a8, t8, rfl, h16⟩ := tkCons_some h15
  obtain ⟨s8, rfl, h17⟩ := tkI_some h16
  obtain ⟨t9, rfl, h18⟩ := tkTops_some h17
  obtain ⟨rfl, h19⟩ := tkNil_some h18
  obtain ⟨b10, t10, eH, h20⟩ := tkCons_some h19
  obtain ⟨s9, f1, rfl, h21⟩ := tkSym_some h20
  obtain ⟨b11, t11, rfl, h22⟩ := tkCons_some h21
  obtain ⟨m11, rfl, h23⟩ := tkFlat_some h22
  obtain ⟨a12, t12, rfl, h24⟩ := tkCons_some h23
  obtain ⟨rfl, h25⟩ := tkFL_some h24
  obtain ⟨a13, t13, rfl, h26⟩ := tkCons_some h25
  obtain ⟨rfl, h27⟩ := tkFL_some h26
  obtain ⟨a14, t14, rfl, h28⟩ := tkCons_some h27
  obtain ⟨rfl, h29⟩ := tkFL_some h28
  obtain ⟨a15, t15, rfl, h30⟩ := tkCons_some h29
  obtain ⟨rfl, h31⟩ := tkFL_some h30
  obtain ⟨rfl, h32⟩ := tkNil_some h31
  obtain ⟨b16, t16, rfl, h33⟩ := tkCons_some h32
  obtain ⟨m16, rfl, h34⟩ := tkFlat_some h33
  obtain ⟨a17, t17, rfl, h35⟩ := tkCons_some h34
  obtain ⟨s16, rfl, h36⟩ := tkF_some h35
  obtain ⟨a18, t18, rfl, h37⟩ := tkCons_some h36
  obtain ⟨s17, rfl, h38⟩ := tkF_some h37
  obtain ⟨a19, t19, rfl, h39⟩ := tkCons_some h38
  obtain ⟨s18, rfl, h40⟩ := tkF_some h39
  obtain ⟨a20, t20, rfl, h41⟩ := tkCons_some h40
  obtain ⟨s19, rfl, h42⟩ := tkF_some h41
  obtain ⟨rfl, h43⟩ := tkNil_some h42
  obtain ⟨b21, t21, rfl, h44⟩ := tkCons_some h43
  obtain ⟨m21, rfl, h45⟩ := tkFlat_some h44
  obtain ⟨a22, t22, rfl, h46⟩ := tkCons_some h45
  obtain ⟨s20, rfl, h47⟩ := tkF_some h46
  obtain ⟨a23, t23, rfl, h48⟩ := tkCons_some h47
  obtain ⟨s21, rfl, h49⟩ := tkF_some h48
  obtain ⟨a24, t24, rfl, h50⟩ := tkCons_some h49
  obtain ⟨s22, rfl, h51⟩ := tkF_some h50
  obtain ⟨a25, t25, rfl, h52⟩ := tkCons_some h51
  obtain ⟨s23, rfl, h53⟩ := tkF_some h52
  obtain ⟨rfl, h54⟩ := tkNil_some h53
  obtain ⟨rfl, h55⟩ := tkNil_some h54
  refine Fam.spec menv42_ok (fam_law05_BoxOf_L0 s0 (fun (i : Nat) => flO (atL (f0 i) 0)) (fun (i : Nat) => flO (atL (f0 i) 1)) s4 s6 s7 (fun (i : Nat) => flO (atL (f1 i) 0)) (fun (i : Nat) => flO (atL (f1 i) 1)) s16 s17 s18 s19 s20 s21 s22 s23) (phs := phs_law05_BoxOf_L0) (hl.trans (by kernel_rfl)) (hb.trans (by kernel_rfl)) ?_ ?_ h55
  · rw [← hdr_alH cts_law05_BoxOf_L0 (s.H ++ List.map phan phs_law05_BoxOf_L0), eH]; kernel_rfl
  · intro hq
    simp only [Bool.and_eq_true] at hq
    obtain ⟨⟨⟨hq0, hq1⟩, hq2⟩, hq3⟩ := hq
    have n0 := nrm_fun hq0
    have n1 := nrm_fun hq1
    have hx := eqT_eq hq2; subst s5
    have hx := eqT_eq hq3; subst s9
    show sh_law05_BoxOf_L0 s0 (fun (i : Nat) => flO (atL (f0 i) 0)) (fun (i : Nat) => flO (atL (f0 i) 1)) s4 s6 s7 (fun (i : Nat) => flO (atL (f1 i) 0)) (fun (i : Nat) => flO (atL (f1 i) 1)) s16 s17 s18 s19 s20 s21 s22 s23 (V_law05_BoxOf_L0.mk s8) = (alL tpl_law05_BoxOf_L0 s.tm, alH cts_law05_BoxOf_L0 (s.H ++ List.map phan phs_law05_BoxOf_L0))
    rw [e0, eH]
    refine Eq.trans (show sh_law05_BoxOf_L0 s0 (fun (i : Nat) => flO (atL (f0 i) 0)) (fun (i : Nat) => flO (atL (f0 i) 1)) s4 s6 s7 (fun (i : Nat) => flO (atL (f1 i) 0)) (fun (i : Nat) => flO (atL (f1 i) 1)) s16 s17 s18 s19 s20 s21 s22 s23 (V_law05_BoxOf_L0.mk s8) = T_law05_BoxOf_L0 s0 (fun (i : Nat) => flO (atL (f0 i) 0)) (fun (i : Nat) => flO (atL (f0 i) 1)) s4 s6 s7 (fun (i : Nat) => flO (atL (f1 i) 0)) (fun (i : Nat) => flO (atL (f1 i) 1)) s16 s17 s18 s19 s20 s21 s22 s23 (V_law05_BoxOf_L0.mk s8) (fun (i : Nat) => mkN [Ck.f, Ck.f] (f0 i) 0) (fun (i : Nat) => mkN [Ck.f, Ck.f] (f1 i) 0) by kernel_rfl) ?_
    rw [n0, n1]
    kernel_rfl
theorem ann_law05_BoxOf : FnOk Try.prog false 0 Try.f6 (Ann.two Ann.no (Ann.two Ann.no (Ann.two Ann.no (Ann.two Ann.no (Ann.two Ann.no (Ann.two Ann.no (Ann.two Ann.no (Ann.two (Ann.two Ann.no (Ann.one (Ann.loop F_law05_BoxOf_L0))) Ann.no)))))))) := (fnOk_of (c := codeOf Try.f6) (by kernel_rfl) (annSeq (a := (subC [0] (codeOf Try.f6))) (b := (subC [1] (codeOf Try.f6))) (by kernel_rfl) (annNo (subC [0] (codeOf Try.f6))) (annSeq (a := (subC [1, 0] (codeOf Try.f6))) (b := (subC [1, 1] (codeOf Try.f6))) (by kernel_rfl) (annNo (subC [1, 0] (codeOf Try.f6))) (annSeq (a := (subC [1, 1, 0] (codeOf Try.f6))) (b := (subC [1, 1, 1] (codeOf Try.f6))) (by kernel_rfl) (annNo (subC [1, 1, 0] (codeOf Try.f6))) (annSeq (a := (subC [1, 1, 1, 0] (codeOf Try.f6))) (b := (subC [1, 1, 1, 1] (codeOf Try.f6))) (by kernel_rfl) (annNo (subC [1, 1, 1, 0] (codeOf Try.f6))) (annSeq (a := (subC [1, 1, 1, 1, 0] (codeOf Try.f6))) (b := (subC [1, 1, 1, 1, 1] (codeOf Try.f6))) (by kernel_rfl) (annNo (subC [1, 1, 1, 1, 0] (codeOf Try.f6))) (annSeq (a := (subC [1, 1, 1, 1, 1, 0] (codeOf Try.f6))) (b := (subC [1, 1, 1, 1, 1, 1] (codeOf Try.f6))) (by kernel_rfl) (annNo (subC [1, 1, 1, 1, 1, 0] (codeOf Try.f6))) (annSeq (a := (subC [1, 1, 1, 1, 1, 1, 0] (codeOf Try.f6))) (b := (subC [1, 1, 1, 1, 1, 1, 1] (codeOf Try.f6))) (by kernel_rfl) (annNo (subC [1, 1, 1, 1, 1, 1, 0] (codeOf Try.f6))) (annSeq (a := (subC [1, 1, 1, 1, 1, 1, 1, 0] (codeOf Try.f6))) (b := (subC [1, 1, 1, 1, 1, 1, 1, 1] (codeOf Try.f6))) (by kernel_rfl) (annSeq (a := (subC [1, 1, 1, 1, 1, 1, 1, 0, 0] (codeOf Try.f6))) (b := (subC [1, 1, 1, 1, 1, 1, 1, 0, 1] (codeOf Try.f6))) (by kernel_rfl) (annNo (subC [1, 1, 1, 1, 1, 1, 1, 0, 0] (codeOf Try.f6))) (annBlock (a := (subC [1, 1, 1, 1, 1, 1, 1, 0, 1, 0] (codeOf Try.f6))) (i := 0) (by kernel_rfl) (annLoop (a := (subC [1, 1, 1, 1, 1, 1, 1, 0, 1, 0, 0] (codeOf Try.f6))) (by kernel_rfl) F_law05_BoxOf_L0_ok))) (annNo (subC [1, 1, 1, 1, 1, 1, 1, 1] (codeOf Try.f6))))))))))))
noncomputable def T_law05_BoxOf (a0_0n : Nat) (a0_0_0 : Nat → Nat) (a0_0_1 : Nat → Nat) : Bool := let x0 : Nat := (Int.toNat (IntKind.wrap .i64 ((Int.ofNat a0_0n) + (1 : Int)))); let x1 : Bool := (Nat.beq (x0 - (0 + a0_0n)) 0); let x2 : Bool := (Nat.blt x0 (0 + a0_0n)); let x3 : Bool := (Nat.beq (a0_0n - (0 + a0_0n)) 0); let x4 : Bool := (Nat.blt a0_0n (0 + a0_0n)); let x5 : Int := ((L_law05_BoxOf_L0 a0_0n a0_0_0 a0_0_1 ((0 + a0_0n) + 2) (fun (j0 : Nat) => (bif (Nat.blt j0 (0 + a0_0n)) then (a0_0_0 j0) else (bif (Nat.beq (j0 - (0 + a0_0n)) 0) then 4635118810238550016 else 0))) (fun (j0 : Nat) => (bif (Nat.blt j0 (0 + a0_0n)) then (a0_0_1 j0) else (bif (Nat.beq (j0 - (0 + a0_0n)) 0) then 0 else 4635189178982727680))) (V_law05_BoxOf_L0.mk (0 : Int))).v0); let x6 : Nat := (Int.toNat x5); let x7 : Nat := (a0_0_1 x6); let x8 : Nat := (a0_0_0 x6); let x9 : Bool := (Nat.beq (x6 - (0 + a0_0n)) 0); let x10 : Bool := (Nat.blt x6 (0 + a0_0n)); (bif (bif (!(ilt x5 (Int.ofNat a0_0n))) then false else (!(s_ref02_Same_0 (bif x10 then x8 else (bif x9 then 4635118810238550016 else 0)) (bif x10 then x7 else (bif x9 then 0 else 4635189178982727680)) x8 x7))) then false else ((((s_law05_is_0 (s_box_Of_0 a0_0n (fun (j0 : Nat) => (bif (Nat.blt j0 (0 + a0_0n)) then (a0_0_0 j0) else (bif (Nat.beq (j0 - (0 + a0_0n)) 0) then 4635118810238550016 else 0))) (fun (j0 : Nat) => (bif (Nat.blt j0 (0 + a0_0n)) then (a0_0_1 j0) else (bif (Nat.beq (j0 - (0 + a0_0n)) 0) then 0 else 4635189178982727680)))) (s_box_Of_1 a0_0n (fun (j0 : Nat) => (bif (Nat.blt j0 (0 + a0_0n)) then (a0_0_0 j0) else (bif (Nat.beq (j0 - (0 + a0_0n)) 0) then 4635118810238550016 else 0))) (fun (j0 : Nat) => (bif (Nat.blt j0 (0 + a0_0n)) then (a0_0_1 j0) else (bif (Nat.beq (j0 - (0 + a0_0n)) 0) then 0 else 4635189178982727680)))) (s_box_Of_2 a0_0n (fun (j0 : Nat) => (bif (Nat.blt j0 (0 + a0_0n)) then (a0_0_0 j0) else (bif (Nat.beq (j0 - (0 + a0_0n)) 0) then 4635118810238550016 else 0))) (fun (j0 : Nat) => (bif (Nat.blt j0 (0 + a0_0n)) then (a0_0_1 j0) else (bif (Nat.beq (j0 - (0 + a0_0n)) 0) then 0 else 4635189178982727680)))) (s_box_Of_3 a0_0n (fun (j0 : Nat) => (bif (Nat.blt j0 (0 + a0_0n)) then (a0_0_0 j0) else (bif (Nat.beq (j0 - (0 + a0_0n)) 0) then 4635118810238550016 else 0))) (fun (j0 : Nat) => (bif (Nat.blt j0 (0 + a0_0n)) then (a0_0_1 j0) else (bif (Nat.beq (j0 - (0 + a0_0n)) 0) then 0 else 4635189178982727680)))) (s_ref05_Of_0 a0_0n a0_0_0 a0_0_1) (s_ref05_Of_1 a0_0n a0_0_0 a0_0_1) (s_ref05_Of_2 a0_0n a0_0_0 a0_0_1) (s_ref05_Of_3 a0_0n a0_0_0 a0_0_1)) && ((s_box_Of_4 a0_0n (fun (j0 : Nat) => (bif (Nat.blt j0 (0 + a0_0n)) then (a0_0_0 j0) else (bif (Nat.beq (j0 - (0 + a0_0n)) 0) then 4635118810238550016 else 0))) (fun (j0 : Nat) => (bif (Nat.blt j0 (0 + a0_0n)) then (a0_0_1 j0) else (bif (Nat.beq (j0 - (0 + a0_0n)) 0) then 0 else 4635189178982727680)))) == (s_ref05_Of_4 a0_0n a0_0_0 a0_0_1))) && ((feq (bif x4 then (a0_0_0 a0_0n) else (bif x3 then 4635118810238550016 else 0)) 4635118810238550016) && ((feq (bif x4 then (a0_0_1 a0_0n) else (bif x3 then 0 else 4635189178982727680)) 0) && true))) && ((feq (bif x2 then (a0_0_0 x0) else (bif x1 then 4635118810238550016 else 0)) 0) && ((feq (bif x2 then (a0_0_1 x0) else (bif x1 then 0 else 4635189178982727680)) 4635189178982727680) && true))))
noncomputable def O_law05_BoxOf (a0_0n : Nat) (a0_0_0 : Nat → Nat) (a0_0_1 : Nat → Nat) : Bool := let x0 : Nat := ((0 + a0_0n) + 2); let x1 : Bool := (eqT x0 x0); let x2 : Bool := (Nat.ble a0_0n x0); let x3 : Bool := ((((allB fun _ => true) && (o_ref05_Of a0_0n a0_0_0 a0_0_1)) && ((x2 && ((allB fun _ => true) && (o_box_Of a0_0n (fun (j0 : Nat) => (bif (Nat.blt j0 (0 + a0_0n)) then (a0_0_0 j0) else (bif (Nat.beq (j0 - (0 + a0_0n)) 0) then 4635118810238550016 else 0))) (fun (j0 : Nat) => (bif (Nat.blt j0 (0 + a0_0n)) then (a0_0_1 j0) else (bif (Nat.beq (j0 - (0 + a0_0n)) 0) then 0 else 4635189178982727680)))))) && ((x2 || x2) && (((Nat.ble (0 + a0_0n) (0 + a0_0n)) && (Nat.ble (x0 * 16) 140737488355328)) && (Nat.ble ((0 + a0_0n) * 16) 140737488355328))))) && (((((allB fun _ => true) && (allB fun _ => true)) && x1) && x1) && (E_law05_BoxOf_L0 a0_0n a0_0_0 a0_0_1 x0 (fun (j0 : Nat) => (bif (Nat.blt j0 (0 + a0_0n)) then (a0_0_0 j0) else (bif (Nat.beq (j0 - (0 + a0_0n)) 0) then 4635118810238550016 else 0))) (fun (j0 : Nat) => (bif (Nat.blt j0 (0 + a0_0n)) then (a0_0_1 j0) else (bif (Nat.beq (j0 - (0 + a0_0n)) 0) then 0 else 4635189178982727680))) (V_law05_BoxOf_L0.mk (0 : Int))))); let x4 : Bool := (s_law05_is_0 (s_box_Of_0 a0_0n (fun (j0 : Nat) => (bif (Nat.blt j0 (0 + a0_0n)) then (a0_0_0 j0) else (bif (Nat.beq (j0 - (0 + a0_0n)) 0) then 4635118810238550016 else 0))) (fun (j0 : Nat) => (bif (Nat.blt j0 (0 + a0_0n)) then (a0_0_1 j0) else (bif (Nat.beq (j0 - (0 + a0_0n)) 0) then 0 else 4635189178982727680)))) (s_box_Of_1 a0_0n (fun (j0 : Nat) => (bif (Nat.blt j0 (0 + a0_0n)) then (a0_0_0 j0) else (bif (Nat.beq (j0 - (0 + a0_0n)) 0) then 4635118810238550016 else 0))) (fun (j0 : Nat) => (bif (Nat.blt j0 (0 + a0_0n)) then (a0_0_1 j0) else (bif (Nat.beq (j0 - (0 + a0_0n)) 0) then 0 else 4635189178982727680)))) (s_box_Of_2 a0_0n (fun (j0 : Nat) => (bif (Nat.blt j0 (0 + a0_0n)) then (a0_0_0 j0) else (bif (Nat.beq (j0 - (0 + a0_0n)) 0) then 4635118810238550016 else 0))) (fun (j0 : Nat) => (bif (Nat.blt j0 (0 + a0_0n)) then (a0_0_1 j0) else (bif (Nat.beq (j0 - (0 + a0_0n)) 0) then 0 else 4635189178982727680)))) (s_box_Of_3 a0_0n (fun (j0 : Nat) => (bif (Nat.blt j0 (0 + a0_0n)) then (a0_0_0 j0) else (bif (Nat.beq (j0 - (0 + a0_0n)) 0) then 4635118810238550016 else 0))) (fun (j0 : Nat) => (bif (Nat.blt j0 (0 + a0_0n)) then (a0_0_1 j0) else (bif (Nat.beq (j0 - (0 + a0_0n)) 0) then 0 else 4635189178982727680)))) (s_ref05_Of_0 a0_0n a0_0_0 a0_0_1) (s_ref05_Of_1 a0_0n a0_0_0 a0_0_1) (s_ref05_Of_2 a0_0n a0_0_0 a0_0_1) (s_ref05_Of_3 a0_0n a0_0_0 a0_0_1)); let x5 : Bool := (bif x4 then x3 else x3); let x6 : Bool := (Nat.blt a0_0n x0); let x7 : Bool := (x4 && ((s_box_Of_4 a0_0n (fun (j0 : Nat) => (bif (Nat.blt j0 (0 + a0_0n)) then (a0_0_0 j0) else (bif (Nat.beq (j0 - (0 + a0_0n)) 0) then 4635118810238550016 else 0))) (fun (j0 : Nat) => (bif (Nat.blt j0 (0 + a0_0n)) then (a0_0_1 j0) else (bif (Nat.beq (j0 - (0 + a0_0n)) 0) then 0 else 4635189178982727680)))) == (s_ref05_Of_4 a0_0n a0_0_0 a0_0_1))); let x8 : Bool := (bif x7 then (x6 && (x6 && x5)) else x5); let x9 : Int := (IntKind.wrap .i64 ((Int.ofNat a0_0n) + (1 : Int))); let x10 : Bool := (Nat.blt (Int.toNat x9) x0); let x11 : Bool := (Nat.beq (a0_0n - (0 + a0_0n)) 0); let x12 : Bool := (Nat.blt a0_0n (0 + a0_0n)); let x13 : Int := ((L_law05_BoxOf_L0 a0_0n a0_0_0 a0_0_1 x0 (fun (j0 : Nat) => (bif (Nat.blt j0 (0 + a0_0n)) then (a0_0_0 j0) else (bif (Nat.beq (j0 - (0 + a0_0n)) 0) then 4635118810238550016 else 0))) (fun (j0 : Nat) => (bif (Nat.blt j0 (0 + a0_0n)) then (a0_0_1 j0) else (bif (Nat.beq (j0 - (0 + a0_0n)) 0) then 0 else 4635189178982727680))) (V_law05_BoxOf_L0.mk (0 : Int))).v0); let x14 : Nat := (Int.toNat x13); let x15 : Nat := (a0_0_1 x14); let x16 : Nat := (a0_0_0 x14); let x17 : Bool := (Nat.beq (x14 - (0 + a0_0n)) 0); let x18 : Bool := (Nat.blt x14 (0 + a0_0n)); (bif (bif (!(ilt x13 (Int.ofNat a0_0n))) then false else (!(s_ref02_Same_0 (bif x18 then x16 else (bif x17 then 4635118810238550016 else 0)) (bif x18 then x15 else (bif x17 then 0 else 4635189178982727680)) x16 x15))) then x3 else (bif (x7 && ((feq (bif x12 then (a0_0_0 a0_0n) else (bif x11 then 4635118810238550016 else 0)) 4635118810238550016) && ((feq (bif x12 then (a0_0_1 a0_0n) else (bif x11 then 0 else 4635189178982727680)) 0) && true))) then (x10 && (((ile (0 : Int) x9) && x10) && x8)) else x8))
theorem tree_law05_BoxOf (a0_0n : Nat) (a0_0_0 : Nat → Nat) (a0_0_1 : Nat → Nat) : outB (evFnM Try.prog false menv42 [13] [] 96 (Ann.two Ann.no (Ann.two Ann.no (Ann.two Ann.no (Ann.two Ann.no (Ann.two Ann.no (Ann.two Ann.no (Ann.two Ann.no (Ann.two (Ann.two Ann.no (Ann.one (Ann.loop F_law05_BoxOf_L0))) Ann.no)))))))) Try.f6 [AV.view a0_0n 2 (fun (i0 : Nat) => [AV.float (a0_0_0 i0), AV.float (a0_0_1 i0)])] []) = some (O_law05_BoxOf a0_0n a0_0_0 a0_0_1, AV.bool (T_law05_BoxOf a0_0n a0_0_0 a0_0_1)) := by kernel_rfl
-- tumble/tumblelaw05.BoxLeast
-- a loop of tumble/tumblelaw05.BoxLeast
structure V_law05_BoxLeast_L0 where
  v0 : Bool
  v1 : Bool
  v2 : Bool
  v3 : Bool
  v4 : Int
def tpl_law05_BoxLeast_L0 : List AV := [AV.nul, AV.nul, AV.top, AV.top, AV.top, AV.top, AV.nul, AV.nul, AV.nul, AV.nul, AV.nul, AV.nul, AV.nul, AV.top, AV.top, AV.top, AV.top, AV.top, AV.top, AV.top, AV.top, AV.top, AV.top, AV.top, AV.top, AV.top, AV.top, AV.top, AV.top, AV.top, AV.top, AV.top, AV.top, AV.top, AV.top, AV.top, AV.top, AV.top, AV.top, AV.top, AV.top, AV.top, AV.top, AV.top, AV.top, AV.top, AV.top, AV.top, AV.top, AV.top, AV.top, AV.top, AV.top, AV.top, AV.top, AV.top, AV.top, AV.top, AV.top, AV.top, AV.top, AV.top, AV.top, AV.top, AV.top, AV.top, AV.top, AV.top, AV.top, AV.top, AV.top, AV.top, AV.top, AV.top, AV.top, AV.top, AV.top, AV.top, AV.top, AV.top, AV.top, AV.top, AV.top, AV.top, AV.top, AV.top, AV.top, AV.top, AV.top, AV.top, AV.top, AV.top, AV.top, AV.top, AV.top, AV.top, AV.top, AV.top, AV.top, AV.top, AV.top, AV.top, AV.top, AV.top, AV.top, AV.top, AV.top, AV.top, AV.top, AV.top, AV.top, AV.top, AV.top, AV.top, AV.top, AV.top, AV.top, AV.top, AV.top, AV.top, AV.top, AV.top, AV.top, AV.top, AV.top, AV.top, AV.top, AV.top, AV.top, AV.top, AV.top, AV.top, AV.top, AV.top, AV.top, AV.top, AV.top, AV.top, AV.top, AV.top, AV.top, AV.top, AV.top, AV.top, AV.top, AV.top, AV.top, AV.top, AV.top, AV.top, AV.top, AV.top, AV.top, AV.top, AV.top, AV.top, AV.top, AV.top, AV.top, AV.top, AV.top, AV.top, AV.top, AV.top, AV.top, AV.top, AV.top, AV.top, AV.top, AV.top, AV.top, AV.top, AV.top, AV.top]
def cts_law05_BoxLeast_L0 : List CT := [CT.keep]
def phs_law05_BoxLeast_L0 : List Src := []
def T_law05_BoxLeast_L0 (c0 : Nat) (c1 : (Nat → Nat)) (c2 : (Nat → Nat)) (c3 : Int) (c4 : Bool) (c5 : Nat) (c6 : Nat) (c7 : Nat) (c8 : Nat) (x : V_law05_BoxLeast_L0) (F0 : Nat → List AV) : List AV × Heap := ([AV.view c0 2 F0, AV.int .i64 c3, AV.top, AV.top, AV.top, AV.top, AV.ptr (some ⟨0, 0, .lit 0⟩), AV.bool c4, AV.bool x.v0, AV.bool x.v1, AV.bool x.v2, AV.bool x.v3, AV.int .i64 x.v4, AV.top, AV.top, AV.top, AV.top, AV.top, AV.top, AV.top, AV.top, AV.top, AV.top, AV.top, AV.top, AV.top, AV.top, AV.top, AV.top, AV.top, AV.top, AV.top, AV.top, AV.top, AV.top, AV.top, AV.top, AV.top, AV.top, AV.top, AV.top, AV.top, AV.top, AV.top, AV.top, AV.top, AV.top, AV.top, AV.top, AV.top, AV.top, AV.top, AV.top, AV.top, AV.top, AV.top, AV.top, AV.top, AV.top, AV.top, AV.top, AV.top, AV.top, AV.top, AV.top, AV.top, AV.top, AV.top, AV.top, AV.top, AV.top, AV.top, AV.top, AV.top, AV.top, AV.top, AV.top, AV.top, AV.top, AV.top, AV.top, AV.top, AV.top, AV.top, AV.top, AV.top, AV.top, AV.top, AV.top, AV.top, AV.top, AV.top, AV.top, AV.top, AV.top, AV.top, AV.top, AV.top, AV.top, AV.top, AV.top, AV.top, AV.top, AV.top, AV.top, AV.top, AV.top, AV.top, AV.top, AV.top, AV.top, AV.top, AV.top, AV.top, AV.top, AV.top, AV.top, AV.top, AV.top, AV.top, AV.top, AV.top, AV.top, AV.top, AV.top, AV.top, AV.top, AV.top, AV.top, AV.top, AV.top, AV.top, AV.top, AV.top, AV.top, AV.top, AV.top, AV.top, AV.top, AV.top, AV.top, AV.top, AV.top, AV.top, AV.top, AV.top, AV.top, AV.top, AV.top, AV.top, AV.top, AV.top, AV.top, AV.top, AV.top, AV.top, AV.top, AV.top, AV.top, AV.top, AV.top, AV.top, AV.top, AV.top, AV.top, AV.top, AV.top, AV.top, AV.top, AV.top, AV.top, AV.top, AV.top, AV.top], [⟨.flat [AV.float c5, AV.float c6, AV.float c7, AV.float c8], 26, 0⟩])
def sh_law05_BoxLeast_L0 (c0 : Nat) (c1 : (Nat → Nat)) (c2 : (Nat → Nat)) (c3 : Int) (c4 : Bool) (c5 : Nat) (c6 : Nat) (c7 : Nat) (c8 : Nat) (x : V_law05_BoxLeast_L0) : List AV × Heap := T_law05_BoxLeast_L0 c0 c1 c2 c3 c4 c5 c6 c7 c8 x (fun (j0 : Nat) => [AV.float (c1 j0), AV.float (c2 j0)])
noncomputable def step_law05_BoxLeast_L0 (c0 : Nat) (c1 : (Nat → Nat)) (c2 : (Nat → Nat)) (c5 : Nat) (c6 : Nat) (c7 : Nat) (c8 : Nat) (x : V_law05_BoxLeast_L0) : V_law05_BoxLeast_L0 := V_law05_BoxLeast_L0.mk (x.v0 || (feq (c2 (Int.toNat x.v4)) c6)) (x.v1 || (feq (c2 (Int.toNat x.v4)) c8)) (x.v2 || (feq (c1 (Int.toNat x.v4)) c5)) (x.v3 || (feq (c1 (Int.toNat x.v4)) c7)) (IntKind.wrap .i64 (x.v4 + (1 : Int)))
noncomputable def go_law05_BoxLeast_L0 (c0 : Nat) (c1 : (Nat → Nat)) (c2 : (Nat → Nat)) (c5 : Nat) (c6 : Nat) (c7 : Nat) (c8 : Nat) (x : V_law05_BoxLeast_L0) : Bool := (bif (bif (!(ilt x.v4 (Int.ofNat c0))) then false else ((!(s_vec_Finite_0 (c1 (Int.toNat x.v4)) (c2 (Int.toNat x.v4)))) || (!(s_box_Has_0 c5 c6 c7 c8 (c1 (Int.toNat x.v4)) (c2 (Int.toNat x.v4)))))) then false else (bif (!(ilt x.v4 (Int.ofNat c0))) then false else true))
noncomputable def ok_law05_BoxLeast_L0 (c0 : Nat) (c1 : (Nat → Nat)) (c2 : (Nat → Nat)) (c5 : Nat) (c6 : Nat) (c7 : Nat) (c8 : Nat) (x : V_law05_BoxLeast_L0) : Bool := let x0 : Bool := ((ile (0 : Int) x.v4) && (Nat.blt (Int.toNat x.v4) c0)); let x1 : Bool := (bif x.v2 then x0 else (x0 && x0)); let x2 : Bool := (bif x.v3 then x1 else (x0 && x1)); let x3 : Bool := (bif x.v0 then x2 else (x0 && x2)); let x4 : Bool := (x0 && (bif x.v1 then x3 else (x0 && x3))); let x5 : Bool := (!(ilt x.v4 (Int.ofNat c0))); let x6 : Nat := (c2 (Int.toNat x.v4)); let x7 : Nat := (c1 (Int.toNat x.v4)); let x8 : Bool := (!(s_vec_Finite_0 x7 x6)); (bif (bif x5 then false else (x8 || (!(s_box_Has_0 c5 c6 c7 c8 x7 x6)))) then (bif x8 then x0 else x4) else (x5 || x4))
noncomputable def L_law05_BoxLeast_L0 (c0 : Nat) (c1 : (Nat → Nat)) (c2 : (Nat → Nat)) (c5 : Nat) (c6 : Nat) (c7 : Nat) (c8 : Nat) (x : V_law05_BoxLeast_L0) : V_law05_BoxLeast_L0 := lastL (ok_law05_BoxLeast_L0 c0 c1 c2 c5 c6 c7 c8) (go_law05_BoxLeast_L0 c0 c1 c2 c5 c6 c7 c8) (step_law05_BoxLeast_L0 c0 c1 c2 c5 c6 c7 c8) x
noncomputable def E_law05_BoxLeast_L0 (c0 : Nat) (c1 : (Nat → Nat)) (c2 : (Nat → Nat)) (c5 : Nat) (c6 : Nat) (c7 : Nat) (c8 : Nat) (x : V_law05_BoxLeast_L0) : Bool := endsL (ok_law05_BoxLeast_L0 c0 c1 c2 c5 c6 c7 c8) (go_law05_BoxLeast_L0 c0 c1 c2 c5 c6 c7 c8) (step_law05_BoxLeast_L0 c0 c1 c2 c5 c6 c7 c8) x
theorem all_law05_BoxLeast_L0 (c0 : Nat) (c1 : (Nat → Nat)) (c2 : (Nat → Nat)) (c3 : Int) (c4 : Bool) (c5 : Nat) (c6 : Nat) (c7 : Nat) (c8 : Nat) (x : V_law05_BoxLeast_L0) : rnd Try.prog false menv42 [22] [] 96 Ann.no (subC [1, 1, 1, 1, 1, 1, 0, 1, 0, 0] (codeOf Try.f7)) 0 [⟨some 0, 0, 0, []⟩] tpl_law05_BoxLeast_L0 cts_law05_BoxLeast_L0 [false, false, true, true, true, true, false, false, true, true, true, true, true, true, true, true, true, true, true, true, true, true, true, true, true, true, true, true, true, true, true, true, true, true, true, true, true, true, true, true, true, true, true, true, true, true, true, true, true, true, true, true, true, true, true, true, true, true, true, true, true, true, true, true, true, true, true, true, true, true, true, true, true, true, true, true, true, true, true, true, true, true, true, true, true, true, true, true, true, true, true, true, true, true, true, true, true, true, true, true, true, true, true, true, true, true, true, true, true, true, true, true, true, true, true, true, true, true, true, true, true, true, true, true, true, true, true, true, true, true, true, true, true, true, true, true, true, true, true, true, true, true, true, true, true, true, true, true, true, true, true, true, true, true, true, true, true, true, true, true, true, true, true, true, true, true, true, true, true, true, true, true, true, true] [false] (sh_law05_BoxLeast_L0 c0 c1 c2 c3 c4 c5 c6 c7 c8 x) = (true, true, go_law05_BoxLeast_L0 c0 c1 c2 c5 c6 c7 c8 x, ok_law05_BoxLeast_L0 c0 c1 c2 c5 c6 c7 c8 x, true, sh_law05_BoxLeast_L0 c0 c1 c2 c3 c4 c5 c6 c7 c8 (step_law05_BoxLeast_L0 c0 c1 c2 c5 c6 c7 c8 x), true) := by kernel_rfl
noncomputable def fam_law05_BoxLeast_L0 (c0 : Nat) (c1 : (Nat → Nat)) (c2 : (Nat → Nat)) (c3 : Int) (c4 : Bool) (c5 : Nat) (c6 : Nat) (c7 : Nat) (c8 : Nat) : Fam Try.prog false menv42 [22] [] 96 0 Ann.no (subC [1, 1, 1, 1, 1, 1, 0, 1, 0, 0] (codeOf Try.f7)) V_law05_BoxLeast_L0 where
  sh := sh_law05_BoxLeast_L0 c0 c1 c2 c3 c4 c5 c6 c7 c8
  ok := ok_law05_BoxLeast_L0 c0 c1 c2 c5 c6 c7 c8
  go := go_law05_BoxLeast_L0 c0 c1 c2 c5 c6 c7 c8
  step := step_law05_BoxLeast_L0 c0 c1 c2 c5 c6 c7 c8
  chg := [false, false, true, true, true, true, false, false, true, true, true, true, true, true, true, true, true, true, true, true, true, true, true, true, true, true, true, true, true, true, true, true, true, true, true, true, true, true, true, true, true, true, true, true, true, true, true, true, true, true, true, true, true, true, true, true, true, true, true, true, true, true, true, true, true, true, true, true, true, true, true, true, true, true, true, true, true, true, true, true, true, true, true, true, true, true, true, true, true, true, true, true, true, true, true, true, true, true, true, true, true, true, true, true, true, true, true, true, true, true, true, true, true, true, true, true, true, true, true, true, true, true, true, true, true, true, true, true, true, true, true, true, true, true, true, true, true, true, true, true, true, true, true, true, true, true, true, true, true, true, true, true, true, true, true, true, true, true, true, true, true, true, true, true, true, true, true, true, true, true, true, true, true, true]
  chgH := [false]
  tpl := tpl_law05_BoxLeast_L0
  cts := cts_law05_BoxLeast_L0
  keep := 0
  srcs := [⟨some 0, 0, 0, []⟩]
  ann := (annNo (subC [1, 1, 1, 1, 1, 1, 0, 1, 0, 0] (codeOf Try.f7)))
  le := by kernel_rfl
  kept := by kernel_rfl
  keptB := by kernel_rfl
  all := all_law05_BoxLeast_L0 c0 c1 c2 c3 c4 c5 c6 c7 c8
  len := fun x => by kernel_rfl
  head := fun x y => by kernel_rfl
  con := fun x y => by kernel_rfl
  conH := fun x y => by kernel_rfl
noncomputable def F_law05_BoxLeast_L0 : St → Option Ch := fun s => cond (Nat.beq s.tm.length 174 && Nat.beq s.H.length 1) (tkCons (alL tpl_law05_BoxLeast_L0 s.tm) fun a0 t0 => tkView 2 a0 fun s0 f0 => tkCons t0 fun a1 t1 => tkI .i64 a1 fun s3 => tkTops 4 t1 fun t2 => tkCons t2 fun a3 t3 => tkPtr 0 0 0 a3 <| tkCons t3 fun a4 t4 => tkB a4 fun s4 => tkCons t4 fun a5 t5 => tkB a5 fun s5 => tkCons t5 fun a6 t6 => tkB a6 fun s6 => tkCons t6 fun a7 t7 => tkB a7 fun s7 => tkCons t7 fun a8 t8 => tkB a8 fun s8 => tkCons t8 fun a9 t9 => tkI .i64 a9 fun s9 => tkTops 161 t9 fun t10 => tkNil t10 <| tkCons (alH cts_law05_BoxLeast_L0 (s.H ++ List.map phan phs_law05_BoxLeast_L0)) fun b11 t11 => tkFlat 26 0 b11 fun m11 => tkCons m11 fun a12 t12 => tkF a12 fun s10 => tkCons t12 fun a13 t13 => tkF a13 fun s11 => tkCons t13 fun a14 t14 => tkF a14 fun s12 => tkCons t14 fun a15 t15 => tkF a15 fun s13 => tkNil t15 <| tkNil t11 <| Fam.out (fam_law05_BoxLeast_L0 s0 (fun (i : Nat) => flO (atL (f0 i) 0)) (fun (i : Nat) => flO (atL (f0 i) 1)) s3 s4 s10 s11 s12 s13) s (allB fun (i : Nat) => isNrm [Ck.f, Ck.f] (f0 i)) (V_law05_BoxLeast_L0.mk s5 s6 s7 s8 s9)) none
theorem F_law05_BoxLeast_L0_ok : ∀ s ch, F_law05_BoxLeast_L0 s = some ch → AllI s ch ∧ LoopSpec Try.prog false 0 (subC [1, 1, 1, 1, 1, 1, 0, 1, 0, 0] (codeOf Try.f7)) s (sel ch) := by
  intro s ch h
  unfold F_law05_BoxLeast_L0 at h
  obtain ⟨hl, h0⟩ := cond_some h rfl
  clear h
  obtain ⟨hl, hb⟩ := and_beq2 hl
  obtain ⟨a0, t0, e0, h1⟩ := tkCons_some h0
  obtain ⟨s0, f0, rfl, h2⟩ := tkView_some h1
  obtain ⟨a1, t1, rfl, h3⟩ := tkCons_some h2
  obtain ⟨s3, rfl, h4⟩ := tkI_some h3
  obtain ⟨t2, rfl, h5⟩ := tkTops_some h4
  obtain ⟨a3, t3, rfl, h6⟩ := tkCons_some h5
  obtain ⟨rfl, h7⟩ := tkPtr_some h6
  obtain ⟨a4, t4, rfl, h8⟩ := tkCons_some h7
  obtain ⟨s4, rfl, h9⟩ := tkB_some h8
  obtain ⟨a5, t5, rfl, h10⟩ := tkCons_some h9
  obtain ⟨s5, rfl, h11⟩ := tkB_some h10
  obtain ⟨a6, t6, rfl, h12⟩ := tkCons_some h11
  obtain ⟨s6, rfl, h13⟩ := tkB_some h12
  obtain ⟨a7, t7, rfl, h14⟩ := tkCons_some h13
  obtain ⟨s7, rfl, h15⟩ := tkB_some h14
  obtain ⟨a8, t8, rfl, h16⟩ := tkCons_some h15
  obtain ⟨s8, rfl, h17⟩ := tkB_some h16
  obtain ⟨a9, t9, rfl, h18⟩ := tkCons_some h17
  obtain ⟨s9, rfl, h19⟩ := tkI_some h18
  obtain ⟨t10, rfl, h20⟩ := tkTops_some h19
  obtain ⟨rfl, h21⟩ := tkNil_some h20
  obtain ⟨b11, t11, eH, h22⟩ := tkCons_some h21
  obtain ⟨m11, rfl, h23⟩ := tkFlat_some h22
  obtain ⟨a12, t12, rfl, h24⟩ := tkCons_some h23
  obtain ⟨s10, rfl, h25⟩ := tkF_some h24
  obtain ⟨a13, t13, rfl, h26⟩ := tkCons_some h25
  obtain ⟨s11, rfl, h27⟩ := tkF_some h26
  obtain ⟨a14, t14, rfl, h28⟩ := tkCons_some h27
  obtain ⟨s12, rfl, h29⟩ := tkF_some h28
  obtain ⟨a15, t15, rfl, h30⟩ := tkCons_some h29
  obtain ⟨s13, rfl, h31⟩ := tkF_some h30
  obtain ⟨rfl, h32⟩ := tkNil_some h31
  obtain ⟨rfl, h33⟩ := tkNil_some h32
  refine Fam.spec menv42_ok (fam_law05_BoxLeast_L0 s0 (fun (i : Nat) => flO (atL (f0 i) 0)) (fun (i : Nat) => flO (atL (f0 i) 1)) s3 s4 s10 s11 s12 s13) (phs := phs_law05_BoxLeast_L0) (hl.trans (by kernel_rfl)) (hb.trans (by kernel_rfl)) ?_ ?_ h33
  · rw [← hdr_alH cts_law05_BoxLeast_L0 (s.H ++ List.map phan phs_law05_BoxLeast_L0), eH]; kernel_rfl
  · intro hq
    have hq0 := hq
    have n0 := nrm_fun hq0
    show sh_law05_BoxLeast_L0 s0 (fun (i : Nat) => flO (atL (f0 i) 0)) (fun (i : Nat) => flO (atL (f0 i) 1)) s3 s4 s10 s11 s12 s13 (V_law05_BoxLeast_L0.mk s5 s6 s7 s8 s9) = (alL tpl_law05_BoxLeast_L0 s.tm, alH cts_law05_BoxLeast_L0 (s.H ++ List.map phan phs_law05_BoxLeast_L0))
    rw [e0, eH]
    refine Eq.trans (show sh_law05_BoxLeast_L0 s0 (fun (i : Nat) => flO (atL (f0 i) 0)) (fun (i : Nat) => flO (atL (f0 i) 1)) s3 s4 s10 s11 s12 s13 (V_law05_BoxLeast_L0.mk s5 s6 s7 s8 s9) = T_law05_BoxLeast_L0 s0 (fun (i : Nat) => flO (atL (f0 i) 0)) (fun (i : Nat) => flO (atL (f0 i) 1)) s3 s4 s10 s11 s12 s13 (V_law05_BoxLeast_L0.mk s5 s6 s7 s8 s9) (fun (i : Nat) => mkN [Ck.f, Ck.f] (f0 i) 0) by kernel_rfl) ?_
    rw [n0]
    kernel_rfl
theorem ann_law05_BoxLeast : FnOk Try.prog false 0 Try.f7 (Ann.two Ann.no (Ann.two Ann.no (Ann.two Ann.no (Ann.two Ann.no (Ann.two Ann.no (Ann.two Ann.no (Ann.two (Ann.two Ann.no (Ann.one (Ann.loop F_law05_BoxLeast_L0))) Ann.no))))))) := (fnOk_of (c := codeOf Try.f7) (by kernel_rfl) (annSeq (a := (subC [0] (codeOf Try.f7))) (b := (subC [1] (codeOf Try.f7))) (by kernel_rfl) (annNo (subC [0] (codeOf Try.f7))) (annSeq (a := (subC [1, 0] (codeOf Try.f7))) (b := (subC [1, 1] (codeOf Try.f7))) (by kernel_rfl) (annNo (subC [1, 0] (codeOf Try.f7))) (annSeq (a := (subC [1, 1, 0] (codeOf Try.f7))) (b := (subC [1, 1, 1] (codeOf Try.f7))) (by kernel_rfl) (annNo (subC [1, 1, 0] (codeOf Try.f7))) (annSeq (a := (subC [1, 1, 1, 0] (codeOf Try.f7))) (b := (subC [1, 1, 1, 1] (codeOf Try.f7))) (by kernel_rfl) (annNo (subC [1, 1, 1, 0] (codeOf Try.f7))) (annSeq (a := (subC [1, 1, 1, 1, 0] (codeOf Try.f7))) (b := (subC [1, 1, 1, 1, 1] (codeOf Try.f7))) (by kernel_rfl) (annNo (subC [1, 1, 1, 1, 0] (codeOf Try.f7))) (annSeq (a := (subC [1, 1, 1, 1, 1, 0] (codeOf Try.f7))) (b := (subC [1, 1, 1, 1, 1, 1] (codeOf Try.f7))) (by kernel_rfl) (annNo (subC [1, 1, 1, 1, 1, 0] (codeOf Try.f7))) (annSeq (a := (subC [1, 1, 1, 1, 1, 1, 0] (codeOf Try.f7))) (b := (subC [1, 1, 1, 1, 1, 1, 1] (codeOf Try.f7))) (by kernel_rfl) (annSeq (a := (subC [1, 1, 1, 1, 1, 1, 0, 0] (codeOf Try.f7))) (b := (subC [1, 1, 1, 1, 1, 1, 0, 1] (codeOf Try.f7))) (by kernel_rfl) (annNo (subC [1, 1, 1, 1, 1, 1, 0, 0] (codeOf Try.f7))) (annBlock (a := (subC [1, 1, 1, 1, 1, 1, 0, 1, 0] (codeOf Try.f7))) (i := 0) (by kernel_rfl) (annLoop (a := (subC [1, 1, 1, 1, 1, 1, 0, 1, 0, 0] (codeOf Try.f7))) (by kernel_rfl) F_law05_BoxLeast_L0_ok))) (annNo (subC [1, 1, 1, 1, 1, 1, 1] (codeOf Try.f7)))))))))))
noncomputable def T_law05_BoxLeast (a0_0n : Nat) (a0_0_0 : Nat → Nat) (a0_0_1 : Nat → Nat) (a1_0 : Int) : Bool := let x0 : Nat := (s_box_Of_3 a0_0n a0_0_0 a0_0_1); let x1 : Nat := (s_box_Of_2 a0_0n a0_0_0 a0_0_1); let x2 : Nat := (s_box_Of_1 a0_0n a0_0_0 a0_0_1); let x3 : Nat := (s_box_Of_0 a0_0n a0_0_0 a0_0_1); let x4 : Int := (Int.tmod (IntKind.wrap .i64 ((Int.tmod a1_0 (Int.ofNat a0_0n)) + (Int.ofNat a0_0n))) (Int.ofNat a0_0n)); let x5 : Nat := (Int.toNat x4); let x6 : Nat := (a0_0n - x5); let x7 : Nat := (s_box_Of_3 x6 (fun (j0 : Nat) => (a0_0_0 ((Int.toNat (Int.tmod (IntKind.wrap .i64 ((Int.tmod a1_0 (Int.ofNat a0_0n)) + (Int.ofNat a0_0n))) (Int.ofNat a0_0n))) + j0))) (fun (j0 : Nat) => (a0_0_1 ((Int.toNat (Int.tmod (IntKind.wrap .i64 ((Int.tmod a1_0 (Int.ofNat a0_0n)) + (Int.ofNat a0_0n))) (Int.ofNat a0_0n))) + j0)))); let x8 : Nat := (s_box_Of_2 x6 (fun (j0 : Nat) => (a0_0_0 ((Int.toNat (Int.tmod (IntKind.wrap .i64 ((Int.tmod a1_0 (Int.ofNat a0_0n)) + (Int.ofNat a0_0n))) (Int.ofNat a0_0n))) + j0))) (fun (j0 : Nat) => (a0_0_1 ((Int.toNat (Int.tmod (IntKind.wrap .i64 ((Int.tmod a1_0 (Int.ofNat a0_0n)) + (Int.ofNat a0_0n))) (Int.ofNat a0_0n))) + j0)))); let x9 : Nat := (s_box_Of_1 x6 (fun (j0 : Nat) => (a0_0_0 ((Int.toNat (Int.tmod (IntKind.wrap .i64 ((Int.tmod a1_0 (Int.ofNat a0_0n)) + (Int.ofNat a0_0n))) (Int.ofNat a0_0n))) + j0))) (fun (j0 : Nat) => (a0_0_1 ((Int.toNat (Int.tmod (IntKind.wrap .i64 ((Int.tmod a1_0 (Int.ofNat a0_0n)) + (Int.ofNat a0_0n))) (Int.ofNat a0_0n))) + j0)))); let x10 : Nat := (s_box_Of_0 x6 (fun (j0 : Nat) => (a0_0_0 ((Int.toNat (Int.tmod (IntKind.wrap .i64 ((Int.tmod a1_0 (Int.ofNat a0_0n)) + (Int.ofNat a0_0n))) (Int.ofNat a0_0n))) + j0))) (fun (j0 : Nat) => (a0_0_1 ((Int.toNat (Int.tmod (IntKind.wrap .i64 ((Int.tmod a1_0 (Int.ofNat a0_0n)) + (Int.ofNat a0_0n))) (Int.ofNat a0_0n))) + j0)))); let x11 : Nat := (s_box_Of_3 x5 a0_0_0 a0_0_1); let x12 : Nat := (s_box_Of_2 x5 a0_0_0 a0_0_1); let x13 : Nat := (s_box_Of_1 x5 a0_0_0 a0_0_1); let x14 : Nat := (s_box_Of_0 x5 a0_0_0 a0_0_1); let x15 : Bool := (s_box_Of_4 x5 a0_0_0 a0_0_1); let x16 : V_law05_BoxLeast_L0 := (L_law05_BoxLeast_L0 a0_0n a0_0_0 a0_0_1 x3 x2 x1 x0 (V_law05_BoxLeast_L0.mk false false false false (0 : Int))); let x17 : Bool := (s_box_Of_4 a0_0n a0_0_0 a0_0_1); let x18 : Int := (x16.v4); let x19 : Nat := (Int.toNat x18); let x20 : Nat := (a0_0_1 x19); let x21 : Nat := (a0_0_0 x19); let x22 : Bool := (!(s_vec_Finite_0 x21 x20)); (bif (!(x17 == (ilt (0 : Int) (Int.ofNat a0_0n)))) then false else (bif (bif (!(ilt x18 (Int.ofNat a0_0n))) then false else (x22 || (!(s_box_Has_0 x3 x2 x1 x0 x21 x20)))) then (x22 && true) else ((!x17) || (bif (((((!(x16.v2)) || (!(x16.v3))) || (!(x16.v0))) || (!(x16.v1))) || (!(ieq (s_box_Check_0 x3 x2 x1 x0) (0 : Int)))) then false else (bif ((!(x15 == (ilt (0 : Int) x4))) || (!(s_box_Of_4 x6 (fun (j0 : Nat) => (a0_0_0 ((Int.toNat (Int.tmod (IntKind.wrap .i64 ((Int.tmod a1_0 (Int.ofNat a0_0n)) + (Int.ofNat a0_0n))) (Int.ofNat a0_0n))) + j0))) (fun (j0 : Nat) => (a0_0_1 ((Int.toNat (Int.tmod (IntKind.wrap .i64 ((Int.tmod a1_0 (Int.ofNat a0_0n)) + (Int.ofNat a0_0n))) (Int.ofNat a0_0n))) + j0)))))) then false else (((!x15) && (s_law05_is_0 x10 x9 x8 x7 x3 x2 x1 x0)) || (x15 && (s_law05_is_0 (s_box_Join_0 x14 x13 x12 x11 x10 x9 x8 x7) (s_box_Join_1 x14 x13 x12 x11 x10 x9 x8 x7) (s_box_Join_2 x14 x13 x12 x11 x10 x9 x8 x7) (s_box_Join_3 x14 x13 x12 x11 x10 x9 x8 x7) x3 x2 x1 x0))))))))
noncomputable def O_law05_BoxLeast (a0_0n : Nat) (a0_0_0 : Nat → Nat) (a0_0_1 : Nat → Nat) (a1_0 : Int) : Bool := let x0 : Nat := (s_box_Of_3 a0_0n a0_0_0 a0_0_1); let x1 : Nat := (s_box_Of_2 a0_0n a0_0_0 a0_0_1); let x2 : Nat := (s_box_Of_1 a0_0n a0_0_0 a0_0_1); let x3 : Nat := (s_box_Of_0 a0_0n a0_0_0 a0_0_1); let x4 : Bool := ((allB fun _ => true) && (o_box_Of a0_0n a0_0_0 a0_0_1)); let x5 : Bool := (x4 && ((allB fun _ => true) && (E_law05_BoxLeast_L0 a0_0n a0_0_0 a0_0_1 x3 x2 x1 x0 (V_law05_BoxLeast_L0.mk false false false false (0 : Int))))); let x6 : V_law05_BoxLeast_L0 := (L_law05_BoxLeast_L0 a0_0n a0_0_0 a0_0_1 x3 x2 x1 x0 (V_law05_BoxLeast_L0.mk false false false false (0 : Int))); let x7 : Bool := (!(x6.v2)); let x8 : Bool := (bif x7 then x5 else x5); let x9 : Bool := (x7 || (!(x6.v3))); let x10 : Bool := (bif x9 then x8 else x8); let x11 : Bool := (x9 || (!(x6.v0))); let x12 : Bool := (bif x11 then x10 else x10); let x13 : Bool := (x11 || (!(x6.v1))); let x14 : Bool := (bif x13 then x12 else x12); let x15 : Bool := (!(ieq (Int.ofNat a0_0n) (0 : Int))); let x16 : Int := (Int.tmod (IntKind.wrap .i64 ((Int.tmod a1_0 (Int.ofNat a0_0n)) + (Int.ofNat a0_0n))) (Int.ofNat a0_0n)); let x17 : Nat := (Int.toNat x16); let x18 : Bool := (Nat.ble x17 a0_0n); let x19 : Bool := (ile (0 : Int) x16); let x20 : Nat := (a0_0n - x17); let x21 : Bool := (((allB fun _ => true) && (o_box_Of x20 (fun (j0 : Nat) => (a0_0_0 ((Int.toNat (Int.tmod (IntKind.wrap .i64 ((Int.tmod a1_0 (Int.ofNat a0_0n)) + (Int.ofNat a0_0n))) (Int.ofNat a0_0n))) + j0))) (fun (j0 : Nat) => (a0_0_1 ((Int.toNat (Int.tmod (IntKind.wrap .i64 ((Int.tmod a1_0 (Int.ofNat a0_0n)) + (Int.ofNat a0_0n))) (Int.ofNat a0_0n))) + j0))))) && ((x19 && (x18 && (Nat.ble a0_0n a0_0n))) && (((allB fun _ => true) && (o_box_Of x17 a0_0_0 a0_0_1)) && ((x19 && x18) && (x15 && (x15 && x14)))))); let x22 : Bool := (s_box_Of_4 x17 a0_0_0 a0_0_1); let x23 : Bool := (!(x22 == (ilt (0 : Int) x16))); let x24 : Bool := (bif x23 then x21 else x21); let x25 : Bool := (!x22); let x26 : Bool := (bif x25 then x24 else x24); let x27 : Bool := (s_box_Of_4 a0_0n a0_0_0 a0_0_1); let x28 : Int := (x6.v4); let x29 : Nat := (Int.toNat x28); let x30 : Nat := (a0_0_1 x29); let x31 : Nat := (a0_0_0 x29); (bif (!(x27 == (ilt (0 : Int) (Int.ofNat a0_0n)))) then x4 else (bif (bif (!(ilt x28 (Int.ofNat a0_0n))) then false else ((!(s_vec_Finite_0 x31 x30)) || (!(s_box_Has_0 x3 x2 x1 x0 x31 x30)))) then x5 else (bif (!x27) then x5 else (bif (x13 || (!(ieq (s_box_Check_0 x3 x2 x1 x0) (0 : Int)))) then x14 else (bif (x23 || (!(s_box_Of_4 x20 (fun (j0 : Nat) => (a0_0_0 ((Int.toNat (Int.tmod (IntKind.wrap .i64 ((Int.tmod a1_0 (Int.ofNat a0_0n)) + (Int.ofNat a0_0n))) (Int.ofNat a0_0n))) + j0))) (fun (j0 : Nat) => (a0_0_1 ((Int.toNat (Int.tmod (IntKind.wrap .i64 ((Int.tmod a1_0 (Int.ofNat a0_0n)) + (Int.ofNat a0_0n))) (Int.ofNat a0_0n))) + j0)))))) then x24 else (bif (x25 && (s_law05_is_0 (s_box_Of_0 x20 (fun (j0 : Nat) => (a0_0_0 ((Int.toNat (Int.tmod (IntKind.wrap .i64 ((Int.tmod a1_0 (Int.ofNat a0_0n)) + (Int.ofNat a0_0n))) (Int.ofNat a0_0n))) + j0))) (fun (j0 : Nat) => (a0_0_1 ((Int.toNat (Int.tmod (IntKind.wrap .i64 ((Int.tmod a1_0 (Int.ofNat a0_0n)) + (Int.ofNat a0_0n))) (Int.ofNat a0_0n))) + j0)))) (s_box_Of_1 x20 (fun (j0 : Nat) => (a0_0_0 ((Int.toNat (Int.tmod (IntKind.wrap .i64 ((Int.tmod a1_0 (Int.ofNat a0_0n)) + (Int.ofNat a0_0n))) (Int.ofNat a0_0n))) + j0))) (fun (j0 : Nat) => (a0_0_1 ((Int.toNat (Int.tmod (IntKind.wrap .i64 ((Int.tmod a1_0 (Int.ofNat a0_0n)) + (Int.ofNat a0_0n))) (Int.ofNat a0_0n))) + j0)))) (s_box_Of_2 x20 (fun (j0 : Nat) => (a0_0_0 ((Int.toNat (Int.tmod (IntKind.wrap .i64 ((Int.tmod a1_0 (Int.ofNat a0_0n)) + (Int.ofNat a0_0n))) (Int.ofNat a0_0n))) + j0))) (fun (j0 : Nat) => (a0_0_1 ((Int.toNat (Int.tmod (IntKind.wrap .i64 ((Int.tmod a1_0 (Int.ofNat a0_0n)) + (Int.ofNat a0_0n))) (Int.ofNat a0_0n))) + j0)))) (s_box_Of_3 x20 (fun (j0 : Nat) => (a0_0_0 ((Int.toNat (Int.tmod (IntKind.wrap .i64 ((Int.tmod a1_0 (Int.ofNat a0_0n)) + (Int.ofNat a0_0n))) (Int.ofNat a0_0n))) + j0))) (fun (j0 : Nat) => (a0_0_1 ((Int.toNat (Int.tmod (IntKind.wrap .i64 ((Int.tmod a1_0 (Int.ofNat a0_0n)) + (Int.ofNat a0_0n))) (Int.ofNat a0_0n))) + j0)))) x3 x2 x1 x0)) then x26 else (bif x22 then x26 else x26)))))))
theorem tree_law05_BoxLeast (a0_0n : Nat) (a0_0_0 : Nat → Nat) (a0_0_1 : Nat → Nat) (a1_0 : Int) : outB (evFnM Try.prog false menv42 [22] [] 96 (Ann.two Ann.no (Ann.two Ann.no (Ann.two Ann.no (Ann.two Ann.no (Ann.two Ann.no (Ann.two Ann.no (Ann.two (Ann.two Ann.no (Ann.one (Ann.loop F_law05_BoxLeast_L0))) Ann.no))))))) Try.f7 [AV.view a0_0n 2 (fun (i0 : Nat) => [AV.float (a0_0_0 i0), AV.float (a0_0_1 i0)]), AV.int .i64 a1_0] []) = some (O_law05_BoxLeast a0_0n a0_0_0 a0_0_1 a1_0, AV.bool (T_law05_BoxLeast a0_0n a0_0_0 a0_0_1 a1_0)) := by kernel_rfl

end Go.Proofs.Ytbbopbelaamlaaa
