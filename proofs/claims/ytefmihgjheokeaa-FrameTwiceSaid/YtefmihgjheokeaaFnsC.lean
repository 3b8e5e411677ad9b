/- The contracts of the functions that these laws reach, printed by a program of this work: each says what the Go function gives, up to which NaN. -/
import Derived.Test.YtefmihgjheokeaaProg
import Derived.KernelRfl
import Derived.Test.YtefmihgjheokeaaSimDEnv
set_option linter.unusedVariables false
set_option linter.unusedSimpArgs false
namespace Go.Proofs.Ytefmihgjheokeaa
open Go.Sim
def xxs : List (FuncId × XF) := [(67, xF true .tobits), (64, xF true .frombits), (82, xF true .sqrt)]
def xenv : Env := mkEnv xxs [] []
theorem xxs_ok : All (XOk Try.prog true) xxs := All.cons (x_ok (f := 67) .tobits fun args w => run_callFunc_extern Try.func67 (by kernel_rfl) (by kernel_rfl) (by kernel_rfl) (by kernel_rfl) args w)
  (All.cons (x_ok (f := 64) .frombits fun args w => run_callFunc_extern Try.func64 (by kernel_rfl) (by kernel_rfl) (by kernel_rfl) (by kernel_rfl) args w)
  (All.cons (x_ok (f := 82) .sqrt fun args w => run_callFunc_extern Try.func82 (by kernel_rfl) (by kernel_rfl) (by kernel_rfl) (by kernel_rfl) args w)
  (All.nil)))
theorem xenv_ok : xenv.Ok Try.prog true := mkEnv_ok xxs_ok All.nil All.nil
def mxs : List (FuncId × XFM) := [(67, xFM false .tobits), (64, xFM false .frombits), (82, xFM false .sqrt)]
theorem mxs_ok : All (XOkM Try.prog false) mxs := All.cons (xM_ok (f := 67) .tobits fun args w => run_callFunc_extern Try.func67 (by kernel_rfl) (by kernel_rfl) (by kernel_rfl) (by kernel_rfl) args w)
  (All.cons (xM_ok (f := 64) .frombits fun args w => run_callFunc_extern Try.func64 (by kernel_rfl) (by kernel_rfl) (by kernel_rfl) (by kernel_rfl) args w)
  (All.cons (xM_ok (f := 82) .sqrt fun args w => run_callFunc_extern Try.func82 (by kernel_rfl) (by kernel_rfl) (by kernel_rfl) (by kernel_rfl) args w)
  (All.nil)))
def mrs0 : List (FuncId × RFM) := []
def mws0 : List (FuncId × WFM) := []
def menv0 : EnvM := mkEnvM mxs mrs0 mws0
theorem mrs0_ok : All (ROkM Try.prog false) mrs0 := All.nil
theorem mws0_ok : All (WOkM Try.prog false) mws0 := All.nil
theorem menv0_ok : menv0.Ok Try.prog false := mkEnvM_ok mxs_ok mrs0_ok mws0_ok
-- tumble/tumblelaw04.at
noncomputable def s_law04_at_0 (a0_0 : Nat) (a1_0 : Nat) (a2_0r : Nat) (a2_0i : Nat) : Nat := a0_0
noncomputable def s_law04_at_1 (a0_0 : Nat) (a1_0 : Nat) (a2_0r : Nat) (a2_0i : Nat) : Nat := a1_0
noncomputable def s_law04_at_2 (a0_0 : Nat) (a1_0 : Nat) (a2_0r : Nat) (a2_0i : Nat) : Nat := a2_0r
noncomputable def s_law04_at_3 (a0_0 : Nat) (a1_0 : Nat) (a2_0r : Nat) (a2_0i : Nat) : Nat := a2_0i
theorem e_law04_at (a0_0 : Nat) (a1_0 : Nat) (a2_0r : Nat) (a2_0i : Nat) : outB (evFnM Try.prog false menv0 [] [] 64 Try.f34 [AV.float a0_0, AV.float a1_0, AV.complex a2_0r a2_0i] []) = some ((true), AV.agg [AV.float (s_law04_at_0 a0_0 a1_0 a2_0r a2_0i), AV.float (s_law04_at_1 a0_0 a1_0 a2_0r a2_0i), AV.complex (s_law04_at_2 a0_0 a1_0 a2_0r a2_0i) (s_law04_at_3 a0_0 a1_0 a2_0r a2_0i)]) := by kernel_rfl
noncomputable def S_law04_at : List AV → Option (Ob × AV)
  | [AV.float a0_0, AV.float a1_0, AV.complex a2_0r a2_0i] => some (Ob.tt, AV.agg [AV.float (s_law04_at_0 a0_0 a1_0 a2_0r a2_0i), AV.float (s_law04_at_1 a0_0 a1_0 a2_0r a2_0i), AV.complex (s_law04_at_2 a0_0 a1_0 a2_0r a2_0i) (s_law04_at_3 a0_0 a1_0 a2_0r a2_0i)])
  | _ => none
theorem t_law04_at : ROkM Try.prog false (34, pureM S_law04_at) := ROkM.pure (N := 64) menv0_ok Try.func34 Try.call34 fun args o v h => by
  unfold S_law04_at at h
  split at h
  · rename_i a0_0 a1_0 a2_0r a2_0i
    cases h
    exact ⟨rfl, rfl, _, e_law04_at a0_0 a1_0 a2_0r a2_0i, fun _ => rfl⟩
  · cases h
noncomputable def mrs1 : List (FuncId × RFM) := (34, pureM S_law04_at) :: mrs0
noncomputable def menv1 : EnvM := mkEnvM mxs mrs1 mws0
theorem mrs1_ok : All (ROkM Try.prog false) mrs1 := All.cons t_law04_at mrs0_ok
theorem menv1_ok : menv1.Ok Try.prog false := mkEnvM_ok mxs_ok mrs1_ok mws0_ok
-- tumble/turn.Apply
noncomputable def s_turn_Apply_0 (a0_0r : Nat) (a0_0i : Nat) (a1_0 : Nat) (a1_1 : Nat) : Nat := (fsub (fmul a0_0r a1_0) (fmul a0_0i a1_1))
noncomputable def s_turn_Apply_1 (a0_0r : Nat) (a0_0i : Nat) (a1_0 : Nat) (a1_1 : Nat) : Nat := (fadd (fmul a0_0i a1_0) (fmul a0_0r a1_1))
theorem e_turn_Apply (a0_0r : Nat) (a0_0i : Nat) (a1_0 : Nat) (a1_1 : Nat) : outB (evFnM Try.prog false menv1 [] [] 64 Try.f79 [AV.complex a0_0r a0_0i, AV.agg [.float a1_0, .float a1_1]] []) = some ((true), AV.agg [AV.float (s_turn_Apply_0 a0_0r a0_0i a1_0 a1_1), AV.float (s_turn_Apply_1 a0_0r a0_0i a1_0 a1_1)]) := by kernel_rfl
noncomputable def S_turn_Apply : List AV → Option (Ob × AV)
  | [AV.complex a0_0r a0_0i, AV.agg [.float a1_0, .float a1_1]] => some (Ob.tt, AV.agg [AV.float (s_turn_Apply_0 a0_0r a0_0i a1_0 a1_1), AV.float (s_turn_Apply_1 a0_0r a0_0i a1_0 a1_1)])
  | _ => none
theorem t_turn_Apply : ROkM Try.prog false (79, pureM S_turn_Apply) := ROkM.pure (N := 64) menv1_ok Try.func79 Try.call79 fun args o v h => by
  unfold S_turn_Apply at h
  split at h
  · rename_i a0_0r a0_0i a1_0 a1_1
    cases h
    exact ⟨rfl, rfl, _, e_turn_Apply a0_0r a0_0i a1_0 a1_1, fun _ => rfl⟩
  · cases h
noncomputable def mrs2 : List (FuncId × RFM) := (79, pureM S_turn_Apply) :: mrs1
noncomputable def menv2 : EnvM := mkEnvM mxs mrs2 mws0
theorem mrs2_ok : All (ROkM Try.prog false) mrs2 := All.cons t_turn_Apply mrs1_ok
theorem menv2_ok : menv2.Ok Try.prog false := mkEnvM_ok mxs_ok mrs2_ok mws0_ok
-- (tumble/frame.turned).apply
noncomputable def s__frame_turned__apply_0 (a0_0r : Nat) (a0_0i : Nat) (a1_0 : Nat) (a1_1 : Nat) : Nat := (s_turn_Apply_0 a0_0r a0_0i a1_0 a1_1)
noncomputable def s__frame_turned__apply_1 (a0_0r : Nat) (a0_0i : Nat) (a1_0 : Nat) (a1_1 : Nat) : Nat := (s_turn_Apply_1 a0_0r a0_0i a1_0 a1_1)
theorem e__frame_turned__apply (a0_0r : Nat) (a0_0i : Nat) (a1_0 : Nat) (a1_1 : Nat) : outB (evFnM Try.prog false menv2 [] [] 64 Try.f55 [AV.complex a0_0r a0_0i, AV.agg [.float a1_0, .float a1_1]] []) = some ((true), AV.agg [AV.float (s__frame_turned__apply_0 a0_0r a0_0i a1_0 a1_1), AV.float (s__frame_turned__apply_1 a0_0r a0_0i a1_0 a1_1)]) := by kernel_rfl
noncomputable def S__frame_turned__apply : List AV → Option (Ob × AV)
  | [AV.complex a0_0r a0_0i, AV.agg [.float a1_0, .float a1_1]] => some (Ob.tt, AV.agg [AV.float (s__frame_turned__apply_0 a0_0r a0_0i a1_0 a1_1), AV.float (s__frame_turned__apply_1 a0_0r a0_0i a1_0 a1_1)])
  | _ => none
theorem t__frame_turned__apply : ROkM Try.prog false (55, pureM S__frame_turned__apply) := ROkM.pure (N := 64) menv2_ok Try.func55 Try.call55 fun args o v h => by
  unfold S__frame_turned__apply at h
  split at h
  · rename_i a0_0r a0_0i a1_0 a1_1
    cases h
    exact ⟨rfl, rfl, _, e__frame_turned__apply a0_0r a0_0i a1_0 a1_1, fun _ => rfl⟩
  · cases h
noncomputable def mrs3 : List (FuncId × RFM) := (55, pureM S__frame_turned__apply) :: mrs2
noncomputable def menv3 : EnvM := mkEnvM mxs mrs3 mws0
theorem mrs3_ok : All (ROkM Try.prog false) mrs3 := All.cons t__frame_turned__apply mrs2_ok
theorem menv3_ok : menv3.Ok Try.prog false := mkEnvM_ok mxs_ok mrs3_ok mws0_ok
-- tumble/vec.Add
noncomputable def s_vec_Add_0 (a0_0 : Nat) (a0_1 : Nat) (a1_0 : Nat) (a1_1 : Nat) : Nat := (fadd a0_0 a1_0)
noncomputable def s_vec_Add_1 (a0_0 : Nat) (a0_1 : Nat) (a1_0 : Nat) (a1_1 : Nat) : Nat := (fadd a0_1 a1_1)
theorem e_vec_Add (a0_0 : Nat) (a0_1 : Nat) (a1_0 : Nat) (a1_1 : Nat) : outB (evFnM Try.prog false menv3 [] [] 64 Try.f56 [AV.agg [.float a0_0, .float a0_1], AV.agg [.float a1_0, .float a1_1]] []) = some ((true), AV.agg [AV.float (s_vec_Add_0 a0_0 a0_1 a1_0 a1_1), AV.float (s_vec_Add_1 a0_0 a0_1 a1_0 a1_1)]) := by kernel_rfl
noncomputable def S_vec_Add : List AV → Option (Ob × AV)
  | [AV.agg [.float a0_0, .float a0_1], AV.agg [.float a1_0, .float a1_1]] => some (Ob.tt, AV.agg [AV.float (s_vec_Add_0 a0_0 a0_1 a1_0 a1_1), AV.float (s_vec_Add_1 a0_0 a0_1 a1_0 a1_1)])
  | _ => none
theorem t_vec_Add : ROkM Try.prog false (56, pureM S_vec_Add) := ROkM.pure (N := 64) menv3_ok Try.func56 Try.call56 fun args o v h => by
  unfold S_vec_Add at h
  split at h
  · rename_i a0_0 a0_1 a1_0 a1_1
    cases h
    exact ⟨rfl, rfl, _, e_vec_Add a0_0 a0_1 a1_0 a1_1, fun _ => rfl⟩
  · cases h
noncomputable def mrs4 : List (FuncId × RFM) := (56, pureM S_vec_Add) :: mrs3
noncomputable def menv4 : EnvM := mkEnvM mxs mrs4 mws0
theorem mrs4_ok : All (ROkM Try.prog false) mrs4 := All.cons t_vec_Add mrs3_ok
theorem menv4_ok : menv4.Ok Try.prog false := mkEnvM_ok mxs_ok mrs4_ok mws0_ok
-- tumble/frame.To
noncomputable def s_frame_To_0 (a0_0 : Nat) (a0_1 : Nat) (a0_2r : Nat) (a0_2i : Nat) (a1_0 : Nat) (a1_1 : Nat) : Nat := (s_vec_Add_0 a0_0 a0_1 (s__frame_turned__apply_0 a0_2r a0_2i a1_0 a1_1) (s__frame_turned__apply_1 a0_2r a0_2i a1_0 a1_1))
noncomputable def s_frame_To_1 (a0_0 : Nat) (a0_1 : Nat) (a0_2r : Nat) (a0_2i : Nat) (a1_0 : Nat) (a1_1 : Nat) : Nat := (s_vec_Add_1 a0_0 a0_1 (s__frame_turned__apply_0 a0_2r a0_2i a1_0 a1_1) (s__frame_turned__apply_1 a0_2r a0_2i a1_0 a1_1))
theorem e_frame_To (a0_0 : Nat) (a0_1 : Nat) (a0_2r : Nat) (a0_2i : Nat) (a1_0 : Nat) (a1_1 : Nat) : outB (evFnM Try.prog false menv4 [] [] 64 Try.f22 [AV.agg [.float a0_0, .float a0_1, .complex a0_2r a0_2i], AV.agg [.float a1_0, .float a1_1]] []) = some ((true), AV.agg [AV.float (s_frame_To_0 a0_0 a0_1 a0_2r a0_2i a1_0 a1_1), AV.float (s_frame_To_1 a0_0 a0_1 a0_2r a0_2i a1_0 a1_1)]) := by kernel_rfl
noncomputable def S_frame_To : List AV → Option (Ob × AV)
  | [AV.agg [.float a0_0, .float a0_1, .complex a0_2r a0_2i], AV.agg [.float a1_0, .float a1_1]] => some (Ob.tt, AV.agg [AV.float (s_frame_To_0 a0_0 a0_1 a0_2r a0_2i a1_0 a1_1), AV.float (s_frame_To_1 a0_0 a0_1 a0_2r a0_2i a1_0 a1_1)])
  | _ => none
theorem t_frame_To : ROkM Try.prog false (22, pureM S_frame_To) := ROkM.pure (N := 64) menv4_ok Try.func22 Try.call22 fun args o v h => by
  unfold S_frame_To at h
  split at h
  · rename_i a0_0 a0_1 a0_2r a0_2i a1_0 a1_1
    cases h
    exact ⟨rfl, rfl, _, e_frame_To a0_0 a0_1 a0_2r a0_2i a1_0 a1_1, fun _ => rfl⟩
  · cases h
noncomputable def mrs5 : List (FuncId × RFM) := (22, pureM S_frame_To) :: mrs4
noncomputable def menv5 : EnvM := mkEnvM mxs mrs5 mws0
theorem mrs5_ok : All (ROkM Try.prog false) mrs5 := All.cons t_frame_To mrs4_ok
theorem menv5_ok : menv5.Ok Try.prog false := mkEnvM_ok mxs_ok mrs5_ok mws0_ok
-- tumble/turn.Undo
noncomputable def s_turn_Undo_0 (a0_0r : Nat) (a0_0i : Nat) (a1_0 : Nat) (a1_1 : Nat) : Nat := (fadd (fmul a0_0r a1_0) (fmul a0_0i a1_1))
noncomputable def s_turn_Undo_1 (a0_0r : Nat) (a0_0i : Nat) (a1_0 : Nat) (a1_1 : Nat) : Nat := (fsub (fmul a0_0r a1_1) (fmul a0_0i a1_0))
theorem e_turn_Undo (a0_0r : Nat) (a0_0i : Nat) (a1_0 : Nat) (a1_1 : Nat) : outB (evFnM Try.prog false menv5 [] [] 64 Try.f69 [AV.complex a0_0r a0_0i, AV.agg [.float a1_0, .float a1_1]] []) = some ((true), AV.agg [AV.float (s_turn_Undo_0 a0_0r a0_0i a1_0 a1_1), AV.float (s_turn_Undo_1 a0_0r a0_0i a1_0 a1_1)]) := by kernel_rfl
noncomputable def S_turn_Undo : List AV → Option (Ob × AV)
  | [AV.complex a0_0r a0_0i, AV.agg [.float a1_0, .float a1_1]] => some (Ob.tt, AV.agg [AV.float (s_turn_Undo_0 a0_0r a0_0i a1_0 a1_1), AV.float (s_turn_Undo_1 a0_0r a0_0i a1_0 a1_1)])
  | _ => none
theorem t_turn_Undo : ROkM Try.prog false (69, pureM S_turn_Undo) := ROkM.pure (N := 64) menv5_ok Try.func69 Try.call69 fun args o v h => by
  unfold S_turn_Undo at h
  split at h
  · rename_i a0_0r a0_0i a1_0 a1_1
    cases h
    exact ⟨rfl, rfl, _, e_turn_Undo a0_0r a0_0i a1_0 a1_1, fun _ => rfl⟩
  · cases h
noncomputable def mrs6 : List (FuncId × RFM) := (69, pureM S_turn_Undo) :: mrs5
noncomputable def menv6 : EnvM := mkEnvM mxs mrs6 mws0
theorem mrs6_ok : All (ROkM Try.prog false) mrs6 := All.cons t_turn_Undo mrs5_ok
theorem menv6_ok : menv6.Ok Try.prog false := mkEnvM_ok mxs_ok mrs6_ok mws0_ok
-- (tumble/frame.turned).undo
noncomputable def s__frame_turned__undo_0 (a0_0r : Nat) (a0_0i : Nat) (a1_0 : Nat) (a1_1 : Nat) : Nat := (s_turn_Undo_0 a0_0r a0_0i a1_0 a1_1)
noncomputable def s__frame_turned__undo_1 (a0_0r : Nat) (a0_0i : Nat) (a1_0 : Nat) (a1_1 : Nat) : Nat := (s_turn_Undo_1 a0_0r a0_0i a1_0 a1_1)
theorem e__frame_turned__undo (a0_0r : Nat) (a0_0i : Nat) (a1_0 : Nat) (a1_1 : Nat) : outB (evFnM Try.prog false menv6 [] [] 64 Try.f42 [AV.complex a0_0r a0_0i, AV.agg [.float a1_0, .float a1_1]] []) = some ((true), AV.agg [AV.float (s__frame_turned__undo_0 a0_0r a0_0i a1_0 a1_1), AV.float (s__frame_turned__undo_1 a0_0r a0_0i a1_0 a1_1)]) := by kernel_rfl
noncomputable def S__frame_turned__undo : List AV → Option (Ob × AV)
  | [AV.complex a0_0r a0_0i, AV.agg [.float a1_0, .float a1_1]] => some (Ob.tt, AV.agg [AV.float (s__frame_turned__undo_0 a0_0r a0_0i a1_0 a1_1), AV.float (s__frame_turned__undo_1 a0_0r a0_0i a1_0 a1_1)])
  | _ => none
theorem t__frame_turned__undo : ROkM Try.prog false (42, pureM S__frame_turned__undo) := ROkM.pure (N := 64) menv6_ok Try.func42 Try.call42 fun args o v h => by
  unfold S__frame_turned__undo at h
  split at h
  · rename_i a0_0r a0_0i a1_0 a1_1
    cases h
    exact ⟨rfl, rfl, _, e__frame_turned__undo a0_0r a0_0i a1_0 a1_1, fun _ => rfl⟩
  · cases h
noncomputable def mrs7 : List (FuncId × RFM) := (42, pureM S__frame_turned__undo) :: mrs6
noncomputable def menv7 : EnvM := mkEnvM mxs mrs7 mws0
theorem mrs7_ok : All (ROkM Try.prog false) mrs7 := All.cons t__frame_turned__undo mrs6_ok
theorem menv7_ok : menv7.Ok Try.prog false := mkEnvM_ok mxs_ok mrs7_ok mws0_ok
-- tumble/vec.Sub
noncomputable def s_vec_Sub_0 (a0_0 : Nat) (a0_1 : Nat) (a1_0 : Nat) (a1_1 : Nat) : Nat := (fsub a0_0 a1_0)
noncomputable def s_vec_Sub_1 (a0_0 : Nat) (a0_1 : Nat) (a1_0 : Nat) (a1_1 : Nat) : Nat := (fsub a0_1 a1_1)
theorem e_vec_Sub (a0_0 : Nat) (a0_1 : Nat) (a1_0 : Nat) (a1_1 : Nat) : outB (evFnM Try.prog false menv7 [] [] 64 Try.f59 [AV.agg [.float a0_0, .float a0_1], AV.agg [.float a1_0, .float a1_1]] []) = some ((true), AV.agg [AV.float (s_vec_Sub_0 a0_0 a0_1 a1_0 a1_1), AV.float (s_vec_Sub_1 a0_0 a0_1 a1_0 a1_1)]) := by kernel_rfl
noncomputable def S_vec_Sub : List AV → Option (Ob × AV)
  | [AV.agg [.float a0_0, .float a0_1], AV.agg [.float a1_0, .float a1_1]] => some (Ob.tt, AV.agg [AV.float (s_vec_Sub_0 a0_0 a0_1 a1_0 a1_1), AV.float (s_vec_Sub_1 a0_0 a0_1 a1_0 a1_1)])
  | _ => none
theorem t_vec_Sub : ROkM Try.prog false (59, pureM S_vec_Sub) := ROkM.pure (N := 64) menv7_ok Try.func59 Try.call59 fun args o v h => by
  unfold S_vec_Sub at h
  split at h
  · rename_i a0_0 a0_1 a1_0 a1_1
    cases h
    exact ⟨rfl, rfl, _, e_vec_Sub a0_0 a0_1 a1_0 a1_1, fun _ => rfl⟩
  · cases h
noncomputable def mrs8 : List (FuncId × RFM) := (59, pureM S_vec_Sub) :: mrs7
noncomputable def menv8 : EnvM := mkEnvM mxs mrs8 mws0
theorem mrs8_ok : All (ROkM Try.prog false) mrs8 := All.cons t_vec_Sub mrs7_ok
theorem menv8_ok : menv8.Ok Try.prog false := mkEnvM_ok mxs_ok mrs8_ok mws0_ok
-- tumble/frame.Own
noncomputable def s_frame_Own_0 (a0_0 : Nat) (a0_1 : Nat) (a0_2r : Nat) (a0_2i : Nat) (a1_0 : Nat) (a1_1 : Nat) : Nat := (s__frame_turned__undo_0 a0_2r a0_2i (s_vec_Sub_0 a1_0 a1_1 a0_0 a0_1) (s_vec_Sub_1 a1_0 a1_1 a0_0 a0_1))
noncomputable def s_frame_Own_1 (a0_0 : Nat) (a0_1 : Nat) (a0_2r : Nat) (a0_2i : Nat) (a1_0 : Nat) (a1_1 : Nat) : Nat := (s__frame_turned__undo_1 a0_2r a0_2i (s_vec_Sub_0 a1_0 a1_1 a0_0 a0_1) (s_vec_Sub_1 a1_0 a1_1 a0_0 a0_1))
theorem e_frame_Own (a0_0 : Nat) (a0_1 : Nat) (a0_2r : Nat) (a0_2i : Nat) (a1_0 : Nat) (a1_1 : Nat) : outB (evFnM Try.prog false menv8 [] [] 64 Try.f24 [AV.agg [.float a0_0, .float a0_1, .complex a0_2r a0_2i], AV.agg [.float a1_0, .float a1_1]] []) = some ((true), AV.agg [AV.float (s_frame_Own_0 a0_0 a0_1 a0_2r a0_2i a1_0 a1_1), AV.float (s_frame_Own_1 a0_0 a0_1 a0_2r a0_2i a1_0 a1_1)]) := by kernel_rfl
noncomputable def S_frame_Own : List AV → Option (Ob × AV)
  | [AV.agg [.float a0_0, .float a0_1, .complex a0_2r a0_2i], AV.agg [.float a1_0, .float a1_1]] => some (Ob.tt, AV.agg [AV.float (s_frame_Own_0 a0_0 a0_1 a0_2r a0_2i a1_0 a1_1), AV.float (s_frame_Own_1 a0_0 a0_1 a0_2r a0_2i a1_0 a1_1)])
  | _ => none
theorem t_frame_Own : ROkM Try.prog false (24, pureM S_frame_Own) := ROkM.pure (N := 64) menv8_ok Try.func24 Try.call24 fun args o v h => by
  unfold S_frame_Own at h
  split at h
  · rename_i a0_0 a0_1 a0_2r a0_2i a1_0 a1_1
    cases h
    exact ⟨rfl, rfl, _, e_frame_Own a0_0 a0_1 a0_2r a0_2i a1_0 a1_1, fun _ => rfl⟩
  · cases h
noncomputable def mrs9 : List (FuncId × RFM) := (24, pureM S_frame_Own) :: mrs8
noncomputable def menv9 : EnvM := mkEnvM mxs mrs9 mws0
theorem mrs9_ok : All (ROkM Try.prog false) mrs9 := All.cons t_frame_Own mrs8_ok
theorem menv9_ok : menv9.Ok Try.prog false := mkEnvM_ok mxs_ok mrs9_ok mws0_ok
-- tumble/turn.Then
noncomputable def s_turn_Then_0 (a0_0r : Nat) (a0_0i : Nat) (a1_0r : Nat) (a1_0i : Nat) : Nat := (fsub (fmul a0_0r a1_0r) (fmul a0_0i a1_0i))
noncomputable def s_turn_Then_1 (a0_0r : Nat) (a0_0i : Nat) (a1_0r : Nat) (a1_0i : Nat) : Nat := (fadd (fmul a0_0r a1_0i) (fmul a0_0i a1_0r))
theorem e_turn_Then (a0_0r : Nat) (a0_0i : Nat) (a1_0r : Nat) (a1_0i : Nat) : outB (evFnM Try.prog false menv9 [] [] 64 Try.f40 [AV.complex a0_0r a0_0i, AV.complex a1_0r a1_0i] []) = some ((true), AV.complex (s_turn_Then_0 a0_0r a0_0i a1_0r a1_0i) (s_turn_Then_1 a0_0r a0_0i a1_0r a1_0i)) := by kernel_rfl
noncomputable def S_turn_Then : List AV → Option (Ob × AV)
  | [AV.complex a0_0r a0_0i, AV.complex a1_0r a1_0i] => some (Ob.tt, AV.complex (s_turn_Then_0 a0_0r a0_0i a1_0r a1_0i) (s_turn_Then_1 a0_0r a0_0i a1_0r a1_0i))
  | _ => none
theorem t_turn_Then : ROkM Try.prog false (40, pureM S_turn_Then) := ROkM.pure (N := 64) menv9_ok Try.func40 Try.call40 fun args o v h => by
  unfold S_turn_Then at h
  split at h
  · rename_i a0_0r a0_0i a1_0r a1_0i
    cases h
    exact ⟨rfl, rfl, _, e_turn_Then a0_0r a0_0i a1_0r a1_0i, fun _ => rfl⟩
  · cases h
noncomputable def mrs10 : List (FuncId × RFM) := (40, pureM S_turn_Then) :: mrs9
noncomputable def menv10 : EnvM := mkEnvM mxs mrs10 mws0
theorem mrs10_ok : All (ROkM Try.prog false) mrs10 := All.cons t_turn_Then mrs9_ok
theorem menv10_ok : menv10.Ok Try.prog false := mkEnvM_ok mxs_ok mrs10_ok mws0_ok
-- tumble/frame.Then
noncomputable def s_frame_Then_0 (a0_0 : Nat) (a0_1 : Nat) (a0_2r : Nat) (a0_2i : Nat) (a1_0 : Nat) (a1_1 : Nat) (a1_2r : Nat) (a1_2i : Nat) : Nat := (s_frame_To_0 a0_0 a0_1 a0_2r a0_2i a1_0 a1_1)
noncomputable def s_frame_Then_1 (a0_0 : Nat) (a0_1 : Nat) (a0_2r : Nat) (a0_2i : Nat) (a1_0 : Nat) (a1_1 : Nat) (a1_2r : Nat) (a1_2i : Nat) : Nat := (s_frame_To_1 a0_0 a0_1 a0_2r a0_2i a1_0 a1_1)
noncomputable def s_frame_Then_2 (a0_0 : Nat) (a0_1 : Nat) (a0_2r : Nat) (a0_2i : Nat) (a1_0 : Nat) (a1_1 : Nat) (a1_2r : Nat) (a1_2i : Nat) : Nat := (s_turn_Then_0 a1_2r a1_2i a0_2r a0_2i)
noncomputable def s_frame_Then_3 (a0_0 : Nat) (a0_1 : Nat) (a0_2r : Nat) (a0_2i : Nat) (a1_0 : Nat) (a1_1 : Nat) (a1_2r : Nat) (a1_2i : Nat) : Nat := (s_turn_Then_1 a1_2r a1_2i a0_2r a0_2i)
theorem e_frame_Then (a0_0 : Nat) (a0_1 : Nat) (a0_2r : Nat) (a0_2i : Nat) (a1_0 : Nat) (a1_1 : Nat) (a1_2r : Nat) (a1_2i : Nat) : outB (evFnM Try.prog false menv10 [] [] 64 Try.f11 [AV.agg [.float a0_0, .float a0_1, .complex a0_2r a0_2i], AV.agg [.float a1_0, .float a1_1, .complex a1_2r a1_2i]] []) = some ((true), AV.agg [AV.float (s_frame_Then_0 a0_0 a0_1 a0_2r a0_2i a1_0 a1_1 a1_2r a1_2i), AV.float (s_frame_Then_1 a0_0 a0_1 a0_2r a0_2i a1_0 a1_1 a1_2r a1_2i), AV.complex (s_frame_Then_2 a0_0 a0_1 a0_2r a0_2i a1_0 a1_1 a1_2r a1_2i) (s_frame_Then_3 a0_0 a0_1 a0_2r a0_2i a1_0 a1_1 a1_2r a1_2i)]) := by kernel_rfl
noncomputable def S_frame_Then : List AV → Option (Ob × AV)
  | [AV.agg [.float a0_0, .float a0_1, .complex a0_2r a0_2i], AV.agg [.float a1_0, .float a1_1, .complex a1_2r a1_2i]] => some (Ob.tt, AV.agg [AV.float (s_frame_Then_0 a0_0 a0_1 a0_2r a0_2i a1_0 a1_1 a1_2r a1_2i), AV.float (s_frame_Then_1 a0_0 a0_1 a0_2r a0_2i a1_0 a1_1 a1_2r a1_2i), AV.complex (s_frame_Then_2 a0_0 a0_1 a0_2r a0_2i a1_0 a1_1 a1_2r a1_2i) (s_frame_Then_3 a0_0 a0_1 a0_2r a0_2i a1_0 a1_1 a1_2r a1_2i)])
  | _ => none
theorem t_frame_Then : ROkM Try.prog false (11, pureM S_frame_Then) := ROkM.pure (N := 64) menv10_ok Try.func11 Try.call11 fun args o v h => by
  unfold S_frame_Then at h
  split at h
  · rename_i a0_0 a0_1 a0_2r a0_2i a1_0 a1_1 a1_2r a1_2i
    cases h
    exact ⟨rfl, rfl, _, e_frame_Then a0_0 a0_1 a0_2r a0_2i a1_0 a1_1 a1_2r a1_2i, fun _ => rfl⟩
  · cases h
noncomputable def mrs11 : List (FuncId × RFM) := (11, pureM S_frame_Then) :: mrs10
noncomputable def menv11 : EnvM := mkEnvM mxs mrs11 mws0
theorem mrs11_ok : All (ROkM Try.prog false) mrs11 := All.cons t_frame_Then mrs10_ok
theorem menv11_ok : menv11.Ok Try.prog false := mkEnvM_ok mxs_ok mrs11_ok mws0_ok
-- tumble/vec.Neg
noncomputable def s_vec_Neg_0 (a0_0 : Nat) (a0_1 : Nat) : Nat := (fneg a0_0)
noncomputable def s_vec_Neg_1 (a0_0 : Nat) (a0_1 : Nat) : Nat := (fneg a0_1)
theorem e_vec_Neg (a0_0 : Nat) (a0_1 : Nat) : outB (evFnM Try.prog false menv11 [] [] 64 Try.f43 [AV.agg [.float a0_0, .float a0_1]] []) = some ((true), AV.agg [AV.float (s_vec_Neg_0 a0_0 a0_1), AV.float (s_vec_Neg_1 a0_0 a0_1)]) := by kernel_rfl
noncomputable def S_vec_Neg : List AV → Option (Ob × AV)
  | [AV.agg [.float a0_0, .float a0_1]] => some (Ob.tt, AV.agg [AV.float (s_vec_Neg_0 a0_0 a0_1), AV.float (s_vec_Neg_1 a0_0 a0_1)])
  | _ => none
theorem t_vec_Neg : ROkM Try.prog false (43, pureM S_vec_Neg) := ROkM.pure (N := 64) menv11_ok Try.func43 Try.call43 fun args o v h => by
  unfold S_vec_Neg at h
  split at h
  · rename_i a0_0 a0_1
    cases h
    exact ⟨rfl, rfl, _, e_vec_Neg a0_0 a0_1, fun _ => rfl⟩
  · cases h
noncomputable def mrs12 : List (FuncId × RFM) := (43, pureM S_vec_Neg) :: mrs11
noncomputable def menv12 : EnvM := mkEnvM mxs mrs12 mws0
theorem mrs12_ok : All (ROkM Try.prog false) mrs12 := All.cons t_vec_Neg mrs11_ok
theorem menv12_ok : menv12.Ok Try.prog false := mkEnvM_ok mxs_ok mrs12_ok mws0_ok
-- tumble/turn.Back
noncomputable def s_turn_Back_0 (a0_0r : Nat) (a0_0i : Nat) : Nat := a0_0r
noncomputable def s_turn_Back_1 (a0_0r : Nat) (a0_0i : Nat) : Nat := (fneg a0_0i)
theorem e_turn_Back (a0_0r : Nat) (a0_0i : Nat) : outB (evFnM Try.prog false menv12 [] [] 64 Try.f44 [AV.complex a0_0r a0_0i] []) = some ((true), AV.complex (s_turn_Back_0 a0_0r a0_0i) (s_turn_Back_1 a0_0r a0_0i)) := by kernel_rfl
noncomputable def S_turn_Back : List AV → Option (Ob × AV)
  | [AV.complex a0_0r a0_0i] => some (Ob.tt, AV.complex (s_turn_Back_0 a0_0r a0_0i) (s_turn_Back_1 a0_0r a0_0i))
  | _ => none
theorem t_turn_Back : ROkM Try.prog false (44, pureM S_turn_Back) := ROkM.pure (N := 64) menv12_ok Try.func44 Try.call44 fun args o v h => by
  unfold S_turn_Back at h
  split at h
  · rename_i a0_0r a0_0i
    cases h
    exact ⟨rfl, rfl, _, e_turn_Back a0_0r a0_0i, fun _ => rfl⟩
  · cases h
noncomputable def mrs13 : List (FuncId × RFM) := (44, pureM S_turn_Back) :: mrs12
noncomputable def menv13 : EnvM := mkEnvM mxs mrs13 mws0
theorem mrs13_ok : All (ROkM Try.prog false) mrs13 := All.cons t_turn_Back mrs12_ok
theorem menv13_ok : menv13.Ok Try.prog false := mkEnvM_ok mxs_ok mrs13_ok mws0_ok
-- tumble/frame.Back
noncomputable def s_frame_Back_0 (a0_0 : Nat) (a0_1 : Nat) (a0_2r : Nat) (a0_2i : Nat) : Nat := (s_vec_Neg_0 (s__frame_turned__undo_0 a0_2r a0_2i a0_0 a0_1) (s__frame_turned__undo_1 a0_2r a0_2i a0_0 a0_1))
noncomputable def s_frame_Back_1 (a0_0 : Nat) (a0_1 : Nat) (a0_2r : Nat) (a0_2i : Nat) : Nat := (s_vec_Neg_1 (s__frame_turned__undo_0 a0_2r a0_2i a0_0 a0_1) (s__frame_turned__undo_1 a0_2r a0_2i a0_0 a0_1))
noncomputable def s_frame_Back_2 (a0_0 : Nat) (a0_1 : Nat) (a0_2r : Nat) (a0_2i : Nat) : Nat := (s_turn_Back_0 a0_2r a0_2i)
noncomputable def s_frame_Back_3 (a0_0 : Nat) (a0_1 : Nat) (a0_2r : Nat) (a0_2i : Nat) : Nat := (s_turn_Back_1 a0_2r a0_2i)
theorem e_frame_Back (a0_0 : Nat) (a0_1 : Nat) (a0_2r : Nat) (a0_2i : Nat) : outB (evFnM Try.prog false menv13 [] [] 64 Try.f13 [AV.agg [.float a0_0, .float a0_1, .complex a0_2r a0_2i]] []) = some ((true), AV.agg [AV.float (s_frame_Back_0 a0_0 a0_1 a0_2r a0_2i), AV.float (s_frame_Back_1 a0_0 a0_1 a0_2r a0_2i), AV.complex (s_frame_Back_2 a0_0 a0_1 a0_2r a0_2i) (s_frame_Back_3 a0_0 a0_1 a0_2r a0_2i)]) := by kernel_rfl
noncomputable def S_frame_Back : List AV → Option (Ob × AV)
  | [AV.agg [.float a0_0, .float a0_1, .complex a0_2r a0_2i]] => some (Ob.tt, AV.agg [AV.float (s_frame_Back_0 a0_0 a0_1 a0_2r a0_2i), AV.float (s_frame_Back_1 a0_0 a0_1 a0_2r a0_2i), AV.complex (s_frame_Back_2 a0_0 a0_1 a0_2r a0_2i) (s_frame_Back_3 a0_0 a0_1 a0_2r a0_2i)])
  | _ => none
theorem t_frame_Back : ROkM Try.prog false (13, pureM S_frame_Back) := ROkM.pure (N := 64) menv13_ok Try.func13 Try.call13 fun args o v h => by
  unfold S_frame_Back at h
  split at h
  · rename_i a0_0 a0_1 a0_2r a0_2i
    cases h
    exact ⟨rfl, rfl, _, e_frame_Back a0_0 a0_1 a0_2r a0_2i, fun _ => rfl⟩
  · cases h
noncomputable def mrs14 : List (FuncId × RFM) := (13, pureM S_frame_Back) :: mrs13
noncomputable def menv14 : EnvM := mkEnvM mxs mrs14 mws0
theorem mrs14_ok : All (ROkM Try.prog false) mrs14 := All.cons t_frame_Back mrs13_ok
theorem menv14_ok : menv14.Ok Try.prog false := mkEnvM_ok mxs_ok mrs14_ok mws0_ok
-- tumble/turn.One
noncomputable def s_turn_One_0 : Nat := 4607182418800017408
noncomputable def s_turn_One_1 : Nat := 0
theorem e_turn_One : outB (evFnM Try.prog false menv14 [] [] 64 Try.f47 [] []) = some ((true), AV.complex (s_turn_One_0) (s_turn_One_1)) := by kernel_rfl
noncomputable def S_turn_One : List AV → Option (Ob × AV)
  | [] => some (Ob.tt, AV.complex (s_turn_One_0) (s_turn_One_1))
  | _ => none
theorem t_turn_One : ROkM Try.prog false (47, pureM S_turn_One) := ROkM.pure (N := 64) menv14_ok Try.func47 Try.call47 fun args o v h => by
  unfold S_turn_One at h
  split at h
  · skip
    cases h
    exact ⟨rfl, rfl, _, e_turn_One, fun _ => rfl⟩
  · cases h
noncomputable def mrs15 : List (FuncId × RFM) := (47, pureM S_turn_One) :: mrs14
noncomputable def menv15 : EnvM := mkEnvM mxs mrs15 mws0
theorem mrs15_ok : All (ROkM Try.prog false) mrs15 := All.cons t_turn_One mrs14_ok
theorem menv15_ok : menv15.Ok Try.prog false := mkEnvM_ok mxs_ok mrs15_ok mws0_ok
-- tumble/frame.Home
noncomputable def s_frame_Home_0 : Nat := 0
noncomputable def s_frame_Home_1 : Nat := 0
noncomputable def s_frame_Home_2 : Nat := 4607182418800017408
noncomputable def s_frame_Home_3 : Nat := 0
theorem e_frame_Home : outB (evFnM Try.prog false menv15 [] [] 64 Try.f15 [] []) = some ((true), AV.agg [AV.float (s_frame_Home_0), AV.float (s_frame_Home_1), AV.complex (s_frame_Home_2) (s_frame_Home_3)]) := by kernel_rfl
noncomputable def S_frame_Home : List AV → Option (Ob × AV)
  | [] => some (Ob.tt, AV.agg [AV.float (s_frame_Home_0), AV.float (s_frame_Home_1), AV.complex (s_frame_Home_2) (s_frame_Home_3)])
  | _ => none
theorem t_frame_Home : ROkM Try.prog false (15, pureM S_frame_Home) := ROkM.pure (N := 64) menv15_ok Try.func15 Try.call15 fun args o v h => by
  unfold S_frame_Home at h
  split at h
  · skip
    cases h
    exact ⟨rfl, rfl, _, e_frame_Home, fun _ => rfl⟩
  · cases h
noncomputable def mrs16 : List (FuncId × RFM) := (15, pureM S_frame_Home) :: mrs15
noncomputable def menv16 : EnvM := mkEnvM mxs mrs16 mws0
theorem mrs16_ok : All (ROkM Try.prog false) mrs16 := All.cons t_frame_Home mrs15_ok
theorem menv16_ok : menv16.Ok Try.prog false := mkEnvM_ok mxs_ok mrs16_ok mws0_ok
-- math.Abs
noncomputable def S_math_Abs : List AV → Option AV
  | [AV.float a] => some (AV.float (fabs a))
  | _ => none
theorem t_math_Abs : ROk Try.prog false (31, pureF S_math_Abs) := exact1f (N := 64) xenv_ok Try.func31 Try.call31 fabs (fun args v h => by
    unfold S_math_Abs at h
    split at h
    · cases h; exact ⟨_, rfl, rfl⟩
    · cases h) fun b hb => ⟨_, by refine Eq.trans ?_ (abs_tree hb); kernel_rfl, (fabs_cn b).symm⟩
noncomputable def mrs17 : List (FuncId × RFM) := (31, pureM fun args => match S_math_Abs args with | some v => some (.tt, v) | none => none) :: mrs16
noncomputable def menv17 : EnvM := mkEnvM mxs mrs17 mws0
theorem mrs17_ok : All (ROkM Try.prog false) mrs17 := All.cons t_math_Abs.toM mrs16_ok
theorem menv17_ok : menv17.Ok Try.prog false := mkEnvM_ok mxs_ok mrs17_ok mws0_ok
-- math.IsInf
noncomputable def s_math_IsInf_0 (a0_0 : Nat) (a1_0 : Int) : Bool := (flt 9218868437227405311 (bif (ieq a1_0 (0 : Int)) then (fabs a0_0) else (bif (ilt a1_0 (0 : Int)) then (fneg a0_0) else a0_0)))
theorem e_math_IsInf (a0_0 : Nat) (a1_0 : Int) : outB (evFnM Try.prog false menv17 [] [] 64 Try.f38 [AV.float a0_0, AV.int .i64 a1_0] []) = some ((true), AV.bool (s_math_IsInf_0 a0_0 a1_0)) := by kernel_rfl
noncomputable def S_math_IsInf : List AV → Option (Ob × AV)
  | [AV.float a0_0, AV.int .i64 a1_0] => some (Ob.tt, AV.bool (s_math_IsInf_0 a0_0 a1_0))
  | _ => none
theorem t_math_IsInf : ROkM Try.prog false (38, pureM S_math_IsInf) := ROkM.pure (N := 64) menv17_ok Try.func38 Try.call38 fun args o v h => by
  unfold S_math_IsInf at h
  split at h
  · rename_i a0_0 a1_0
    cases h
    exact ⟨rfl, rfl, _, e_math_IsInf a0_0 a1_0, fun _ => rfl⟩
  · cases h
noncomputable def mrs18 : List (FuncId × RFM) := (38, pureM S_math_IsInf) :: mrs17
noncomputable def menv18 : EnvM := mkEnvM mxs mrs18 mws0
theorem mrs18_ok : All (ROkM Try.prog false) mrs18 := All.cons t_math_IsInf mrs17_ok
theorem menv18_ok : menv18.Ok Try.prog false := mkEnvM_ok mxs_ok mrs18_ok mws0_ok
-- tumble/turn.By
noncomputable def s_turn_By_0 (a0_0 : Nat) : Nat := (bif (s_math_IsInf_0 (fmul a0_0 a0_0) (1 : Int)) then 13830554455654793216 else (fdiv (fsub 4607182418800017408 (fmul a0_0 a0_0)) (fadd 4607182418800017408 (fmul a0_0 a0_0))))
noncomputable def s_turn_By_1 (a0_0 : Nat) : Nat := (bif (s_math_IsInf_0 (fmul a0_0 a0_0) (1 : Int)) then 0 else (fdiv (fadd a0_0 a0_0) (fadd 4607182418800017408 (fmul a0_0 a0_0))))
theorem e_turn_By (a0_0 : Nat) : outB (evFnM Try.prog false menv18 [] [] 64 Try.f61 [AV.float a0_0] []) = some ((true), AV.complex (s_turn_By_0 a0_0) (s_turn_By_1 a0_0)) := by kernel_rfl
noncomputable def S_turn_By : List AV → Option (Ob × AV)
  | [AV.float a0_0] => some (Ob.tt, AV.complex (s_turn_By_0 a0_0) (s_turn_By_1 a0_0))
  | _ => none
theorem t_turn_By : ROkM Try.prog false (61, pureM S_turn_By) := ROkM.pure (N := 64) menv18_ok Try.func61 Try.call61 fun args o v h => by
  unfold S_turn_By at h
  split at h
  · rename_i a0_0
    cases h
    exact ⟨rfl, rfl, _, e_turn_By a0_0, fun _ => rfl⟩
  · cases h
noncomputable def mrs19 : List (FuncId × RFM) := (61, pureM S_turn_By) :: mrs18
noncomputable def menv19 : EnvM := mkEnvM mxs mrs19 mws0
theorem mrs19_ok : All (ROkM Try.prog false) mrs19 := All.cons t_turn_By mrs18_ok
theorem menv19_ok : menv19.Ok Try.prog false := mkEnvM_ok mxs_ok mrs19_ok mws0_ok
-- tumble/turn.square
noncomputable def s_turn_square_0 (a0_0r : Nat) (a0_0i : Nat) : Nat := (fadd (fmul a0_0r a0_0r) (fmul a0_0i a0_0i))
theorem e_turn_square (a0_0r : Nat) (a0_0i : Nat) : outB (evFnM Try.prog false menv19 [] [] 64 Try.f68 [AV.complex a0_0r a0_0i] []) = some ((true), AV.float (s_turn_square_0 a0_0r a0_0i)) := by kernel_rfl
noncomputable def S_turn_square : List AV → Option (Ob × AV)
  | [AV.complex a0_0r a0_0i] => some (Ob.tt, AV.float (s_turn_square_0 a0_0r a0_0i))
  | _ => none
theorem t_turn_square : ROkM Try.prog false (68, pureM S_turn_square) := ROkM.pure (N := 64) menv19_ok Try.func68 Try.call68 fun args o v h => by
  unfold S_turn_square at h
  split at h
  · rename_i a0_0r a0_0i
    cases h
    exact ⟨rfl, rfl, _, e_turn_square a0_0r a0_0i, fun _ => rfl⟩
  · cases h
noncomputable def mrs20 : List (FuncId × RFM) := (68, pureM S_turn_square) :: mrs19
noncomputable def menv20 : EnvM := mkEnvM mxs mrs20 mws0
theorem mrs20_ok : All (ROkM Try.prog false) mrs20 := All.cons t_turn_square mrs19_ok
theorem menv20_ok : menv20.Ok Try.prog false := mkEnvM_ok mxs_ok mrs20_ok mws0_ok
-- math.Sqrt
noncomputable def s_math_Sqrt_0 (a0_0 : Nat) : Nat := (fsqrt a0_0)
theorem e_math_Sqrt (a0_0 : Nat) : outB (evFnM Try.prog false menv20 [] [] 64 Try.f80 [AV.float a0_0] []) = some ((true), AV.float (s_math_Sqrt_0 a0_0)) := by kernel_rfl
noncomputable def S_math_Sqrt : List AV → Option (Ob × AV)
  | [AV.float a0_0] => some (Ob.tt, AV.float (s_math_Sqrt_0 a0_0))
  | _ => none
theorem t_math_Sqrt : ROkM Try.prog false (80, pureM S_math_Sqrt) := ROkM.pure (N := 64) menv20_ok Try.func80 Try.call80 fun args o v h => by
  unfold S_math_Sqrt at h
  split at h
  · rename_i a0_0
    cases h
    exact ⟨rfl, rfl, _, e_math_Sqrt a0_0, fun _ => rfl⟩
  · cases h
noncomputable def mrs21 : List (FuncId × RFM) := (80, pureM S_math_Sqrt) :: mrs20
noncomputable def menv21 : EnvM := mkEnvM mxs mrs21 mws0
theorem mrs21_ok : All (ROkM Try.prog false) mrs21 := All.cons t_math_Sqrt mrs20_ok
theorem menv21_ok : menv21.Ok Try.prog false := mkEnvM_ok mxs_ok mrs21_ok mws0_ok
-- tumble/turn.Check
noncomputable def s_turn_Check_0 (a0_0r : Nat) (a0_0i : Nat) : Int := (bif ((fle 4607182418800009216 (s_turn_square_0 a0_0r a0_0i)) && (fle (s_turn_square_0 a0_0r a0_0i) 4607182418800021504)) then (0 : Int) else (30 : Int))
theorem e_turn_Check (a0_0r : Nat) (a0_0i : Nat) : outB (evFnM Try.prog false menv21 [] [] 64 Try.f33 [AV.complex a0_0r a0_0i] []) = some ((true), AV.int .i64 (s_turn_Check_0 a0_0r a0_0i)) := by kernel_rfl
noncomputable def S_turn_Check : List AV → Option (Ob × AV)
  | [AV.complex a0_0r a0_0i] => some (Ob.tt, AV.int .i64 (s_turn_Check_0 a0_0r a0_0i))
  | _ => none
theorem t_turn_Check : ROkM Try.prog false (33, pureM S_turn_Check) := ROkM.pure (N := 64) menv21_ok Try.func33 Try.call33 fun args o v h => by
  unfold S_turn_Check at h
  split at h
  · rename_i a0_0r a0_0i
    cases h
    exact ⟨rfl, rfl, _, e_turn_Check a0_0r a0_0i, fun _ => rfl⟩
  · cases h
noncomputable def mrs22 : List (FuncId × RFM) := (33, pureM S_turn_Check) :: mrs21
noncomputable def menv22 : EnvM := mkEnvM mxs mrs22 mws0
theorem mrs22_ok : All (ROkM Try.prog false) mrs22 := All.cons t_turn_Check mrs21_ok
theorem menv22_ok : menv22.Ok Try.prog false := mkEnvM_ok mxs_ok mrs22_ok mws0_ok
-- tumble/turn.Unit
noncomputable def s_turn_Unit_0 (a0_0r : Nat) (a0_0i : Nat) : Nat := (bif (!(ieq (s_turn_Check_0 (fdiv a0_0r (s_math_Sqrt_0 (s_turn_square_0 a0_0r a0_0i))) (fdiv a0_0i (s_math_Sqrt_0 (s_turn_square_0 a0_0r a0_0i)))) (0 : Int))) then 0 else (fdiv a0_0r (s_math_Sqrt_0 (s_turn_square_0 a0_0r a0_0i))))
noncomputable def s_turn_Unit_1 (a0_0r : Nat) (a0_0i : Nat) : Nat := (bif (!(ieq (s_turn_Check_0 (fdiv a0_0r (s_math_Sqrt_0 (s_turn_square_0 a0_0r a0_0i))) (fdiv a0_0i (s_math_Sqrt_0 (s_turn_square_0 a0_0r a0_0i)))) (0 : Int))) then 0 else (fdiv a0_0i (s_math_Sqrt_0 (s_turn_square_0 a0_0r a0_0i))))
noncomputable def s_turn_Unit_2 (a0_0r : Nat) (a0_0i : Nat) : Bool := (bif (!(ieq (s_turn_Check_0 (fdiv a0_0r (s_math_Sqrt_0 (s_turn_square_0 a0_0r a0_0i))) (fdiv a0_0i (s_math_Sqrt_0 (s_turn_square_0 a0_0r a0_0i)))) (0 : Int))) then false else true)
theorem e_turn_Unit (a0_0r : Nat) (a0_0i : Nat) : outB (evFnM Try.prog false menv22 [] [] 64 Try.f62 [AV.complex a0_0r a0_0i] []) = some ((true), AV.tup [AV.complex (s_turn_Unit_0 a0_0r a0_0i) (s_turn_Unit_1 a0_0r a0_0i), AV.bool (s_turn_Unit_2 a0_0r a0_0i)]) := by kernel_rfl
noncomputable def S_turn_Unit : List AV → Option (Ob × AV)
  | [AV.complex a0_0r a0_0i] => some (Ob.tt, AV.tup [AV.complex (s_turn_Unit_0 a0_0r a0_0i) (s_turn_Unit_1 a0_0r a0_0i), AV.bool (s_turn_Unit_2 a0_0r a0_0i)])
  | _ => none
theorem t_turn_Unit : ROkM Try.prog false (62, pureM S_turn_Unit) := ROkM.pure (N := 64) menv22_ok Try.func62 Try.call62 fun args o v h => by
  unfold S_turn_Unit at h
  split at h
  · rename_i a0_0r a0_0i
    cases h
    exact ⟨rfl, rfl, _, e_turn_Unit a0_0r a0_0i, fun _ => rfl⟩
  · cases h
noncomputable def mrs23 : List (FuncId × RFM) := (62, pureM S_turn_Unit) :: mrs22
noncomputable def menv23 : EnvM := mkEnvM mxs mrs23 mws0
theorem mrs23_ok : All (ROkM Try.prog false) mrs23 := All.cons t_turn_Unit mrs22_ok
theorem menv23_ok : menv23.Ok Try.prog false := mkEnvM_ok mxs_ok mrs23_ok mws0_ok
-- tumble/vec.More
noncomputable def s_vec_More_0 (a0_0 : Nat) (a0_1 : Nat) (a1_0 : Nat) (a2_0 : Nat) (a2_1 : Nat) : Nat := (fadd a0_0 (fmul a1_0 a2_0))
noncomputable def s_vec_More_1 (a0_0 : Nat) (a0_1 : Nat) (a1_0 : Nat) (a2_0 : Nat) (a2_1 : Nat) : Nat := (fadd a0_1 (fmul a1_0 a2_1))
theorem e_vec_More (a0_0 : Nat) (a0_1 : Nat) (a1_0 : Nat) (a2_0 : Nat) (a2_1 : Nat) : outB (evFnM Try.prog false menv23 [] [] 64 Try.f63 [AV.agg [.float a0_0, .float a0_1], AV.float a1_0, AV.agg [.float a2_0, .float a2_1]] []) = some ((true), AV.agg [AV.float (s_vec_More_0 a0_0 a0_1 a1_0 a2_0 a2_1), AV.float (s_vec_More_1 a0_0 a0_1 a1_0 a2_0 a2_1)]) := by kernel_rfl
noncomputable def S_vec_More : List AV → Option (Ob × AV)
  | [AV.agg [.float a0_0, .float a0_1], AV.float a1_0, AV.agg [.float a2_0, .float a2_1]] => some (Ob.tt, AV.agg [AV.float (s_vec_More_0 a0_0 a0_1 a1_0 a2_0 a2_1), AV.float (s_vec_More_1 a0_0 a0_1 a1_0 a2_0 a2_1)])
  | _ => none
theorem t_vec_More : ROkM Try.prog false (63, pureM S_vec_More) := ROkM.pure (N := 64) menv23_ok Try.func63 Try.call63 fun args o v h => by
  unfold S_vec_More at h
  split at h
  · rename_i a0_0 a0_1 a1_0 a2_0 a2_1
    cases h
    exact ⟨rfl, rfl, _, e_vec_More a0_0 a0_1 a1_0 a2_0 a2_1, fun _ => rfl⟩
  · cases h
noncomputable def mrs24 : List (FuncId × RFM) := (63, pureM S_vec_More) :: mrs23
noncomputable def menv24 : EnvM := mkEnvM mxs mrs24 mws0
theorem mrs24_ok : All (ROkM Try.prog false) mrs24 := All.cons t_vec_More mrs23_ok
theorem menv24_ok : menv24.Ok Try.prog false := mkEnvM_ok mxs_ok mrs24_ok mws0_ok
-- tumble/frame.Move
noncomputable def s_frame_Move_0 (a0_0 : Nat) (a0_1 : Nat) (a0_2r : Nat) (a0_2i : Nat) (a1_0 : Nat) (a1_1 : Nat) (a2_0 : Nat) (a3_0 : Nat) : Nat := (s_vec_More_0 a0_0 a0_1 a3_0 a1_0 a1_1)
noncomputable def s_frame_Move_1 (a0_0 : Nat) (a0_1 : Nat) (a0_2r : Nat) (a0_2i : Nat) (a1_0 : Nat) (a1_1 : Nat) (a2_0 : Nat) (a3_0 : Nat) : Nat := (s_vec_More_1 a0_0 a0_1 a3_0 a1_0 a1_1)
noncomputable def s_frame_Move_2 (a0_0 : Nat) (a0_1 : Nat) (a0_2r : Nat) (a0_2i : Nat) (a1_0 : Nat) (a1_1 : Nat) (a2_0 : Nat) (a3_0 : Nat) : Nat := let x0 : Nat := (fmul (fmul a2_0 a3_0) 4602678819172646912); let x1 : Nat := (s_turn_By_1 x0); let x2 : Nat := (s_turn_By_0 x0); let x3 : Nat := (s_turn_Then_0 a0_2r a0_2i x2 x1); let x4 : Nat := (s_turn_Then_1 a0_2r a0_2i x2 x1); (bif (s_turn_Unit_2 x3 x4) then (s_turn_Unit_0 x3 x4) else x3)
noncomputable def s_frame_Move_3 (a0_0 : Nat) (a0_1 : Nat) (a0_2r : Nat) (a0_2i : Nat) (a1_0 : Nat) (a1_1 : Nat) (a2_0 : Nat) (a3_0 : Nat) : Nat := let x0 : Nat := (fmul (fmul a2_0 a3_0) 4602678819172646912); let x1 : Nat := (s_turn_By_1 x0); let x2 : Nat := (s_turn_By_0 x0); let x3 : Nat := (s_turn_Then_1 a0_2r a0_2i x2 x1); let x4 : Nat := (s_turn_Then_0 a0_2r a0_2i x2 x1); (bif (s_turn_Unit_2 x4 x3) then (s_turn_Unit_1 x4 x3) else x3)
theorem e_frame_Move (a0_0 : Nat) (a0_1 : Nat) (a0_2r : Nat) (a0_2i : Nat) (a1_0 : Nat) (a1_1 : Nat) (a2_0 : Nat) (a3_0 : Nat) : outB (evFnM Try.prog false menv24 [] [] 64 Try.f26 [AV.agg [.float a0_0, .float a0_1, .complex a0_2r a0_2i], AV.agg [.float a1_0, .float a1_1], AV.float a2_0, AV.float a3_0] []) = some ((true), AV.agg [AV.float (s_frame_Move_0 a0_0 a0_1 a0_2r a0_2i a1_0 a1_1 a2_0 a3_0), AV.float (s_frame_Move_1 a0_0 a0_1 a0_2r a0_2i a1_0 a1_1 a2_0 a3_0), AV.complex (s_frame_Move_2 a0_0 a0_1 a0_2r a0_2i a1_0 a1_1 a2_0 a3_0) (s_frame_Move_3 a0_0 a0_1 a0_2r a0_2i a1_0 a1_1 a2_0 a3_0)]) := by kernel_rfl
noncomputable def S_frame_Move : List AV → Option (Ob × AV)
  | [AV.agg [.float a0_0, .float a0_1, .complex a0_2r a0_2i], AV.agg [.float a1_0, .float a1_1], AV.float a2_0, AV.float a3_0] => some (Ob.tt, AV.agg [AV.float (s_frame_Move_0 a0_0 a0_1 a0_2r a0_2i a1_0 a1_1 a2_0 a3_0), AV.float (s_frame_Move_1 a0_0 a0_1 a0_2r a0_2i a1_0 a1_1 a2_0 a3_0), AV.complex (s_frame_Move_2 a0_0 a0_1 a0_2r a0_2i a1_0 a1_1 a2_0 a3_0) (s_frame_Move_3 a0_0 a0_1 a0_2r a0_2i a1_0 a1_1 a2_0 a3_0)])
  | _ => none
theorem t_frame_Move : ROkM Try.prog false (26, pureM S_frame_Move) := ROkM.pure (N := 64) menv24_ok Try.func26 Try.call26 fun args o v h => by
  unfold S_frame_Move at h
  split at h
  · rename_i a0_0 a0_1 a0_2r a0_2i a1_0 a1_1 a2_0 a3_0
    cases h
    exact ⟨rfl, rfl, _, e_frame_Move a0_0 a0_1 a0_2r a0_2i a1_0 a1_1 a2_0 a3_0, fun _ => rfl⟩
  · cases h
noncomputable def mrs25 : List (FuncId × RFM) := (26, pureM S_frame_Move) :: mrs24
noncomputable def menv25 : EnvM := mkEnvM mxs mrs25 mws0
theorem mrs25_ok : All (ROkM Try.prog false) mrs25 := All.cons t_frame_Move mrs24_ok
theorem menv25_ok : menv25.Ok Try.prog false := mkEnvM_ok mxs_ok mrs25_ok mws0_ok
-- tumble/tumblelaw04.alive
noncomputable def s_law04_alive_0 : Bool := true
theorem e_law04_alive : outB (evFnM Try.prog false menv25 [] [] 64 Try.f29 [] []) = some ((true), AV.bool (s_law04_alive_0)) := by kernel_rfl
noncomputable def S_law04_alive : List AV → Option (Ob × AV)
  | [] => some (Ob.tt, AV.bool (s_law04_alive_0))
  | _ => none
theorem t_law04_alive : ROkM Try.prog false (29, pureM S_law04_alive) := ROkM.pure (N := 64) menv25_ok Try.func29 Try.call29 fun args o v h => by
  unfold S_law04_alive at h
  split at h
  · skip
    cases h
    exact ⟨rfl, rfl, _, e_law04_alive, fun _ => rfl⟩
  · cases h
noncomputable def mrs26 : List (FuncId × RFM) := (29, pureM S_law04_alive) :: mrs25
noncomputable def menv26 : EnvM := mkEnvM mxs mrs26 mws0
theorem mrs26_ok : All (ROkM Try.prog false) mrs26 := All.cons t_law04_alive mrs25_ok
theorem menv26_ok : menv26.Ok Try.prog false := mkEnvM_ok mxs_ok mrs26_ok mws0_ok
-- tumble/tumblelaw04.f
noncomputable def s_law04_f_0 (a0_0 : Int) : Nat := (cn (Int.toNat a0_0))
theorem e_law04_f (a0_0 : Int) : outB (evFnM Try.prog false menv26 [] [] 64 Try.f27 [AV.int .u64 a0_0] []) = some (((u64ok a0_0)), AV.float (s_law04_f_0 a0_0)) := by kernel_rfl
noncomputable def S_law04_f : List AV → Option (Ob × AV)
  | [AV.int .u64 a0_0] => some (Ob.bit ((u64ok a0_0)), AV.float (s_law04_f_0 a0_0))
  | _ => none
theorem t_law04_f : ROkM Try.prog false (27, pureM S_law04_f) := ROkM.pure (N := 64) menv26_ok Try.func27 Try.call27 fun args o v h => by
  unfold S_law04_f at h
  split at h
  · rename_i a0_0
    cases h
    exact ⟨rfl, rfl, _, e_law04_f a0_0, fun h => h⟩
  · cases h
noncomputable def mrs27 : List (FuncId × RFM) := (27, pureM S_law04_f) :: mrs26
noncomputable def menv27 : EnvM := mkEnvM mxs mrs27 mws0
theorem mrs27_ok : All (ROkM Try.prog false) mrs27 := All.cons t_law04_f mrs26_ok
theorem menv27_ok : menv27.Ok Try.prog false := mkEnvM_ok mxs_ok mrs27_ok mws0_ok
-- (tumble/tumblelaw04.Place).Vec
noncomputable def s__law04_Place__Vec_0 (a0_0 : Int) (a0_1 : Int) : Nat := (s_law04_f_0 a0_0)
noncomputable def s__law04_Place__Vec_1 (a0_0 : Int) (a0_1 : Int) : Nat := (s_law04_f_0 a0_1)
theorem e__law04_Place__Vec (a0_0 : Int) (a0_1 : Int) : outB (evFnM Try.prog false menv27 [] [] 64 Try.f17 [AV.agg [.int .u64 a0_0, .int .u64 a0_1]] []) = some ((((u64ok a0_1) && (u64ok a0_0))), AV.agg [AV.float (s__law04_Place__Vec_0 a0_0 a0_1), AV.float (s__law04_Place__Vec_1 a0_0 a0_1)]) := by kernel_rfl
noncomputable def S__law04_Place__Vec : List AV → Option (Ob × AV)
  | [AV.agg [.int .u64 a0_0, .int .u64 a0_1]] => some (Ob.bit (((u64ok a0_1) && (u64ok a0_0))), AV.agg [AV.float (s__law04_Place__Vec_0 a0_0 a0_1), AV.float (s__law04_Place__Vec_1 a0_0 a0_1)])
  | _ => none
theorem t__law04_Place__Vec : ROkM Try.prog false (17, pureM S__law04_Place__Vec) := ROkM.pure (N := 64) menv27_ok Try.func17 Try.call17 fun args o v h => by
  unfold S__law04_Place__Vec at h
  split at h
  · rename_i a0_0 a0_1
    cases h
    exact ⟨rfl, rfl, _, e__law04_Place__Vec a0_0 a0_1, fun h => h⟩
  · cases h
noncomputable def mrs28 : List (FuncId × RFM) := (17, pureM S__law04_Place__Vec) :: mrs27
noncomputable def menv28 : EnvM := mkEnvM mxs mrs28 mws0
theorem mrs28_ok : All (ROkM Try.prog false) mrs28 := All.cons t__law04_Place__Vec mrs27_ok
theorem menv28_ok : menv28.Ok Try.prog false := mkEnvM_ok mxs_ok mrs28_ok mws0_ok
-- (tumble/tumblelaw04.Bits).Frame
noncomputable def s__law04_Bits__Frame_0 (a0_0 : Int) (a0_1 : Int) (a0_2 : Int) (a0_3 : Int) : Nat := (s__law04_Place__Vec_0 a0_0 a0_1)
noncomputable def s__law04_Bits__Frame_1 (a0_0 : Int) (a0_1 : Int) (a0_2 : Int) (a0_3 : Int) : Nat := (s__law04_Place__Vec_1 a0_0 a0_1)
noncomputable def s__law04_Bits__Frame_2 (a0_0 : Int) (a0_1 : Int) (a0_2 : Int) (a0_3 : Int) : Nat := (s_law04_f_0 a0_2)
noncomputable def s__law04_Bits__Frame_3 (a0_0 : Int) (a0_1 : Int) (a0_2 : Int) (a0_3 : Int) : Nat := (s_law04_f_0 a0_3)
theorem e__law04_Bits__Frame (a0_0 : Int) (a0_1 : Int) (a0_2 : Int) (a0_3 : Int) : outB (evFnM Try.prog false menv28 [] [] 64 Try.f9 [AV.agg [.int .u64 a0_0, .int .u64 a0_1, .int .u64 a0_2, .int .u64 a0_3]] []) = some ((((u64ok a0_3) && ((u64ok a0_2) && ((u64ok a0_1) && (u64ok a0_0))))), AV.agg [AV.float (s__law04_Bits__Frame_0 a0_0 a0_1 a0_2 a0_3), AV.float (s__law04_Bits__Frame_1 a0_0 a0_1 a0_2 a0_3), AV.complex (s__law04_Bits__Frame_2 a0_0 a0_1 a0_2 a0_3) (s__law04_Bits__Frame_3 a0_0 a0_1 a0_2 a0_3)]) := by kernel_rfl
noncomputable def S__law04_Bits__Frame : List AV → Option (Ob × AV)
  | [AV.agg [.int .u64 a0_0, .int .u64 a0_1, .int .u64 a0_2, .int .u64 a0_3]] => some (Ob.bit (((u64ok a0_3) && ((u64ok a0_2) && ((u64ok a0_1) && (u64ok a0_0))))), AV.agg [AV.float (s__law04_Bits__Frame_0 a0_0 a0_1 a0_2 a0_3), AV.float (s__law04_Bits__Frame_1 a0_0 a0_1 a0_2 a0_3), AV.complex (s__law04_Bits__Frame_2 a0_0 a0_1 a0_2 a0_3) (s__law04_Bits__Frame_3 a0_0 a0_1 a0_2 a0_3)])
  | _ => none
theorem t__law04_Bits__Frame : ROkM Try.prog false (9, pureM S__law04_Bits__Frame) := ROkM.pure (N := 64) menv28_ok Try.func9 Try.call9 fun args o v h => by
  unfold S__law04_Bits__Frame at h
  split at h
  · rename_i a0_0 a0_1 a0_2 a0_3
    cases h
    exact ⟨rfl, rfl, _, e__law04_Bits__Frame a0_0 a0_1 a0_2 a0_3, fun h => h⟩
  · cases h
noncomputable def mrs29 : List (FuncId × RFM) := (9, pureM S__law04_Bits__Frame) :: mrs28
noncomputable def menv29 : EnvM := mkEnvM mxs mrs29 mws0
theorem mrs29_ok : All (ROkM Try.prog false) mrs29 := All.cons t__law04_Bits__Frame mrs28_ok
theorem menv29_ok : menv29.Ok Try.prog false := mkEnvM_ok mxs_ok mrs29_ok mws0_ok
-- tumble/num.Within[float64]
noncomputable def s_num_Within_float64__0 (a0_0 : Nat) (a1_0 : Nat) : Bool := ((fle (fneg a1_0) a0_0) && (fle a0_0 a1_0))
theorem e_num_Within_float64_ (a0_0 : Nat) (a1_0 : Nat) : outB (evFnM Try.prog false menv29 [] [] 64 Try.f70 [AV.float a0_0, AV.float a1_0] []) = some ((true), AV.bool (s_num_Within_float64__0 a0_0 a1_0)) := by kernel_rfl
noncomputable def S_num_Within_float64_ : List AV → Option (Ob × AV)
  | [AV.float a0_0, AV.float a1_0] => some (Ob.tt, AV.bool (s_num_Within_float64__0 a0_0 a1_0))
  | _ => none
theorem t_num_Within_float64_ : ROkM Try.prog false (70, pureM S_num_Within_float64_) := ROkM.pure (N := 64) menv29_ok Try.func70 Try.call70 fun args o v h => by
  unfold S_num_Within_float64_ at h
  split at h
  · rename_i a0_0 a1_0
    cases h
    exact ⟨rfl, rfl, _, e_num_Within_float64_ a0_0 a1_0, fun _ => rfl⟩
  · cases h
noncomputable def mrs30 : List (FuncId × RFM) := (70, pureM S_num_Within_float64_) :: mrs29
noncomputable def menv30 : EnvM := mkEnvM mxs mrs30 mws0
theorem mrs30_ok : All (ROkM Try.prog false) mrs30 := All.cons t_num_Within_float64_ mrs29_ok
theorem menv30_ok : menv30.Ok Try.prog false := mkEnvM_ok mxs_ok mrs30_ok mws0_ok
-- tumble/vec.Within
noncomputable def s_vec_Within_0 (a0_0 : Nat) (a0_1 : Nat) (a1_0 : Nat) : Bool := ((s_num_Within_float64__0 a0_0 a1_0) && (s_num_Within_float64__0 a0_1 a1_0))
theorem e_vec_Within (a0_0 : Nat) (a0_1 : Nat) (a1_0 : Nat) : outB (evFnM Try.prog false menv30 [] [] 64 Try.f48 [AV.agg [.float a0_0, .float a0_1], AV.float a1_0] []) = some ((true), AV.bool (s_vec_Within_0 a0_0 a0_1 a1_0)) := by kernel_rfl
noncomputable def S_vec_Within : List AV → Option (Ob × AV)
  | [AV.agg [.float a0_0, .float a0_1], AV.float a1_0] => some (Ob.tt, AV.bool (s_vec_Within_0 a0_0 a0_1 a1_0))
  | _ => none
theorem t_vec_Within : ROkM Try.prog false (48, pureM S_vec_Within) := ROkM.pure (N := 64) menv30_ok Try.func48 Try.call48 fun args o v h => by
  unfold S_vec_Within at h
  split at h
  · rename_i a0_0 a0_1 a1_0
    cases h
    exact ⟨rfl, rfl, _, e_vec_Within a0_0 a0_1 a1_0, fun _ => rfl⟩
  · cases h
noncomputable def mrs31 : List (FuncId × RFM) := (48, pureM S_vec_Within) :: mrs30
noncomputable def menv31 : EnvM := mkEnvM mxs mrs31 mws0
theorem mrs31_ok : All (ROkM Try.prog false) mrs31 := All.cons t_vec_Within mrs30_ok
theorem menv31_ok : menv31.Ok Try.prog false := mkEnvM_ok mxs_ok mrs31_ok mws0_ok
-- tumble/frame.Check
noncomputable def s_frame_Check_0 (a0_0 : Nat) (a0_1 : Nat) (a0_2r : Nat) (a0_2i : Nat) : Int := (bif (!(s_vec_Within_0 a0_0 a0_1 4787326403894837248)) then (5 : Int) else (s_turn_Check_0 a0_2r a0_2i))
theorem e_frame_Check (a0_0 : Nat) (a0_1 : Nat) (a0_2r : Nat) (a0_2i : Nat) : outB (evFnM Try.prog false menv31 [] [] 64 Try.f18 [AV.agg [.float a0_0, .float a0_1, .complex a0_2r a0_2i]] []) = some ((true), AV.int .i64 (s_frame_Check_0 a0_0 a0_1 a0_2r a0_2i)) := by kernel_rfl
noncomputable def S_frame_Check : List AV → Option (Ob × AV)
  | [AV.agg [.float a0_0, .float a0_1, .complex a0_2r a0_2i]] => some (Ob.tt, AV.int .i64 (s_frame_Check_0 a0_0 a0_1 a0_2r a0_2i))
  | _ => none
theorem t_frame_Check : ROkM Try.prog false (18, pureM S_frame_Check) := ROkM.pure (N := 64) menv31_ok Try.func18 Try.call18 fun args o v h => by
  unfold S_frame_Check at h
  split at h
  · rename_i a0_0 a0_1 a0_2r a0_2i
    cases h
    exact ⟨rfl, rfl, _, e_frame_Check a0_0 a0_1 a0_2r a0_2i, fun _ => rfl⟩
  · cases h
noncomputable def mrs32 : List (FuncId × RFM) := (18, pureM S_frame_Check) :: mrs31
noncomputable def menv32 : EnvM := mkEnvM mxs mrs32 mws0
theorem mrs32_ok : All (ROkM Try.prog false) mrs32 := All.cons t_frame_Check mrs31_ok
theorem menv32_ok : menv32.Ok Try.prog false := mkEnvM_ok mxs_ok mrs32_ok mws0_ok
-- tumble/tumblelaw04.calm
noncomputable def s_law04_calm_0 (a0_0 : Nat) : Bool := (((fle 14010698440749613056 a0_0) && (fle a0_0 4787326403894837248)) && (((feq a0_0 0) || (fle 3256102530588868608 a0_0)) || (fle a0_0 12479474567443644416)))
theorem e_law04_calm (a0_0 : Nat) : outB (evFnM Try.prog false menv32 [] [] 64 Try.f30 [AV.float a0_0] []) = some ((true), AV.bool (s_law04_calm_0 a0_0)) := by kernel_rfl
noncomputable def S_law04_calm : List AV → Option (Ob × AV)
  | [AV.float a0_0] => some (Ob.tt, AV.bool (s_law04_calm_0 a0_0))
  | _ => none
theorem t_law04_calm : ROkM Try.prog false (30, pureM S_law04_calm) := ROkM.pure (N := 64) menv32_ok Try.func30 Try.call30 fun args o v h => by
  unfold S_law04_calm at h
  split at h
  · rename_i a0_0
    cases h
    exact ⟨rfl, rfl, _, e_law04_calm a0_0, fun _ => rfl⟩
  · cases h
noncomputable def mrs33 : List (FuncId × RFM) := (30, pureM S_law04_calm) :: mrs32
noncomputable def menv33 : EnvM := mkEnvM mxs mrs33 mws0
theorem mrs33_ok : All (ROkM Try.prog false) mrs33 := All.cons t_law04_calm mrs32_ok
theorem menv33_ok : menv33.Ok Try.prog false := mkEnvM_ok mxs_ok mrs33_ok mws0_ok
-- tumble/tumblelaw04.FrameTwice
noncomputable def T_law04_FrameTwice (a0_0 : Nat) (a0_1 : Nat) (a0_2 : Nat) (a0_3 : Nat) (a1_0 : Nat) (a1_1 : Nat) (a2_0 : Nat) (a3_0 : Nat) : Bool := let x0 : Nat := (s__law04_Bits__Frame_1 (Int.ofNat a0_0) (Int.ofNat a0_1) (Int.ofNat a0_2) (Int.ofNat a0_3)); let x1 : Nat := (s__law04_Bits__Frame_3 (Int.ofNat a0_0) (Int.ofNat a0_1) (Int.ofNat a0_2) (Int.ofNat a0_3)); let x2 : Nat := (s__law04_Bits__Frame_2 (Int.ofNat a0_0) (Int.ofNat a0_1) (Int.ofNat a0_2) (Int.ofNat a0_3)); let x3 : Nat := (s__law04_Bits__Frame_0 (Int.ofNat a0_0) (Int.ofNat a0_1) (Int.ofNat a0_2) (Int.ofNat a0_3)); let x4 : Nat := (s__law04_Place__Vec_1 (Int.ofNat a1_0) (Int.ofNat a1_1)); let x5 : Nat := (s__law04_Place__Vec_0 (Int.ofNat a1_0) (Int.ofNat a1_1)); let x6 : Nat := (s_frame_Move_3 0 0 x2 x1 x5 x4 (s_law04_f_0 (Int.ofNat a2_0)) (s_law04_f_0 (Int.ofNat a3_0))); let x7 : Nat := (s_frame_Move_2 0 0 x2 x1 x5 x4 (s_law04_f_0 (Int.ofNat a2_0)) (s_law04_f_0 (Int.ofNat a3_0))); let x8 : Nat := (fmul 4611686018427387904 x4); let x9 : Nat := (fmul 4611686018427387904 x5); let x10 : Nat := (fmul 4611686018427387904 (s_law04_f_0 (Int.ofNat a3_0))); let x11 : Nat := (fdiv (s_law04_f_0 (Int.ofNat a2_0)) 4611686018427387904); let x12 : Nat := (fdiv x4 4611686018427387904); let x13 : Nat := (fdiv x5 4611686018427387904); let x14 : Nat := (s_frame_Move_1 0 0 x2 x1 x5 x4 (s_law04_f_0 (Int.ofNat a2_0)) (s_law04_f_0 (Int.ofNat a3_0))); let x15 : Nat := (s_frame_Move_0 0 0 x2 x1 x5 x4 (s_law04_f_0 (Int.ofNat a2_0)) (s_law04_f_0 (Int.ofNat a3_0))); ((((((!(ieq (s_frame_Check_0 x3 x0 x2 x1) (0 : Int))) || (!(s_law04_calm_0 x5))) || (!(s_law04_calm_0 x4))) || (!(s_law04_calm_0 (s_law04_f_0 (Int.ofNat a2_0))))) || (!(s_law04_calm_0 (s_law04_f_0 (Int.ofNat a3_0))))) || ((((((feq (s_frame_Move_0 0 0 x2 x1 x9 x8 (s_law04_f_0 (Int.ofNat a2_0)) (s_law04_f_0 (Int.ofNat a3_0))) (fmul 4611686018427387904 x15)) && ((feq (s_frame_Move_1 0 0 x2 x1 x9 x8 (s_law04_f_0 (Int.ofNat a2_0)) (s_law04_f_0 (Int.ofNat a3_0))) (fmul 4611686018427387904 x14)) && true)) && (((feq (s_frame_Move_0 0 0 x2 x1 x13 x12 x11 x10) x15) && ((feq (s_frame_Move_1 0 0 x2 x1 x13 x12 x11 x10) x14) && true)) && (((feq (s_frame_Move_2 0 0 x2 x1 x13 x12 x11 x10) x7) && (feq (s_frame_Move_3 0 0 x2 x1 x13 x12 x11 x10) x6)) && true))) && ((feq (s_frame_Move_2 0 0 x2 x1 x9 x8 (s_law04_f_0 (Int.ofNat a2_0)) (s_law04_f_0 (Int.ofNat a3_0))) x7) && (feq (s_frame_Move_3 0 0 x2 x1 x9 x8 (s_law04_f_0 (Int.ofNat a2_0)) (s_law04_f_0 (Int.ofNat a3_0))) x6))) && (ieq (s_turn_Check_0 x7 x6) (0 : Int))) && ((feq (s_frame_Move_0 x3 x0 x2 x1 0 0 0 (s_law04_f_0 (Int.ofNat a3_0))) x3) && ((feq (s_frame_Move_1 x3 x0 x2 x1 0 0 0 (s_law04_f_0 (Int.ofNat a3_0))) x0) && true))))
noncomputable def O_law04_FrameTwice (a0_0 : Nat) (a0_1 : Nat) (a0_2 : Nat) (a0_3 : Nat) (a1_0 : Nat) (a1_1 : Nat) (a2_0 : Nat) (a3_0 : Nat) : Bool := let x0 : Bool := ((u64ok (Int.ofNat a0_3)) && ((u64ok (Int.ofNat a0_2)) && ((u64ok (Int.ofNat a0_1)) && (u64ok (Int.ofNat a0_0))))); let x1 : Bool := ((u64ok (Int.ofNat a3_0)) && ((u64ok (Int.ofNat a2_0)) && (((u64ok (Int.ofNat a1_1)) && (u64ok (Int.ofNat a1_0))) && (x0 && x0)))); let x2 : Nat := (s__law04_Bits__Frame_3 (Int.ofNat a0_0) (Int.ofNat a0_1) (Int.ofNat a0_2) (Int.ofNat a0_3)); let x3 : Nat := (s__law04_Bits__Frame_2 (Int.ofNat a0_0) (Int.ofNat a0_1) (Int.ofNat a0_2) (Int.ofNat a0_3)); let x4 : Bool := (!(ieq (s_frame_Check_0 (s__law04_Bits__Frame_0 (Int.ofNat a0_0) (Int.ofNat a0_1) (Int.ofNat a0_2) (Int.ofNat a0_3)) (s__law04_Bits__Frame_1 (Int.ofNat a0_0) (Int.ofNat a0_1) (Int.ofNat a0_2) (Int.ofNat a0_3)) x3 x2) (0 : Int))); let x5 : Bool := (bif x4 then x1 else x1); let x6 : Nat := (s__law04_Place__Vec_0 (Int.ofNat a1_0) (Int.ofNat a1_1)); let x7 : Bool := (x4 || (!(s_law04_calm_0 x6))); let x8 : Bool := (bif x7 then x5 else x5); let x9 : Nat := (s__law04_Place__Vec_1 (Int.ofNat a1_0) (Int.ofNat a1_1)); let x10 : Bool := (x7 || (!(s_law04_calm_0 x9))); let x11 : Bool := (bif x10 then x8 else x8); let x12 : Bool := (x10 || (!(s_law04_calm_0 (s_law04_f_0 (Int.ofNat a2_0))))); let x13 : Bool := (bif x12 then x11 else x11); let x14 : Nat := (s_frame_Move_1 0 0 x3 x2 x6 x9 (s_law04_f_0 (Int.ofNat a2_0)) (s_law04_f_0 (Int.ofNat a3_0))); let x15 : Nat := (fmul 4611686018427387904 x9); let x16 : Nat := (fmul 4611686018427387904 x6); let x17 : Nat := (s_frame_Move_0 0 0 x3 x2 x6 x9 (s_law04_f_0 (Int.ofNat a2_0)) (s_law04_f_0 (Int.ofNat a3_0))); let x18 : Bool := ((feq (s_frame_Move_0 0 0 x3 x2 x16 x15 (s_law04_f_0 (Int.ofNat a2_0)) (s_law04_f_0 (Int.ofNat a3_0))) (fmul 4611686018427387904 x17)) && ((feq (s_frame_Move_1 0 0 x3 x2 x16 x15 (s_law04_f_0 (Int.ofNat a2_0)) (s_law04_f_0 (Int.ofNat a3_0))) (fmul 4611686018427387904 x14)) && true)); let x19 : Bool := (bif x18 then x13 else x13); let x20 : Nat := (s_frame_Move_3 0 0 x3 x2 x6 x9 (s_law04_f_0 (Int.ofNat a2_0)) (s_law04_f_0 (Int.ofNat a3_0))); let x21 : Nat := (fmul 4611686018427387904 (s_law04_f_0 (Int.ofNat a3_0))); let x22 : Nat := (fdiv (s_law04_f_0 (Int.ofNat a2_0)) 4611686018427387904); let x23 : Nat := (fdiv x9 4611686018427387904); let x24 : Nat := (fdiv x6 4611686018427387904); let x25 : Nat := (s_frame_Move_2 0 0 x3 x2 x6 x9 (s_law04_f_0 (Int.ofNat a2_0)) (s_law04_f_0 (Int.ofNat a3_0))); let x26 : Bool := (x18 && (((feq (s_frame_Move_0 0 0 x3 x2 x24 x23 x22 x21) x17) && ((feq (s_frame_Move_1 0 0 x3 x2 x24 x23 x22 x21) x14) && true)) && (((feq (s_frame_Move_2 0 0 x3 x2 x24 x23 x22 x21) x25) && (feq (s_frame_Move_3 0 0 x3 x2 x24 x23 x22 x21) x20)) && true))); let x27 : Bool := (bif x26 then x19 else x19); let x28 : Bool := (x26 && ((feq (s_frame_Move_2 0 0 x3 x2 x16 x15 (s_law04_f_0 (Int.ofNat a2_0)) (s_law04_f_0 (Int.ofNat a3_0))) x25) && (feq (s_frame_Move_3 0 0 x3 x2 x16 x15 (s_law04_f_0 (Int.ofNat a2_0)) (s_law04_f_0 (Int.ofNat a3_0))) x20))); let x29 : Bool := (bif x28 then x27 else x27); (bif (x12 || (!(s_law04_calm_0 (s_law04_f_0 (Int.ofNat a3_0))))) then x13 else (bif (x28 && (ieq (s_turn_Check_0 x25 x20) (0 : Int))) then x29 else x29))
theorem tree_law04_FrameTwice (a0_0 : Nat) (a0_1 : Nat) (a0_2 : Nat) (a0_3 : Nat) (a1_0 : Nat) (a1_1 : Nat) (a2_0 : Nat) (a3_0 : Nat) : outB (evFnM Try.prog false menv33 [] [] 64 Try.f7 [AV.agg [.int .u64 (Int.ofNat a0_0), .int .u64 (Int.ofNat a0_1), .int .u64 (Int.ofNat a0_2), .int .u64 (Int.ofNat a0_3)], AV.agg [.int .u64 (Int.ofNat a1_0), .int .u64 (Int.ofNat a1_1)], AV.int .u64 (Int.ofNat a2_0), AV.int .u64 (Int.ofNat a3_0)] []) = some (O_law04_FrameTwice a0_0 a0_1 a0_2 a0_3 a1_0 a1_1 a2_0 a3_0, AV.bool (T_law04_FrameTwice a0_0 a0_1 a0_2 a0_3 a1_0 a1_1 a2_0 a3_0)) := by kernel_rfl

end Go.Proofs.Ytefmihgjheokeaa
