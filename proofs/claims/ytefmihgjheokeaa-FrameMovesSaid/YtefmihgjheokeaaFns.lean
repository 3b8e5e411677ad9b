/- The contracts of the functions that these laws reach, printed by a program of this work: each says what the Go function gives, up to which NaN. -/
import Derived.Test.YtefmihgjheokeaaProg
import Derived.KernelRfl
import Derived.Test.YtefmihgjheokeaaSimExact
set_option linter.unusedVariables false
set_option linter.unusedSimpArgs false
namespace Go.Proofs.Ytefmihgjheokeaa
open Go.Sim
noncomputable def xs : List (FuncId × XF) := [(64, xF false .frombits), (67, xF false .tobits), (82, xF false .sqrt)]
noncomputable def xxs : List (FuncId × XF) := [(64, xF true .frombits), (67, xF true .tobits), (82, xF true .sqrt)]
noncomputable def xenv : Env := mkEnv xxs [] []
theorem xxs_ok : All (XOk Try.prog true) xxs := All.cons (x_ok (f := 64) .frombits fun args w => run_callFunc_extern Try.func64 (by kernel_rfl) (by kernel_rfl) (by kernel_rfl) (by kernel_rfl) args w)
  (All.cons (x_ok (f := 67) .tobits fun args w => run_callFunc_extern Try.func67 (by kernel_rfl) (by kernel_rfl) (by kernel_rfl) (by kernel_rfl) args w)
  (All.cons (x_ok (f := 82) .sqrt fun args w => run_callFunc_extern Try.func82 (by kernel_rfl) (by kernel_rfl) (by kernel_rfl) (by kernel_rfl) args w)
  (All.nil)))
theorem xenv_ok : xenv.Ok Try.prog true := mkEnv_ok xxs_ok All.nil All.nil
theorem xs_ok : All (XOk Try.prog false) xs := All.cons (x_ok (f := 64) .frombits fun args w => run_callFunc_extern Try.func64 (by kernel_rfl) (by kernel_rfl) (by kernel_rfl) (by kernel_rfl) args w)
  (All.cons (x_ok (f := 67) .tobits fun args w => run_callFunc_extern Try.func67 (by kernel_rfl) (by kernel_rfl) (by kernel_rfl) (by kernel_rfl) args w)
  (All.cons (x_ok (f := 82) .sqrt fun args w => run_callFunc_extern Try.func82 (by kernel_rfl) (by kernel_rfl) (by kernel_rfl) (by kernel_rfl) args w)
  (All.nil)))
noncomputable def rs0 : List (FuncId × RF) := []
noncomputable def ws0 : List (FuncId × WF) := []
noncomputable def env0 : Env := mkEnv xs rs0 ws0
theorem rs0_ok : All (ROk Try.prog false) rs0 := All.nil
theorem ws0_ok : All (WOk Try.prog false) ws0 := All.nil
theorem env0_ok : env0.Ok Try.prog false := mkEnv_ok xs_ok rs0_ok ws0_ok
-- tumble/tumblelaw04.f
noncomputable def rs1 : List (FuncId × RF) := (27, inlR Try.prog false env0 64 Try.f27) :: rs0
noncomputable def env1 : Env := mkEnv xs rs1 ws0
theorem rs1_ok : All (ROk Try.prog false) rs1 := All.cons (ROk.inl env0_ok Try.func27 Try.call27) rs0_ok
theorem env1_ok : env1.Ok Try.prog false := mkEnv_ok xs_ok rs1_ok ws0_ok
-- (tumble/tumblelaw04.Place).Vec
noncomputable def rs2 : List (FuncId × RF) := (17, inlR Try.prog false env1 64 Try.f17) :: rs1
noncomputable def env2 : Env := mkEnv xs rs2 ws0
theorem rs2_ok : All (ROk Try.prog false) rs2 := All.cons (ROk.inl env1_ok Try.func17 Try.call17) rs1_ok
theorem env2_ok : env2.Ok Try.prog false := mkEnv_ok xs_ok rs2_ok ws0_ok
-- (tumble/tumblelaw04.Bits).Frame
noncomputable def rs3 : List (FuncId × RF) := (9, inlR Try.prog false env2 64 Try.f9) :: rs2
noncomputable def env3 : Env := mkEnv xs rs3 ws0
theorem rs3_ok : All (ROk Try.prog false) rs3 := All.cons (ROk.inl env2_ok Try.func9 Try.call9) rs2_ok
theorem env3_ok : env3.Ok Try.prog false := mkEnv_ok xs_ok rs3_ok ws0_ok
-- tumble/turn.Apply
noncomputable def s_turn_Apply_0 (a0_0r : Nat) (a0_0i : Nat) (a1_0 : Nat) (a1_1 : Nat) : Nat := fsub (fmul a0_0r a1_0) (fmul a0_0i a1_1)
noncomputable def s_turn_Apply_1 (a0_0r : Nat) (a0_0i : Nat) (a1_0 : Nat) (a1_1 : Nat) : Nat := fadd (fmul a0_0i a1_0) (fmul a0_0r a1_1)
noncomputable def S_turn_Apply : List AV → Option AV
  | [AV.complex a0_0r a0_0i, AV.agg [.float a1_0, .float a1_1]] => some (AV.agg [AV.float (s_turn_Apply_0 a0_0r a0_0i a1_0 a1_1), AV.float (s_turn_Apply_1 a0_0r a0_0i a1_0 a1_1)])
  | _ => none
theorem t_turn_Apply : ROk Try.prog false (79, pureF S_turn_Apply) := ROk.pure (N := 64) env3_ok Try.func79 Try.call79 fun args v h => by
  unfold S_turn_Apply at h
  split at h
  · rename_i a0_0r a0_0i a1_0 a1_1
    cases h
    exact ⟨rfl, rfl, by kernel_rfl⟩
  · cases h
noncomputable def rs4 : List (FuncId × RF) := (79, pureF S_turn_Apply) :: rs3
noncomputable def env4 : Env := mkEnv xs rs4 ws0
theorem rs4_ok : All (ROk Try.prog false) rs4 := All.cons t_turn_Apply rs3_ok
theorem env4_ok : env4.Ok Try.prog false := mkEnv_ok xs_ok rs4_ok ws0_ok
-- (tumble/frame.turned).apply
noncomputable def s__frame_turned__apply_0 (a0_0r : Nat) (a0_0i : Nat) (a1_0 : Nat) (a1_1 : Nat) : Nat := s_turn_Apply_0 a0_0r a0_0i a1_0 a1_1
noncomputable def s__frame_turned__apply_1 (a0_0r : Nat) (a0_0i : Nat) (a1_0 : Nat) (a1_1 : Nat) : Nat := s_turn_Apply_1 a0_0r a0_0i a1_0 a1_1
noncomputable def S__frame_turned__apply : List AV → Option AV
  | [AV.complex a0_0r a0_0i, AV.agg [.float a1_0, .float a1_1]] => some (AV.agg [AV.float (s__frame_turned__apply_0 a0_0r a0_0i a1_0 a1_1), AV.float (s__frame_turned__apply_1 a0_0r a0_0i a1_0 a1_1)])
  | _ => none
theorem t__frame_turned__apply : ROk Try.prog false (55, pureF S__frame_turned__apply) := ROk.pure (N := 64) env4_ok Try.func55 Try.call55 fun args v h => by
  unfold S__frame_turned__apply at h
  split at h
  · rename_i a0_0r a0_0i a1_0 a1_1
    cases h
    exact ⟨rfl, rfl, by kernel_rfl⟩
  · cases h
noncomputable def rs5 : List (FuncId × RF) := (55, pureF S__frame_turned__apply) :: rs4
noncomputable def env5 : Env := mkEnv xs rs5 ws0
theorem rs5_ok : All (ROk Try.prog false) rs5 := All.cons t__frame_turned__apply rs4_ok
theorem env5_ok : env5.Ok Try.prog false := mkEnv_ok xs_ok rs5_ok ws0_ok
-- tumble/vec.Add
noncomputable def s_vec_Add_0 (a0_0 : Nat) (a0_1 : Nat) (a1_0 : Nat) (a1_1 : Nat) : Nat := fadd a0_0 a1_0
noncomputable def s_vec_Add_1 (a0_0 : Nat) (a0_1 : Nat) (a1_0 : Nat) (a1_1 : Nat) : Nat := fadd a0_1 a1_1
noncomputable def S_vec_Add : List AV → Option AV
  | [AV.agg [.float a0_0, .float a0_1], AV.agg [.float a1_0, .float a1_1]] => some (AV.agg [AV.float (s_vec_Add_0 a0_0 a0_1 a1_0 a1_1), AV.float (s_vec_Add_1 a0_0 a0_1 a1_0 a1_1)])
  | _ => none
theorem t_vec_Add : ROk Try.prog false (56, pureF S_vec_Add) := ROk.pure (N := 64) env5_ok Try.func56 Try.call56 fun args v h => by
  unfold S_vec_Add at h
  split at h
  · rename_i a0_0 a0_1 a1_0 a1_1
    cases h
    exact ⟨rfl, rfl, by kernel_rfl⟩
  · cases h
noncomputable def rs6 : List (FuncId × RF) := (56, pureF S_vec_Add) :: rs5
noncomputable def env6 : Env := mkEnv xs rs6 ws0
theorem rs6_ok : All (ROk Try.prog false) rs6 := All.cons t_vec_Add rs5_ok
theorem env6_ok : env6.Ok Try.prog false := mkEnv_ok xs_ok rs6_ok ws0_ok
-- tumble/frame.To
noncomputable def s_frame_To_0 (a0_0 : Nat) (a0_1 : Nat) (a0_2r : Nat) (a0_2i : Nat) (a1_0 : Nat) (a1_1 : Nat) : Nat := s_vec_Add_0 a0_0 a0_1 (s__frame_turned__apply_0 a0_2r a0_2i a1_0 a1_1) (s__frame_turned__apply_1 a0_2r a0_2i a1_0 a1_1)
noncomputable def s_frame_To_1 (a0_0 : Nat) (a0_1 : Nat) (a0_2r : Nat) (a0_2i : Nat) (a1_0 : Nat) (a1_1 : Nat) : Nat := s_vec_Add_1 a0_0 a0_1 (s__frame_turned__apply_0 a0_2r a0_2i a1_0 a1_1) (s__frame_turned__apply_1 a0_2r a0_2i a1_0 a1_1)
noncomputable def S_frame_To : List AV → Option AV
  | [AV.agg [.float a0_0, .float a0_1, .complex a0_2r a0_2i], AV.agg [.float a1_0, .float a1_1]] => some (AV.agg [AV.float (s_frame_To_0 a0_0 a0_1 a0_2r a0_2i a1_0 a1_1), AV.float (s_frame_To_1 a0_0 a0_1 a0_2r a0_2i a1_0 a1_1)])
  | _ => none
theorem t_frame_To : ROk Try.prog false (22, pureF S_frame_To) := ROk.pure (N := 64) env6_ok Try.func22 Try.call22 fun args v h => by
  unfold S_frame_To at h
  split at h
  · rename_i a0_0 a0_1 a0_2r a0_2i a1_0 a1_1
    cases h
    exact ⟨rfl, rfl, by kernel_rfl⟩
  · cases h
noncomputable def rs7 : List (FuncId × RF) := (22, pureF S_frame_To) :: rs6
noncomputable def env7 : Env := mkEnv xs rs7 ws0
theorem rs7_ok : All (ROk Try.prog false) rs7 := All.cons t_frame_To rs6_ok
theorem env7_ok : env7.Ok Try.prog false := mkEnv_ok xs_ok rs7_ok ws0_ok
-- tumble/turn.Then
noncomputable def s_turn_Then_0 (a0_0r : Nat) (a0_0i : Nat) (a1_0r : Nat) (a1_0i : Nat) : Nat := fsub (fmul a0_0r a1_0r) (fmul a0_0i a1_0i)
noncomputable def s_turn_Then_1 (a0_0r : Nat) (a0_0i : Nat) (a1_0r : Nat) (a1_0i : Nat) : Nat := fadd (fmul a0_0r a1_0i) (fmul a0_0i a1_0r)
noncomputable def S_turn_Then : List AV → Option AV
  | [AV.complex a0_0r a0_0i, AV.complex a1_0r a1_0i] => some (AV.complex (s_turn_Then_0 a0_0r a0_0i a1_0r a1_0i) (s_turn_Then_1 a0_0r a0_0i a1_0r a1_0i))
  | _ => none
theorem t_turn_Then : ROk Try.prog false (40, pureF S_turn_Then) := ROk.pure (N := 64) env7_ok Try.func40 Try.call40 fun args v h => by
  unfold S_turn_Then at h
  split at h
  · rename_i a0_0r a0_0i a1_0r a1_0i
    cases h
    exact ⟨rfl, rfl, by kernel_rfl⟩
  · cases h
noncomputable def rs8 : List (FuncId × RF) := (40, pureF S_turn_Then) :: rs7
noncomputable def env8 : Env := mkEnv xs rs8 ws0
theorem rs8_ok : All (ROk Try.prog false) rs8 := All.cons t_turn_Then rs7_ok
theorem env8_ok : env8.Ok Try.prog false := mkEnv_ok xs_ok rs8_ok ws0_ok
-- tumble/frame.Then
noncomputable def s_frame_Then_0 (a0_0 : Nat) (a0_1 : Nat) (a0_2r : Nat) (a0_2i : Nat) (a1_0 : Nat) (a1_1 : Nat) (a1_2r : Nat) (a1_2i : Nat) : Nat := s_frame_To_0 a0_0 a0_1 a0_2r a0_2i a1_0 a1_1
noncomputable def s_frame_Then_1 (a0_0 : Nat) (a0_1 : Nat) (a0_2r : Nat) (a0_2i : Nat) (a1_0 : Nat) (a1_1 : Nat) (a1_2r : Nat) (a1_2i : Nat) : Nat := s_frame_To_1 a0_0 a0_1 a0_2r a0_2i a1_0 a1_1
noncomputable def s_frame_Then_2 (a0_0 : Nat) (a0_1 : Nat) (a0_2r : Nat) (a0_2i : Nat) (a1_0 : Nat) (a1_1 : Nat) (a1_2r : Nat) (a1_2i : Nat) : Nat := s_turn_Then_0 a1_2r a1_2i a0_2r a0_2i
noncomputable def s_frame_Then_3 (a0_0 : Nat) (a0_1 : Nat) (a0_2r : Nat) (a0_2i : Nat) (a1_0 : Nat) (a1_1 : Nat) (a1_2r : Nat) (a1_2i : Nat) : Nat := s_turn_Then_1 a1_2r a1_2i a0_2r a0_2i
noncomputable def S_frame_Then : List AV → Option AV
  | [AV.agg [.float a0_0, .float a0_1, .complex a0_2r a0_2i], AV.agg [.float a1_0, .float a1_1, .complex a1_2r a1_2i]] => some (AV.agg [AV.float (s_frame_Then_0 a0_0 a0_1 a0_2r a0_2i a1_0 a1_1 a1_2r a1_2i), AV.float (s_frame_Then_1 a0_0 a0_1 a0_2r a0_2i a1_0 a1_1 a1_2r a1_2i), AV.complex (s_frame_Then_2 a0_0 a0_1 a0_2r a0_2i a1_0 a1_1 a1_2r a1_2i) (s_frame_Then_3 a0_0 a0_1 a0_2r a0_2i a1_0 a1_1 a1_2r a1_2i)])
  | _ => none
theorem t_frame_Then : ROk Try.prog false (11, pureF S_frame_Then) := ROk.pure (N := 64) env8_ok Try.func11 Try.call11 fun args v h => by
  unfold S_frame_Then at h
  split at h
  · rename_i a0_0 a0_1 a0_2r a0_2i a1_0 a1_1 a1_2r a1_2i
    cases h
    exact ⟨rfl, rfl, by kernel_rfl⟩
  · cases h
noncomputable def rs9 : List (FuncId × RF) := (11, pureF S_frame_Then) :: rs8
noncomputable def env9 : Env := mkEnv xs rs9 ws0
theorem rs9_ok : All (ROk Try.prog false) rs9 := All.cons t_frame_Then rs8_ok
theorem env9_ok : env9.Ok Try.prog false := mkEnv_ok xs_ok rs9_ok ws0_ok
-- tumble/tumbleref03.Apply
noncomputable def s_ref03_Apply_0 (a0_0r : Nat) (a0_0i : Nat) (a1_0 : Nat) (a1_1 : Nat) : Nat := fsub (fmul a0_0r a1_0) (fmul a0_0i a1_1)
noncomputable def s_ref03_Apply_1 (a0_0r : Nat) (a0_0i : Nat) (a1_0 : Nat) (a1_1 : Nat) : Nat := fadd (fmul a0_0i a1_0) (fmul a0_0r a1_1)
noncomputable def S_ref03_Apply : List AV → Option AV
  | [AV.complex a0_0r a0_0i, AV.agg [.float a1_0, .float a1_1]] => some (AV.agg [AV.float (s_ref03_Apply_0 a0_0r a0_0i a1_0 a1_1), AV.float (s_ref03_Apply_1 a0_0r a0_0i a1_0 a1_1)])
  | _ => none
theorem t_ref03_Apply : ROk Try.prog false (58, pureF S_ref03_Apply) := ROk.pure (N := 64) env9_ok Try.func58 Try.call58 fun args v h => by
  unfold S_ref03_Apply at h
  split at h
  · rename_i a0_0r a0_0i a1_0 a1_1
    cases h
    exact ⟨rfl, rfl, by kernel_rfl⟩
  · cases h
noncomputable def rs10 : List (FuncId × RF) := (58, pureF S_ref03_Apply) :: rs9
noncomputable def env10 : Env := mkEnv xs rs10 ws0
theorem rs10_ok : All (ROk Try.prog false) rs10 := All.cons t_ref03_Apply rs9_ok
theorem env10_ok : env10.Ok Try.prog false := mkEnv_ok xs_ok rs10_ok ws0_ok
-- tumble/tumbleref04.plus
noncomputable def s_ref04_plus_0 (a0_0 : Nat) (a0_1 : Nat) (a1_0 : Nat) (a1_1 : Nat) : Nat := fadd a0_0 a1_0
noncomputable def s_ref04_plus_1 (a0_0 : Nat) (a0_1 : Nat) (a1_0 : Nat) (a1_1 : Nat) : Nat := fadd a0_1 a1_1
noncomputable def S_ref04_plus : List AV → Option AV
  | [AV.agg [.float a0_0, .float a0_1], AV.agg [.float a1_0, .float a1_1]] => some (AV.agg [AV.float (s_ref04_plus_0 a0_0 a0_1 a1_0 a1_1), AV.float (s_ref04_plus_1 a0_0 a0_1 a1_0 a1_1)])
  | _ => none
theorem t_ref04_plus : ROk Try.prog false (57, pureF S_ref04_plus) := ROk.pure (N := 64) env10_ok Try.func57 Try.call57 fun args v h => by
  unfold S_ref04_plus at h
  split at h
  · rename_i a0_0 a0_1 a1_0 a1_1
    cases h
    exact ⟨rfl, rfl, by kernel_rfl⟩
  · cases h
noncomputable def rs11 : List (FuncId × RF) := (57, pureF S_ref04_plus) :: rs10
noncomputable def env11 : Env := mkEnv xs rs11 ws0
theorem rs11_ok : All (ROk Try.prog false) rs11 := All.cons t_ref04_plus rs10_ok
theorem env11_ok : env11.Ok Try.prog false := mkEnv_ok xs_ok rs11_ok ws0_ok
-- tumble/tumbleref04.To
noncomputable def s_ref04_To_0 (a0_0 : Nat) (a0_1 : Nat) (a0_2r : Nat) (a0_2i : Nat) (a1_0 : Nat) (a1_1 : Nat) : Nat := s_ref04_plus_0 a0_0 a0_1 (s_ref03_Apply_0 a0_2r a0_2i a1_0 a1_1) (s_ref03_Apply_1 a0_2r a0_2i a1_0 a1_1)
noncomputable def s_ref04_To_1 (a0_0 : Nat) (a0_1 : Nat) (a0_2r : Nat) (a0_2i : Nat) (a1_0 : Nat) (a1_1 : Nat) : Nat := s_ref04_plus_1 a0_0 a0_1 (s_ref03_Apply_0 a0_2r a0_2i a1_0 a1_1) (s_ref03_Apply_1 a0_2r a0_2i a1_0 a1_1)
noncomputable def S_ref04_To : List AV → Option AV
  | [AV.agg [.float a0_0, .float a0_1, .complex a0_2r a0_2i], AV.agg [.float a1_0, .float a1_1]] => some (AV.agg [AV.float (s_ref04_To_0 a0_0 a0_1 a0_2r a0_2i a1_0 a1_1), AV.float (s_ref04_To_1 a0_0 a0_1 a0_2r a0_2i a1_0 a1_1)])
  | _ => none
theorem t_ref04_To : ROk Try.prog false (23, pureF S_ref04_To) := ROk.pure (N := 64) env11_ok Try.func23 Try.call23 fun args v h => by
  unfold S_ref04_To at h
  split at h
  · rename_i a0_0 a0_1 a0_2r a0_2i a1_0 a1_1
    cases h
    exact ⟨rfl, rfl, by kernel_rfl⟩
  · cases h
noncomputable def rs12 : List (FuncId × RF) := (23, pureF S_ref04_To) :: rs11
noncomputable def env12 : Env := mkEnv xs rs12 ws0
theorem rs12_ok : All (ROk Try.prog false) rs12 := All.cons t_ref04_To rs11_ok
theorem env12_ok : env12.Ok Try.prog false := mkEnv_ok xs_ok rs12_ok ws0_ok
-- tumble/tumbleref03.Then
noncomputable def s_ref03_Then_0 (a0_0r : Nat) (a0_0i : Nat) (a1_0r : Nat) (a1_0i : Nat) : Nat := fsub (fmul a0_0r a1_0r) (fmul a0_0i a1_0i)
noncomputable def s_ref03_Then_1 (a0_0r : Nat) (a0_0i : Nat) (a1_0r : Nat) (a1_0i : Nat) : Nat := fadd (fmul a0_0r a1_0i) (fmul a0_0i a1_0r)
noncomputable def S_ref03_Then : List AV → Option AV
  | [AV.complex a0_0r a0_0i, AV.complex a1_0r a1_0i] => some (AV.complex (s_ref03_Then_0 a0_0r a0_0i a1_0r a1_0i) (s_ref03_Then_1 a0_0r a0_0i a1_0r a1_0i))
  | _ => none
theorem t_ref03_Then : ROk Try.prog false (41, pureF S_ref03_Then) := ROk.pure (N := 64) env12_ok Try.func41 Try.call41 fun args v h => by
  unfold S_ref03_Then at h
  split at h
  · rename_i a0_0r a0_0i a1_0r a1_0i
    cases h
    exact ⟨rfl, rfl, by kernel_rfl⟩
  · cases h
noncomputable def rs13 : List (FuncId × RF) := (41, pureF S_ref03_Then) :: rs12
noncomputable def env13 : Env := mkEnv xs rs13 ws0
theorem rs13_ok : All (ROk Try.prog false) rs13 := All.cons t_ref03_Then rs12_ok
theorem env13_ok : env13.Ok Try.prog false := mkEnv_ok xs_ok rs13_ok ws0_ok
-- tumble/tumbleref04.Then
noncomputable def s_ref04_Then_0 (a0_0 : Nat) (a0_1 : Nat) (a0_2r : Nat) (a0_2i : Nat) (a1_0 : Nat) (a1_1 : Nat) (a1_2r : Nat) (a1_2i : Nat) : Nat := s_ref04_To_0 a0_0 a0_1 a0_2r a0_2i a1_0 a1_1
noncomputable def s_ref04_Then_1 (a0_0 : Nat) (a0_1 : Nat) (a0_2r : Nat) (a0_2i : Nat) (a1_0 : Nat) (a1_1 : Nat) (a1_2r : Nat) (a1_2i : Nat) : Nat := s_ref04_To_1 a0_0 a0_1 a0_2r a0_2i a1_0 a1_1
noncomputable def s_ref04_Then_2 (a0_0 : Nat) (a0_1 : Nat) (a0_2r : Nat) (a0_2i : Nat) (a1_0 : Nat) (a1_1 : Nat) (a1_2r : Nat) (a1_2i : Nat) : Nat := s_ref03_Then_0 a1_2r a1_2i a0_2r a0_2i
noncomputable def s_ref04_Then_3 (a0_0 : Nat) (a0_1 : Nat) (a0_2r : Nat) (a0_2i : Nat) (a1_0 : Nat) (a1_1 : Nat) (a1_2r : Nat) (a1_2i : Nat) : Nat := s_ref03_Then_1 a1_2r a1_2i a0_2r a0_2i
noncomputable def S_ref04_Then : List AV → Option AV
  | [AV.agg [.float a0_0, .float a0_1, .complex a0_2r a0_2i], AV.agg [.float a1_0, .float a1_1, .complex a1_2r a1_2i]] => some (AV.agg [AV.float (s_ref04_Then_0 a0_0 a0_1 a0_2r a0_2i a1_0 a1_1 a1_2r a1_2i), AV.float (s_ref04_Then_1 a0_0 a0_1 a0_2r a0_2i a1_0 a1_1 a1_2r a1_2i), AV.complex (s_ref04_Then_2 a0_0 a0_1 a0_2r a0_2i a1_0 a1_1 a1_2r a1_2i) (s_ref04_Then_3 a0_0 a0_1 a0_2r a0_2i a1_0 a1_1 a1_2r a1_2i)])
  | _ => none
theorem t_ref04_Then : ROk Try.prog false (12, pureF S_ref04_Then) := ROk.pure (N := 64) env13_ok Try.func12 Try.call12 fun args v h => by
  unfold S_ref04_Then at h
  split at h
  · rename_i a0_0 a0_1 a0_2r a0_2i a1_0 a1_1 a1_2r a1_2i
    cases h
    exact ⟨rfl, rfl, by kernel_rfl⟩
  · cases h
noncomputable def rs14 : List (FuncId × RF) := (12, pureF S_ref04_Then) :: rs13
noncomputable def env14 : Env := mkEnv xs rs14 ws0
theorem rs14_ok : All (ROk Try.prog false) rs14 := All.cons t_ref04_Then rs13_ok
theorem env14_ok : env14.Ok Try.prog false := mkEnv_ok xs_ok rs14_ok ws0_ok
-- tumble/tumbleref01.None
noncomputable def S_ref01_None : List AV → Option AV
  | [AV.float a] => some (AV.bool (nanb a))
  | _ => none
theorem t_ref01_None : ROk Try.prog false (78, pureF S_ref01_None) := exact1b (N := 64) xenv_ok Try.func78 Try.call78 nanb (fun args v h => by
    unfold S_ref01_None at h
    split at h
    · cases h; exact ⟨_, rfl, rfl⟩
    · cases h) fun b hb => by refine Eq.trans ?_ (none_tree hb); kernel_rfl
noncomputable def rs15 : List (FuncId × RF) := (78, pureF S_ref01_None) :: rs14
noncomputable def env15 : Env := mkEnv xs rs15 ws0
theorem rs15_ok : All (ROk Try.prog false) rs15 := All.cons t_ref01_None rs14_ok
theorem env15_ok : env15.Ok Try.prog false := mkEnv_ok xs_ok rs15_ok ws0_ok
-- tumble/tumbleref01.Same
noncomputable def s_ref01_Same_0 (a0_0 : Nat) (a1_0 : Nat) : Bool := bif !nanb a0_0 then bif nanb a1_0 then nanb a0_0 && nanb a1_0 else ieq (↑a0_0 : Int) (↑a1_0 : Int) else nanb a0_0 && nanb a1_0
noncomputable def S_ref01_Same : List AV → Option AV
  | [AV.float a0_0, AV.float a1_0] => some (AV.bool (s_ref01_Same_0 a0_0 a1_0))
  | _ => none
theorem t_ref01_Same : ROk Try.prog false (54, pureF S_ref01_Same) := ROk.pure (N := 64) env15_ok Try.func54 Try.call54 fun args v h => by
  unfold S_ref01_Same at h
  split at h
  · rename_i a0_0 a1_0
    cases h
    refine ⟨rfl, rfl, ?_⟩
    rw [show evFn Try.prog false env15 64 Try.f54 [AV.float a0_0, AV.float a1_0] [] endP = bif !nanb a0_0 then bif nanb a1_0 then bif nanb a0_0 then endP (AV.bool (nanb a1_0)) [] else endP (AV.bool false) [] else bif !nanb a0_0 then bif !nanb a1_0 then endP (AV.bool (ieq (↑a0_0 : Int) (↑a1_0 : Int))) [] else none else none else bif nanb a0_0 then endP (AV.bool (nanb a1_0)) [] else endP (AV.bool false) [] from by kernel_rfl]
    refine node_eq (fun h0 => ?_) (fun h0 => ?_)
    · skip
      refine node_eq (fun h1 => ?_) (fun h1 => ?_)
      · skip
        refine node_eq (fun h2 => ?_) (fun h2 => ?_)
        · skip
          first | (simp only [endP, s_ref01_Same_0, h2, h1, h0]; done) | (simp only [endP, s_ref01_Same_0, h2, h1, h0]; rfl) | (simp only [endP, s_ref01_Same_0, h2, h1, h0, cond_true, cond_false, Bool.true_and, Bool.false_and, Bool.and_true, Bool.and_false, Bool.true_or, Bool.false_or, Bool.or_true, Bool.or_false, Bool.not_true, Bool.not_false]; done) | (simp_all; done) | simp_all [feq_self, endP, s_ref01_Same_0]
        · skip
          first | (simp only [endP, s_ref01_Same_0, h2, h1, h0]; done) | (simp only [endP, s_ref01_Same_0, h2, h1, h0]; rfl) | (simp only [endP, s_ref01_Same_0, h2, h1, h0, cond_true, cond_false, Bool.true_and, Bool.false_and, Bool.and_true, Bool.and_false, Bool.true_or, Bool.false_or, Bool.or_true, Bool.or_false, Bool.not_true, Bool.not_false]; done) | (simp_all; done) | simp_all [feq_self, endP, s_ref01_Same_0]
      · skip
        refine node_eq (fun h2 => ?_) (fun h2 => ?_)
        · skip
          refine node_eq (fun h3 => ?_) (fun h3 => ?_)
          · skip
            first | (simp only [endP, s_ref01_Same_0, h3, h2, h1, h0]; done) | (simp only [endP, s_ref01_Same_0, h3, h2, h1, h0]; rfl) | (simp only [endP, s_ref01_Same_0, h3, h2, h1, h0, cond_true, cond_false, Bool.true_and, Bool.false_and, Bool.and_true, Bool.and_false, Bool.true_or, Bool.false_or, Bool.or_true, Bool.or_false, Bool.not_true, Bool.not_false]; done) | (simp_all; done) | simp_all [feq_self, endP, s_ref01_Same_0]
          · skip
            first | (simp_all; done) | simp_all [feq_self]
        · skip
          first | (simp_all; done) | simp_all [feq_self]
    · skip
      refine node_eq (fun h1 => ?_) (fun h1 => ?_)
      · skip
        first | (simp only [endP, s_ref01_Same_0, h1, h0]; done) | (simp only [endP, s_ref01_Same_0, h1, h0]; rfl) | (simp only [endP, s_ref01_Same_0, h1, h0, cond_true, cond_false, Bool.true_and, Bool.false_and, Bool.and_true, Bool.and_false, Bool.true_or, Bool.false_or, Bool.or_true, Bool.or_false, Bool.not_true, Bool.not_false]; done) | (simp_all; done) | simp_all [feq_self, endP, s_ref01_Same_0]
      · skip
        first | (simp only [endP, s_ref01_Same_0, h1, h0]; done) | (simp only [endP, s_ref01_Same_0, h1, h0]; rfl) | (simp only [endP, s_ref01_Same_0, h1, h0, cond_true, cond_false, Bool.true_and, Bool.false_and, Bool.and_true, Bool.and_false, Bool.true_or, Bool.false_or, Bool.or_true, Bool.or_false, Bool.not_true, Bool.not_false]; done) | (simp_all; done) | simp_all [feq_self, endP, s_ref01_Same_0]
  · cases h
noncomputable def rs16 : List (FuncId × RF) := (54, pureF S_ref01_Same) :: rs15
noncomputable def env16 : Env := mkEnv xs rs16 ws0
theorem rs16_ok : All (ROk Try.prog false) rs16 := All.cons t_ref01_Same rs15_ok
theorem env16_ok : env16.Ok Try.prog false := mkEnv_ok xs_ok rs16_ok ws0_ok
-- tumble/tumbleref04.SameVec
noncomputable def s_ref04_SameVec_0 (a0_0 : Nat) (a0_1 : Nat) (a1_0 : Nat) (a1_1 : Nat) : Bool := s_ref01_Same_0 a0_0 a1_0 && s_ref01_Same_0 a0_1 a1_1
noncomputable def S_ref04_SameVec : List AV → Option AV
  | [AV.agg [.float a0_0, .float a0_1], AV.agg [.float a1_0, .float a1_1]] => some (AV.bool (s_ref04_SameVec_0 a0_0 a0_1 a1_0 a1_1))
  | _ => none
theorem t_ref04_SameVec : ROk Try.prog false (21, pureF S_ref04_SameVec) := ROk.pure (N := 64) env16_ok Try.func21 Try.call21 fun args v h => by
  unfold S_ref04_SameVec at h
  split at h
  · rename_i a0_0 a0_1 a1_0 a1_1
    cases h
    refine ⟨rfl, rfl, ?_⟩
    rw [show evFn Try.prog false env16 64 Try.f21 [AV.agg [.float a0_0, .float a0_1], AV.agg [.float a1_0, .float a1_1]] [] endP = bif s_ref01_Same_0 a0_0 a1_0 then endP (AV.bool (s_ref01_Same_0 a0_1 a1_1)) [] else endP (AV.bool false) [] from by kernel_rfl]
    refine node_eq (fun h0 => ?_) (fun h0 => ?_)
    · skip
      first | (simp only [endP, s_ref04_SameVec_0, h0]; done) | (simp only [endP, s_ref04_SameVec_0, h0]; rfl) | (simp only [endP, s_ref04_SameVec_0, h0, cond_true, cond_false, Bool.true_and, Bool.false_and, Bool.and_true, Bool.and_false, Bool.true_or, Bool.false_or, Bool.or_true, Bool.or_false, Bool.not_true, Bool.not_false]; done) | (simp_all; done) | simp_all [feq_self, endP, s_ref04_SameVec_0, s_ref01_Same_0]
    · skip
      first | (simp only [endP, s_ref04_SameVec_0, h0]; done) | (simp only [endP, s_ref04_SameVec_0, h0]; rfl) | (simp only [endP, s_ref04_SameVec_0, h0, cond_true, cond_false, Bool.true_and, Bool.false_and, Bool.and_true, Bool.and_false, Bool.true_or, Bool.false_or, Bool.or_true, Bool.or_false, Bool.not_true, Bool.not_false]; done) | (simp_all; done) | simp_all [feq_self, endP, s_ref04_SameVec_0, s_ref01_Same_0]
  · cases h
noncomputable def rs17 : List (FuncId × RF) := (21, pureF S_ref04_SameVec) :: rs16
noncomputable def env17 : Env := mkEnv xs rs17 ws0
theorem rs17_ok : All (ROk Try.prog false) rs17 := All.cons t_ref04_SameVec rs16_ok
theorem env17_ok : env17.Ok Try.prog false := mkEnv_ok xs_ok rs17_ok ws0_ok
-- tumble/tumbleref04.SameTurn
noncomputable def s_ref04_SameTurn_0 (a0_0r : Nat) (a0_0i : Nat) (a1_0r : Nat) (a1_0i : Nat) : Bool := s_ref01_Same_0 a0_0r a1_0r && s_ref01_Same_0 a0_0i a1_0i
noncomputable def S_ref04_SameTurn : List AV → Option AV
  | [AV.complex a0_0r a0_0i, AV.complex a1_0r a1_0i] => some (AV.bool (s_ref04_SameTurn_0 a0_0r a0_0i a1_0r a1_0i))
  | _ => none
theorem t_ref04_SameTurn : ROk Try.prog false (39, pureF S_ref04_SameTurn) := ROk.pure (N := 64) env17_ok Try.func39 Try.call39 fun args v h => by
  unfold S_ref04_SameTurn at h
  split at h
  · rename_i a0_0r a0_0i a1_0r a1_0i
    cases h
    refine ⟨rfl, rfl, ?_⟩
    rw [show evFn Try.prog false env17 64 Try.f39 [AV.complex a0_0r a0_0i, AV.complex a1_0r a1_0i] [] endP = bif s_ref01_Same_0 a0_0r a1_0r then endP (AV.bool (s_ref01_Same_0 a0_0i a1_0i)) [] else endP (AV.bool false) [] from by kernel_rfl]
    refine node_eq (fun h0 => ?_) (fun h0 => ?_)
    · skip
      first | (simp only [endP, s_ref04_SameTurn_0, h0]; done) | (simp only [endP, s_ref04_SameTurn_0, h0]; rfl) | (simp only [endP, s_ref04_SameTurn_0, h0, cond_true, cond_false, Bool.true_and, Bool.false_and, Bool.and_true, Bool.and_false, Bool.true_or, Bool.false_or, Bool.or_true, Bool.or_false, Bool.not_true, Bool.not_false]; done) | (simp_all; done) | simp_all [feq_self, endP, s_ref04_SameTurn_0, s_ref01_Same_0]
    · skip
      first | (simp only [endP, s_ref04_SameTurn_0, h0]; done) | (simp only [endP, s_ref04_SameTurn_0, h0]; rfl) | (simp only [endP, s_ref04_SameTurn_0, h0, cond_true, cond_false, Bool.true_and, Bool.false_and, Bool.and_true, Bool.and_false, Bool.true_or, Bool.false_or, Bool.or_true, Bool.or_false, Bool.not_true, Bool.not_false]; done) | (simp_all; done) | simp_all [feq_self, endP, s_ref04_SameTurn_0, s_ref01_Same_0]
  · cases h
noncomputable def rs18 : List (FuncId × RF) := (39, pureF S_ref04_SameTurn) :: rs17
noncomputable def env18 : Env := mkEnv xs rs18 ws0
theorem rs18_ok : All (ROk Try.prog false) rs18 := All.cons t_ref04_SameTurn rs17_ok
theorem env18_ok : env18.Ok Try.prog false := mkEnv_ok xs_ok rs18_ok ws0_ok
-- tumble/tumbleref04.Same
noncomputable def s_ref04_Same_0 (a0_0 : Nat) (a0_1 : Nat) (a0_2r : Nat) (a0_2i : Nat) (a1_0 : Nat) (a1_1 : Nat) (a1_2r : Nat) (a1_2i : Nat) : Bool := s_ref04_SameVec_0 a0_0 a0_1 a1_0 a1_1 && s_ref04_SameTurn_0 a0_2r a0_2i a1_2r a1_2i
noncomputable def S_ref04_Same : List AV → Option AV
  | [AV.agg [.float a0_0, .float a0_1, .complex a0_2r a0_2i], AV.agg [.float a1_0, .float a1_1, .complex a1_2r a1_2i]] => some (AV.bool (s_ref04_Same_0 a0_0 a0_1 a0_2r a0_2i a1_0 a1_1 a1_2r a1_2i))
  | _ => none
theorem t_ref04_Same : ROk Try.prog false (10, pureF S_ref04_Same) := ROk.pure (N := 64) env18_ok Try.func10 Try.call10 fun args v h => by
  unfold S_ref04_Same at h
  split at h
  · rename_i a0_0 a0_1 a0_2r a0_2i a1_0 a1_1 a1_2r a1_2i
    cases h
    refine ⟨rfl, rfl, ?_⟩
    rw [show evFn Try.prog false env18 64 Try.f10 [AV.agg [.float a0_0, .float a0_1, .complex a0_2r a0_2i], AV.agg [.float a1_0, .float a1_1, .complex a1_2r a1_2i]] [] endP = bif s_ref04_SameVec_0 a0_0 a0_1 a1_0 a1_1 then endP (AV.bool (s_ref04_SameTurn_0 a0_2r a0_2i a1_2r a1_2i)) [] else endP (AV.bool false) [] from by kernel_rfl]
    refine node_eq (fun h0 => ?_) (fun h0 => ?_)
    · skip
      first | (simp only [endP, s_ref04_Same_0, h0]; done) | (simp only [endP, s_ref04_Same_0, h0]; rfl) | (simp only [endP, s_ref04_Same_0, h0, cond_true, cond_false, Bool.true_and, Bool.false_and, Bool.and_true, Bool.and_false, Bool.true_or, Bool.false_or, Bool.or_true, Bool.or_false, Bool.not_true, Bool.not_false]; done) | (simp_all; done) | simp_all [feq_self, endP, s_ref04_Same_0, s_ref04_SameVec_0]
    · skip
      first | (simp only [endP, s_ref04_Same_0, h0]; done) | (simp only [endP, s_ref04_Same_0, h0]; rfl) | (simp only [endP, s_ref04_Same_0, h0, cond_true, cond_false, Bool.true_and, Bool.false_and, Bool.and_true, Bool.and_false, Bool.true_or, Bool.false_or, Bool.or_true, Bool.or_false, Bool.not_true, Bool.not_false]; done) | (simp_all; done) | simp_all [feq_self, endP, s_ref04_Same_0, s_ref04_SameVec_0]
  · cases h
noncomputable def rs19 : List (FuncId × RF) := (10, pureF S_ref04_Same) :: rs18
noncomputable def env19 : Env := mkEnv xs rs19 ws0
theorem rs19_ok : All (ROk Try.prog false) rs19 := All.cons t_ref04_Same rs18_ok
theorem env19_ok : env19.Ok Try.prog false := mkEnv_ok xs_ok rs19_ok ws0_ok
-- tumble/turn.Undo
noncomputable def s_turn_Undo_0 (a0_0r : Nat) (a0_0i : Nat) (a1_0 : Nat) (a1_1 : Nat) : Nat := fadd (fmul a0_0r a1_0) (fmul a0_0i a1_1)
noncomputable def s_turn_Undo_1 (a0_0r : Nat) (a0_0i : Nat) (a1_0 : Nat) (a1_1 : Nat) : Nat := fsub (fmul a0_0r a1_1) (fmul a0_0i a1_0)
noncomputable def S_turn_Undo : List AV → Option AV
  | [AV.complex a0_0r a0_0i, AV.agg [.float a1_0, .float a1_1]] => some (AV.agg [AV.float (s_turn_Undo_0 a0_0r a0_0i a1_0 a1_1), AV.float (s_turn_Undo_1 a0_0r a0_0i a1_0 a1_1)])
  | _ => none
theorem t_turn_Undo : ROk Try.prog false (69, pureF S_turn_Undo) := ROk.pure (N := 64) env19_ok Try.func69 Try.call69 fun args v h => by
  unfold S_turn_Undo at h
  split at h
  · rename_i a0_0r a0_0i a1_0 a1_1
    cases h
    exact ⟨rfl, rfl, by kernel_rfl⟩
  · cases h
noncomputable def rs20 : List (FuncId × RF) := (69, pureF S_turn_Undo) :: rs19
noncomputable def env20 : Env := mkEnv xs rs20 ws0
theorem rs20_ok : All (ROk Try.prog false) rs20 := All.cons t_turn_Undo rs19_ok
theorem env20_ok : env20.Ok Try.prog false := mkEnv_ok xs_ok rs20_ok ws0_ok
-- (tumble/frame.turned).undo
noncomputable def s__frame_turned__undo_0 (a0_0r : Nat) (a0_0i : Nat) (a1_0 : Nat) (a1_1 : Nat) : Nat := s_turn_Undo_0 a0_0r a0_0i a1_0 a1_1
noncomputable def s__frame_turned__undo_1 (a0_0r : Nat) (a0_0i : Nat) (a1_0 : Nat) (a1_1 : Nat) : Nat := s_turn_Undo_1 a0_0r a0_0i a1_0 a1_1
noncomputable def S__frame_turned__undo : List AV → Option AV
  | [AV.complex a0_0r a0_0i, AV.agg [.float a1_0, .float a1_1]] => some (AV.agg [AV.float (s__frame_turned__undo_0 a0_0r a0_0i a1_0 a1_1), AV.float (s__frame_turned__undo_1 a0_0r a0_0i a1_0 a1_1)])
  | _ => none
theorem t__frame_turned__undo : ROk Try.prog false (42, pureF S__frame_turned__undo) := ROk.pure (N := 64) env20_ok Try.func42 Try.call42 fun args v h => by
  unfold S__frame_turned__undo at h
  split at h
  · rename_i a0_0r a0_0i a1_0 a1_1
    cases h
    exact ⟨rfl, rfl, by kernel_rfl⟩
  · cases h
noncomputable def rs21 : List (FuncId × RF) := (42, pureF S__frame_turned__undo) :: rs20
noncomputable def env21 : Env := mkEnv xs rs21 ws0
theorem rs21_ok : All (ROk Try.prog false) rs21 := All.cons t__frame_turned__undo rs20_ok
theorem env21_ok : env21.Ok Try.prog false := mkEnv_ok xs_ok rs21_ok ws0_ok
-- tumble/vec.Neg
noncomputable def s_vec_Neg_0 (a0_0 : Nat) (a0_1 : Nat) : Nat := fneg a0_0
noncomputable def s_vec_Neg_1 (a0_0 : Nat) (a0_1 : Nat) : Nat := fneg a0_1
noncomputable def S_vec_Neg : List AV → Option AV
  | [AV.agg [.float a0_0, .float a0_1]] => some (AV.agg [AV.float (s_vec_Neg_0 a0_0 a0_1), AV.float (s_vec_Neg_1 a0_0 a0_1)])
  | _ => none
theorem t_vec_Neg : ROk Try.prog false (43, pureF S_vec_Neg) := ROk.pure (N := 64) env21_ok Try.func43 Try.call43 fun args v h => by
  unfold S_vec_Neg at h
  split at h
  · rename_i a0_0 a0_1
    cases h
    exact ⟨rfl, rfl, by kernel_rfl⟩
  · cases h
noncomputable def rs22 : List (FuncId × RF) := (43, pureF S_vec_Neg) :: rs21
noncomputable def env22 : Env := mkEnv xs rs22 ws0
theorem rs22_ok : All (ROk Try.prog false) rs22 := All.cons t_vec_Neg rs21_ok
theorem env22_ok : env22.Ok Try.prog false := mkEnv_ok xs_ok rs22_ok ws0_ok
-- tumble/turn.Back
noncomputable def s_turn_Back_0 (a0_0r : Nat) (a0_0i : Nat) : Nat := a0_0r
noncomputable def s_turn_Back_1 (a0_0r : Nat) (a0_0i : Nat) : Nat := fneg a0_0i
noncomputable def S_turn_Back : List AV → Option AV
  | [AV.complex a0_0r a0_0i] => some (AV.complex (s_turn_Back_0 a0_0r a0_0i) (s_turn_Back_1 a0_0r a0_0i))
  | _ => none
theorem t_turn_Back : ROk Try.prog false (44, pureF S_turn_Back) := ROk.pure (N := 64) env22_ok Try.func44 Try.call44 fun args v h => by
  unfold S_turn_Back at h
  split at h
  · rename_i a0_0r a0_0i
    cases h
    exact ⟨rfl, rfl, by kernel_rfl⟩
  · cases h
noncomputable def rs23 : List (FuncId × RF) := (44, pureF S_turn_Back) :: rs22
noncomputable def env23 : Env := mkEnv xs rs23 ws0
theorem rs23_ok : All (ROk Try.prog false) rs23 := All.cons t_turn_Back rs22_ok
theorem env23_ok : env23.Ok Try.prog false := mkEnv_ok xs_ok rs23_ok ws0_ok
-- tumble/frame.Back
noncomputable def s_frame_Back_0 (a0_0 : Nat) (a0_1 : Nat) (a0_2r : Nat) (a0_2i : Nat) : Nat := s_vec_Neg_0 (s__frame_turned__undo_0 a0_2r a0_2i a0_0 a0_1) (s__frame_turned__undo_1 a0_2r a0_2i a0_0 a0_1)
noncomputable def s_frame_Back_1 (a0_0 : Nat) (a0_1 : Nat) (a0_2r : Nat) (a0_2i : Nat) : Nat := s_vec_Neg_1 (s__frame_turned__undo_0 a0_2r a0_2i a0_0 a0_1) (s__frame_turned__undo_1 a0_2r a0_2i a0_0 a0_1)
noncomputable def s_frame_Back_2 (a0_0 : Nat) (a0_1 : Nat) (a0_2r : Nat) (a0_2i : Nat) : Nat := s_turn_Back_0 a0_2r a0_2i
noncomputable def s_frame_Back_3 (a0_0 : Nat) (a0_1 : Nat) (a0_2r : Nat) (a0_2i : Nat) : Nat := s_turn_Back_1 a0_2r a0_2i
noncomputable def S_frame_Back : List AV → Option AV
  | [AV.agg [.float a0_0, .float a0_1, .complex a0_2r a0_2i]] => some (AV.agg [AV.float (s_frame_Back_0 a0_0 a0_1 a0_2r a0_2i), AV.float (s_frame_Back_1 a0_0 a0_1 a0_2r a0_2i), AV.complex (s_frame_Back_2 a0_0 a0_1 a0_2r a0_2i) (s_frame_Back_3 a0_0 a0_1 a0_2r a0_2i)])
  | _ => none
theorem t_frame_Back : ROk Try.prog false (13, pureF S_frame_Back) := ROk.pure (N := 64) env23_ok Try.func13 Try.call13 fun args v h => by
  unfold S_frame_Back at h
  split at h
  · rename_i a0_0 a0_1 a0_2r a0_2i
    cases h
    exact ⟨rfl, rfl, by kernel_rfl⟩
  · cases h
noncomputable def rs24 : List (FuncId × RF) := (13, pureF S_frame_Back) :: rs23
noncomputable def env24 : Env := mkEnv xs rs24 ws0
theorem rs24_ok : All (ROk Try.prog false) rs24 := All.cons t_frame_Back rs23_ok
theorem env24_ok : env24.Ok Try.prog false := mkEnv_ok xs_ok rs24_ok ws0_ok
-- tumble/tumbleref03.Undo
noncomputable def s_ref03_Undo_0 (a0_0r : Nat) (a0_0i : Nat) (a1_0 : Nat) (a1_1 : Nat) : Nat := fadd (fmul a0_0r a1_0) (fmul a0_0i a1_1)
noncomputable def s_ref03_Undo_1 (a0_0r : Nat) (a0_0i : Nat) (a1_0 : Nat) (a1_1 : Nat) : Nat := fsub (fmul a0_0r a1_1) (fmul a0_0i a1_0)
noncomputable def S_ref03_Undo : List AV → Option AV
  | [AV.complex a0_0r a0_0i, AV.agg [.float a1_0, .float a1_1]] => some (AV.agg [AV.float (s_ref03_Undo_0 a0_0r a0_0i a1_0 a1_1), AV.float (s_ref03_Undo_1 a0_0r a0_0i a1_0 a1_1)])
  | _ => none
theorem t_ref03_Undo : ROk Try.prog false (45, pureF S_ref03_Undo) := ROk.pure (N := 64) env24_ok Try.func45 Try.call45 fun args v h => by
  unfold S_ref03_Undo at h
  split at h
  · rename_i a0_0r a0_0i a1_0 a1_1
    cases h
    exact ⟨rfl, rfl, by kernel_rfl⟩
  · cases h
noncomputable def rs25 : List (FuncId × RF) := (45, pureF S_ref03_Undo) :: rs24
noncomputable def env25 : Env := mkEnv xs rs25 ws0
theorem rs25_ok : All (ROk Try.prog false) rs25 := All.cons t_ref03_Undo rs24_ok
theorem env25_ok : env25.Ok Try.prog false := mkEnv_ok xs_ok rs25_ok ws0_ok
-- tumble/tumbleref03.Back
noncomputable def s_ref03_Back_0 (a0_0r : Nat) (a0_0i : Nat) : Nat := a0_0r
noncomputable def s_ref03_Back_1 (a0_0r : Nat) (a0_0i : Nat) : Nat := fneg a0_0i
noncomputable def S_ref03_Back : List AV → Option AV
  | [AV.complex a0_0r a0_0i] => some (AV.complex (s_ref03_Back_0 a0_0r a0_0i) (s_ref03_Back_1 a0_0r a0_0i))
  | _ => none
theorem t_ref03_Back : ROk Try.prog false (46, pureF S_ref03_Back) := ROk.pure (N := 64) env25_ok Try.func46 Try.call46 fun args v h => by
  unfold S_ref03_Back at h
  split at h
  · rename_i a0_0r a0_0i
    cases h
    exact ⟨rfl, rfl, by kernel_rfl⟩
  · cases h
noncomputable def rs26 : List (FuncId × RF) := (46, pureF S_ref03_Back) :: rs25
noncomputable def env26 : Env := mkEnv xs rs26 ws0
theorem rs26_ok : All (ROk Try.prog false) rs26 := All.cons t_ref03_Back rs25_ok
theorem env26_ok : env26.Ok Try.prog false := mkEnv_ok xs_ok rs26_ok ws0_ok
-- tumble/tumbleref04.Back
noncomputable def s_ref04_Back_0 (a0_0 : Nat) (a0_1 : Nat) (a0_2r : Nat) (a0_2i : Nat) : Nat := fneg (s_ref03_Undo_0 a0_2r a0_2i a0_0 a0_1)
noncomputable def s_ref04_Back_1 (a0_0 : Nat) (a0_1 : Nat) (a0_2r : Nat) (a0_2i : Nat) : Nat := fneg (s_ref03_Undo_1 a0_2r a0_2i a0_0 a0_1)
noncomputable def s_ref04_Back_2 (a0_0 : Nat) (a0_1 : Nat) (a0_2r : Nat) (a0_2i : Nat) : Nat := s_ref03_Back_0 a0_2r a0_2i
noncomputable def s_ref04_Back_3 (a0_0 : Nat) (a0_1 : Nat) (a0_2r : Nat) (a0_2i : Nat) : Nat := s_ref03_Back_1 a0_2r a0_2i
noncomputable def S_ref04_Back : List AV → Option AV
  | [AV.agg [.float a0_0, .float a0_1, .complex a0_2r a0_2i]] => some (AV.agg [AV.float (s_ref04_Back_0 a0_0 a0_1 a0_2r a0_2i), AV.float (s_ref04_Back_1 a0_0 a0_1 a0_2r a0_2i), AV.complex (s_ref04_Back_2 a0_0 a0_1 a0_2r a0_2i) (s_ref04_Back_3 a0_0 a0_1 a0_2r a0_2i)])
  | _ => none
theorem t_ref04_Back : ROk Try.prog false (14, pureF S_ref04_Back) := ROk.pure (N := 64) env26_ok Try.func14 Try.call14 fun args v h => by
  unfold S_ref04_Back at h
  split at h
  · rename_i a0_0 a0_1 a0_2r a0_2i
    cases h
    exact ⟨rfl, rfl, by kernel_rfl⟩
  · cases h
noncomputable def rs27 : List (FuncId × RF) := (14, pureF S_ref04_Back) :: rs26
noncomputable def env27 : Env := mkEnv xs rs27 ws0
theorem rs27_ok : All (ROk Try.prog false) rs27 := All.cons t_ref04_Back rs26_ok
theorem env27_ok : env27.Ok Try.prog false := mkEnv_ok xs_ok rs27_ok ws0_ok
-- tumble/turn.One
noncomputable def s_turn_One_0  : Nat := 4607182418800017408
noncomputable def s_turn_One_1  : Nat := 0
noncomputable def S_turn_One : List AV → Option AV
  | [] => some (AV.complex (s_turn_One_0) (s_turn_One_1))
  | _ => none
theorem t_turn_One : ROk Try.prog false (47, pureF S_turn_One) := ROk.pure (N := 64) env27_ok Try.func47 Try.call47 fun args v h => by
  unfold S_turn_One at h
  split at h
  · skip
    cases h
    exact ⟨rfl, rfl, by kernel_rfl⟩
  · cases h
noncomputable def rs28 : List (FuncId × RF) := (47, pureF S_turn_One) :: rs27
noncomputable def env28 : Env := mkEnv xs rs28 ws0
theorem rs28_ok : All (ROk Try.prog false) rs28 := All.cons t_turn_One rs27_ok
theorem env28_ok : env28.Ok Try.prog false := mkEnv_ok xs_ok rs28_ok ws0_ok
-- tumble/frame.Home
noncomputable def s_frame_Home_0  : Nat := 0
noncomputable def s_frame_Home_1  : Nat := 0
noncomputable def s_frame_Home_2  : Nat := 4607182418800017408
noncomputable def s_frame_Home_3  : Nat := 0
noncomputable def S_frame_Home : List AV → Option AV
  | [] => some (AV.agg [AV.float (s_frame_Home_0), AV.float (s_frame_Home_1), AV.complex (s_frame_Home_2) (s_frame_Home_3)])
  | _ => none
theorem t_frame_Home : ROk Try.prog false (15, pureF S_frame_Home) := ROk.pure (N := 64) env28_ok Try.func15 Try.call15 fun args v h => by
  unfold S_frame_Home at h
  split at h
  · skip
    cases h
    exact ⟨rfl, rfl, by kernel_rfl⟩
  · cases h
noncomputable def rs29 : List (FuncId × RF) := (15, pureF S_frame_Home) :: rs28
noncomputable def env29 : Env := mkEnv xs rs29 ws0
theorem rs29_ok : All (ROk Try.prog false) rs29 := All.cons t_frame_Home rs28_ok
theorem env29_ok : env29.Ok Try.prog false := mkEnv_ok xs_ok rs29_ok ws0_ok
-- tumble/tumbleref04.Home
noncomputable def s_ref04_Home_0  : Nat := 0
noncomputable def s_ref04_Home_1  : Nat := 0
noncomputable def s_ref04_Home_2  : Nat := 4607182418800017408
noncomputable def s_ref04_Home_3  : Nat := 0
noncomputable def S_ref04_Home : List AV → Option AV
  | [] => some (AV.agg [AV.float (s_ref04_Home_0), AV.float (s_ref04_Home_1), AV.complex (s_ref04_Home_2) (s_ref04_Home_3)])
  | _ => none
theorem t_ref04_Home : ROk Try.prog false (16, pureF S_ref04_Home) := ROk.pure (N := 64) env29_ok Try.func16 Try.call16 fun args v h => by
  unfold S_ref04_Home at h
  split at h
  · skip
    cases h
    exact ⟨rfl, rfl, by kernel_rfl⟩
  · cases h
noncomputable def rs30 : List (FuncId × RF) := (16, pureF S_ref04_Home) :: rs29
noncomputable def env30 : Env := mkEnv xs rs30 ws0
theorem rs30_ok : All (ROk Try.prog false) rs30 := All.cons t_ref04_Home rs29_ok
theorem env30_ok : env30.Ok Try.prog false := mkEnv_ok xs_ok rs30_ok ws0_ok
-- tumble/tumblelaw04.FrameThens
noncomputable def T_law04_FrameThens (a0_0 : Nat) (a0_1 : Nat) (a0_2 : Nat) (a0_3 : Nat) (a1_0 : Nat) (a1_1 : Nat) (a1_2 : Nat) (a1_3 : Nat) : Option Res := bif u64ok (Int.ofNat a0_0) then bif u64ok (Int.ofNat a0_1) then bif u64ok (Int.ofNat a0_2) then bif u64ok (Int.ofNat a0_3) then bif u64ok (Int.ofNat a1_0) then bif u64ok (Int.ofNat a1_1) then bif u64ok (Int.ofNat a1_2) then bif u64ok (Int.ofNat a1_3) then bif s_ref04_Same_0 (s_frame_Then_0 (cn (Int.ofNat a0_0).toNat) (cn (Int.ofNat a0_1).toNat) (cn (Int.ofNat a0_2).toNat) (cn (Int.ofNat a0_3).toNat) (cn (Int.ofNat a1_0).toNat) (cn (Int.ofNat a1_1).toNat) (cn (Int.ofNat a1_2).toNat) (cn (Int.ofNat a1_3).toNat)) (s_frame_Then_1 (cn (Int.ofNat a0_0).toNat) (cn (Int.ofNat a0_1).toNat) (cn (Int.ofNat a0_2).toNat) (cn (Int.ofNat a0_3).toNat) (cn (Int.ofNat a1_0).toNat) (cn (Int.ofNat a1_1).toNat) (cn (Int.ofNat a1_2).toNat) (cn (Int.ofNat a1_3).toNat)) (s_frame_Then_2 (cn (Int.ofNat a0_0).toNat) (cn (Int.ofNat a0_1).toNat) (cn (Int.ofNat a0_2).toNat) (cn (Int.ofNat a0_3).toNat) (cn (Int.ofNat a1_0).toNat) (cn (Int.ofNat a1_1).toNat) (cn (Int.ofNat a1_2).toNat) (cn (Int.ofNat a1_3).toNat)) (s_frame_Then_3 (cn (Int.ofNat a0_0).toNat) (cn (Int.ofNat a0_1).toNat) (cn (Int.ofNat a0_2).toNat) (cn (Int.ofNat a0_3).toNat) (cn (Int.ofNat a1_0).toNat) (cn (Int.ofNat a1_1).toNat) (cn (Int.ofNat a1_2).toNat) (cn (Int.ofNat a1_3).toNat)) (s_ref04_Then_0 (cn (Int.ofNat a0_0).toNat) (cn (Int.ofNat a0_1).toNat) (cn (Int.ofNat a0_2).toNat) (cn (Int.ofNat a0_3).toNat) (cn (Int.ofNat a1_0).toNat) (cn (Int.ofNat a1_1).toNat) (cn (Int.ofNat a1_2).toNat) (cn (Int.ofNat a1_3).toNat)) (s_ref04_Then_1 (cn (Int.ofNat a0_0).toNat) (cn (Int.ofNat a0_1).toNat) (cn (Int.ofNat a0_2).toNat) (cn (Int.ofNat a0_3).toNat) (cn (Int.ofNat a1_0).toNat) (cn (Int.ofNat a1_1).toNat) (cn (Int.ofNat a1_2).toNat) (cn (Int.ofNat a1_3).toNat)) (s_ref04_Then_2 (cn (Int.ofNat a0_0).toNat) (cn (Int.ofNat a0_1).toNat) (cn (Int.ofNat a0_2).toNat) (cn (Int.ofNat a0_3).toNat) (cn (Int.ofNat a1_0).toNat) (cn (Int.ofNat a1_1).toNat) (cn (Int.ofNat a1_2).toNat) (cn (Int.ofNat a1_3).toNat)) (s_ref04_Then_3 (cn (Int.ofNat a0_0).toNat) (cn (Int.ofNat a0_1).toNat) (cn (Int.ofNat a0_2).toNat) (cn (Int.ofNat a0_3).toNat) (cn (Int.ofNat a1_0).toNat) (cn (Int.ofNat a1_1).toNat) (cn (Int.ofNat a1_2).toNat) (cn (Int.ofNat a1_3).toNat)) then bif s_ref04_Same_0 (s_frame_Then_0 (cn (Int.ofNat a1_0).toNat) (cn (Int.ofNat a1_1).toNat) (cn (Int.ofNat a1_2).toNat) (cn (Int.ofNat a1_3).toNat) (cn (Int.ofNat a0_0).toNat) (cn (Int.ofNat a0_1).toNat) (cn (Int.ofNat a0_2).toNat) (cn (Int.ofNat a0_3).toNat)) (s_frame_Then_1 (cn (Int.ofNat a1_0).toNat) (cn (Int.ofNat a1_1).toNat) (cn (Int.ofNat a1_2).toNat) (cn (Int.ofNat a1_3).toNat) (cn (Int.ofNat a0_0).toNat) (cn (Int.ofNat a0_1).toNat) (cn (Int.ofNat a0_2).toNat) (cn (Int.ofNat a0_3).toNat)) (s_frame_Then_2 (cn (Int.ofNat a1_0).toNat) (cn (Int.ofNat a1_1).toNat) (cn (Int.ofNat a1_2).toNat) (cn (Int.ofNat a1_3).toNat) (cn (Int.ofNat a0_0).toNat) (cn (Int.ofNat a0_1).toNat) (cn (Int.ofNat a0_2).toNat) (cn (Int.ofNat a0_3).toNat)) (s_frame_Then_3 (cn (Int.ofNat a1_0).toNat) (cn (Int.ofNat a1_1).toNat) (cn (Int.ofNat a1_2).toNat) (cn (Int.ofNat a1_3).toNat) (cn (Int.ofNat a0_0).toNat) (cn (Int.ofNat a0_1).toNat) (cn (Int.ofNat a0_2).toNat) (cn (Int.ofNat a0_3).toNat)) (s_ref04_Then_0 (cn (Int.ofNat a1_0).toNat) (cn (Int.ofNat a1_1).toNat) (cn (Int.ofNat a1_2).toNat) (cn (Int.ofNat a1_3).toNat) (cn (Int.ofNat a0_0).toNat) (cn (Int.ofNat a0_1).toNat) (cn (Int.ofNat a0_2).toNat) (cn (Int.ofNat a0_3).toNat)) (s_ref04_Then_1 (cn (Int.ofNat a1_0).toNat) (cn (Int.ofNat a1_1).toNat) (cn (Int.ofNat a1_2).toNat) (cn (Int.ofNat a1_3).toNat) (cn (Int.ofNat a0_0).toNat) (cn (Int.ofNat a0_1).toNat) (cn (Int.ofNat a0_2).toNat) (cn (Int.ofNat a0_3).toNat)) (s_ref04_Then_2 (cn (Int.ofNat a1_0).toNat) (cn (Int.ofNat a1_1).toNat) (cn (Int.ofNat a1_2).toNat) (cn (Int.ofNat a1_3).toNat) (cn (Int.ofNat a0_0).toNat) (cn (Int.ofNat a0_1).toNat) (cn (Int.ofNat a0_2).toNat) (cn (Int.ofNat a0_3).toNat)) (s_ref04_Then_3 (cn (Int.ofNat a1_0).toNat) (cn (Int.ofNat a1_1).toNat) (cn (Int.ofNat a1_2).toNat) (cn (Int.ofNat a1_3).toNat) (cn (Int.ofNat a0_0).toNat) (cn (Int.ofNat a0_1).toNat) (cn (Int.ofNat a0_2).toNat) (cn (Int.ofNat a0_3).toNat)) then bif s_ref04_Same_0 (s_frame_Back_0 (cn (Int.ofNat a0_0).toNat) (cn (Int.ofNat a0_1).toNat) (cn (Int.ofNat a0_2).toNat) (cn (Int.ofNat a0_3).toNat)) (s_frame_Back_1 (cn (Int.ofNat a0_0).toNat) (cn (Int.ofNat a0_1).toNat) (cn (Int.ofNat a0_2).toNat) (cn (Int.ofNat a0_3).toNat)) (s_frame_Back_2 (cn (Int.ofNat a0_0).toNat) (cn (Int.ofNat a0_1).toNat) (cn (Int.ofNat a0_2).toNat) (cn (Int.ofNat a0_3).toNat)) (s_frame_Back_3 (cn (Int.ofNat a0_0).toNat) (cn (Int.ofNat a0_1).toNat) (cn (Int.ofNat a0_2).toNat) (cn (Int.ofNat a0_3).toNat)) (s_ref04_Back_0 (cn (Int.ofNat a0_0).toNat) (cn (Int.ofNat a0_1).toNat) (cn (Int.ofNat a0_2).toNat) (cn (Int.ofNat a0_3).toNat)) (s_ref04_Back_1 (cn (Int.ofNat a0_0).toNat) (cn (Int.ofNat a0_1).toNat) (cn (Int.ofNat a0_2).toNat) (cn (Int.ofNat a0_3).toNat)) (s_ref04_Back_2 (cn (Int.ofNat a0_0).toNat) (cn (Int.ofNat a0_1).toNat) (cn (Int.ofNat a0_2).toNat) (cn (Int.ofNat a0_3).toNat)) (s_ref04_Back_3 (cn (Int.ofNat a0_0).toNat) (cn (Int.ofNat a0_1).toNat) (cn (Int.ofNat a0_2).toNat) (cn (Int.ofNat a0_3).toNat)) then endP (AV.bool true) [] else endP (AV.bool false) [] else endP (AV.bool false) [] else endP (AV.bool false) [] else none else none else none else none else none else none else none else none
theorem tree_law04_FrameThens (a0_0 : Nat) (a0_1 : Nat) (a0_2 : Nat) (a0_3 : Nat) (a1_0 : Nat) (a1_1 : Nat) (a1_2 : Nat) (a1_3 : Nat) : evFn Try.prog false env30 64 Try.f3 [AV.agg [.int .u64 (Int.ofNat a0_0), .int .u64 (Int.ofNat a0_1), .int .u64 (Int.ofNat a0_2), .int .u64 (Int.ofNat a0_3)], AV.agg [.int .u64 (Int.ofNat a1_0), .int .u64 (Int.ofNat a1_1), .int .u64 (Int.ofNat a1_2), .int .u64 (Int.ofNat a1_3)]] [] endP = T_law04_FrameThens a0_0 a0_1 a0_2 a0_3 a1_0 a1_1 a1_2 a1_3 := by kernel_rfl
-- tumble/num.Within[float64]
noncomputable def s_num_Within_float64__0 (a0_0 : Nat) (a1_0 : Nat) : Bool := fle (fneg a1_0) a0_0 && fle a0_0 a1_0
noncomputable def S_num_Within_float64_ : List AV → Option AV
  | [AV.float a0_0, AV.float a1_0] => some (AV.bool (s_num_Within_float64__0 a0_0 a1_0))
  | _ => none
theorem t_num_Within_float64_ : ROk Try.prog false (70, pureF S_num_Within_float64_) := ROk.pure (N := 64) env30_ok Try.func70 Try.call70 fun args v h => by
  unfold S_num_Within_float64_ at h
  split at h
  · rename_i a0_0 a1_0
    cases h
    refine ⟨rfl, rfl, ?_⟩
    rw [show evFn Try.prog false env30 64 Try.f70 [AV.float a0_0, AV.float a1_0] [] endP = bif fle (fneg a1_0) a0_0 then endP (AV.bool (fle a0_0 a1_0)) [] else endP (AV.bool false) [] from by kernel_rfl]
    refine node_eq (fun h0 => ?_) (fun h0 => ?_)
    · skip
      first | (simp only [endP, s_num_Within_float64__0, h0]; done) | (simp only [endP, s_num_Within_float64__0, h0]; rfl) | (simp only [endP, s_num_Within_float64__0, h0, cond_true, cond_false, Bool.true_and, Bool.false_and, Bool.and_true, Bool.and_false, Bool.true_or, Bool.false_or, Bool.or_true, Bool.or_false, Bool.not_true, Bool.not_false]; done) | (simp_all; done) | simp_all [feq_self, endP, s_num_Within_float64__0]
    · skip
      first | (simp only [endP, s_num_Within_float64__0, h0]; done) | (simp only [endP, s_num_Within_float64__0, h0]; rfl) | (simp only [endP, s_num_Within_float64__0, h0, cond_true, cond_false, Bool.true_and, Bool.false_and, Bool.and_true, Bool.and_false, Bool.true_or, Bool.false_or, Bool.or_true, Bool.or_false, Bool.not_true, Bool.not_false]; done) | (simp_all; done) | simp_all [feq_self, endP, s_num_Within_float64__0]
  · cases h
noncomputable def rs31 : List (FuncId × RF) := (70, pureF S_num_Within_float64_) :: rs30
noncomputable def env31 : Env := mkEnv xs rs31 ws0
theorem rs31_ok : All (ROk Try.prog false) rs31 := All.cons t_num_Within_float64_ rs30_ok
theorem env31_ok : env31.Ok Try.prog false := mkEnv_ok xs_ok rs31_ok ws0_ok
-- tumble/vec.Within
noncomputable def s_vec_Within_0 (a0_0 : Nat) (a0_1 : Nat) (a1_0 : Nat) : Bool := s_num_Within_float64__0 a0_0 a1_0 && s_num_Within_float64__0 a0_1 a1_0
noncomputable def S_vec_Within : List AV → Option AV
  | [AV.agg [.float a0_0, .float a0_1], AV.float a1_0] => some (AV.bool (s_vec_Within_0 a0_0 a0_1 a1_0))
  | _ => none
theorem t_vec_Within : ROk Try.prog false (48, pureF S_vec_Within) := ROk.pure (N := 64) env31_ok Try.func48 Try.call48 fun args v h => by
  unfold S_vec_Within at h
  split at h
  · rename_i a0_0 a0_1 a1_0
    cases h
    refine ⟨rfl, rfl, ?_⟩
    rw [show evFn Try.prog false env31 64 Try.f48 [AV.agg [.float a0_0, .float a0_1], AV.float a1_0] [] endP = bif s_num_Within_float64__0 a0_0 a1_0 then endP (AV.bool (s_num_Within_float64__0 a0_1 a1_0)) [] else endP (AV.bool false) [] from by kernel_rfl]
    refine node_eq (fun h0 => ?_) (fun h0 => ?_)
    · skip
      first | (simp only [endP, s_vec_Within_0, h0]; done) | (simp only [endP, s_vec_Within_0, h0]; rfl) | (simp only [endP, s_vec_Within_0, h0, cond_true, cond_false, Bool.true_and, Bool.false_and, Bool.and_true, Bool.and_false, Bool.true_or, Bool.false_or, Bool.or_true, Bool.or_false, Bool.not_true, Bool.not_false]; done) | (simp_all; done) | simp_all [feq_self, endP, s_vec_Within_0, s_num_Within_float64__0]
    · skip
      first | (simp only [endP, s_vec_Within_0, h0]; done) | (simp only [endP, s_vec_Within_0, h0]; rfl) | (simp only [endP, s_vec_Within_0, h0, cond_true, cond_false, Bool.true_and, Bool.false_and, Bool.and_true, Bool.and_false, Bool.true_or, Bool.false_or, Bool.or_true, Bool.or_false, Bool.not_true, Bool.not_false]; done) | (simp_all; done) | simp_all [feq_self, endP, s_vec_Within_0, s_num_Within_float64__0]
  · cases h
noncomputable def rs32 : List (FuncId × RF) := (48, pureF S_vec_Within) :: rs31
noncomputable def env32 : Env := mkEnv xs rs32 ws0
theorem rs32_ok : All (ROk Try.prog false) rs32 := All.cons t_vec_Within rs31_ok
theorem env32_ok : env32.Ok Try.prog false := mkEnv_ok xs_ok rs32_ok ws0_ok
-- tumble/turn.square
noncomputable def s_turn_square_0 (a0_0r : Nat) (a0_0i : Nat) : Nat := fadd (fmul a0_0r a0_0r) (fmul a0_0i a0_0i)
noncomputable def S_turn_square : List AV → Option AV
  | [AV.complex a0_0r a0_0i] => some (AV.float (s_turn_square_0 a0_0r a0_0i))
  | _ => none
theorem t_turn_square : ROk Try.prog false (68, pureF S_turn_square) := ROk.pure (N := 64) env32_ok Try.func68 Try.call68 fun args v h => by
  unfold S_turn_square at h
  split at h
  · rename_i a0_0r a0_0i
    cases h
    exact ⟨rfl, rfl, by kernel_rfl⟩
  · cases h
noncomputable def rs33 : List (FuncId × RF) := (68, pureF S_turn_square) :: rs32
noncomputable def env33 : Env := mkEnv xs rs33 ws0
theorem rs33_ok : All (ROk Try.prog false) rs33 := All.cons t_turn_square rs32_ok
theorem env33_ok : env33.Ok Try.prog false := mkEnv_ok xs_ok rs33_ok ws0_ok
-- tumble/turn.Check
noncomputable def s_turn_Check_0 (a0_0r : Nat) (a0_0i : Nat) : Int := bif fle 4607182418800009216 (s_turn_square_0 a0_0r a0_0i) then bif fle (s_turn_square_0 a0_0r a0_0i) 4607182418800021504 then 0 else 30 else 30
noncomputable def S_turn_Check : List AV → Option AV
  | [AV.complex a0_0r a0_0i] => some (AV.int IntKind.i64 (s_turn_Check_0 a0_0r a0_0i))
  | _ => none
theorem t_turn_Check : ROk Try.prog false (33, pureF S_turn_Check) := ROk.pure (N := 64) env33_ok Try.func33 Try.call33 fun args v h => by
  unfold S_turn_Check at h
  split at h
  · rename_i a0_0r a0_0i
    cases h
    refine ⟨rfl, rfl, ?_⟩
    rw [show evFn Try.prog false env33 64 Try.f33 [AV.complex a0_0r a0_0i] [] endP = bif fle 4607182418800009216 (s_turn_square_0 a0_0r a0_0i) then bif fle (s_turn_square_0 a0_0r a0_0i) 4607182418800021504 then endP (AV.int IntKind.i64 0) [] else endP (AV.int IntKind.i64 30) [] else endP (AV.int IntKind.i64 30) [] from by kernel_rfl]
    refine node_eq (fun h0 => ?_) (fun h0 => ?_)
    · skip
      refine node_eq (fun h1 => ?_) (fun h1 => ?_)
      · skip
        first | (simp only [endP, s_turn_Check_0, h1, h0]; done) | (simp only [endP, s_turn_Check_0, h1, h0]; rfl) | (simp only [endP, s_turn_Check_0, h1, h0, cond_true, cond_false, Bool.true_and, Bool.false_and, Bool.and_true, Bool.and_false, Bool.true_or, Bool.false_or, Bool.or_true, Bool.or_false, Bool.not_true, Bool.not_false]; done) | (simp_all; done) | simp_all [feq_self, endP, s_turn_Check_0, s_turn_square_0]
      · skip
        first | (simp only [endP, s_turn_Check_0, h1, h0]; done) | (simp only [endP, s_turn_Check_0, h1, h0]; rfl) | (simp only [endP, s_turn_Check_0, h1, h0, cond_true, cond_false, Bool.true_and, Bool.false_and, Bool.and_true, Bool.and_false, Bool.true_or, Bool.false_or, Bool.or_true, Bool.or_false, Bool.not_true, Bool.not_false]; done) | (simp_all; done) | simp_all [feq_self, endP, s_turn_Check_0, s_turn_square_0]
    · skip
      first | (simp only [endP, s_turn_Check_0, h0]; done) | (simp only [endP, s_turn_Check_0, h0]; rfl) | (simp only [endP, s_turn_Check_0, h0, cond_true, cond_false, Bool.true_and, Bool.false_and, Bool.and_true, Bool.and_false, Bool.true_or, Bool.false_or, Bool.or_true, Bool.or_false, Bool.not_true, Bool.not_false]; done) | (simp_all; done) | simp_all [feq_self, endP, s_turn_Check_0, s_turn_square_0]
  · cases h
noncomputable def rs34 : List (FuncId × RF) := (33, pureF S_turn_Check) :: rs33
noncomputable def env34 : Env := mkEnv xs rs34 ws0
theorem rs34_ok : All (ROk Try.prog false) rs34 := All.cons t_turn_Check rs33_ok
theorem env34_ok : env34.Ok Try.prog false := mkEnv_ok xs_ok rs34_ok ws0_ok
-- tumble/frame.Check
noncomputable def s_frame_Check_0 (a0_0 : Nat) (a0_1 : Nat) (a0_2r : Nat) (a0_2i : Nat) : Int := bif !s_vec_Within_0 a0_0 a0_1 4787326403894837248 then 5 else s_turn_Check_0 a0_2r a0_2i
noncomputable def S_frame_Check : List AV → Option AV
  | [AV.agg [.float a0_0, .float a0_1, .complex a0_2r a0_2i]] => some (AV.int IntKind.i64 (s_frame_Check_0 a0_0 a0_1 a0_2r a0_2i))
  | _ => none
theorem t_frame_Check : ROk Try.prog false (18, pureF S_frame_Check) := ROk.pure (N := 64) env34_ok Try.func18 Try.call18 fun args v h => by
  unfold S_frame_Check at h
  split at h
  · rename_i a0_0 a0_1 a0_2r a0_2i
    cases h
    refine ⟨rfl, rfl, ?_⟩
    rw [show evFn Try.prog false env34 64 Try.f18 [AV.agg [.float a0_0, .float a0_1, .complex a0_2r a0_2i]] [] endP = bif !s_vec_Within_0 a0_0 a0_1 4787326403894837248 then endP (AV.int IntKind.i64 5) [] else endP (AV.int IntKind.i64 (s_turn_Check_0 a0_2r a0_2i)) [] from by kernel_rfl]
    refine node_eq (fun h0 => ?_) (fun h0 => ?_)
    · skip
      first | (simp only [endP, s_frame_Check_0, h0]; done) | (simp only [endP, s_frame_Check_0, h0]; rfl) | (simp only [endP, s_frame_Check_0, h0, cond_true, cond_false, Bool.true_and, Bool.false_and, Bool.and_true, Bool.and_false, Bool.true_or, Bool.false_or, Bool.or_true, Bool.or_false, Bool.not_true, Bool.not_false]; done) | (simp_all; done) | simp_all [feq_self, endP, s_frame_Check_0, s_vec_Within_0]
    · skip
      first | (simp only [endP, s_frame_Check_0, h0]; done) | (simp only [endP, s_frame_Check_0, h0]; rfl) | (simp only [endP, s_frame_Check_0, h0, cond_true, cond_false, Bool.true_and, Bool.false_and, Bool.and_true, Bool.and_false, Bool.true_or, Bool.false_or, Bool.or_true, Bool.or_false, Bool.not_true, Bool.not_false]; done) | (simp_all; done) | simp_all [feq_self, endP, s_frame_Check_0, s_vec_Within_0]
  · cases h
noncomputable def rs35 : List (FuncId × RF) := (18, pureF S_frame_Check) :: rs34
noncomputable def env35 : Env := mkEnv xs rs35 ws0
theorem rs35_ok : All (ROk Try.prog false) rs35 := All.cons t_frame_Check rs34_ok
theorem env35_ok : env35.Ok Try.prog false := mkEnv_ok xs_ok rs35_ok ws0_ok
-- tumble/tumbleref01.place
noncomputable def rs36 : List (FuncId × RF) := (84, inlR Try.prog false env35 64 Try.f84) :: rs35
noncomputable def env36 : Env := mkEnv xs rs36 ws0
theorem rs36_ok : All (ROk Try.prog false) rs36 := All.cons (ROk.inl env35_ok Try.func84 Try.call84) rs35_ok
theorem env36_ok : env36.Ok Try.prog false := mkEnv_ok xs_ok rs36_ok ws0_ok
-- tumble/tumbleref01.worth
noncomputable def rs37 : List (FuncId × RF) := (83, inlR Try.prog false env36 64 Try.f83) :: rs36
noncomputable def env37 : Env := mkEnv xs rs37 ws0
theorem rs37_ok : All (ROk Try.prog false) rs37 := All.cons (ROk.inl env36_ok Try.func83 Try.call83) rs36_ok
theorem env37_ok : env37.Ok Try.prog false := mkEnv_ok xs_ok rs37_ok ws0_ok
-- tumble/tumbleref01.above
noncomputable def s_ref01_above_0 (a0_0 : Nat) (a1_0 : Nat) : Bool := !nanb a0_0 && (!nanb a1_0 && bif ieq ((↑a0_0 : Int).fdiv 9223372036854775808) 1 then bif ieq (IntKind.i64.wrap (IntKind.i64.wrap (0 - IntKind.i64.wrap ((IntKind.u64.wrap ((↑a0_0 : Int) * 2)).fdiv 2)) - 1)) (-1) then bif ieq ((↑a1_0 : Int).fdiv 9223372036854775808) 1 then bif ieq (IntKind.i64.wrap (IntKind.i64.wrap (0 - IntKind.i64.wrap ((IntKind.u64.wrap ((↑a1_0 : Int) * 2)).fdiv 2)) - 1)) (-1) then false else ilt (IntKind.i64.wrap (IntKind.i64.wrap (0 - IntKind.i64.wrap ((IntKind.u64.wrap ((↑a1_0 : Int) * 2)).fdiv 2)) - 1)) 0 else bif ieq (IntKind.i64.wrap ((IntKind.u64.wrap ((↑a1_0 : Int) * 2)).fdiv 2)) (-1) then false else ilt (IntKind.i64.wrap ((IntKind.u64.wrap ((↑a1_0 : Int) * 2)).fdiv 2)) 0 else bif ieq ((↑a1_0 : Int).fdiv 9223372036854775808) 1 then bif ieq (IntKind.i64.wrap (IntKind.i64.wrap (0 - IntKind.i64.wrap ((IntKind.u64.wrap ((↑a1_0 : Int) * 2)).fdiv 2)) - 1)) (-1) then ilt 0 (IntKind.i64.wrap (IntKind.i64.wrap (0 - IntKind.i64.wrap ((IntKind.u64.wrap ((↑a0_0 : Int) * 2)).fdiv 2)) - 1)) else ilt (IntKind.i64.wrap (IntKind.i64.wrap (0 - IntKind.i64.wrap ((IntKind.u64.wrap ((↑a1_0 : Int) * 2)).fdiv 2)) - 1)) (IntKind.i64.wrap (IntKind.i64.wrap (0 - IntKind.i64.wrap ((IntKind.u64.wrap ((↑a0_0 : Int) * 2)).fdiv 2)) - 1)) else bif ieq (IntKind.i64.wrap ((IntKind.u64.wrap ((↑a1_0 : Int) * 2)).fdiv 2)) (-1) then ilt 0 (IntKind.i64.wrap (IntKind.i64.wrap (0 - IntKind.i64.wrap ((IntKind.u64.wrap ((↑a0_0 : Int) * 2)).fdiv 2)) - 1)) else ilt (IntKind.i64.wrap ((IntKind.u64.wrap ((↑a1_0 : Int) * 2)).fdiv 2)) (IntKind.i64.wrap (IntKind.i64.wrap (0 - IntKind.i64.wrap ((IntKind.u64.wrap ((↑a0_0 : Int) * 2)).fdiv 2)) - 1)) else bif ieq (IntKind.i64.wrap ((IntKind.u64.wrap ((↑a0_0 : Int) * 2)).fdiv 2)) (-1) then bif ieq ((↑a1_0 : Int).fdiv 9223372036854775808) 1 then bif ieq (IntKind.i64.wrap (IntKind.i64.wrap (0 - IntKind.i64.wrap ((IntKind.u64.wrap ((↑a1_0 : Int) * 2)).fdiv 2)) - 1)) (-1) then false else ilt (IntKind.i64.wrap (IntKind.i64.wrap (0 - IntKind.i64.wrap ((IntKind.u64.wrap ((↑a1_0 : Int) * 2)).fdiv 2)) - 1)) 0 else bif ieq (IntKind.i64.wrap ((IntKind.u64.wrap ((↑a1_0 : Int) * 2)).fdiv 2)) (-1) then false else ilt (IntKind.i64.wrap ((IntKind.u64.wrap ((↑a1_0 : Int) * 2)).fdiv 2)) 0 else bif ieq ((↑a1_0 : Int).fdiv 9223372036854775808) 1 then bif ieq (IntKind.i64.wrap (IntKind.i64.wrap (0 - IntKind.i64.wrap ((IntKind.u64.wrap ((↑a1_0 : Int) * 2)).fdiv 2)) - 1)) (-1) then ilt 0 (IntKind.i64.wrap ((IntKind.u64.wrap ((↑a0_0 : Int) * 2)).fdiv 2)) else ilt (IntKind.i64.wrap (IntKind.i64.wrap (0 - IntKind.i64.wrap ((IntKind.u64.wrap ((↑a1_0 : Int) * 2)).fdiv 2)) - 1)) (IntKind.i64.wrap ((IntKind.u64.wrap ((↑a0_0 : Int) * 2)).fdiv 2)) else bif ieq (IntKind.i64.wrap ((IntKind.u64.wrap ((↑a1_0 : Int) * 2)).fdiv 2)) (-1) then ilt 0 (IntKind.i64.wrap ((IntKind.u64.wrap ((↑a0_0 : Int) * 2)).fdiv 2)) else ilt (IntKind.i64.wrap ((IntKind.u64.wrap ((↑a1_0 : Int) * 2)).fdiv 2)) (IntKind.i64.wrap ((IntKind.u64.wrap ((↑a0_0 : Int) * 2)).fdiv 2)))
noncomputable def S_ref01_above : List AV → Option AV
  | [AV.float a0_0, AV.float a1_0] => some (AV.bool (s_ref01_above_0 a0_0 a1_0))
  | _ => none
theorem t_ref01_above : ROk Try.prog false (81, pureF S_ref01_above) := ROk.pure (N := 64) env37_ok Try.func81 Try.call81 fun args v h => by
  unfold S_ref01_above at h
  split at h
  · rename_i a0_0 a1_0
    cases h
    refine ⟨rfl, rfl, ?_⟩
    rw [show evFn Try.prog false env37 64 Try.f81 [AV.float a0_0, AV.float a1_0] [] endP = bif !nanb a0_0 then bif !nanb a1_0 then bif !nanb a0_0 then bif !nanb a0_0 then bif ieq ((↑a0_0 : Int).fdiv 9223372036854775808) 1 then bif ieq (IntKind.i64.wrap (IntKind.i64.wrap (0 - IntKind.i64.wrap ((IntKind.u64.wrap ((↑a0_0 : Int) * 2)).fdiv 2)) - 1)) (-1) then bif !nanb a1_0 then bif !nanb a1_0 then bif ieq ((↑a1_0 : Int).fdiv 9223372036854775808) 1 then bif ieq (IntKind.i64.wrap (IntKind.i64.wrap (0 - IntKind.i64.wrap ((IntKind.u64.wrap ((↑a1_0 : Int) * 2)).fdiv 2)) - 1)) (-1) then endP (AV.bool false) [] else endP (AV.bool (ilt (IntKind.i64.wrap (IntKind.i64.wrap (0 - IntKind.i64.wrap ((IntKind.u64.wrap ((↑a1_0 : Int) * 2)).fdiv 2)) - 1)) 0)) [] else bif ieq (IntKind.i64.wrap ((IntKind.u64.wrap ((↑a1_0 : Int) * 2)).fdiv 2)) (-1) then endP (AV.bool false) [] else endP (AV.bool (ilt (IntKind.i64.wrap ((IntKind.u64.wrap ((↑a1_0 : Int) * 2)).fdiv 2)) 0)) [] else none else none else bif !nanb a1_0 then bif !nanb a1_0 then bif ieq ((↑a1_0 : Int).fdiv 9223372036854775808) 1 then bif ieq (IntKind.i64.wrap (IntKind.i64.wrap (0 - IntKind.i64.wrap ((IntKind.u64.wrap ((↑a1_0 : Int) * 2)).fdiv 2)) - 1)) (-1) then endP (AV.bool (ilt 0 (IntKind.i64.wrap (IntKind.i64.wrap (0 - IntKind.i64.wrap ((IntKind.u64.wrap ((↑a0_0 : Int) * 2)).fdiv 2)) - 1)))) [] else endP (AV.bool (ilt (IntKind.i64.wrap (IntKind.i64.wrap (0 - IntKind.i64.wrap ((IntKind.u64.wrap ((↑a1_0 : Int) * 2)).fdiv 2)) - 1)) (IntKind.i64.wrap (IntKind.i64.wrap (0 - IntKind.i64.wrap ((IntKind.u64.wrap ((↑a0_0 : Int) * 2)).fdiv 2)) - 1)))) [] else bif ieq (IntKind.i64.wrap ((IntKind.u64.wrap ((↑a1_0 : Int) * 2)).fdiv 2)) (-1) then endP (AV.bool (ilt 0 (IntKind.i64.wrap (IntKind.i64.wrap (0 - IntKind.i64.wrap ((IntKind.u64.wrap ((↑a0_0 : Int) * 2)).fdiv 2)) - 1)))) [] else endP (AV.bool (ilt (IntKind.i64.wrap ((IntKind.u64.wrap ((↑a1_0 : Int) * 2)).fdiv 2)) (IntKind.i64.wrap (IntKind.i64.wrap (0 - IntKind.i64.wrap ((IntKind.u64.wrap ((↑a0_0 : Int) * 2)).fdiv 2)) - 1)))) [] else none else none else bif ieq (IntKind.i64.wrap ((IntKind.u64.wrap ((↑a0_0 : Int) * 2)).fdiv 2)) (-1) then bif !nanb a1_0 then bif !nanb a1_0 then bif ieq ((↑a1_0 : Int).fdiv 9223372036854775808) 1 then bif ieq (IntKind.i64.wrap (IntKind.i64.wrap (0 - IntKind.i64.wrap ((IntKind.u64.wrap ((↑a1_0 : Int) * 2)).fdiv 2)) - 1)) (-1) then endP (AV.bool false) [] else endP (AV.bool (ilt (IntKind.i64.wrap (IntKind.i64.wrap (0 - IntKind.i64.wrap ((IntKind.u64.wrap ((↑a1_0 : Int) * 2)).fdiv 2)) - 1)) 0)) [] else bif ieq (IntKind.i64.wrap ((IntKind.u64.wrap ((↑a1_0 : Int) * 2)).fdiv 2)) (-1) then endP (AV.bool false) [] else endP (AV.bool (ilt (IntKind.i64.wrap ((IntKind.u64.wrap ((↑a1_0 : Int) * 2)).fdiv 2)) 0)) [] else none else none else bif !nanb a1_0 then bif !nanb a1_0 then bif ieq ((↑a1_0 : Int).fdiv 9223372036854775808) 1 then bif ieq (IntKind.i64.wrap (IntKind.i64.wrap (0 - IntKind.i64.wrap ((IntKind.u64.wrap ((↑a1_0 : Int) * 2)).fdiv 2)) - 1)) (-1) then endP (AV.bool (ilt 0 (IntKind.i64.wrap ((IntKind.u64.wrap ((↑a0_0 : Int) * 2)).fdiv 2)))) [] else endP (AV.bool (ilt (IntKind.i64.wrap (IntKind.i64.wrap (0 - IntKind.i64.wrap ((IntKind.u64.wrap ((↑a1_0 : Int) * 2)).fdiv 2)) - 1)) (IntKind.i64.wrap ((IntKind.u64.wrap ((↑a0_0 : Int) * 2)).fdiv 2)))) [] else bif ieq (IntKind.i64.wrap ((IntKind.u64.wrap ((↑a1_0 : Int) * 2)).fdiv 2)) (-1) then endP (AV.bool (ilt 0 (IntKind.i64.wrap ((IntKind.u64.wrap ((↑a0_0 : Int) * 2)).fdiv 2)))) [] else endP (AV.bool (ilt (IntKind.i64.wrap ((IntKind.u64.wrap ((↑a1_0 : Int) * 2)).fdiv 2)) (IntKind.i64.wrap ((IntKind.u64.wrap ((↑a0_0 : Int) * 2)).fdiv 2)))) [] else none else none else none else none else endP (AV.bool false) [] else endP (AV.bool false) [] from by kernel_rfl]
    refine node_eq (fun h0 => ?_) (fun h0 => ?_)
    · skip
      refine node_eq (fun h1 => ?_) (fun h1 => ?_)
      · skip
        refine node_eq (fun h2 => ?_) (fun h2 => ?_)
        · skip
          refine node_eq (fun h3 => ?_) (fun h3 => ?_)
          · skip
            refine node_eq (fun h4 => ?_) (fun h4 => ?_)
            · skip
              refine node_eq (fun h5 => ?_) (fun h5 => ?_)
              · skip
                refine node_eq (fun h6 => ?_) (fun h6 => ?_)
                · skip
                  refine node_eq (fun h7 => ?_) (fun h7 => ?_)
                  · skip
                    refine node_eq (fun h8 => ?_) (fun h8 => ?_)
                    · skip
                      refine node_eq (fun h9 => ?_) (fun h9 => ?_)
                      · skip
                        first | (simp only [endP, s_ref01_above_0, h9, h8, h7, h6, h5, h4, h3, h2, h1, h0]; done) | (simp only [endP, s_ref01_above_0, h9, h8, h7, h6, h5, h4, h3, h2, h1, h0]; rfl) | (simp only [endP, s_ref01_above_0, h9, h8, h7, h6, h5, h4, h3, h2, h1, h0, cond_true, cond_false, Bool.true_and, Bool.false_and, Bool.and_true, Bool.and_false, Bool.true_or, Bool.false_or, Bool.or_true, Bool.or_false, Bool.not_true, Bool.not_false]; done) | (simp_all; done) | simp_all [feq_self, endP, s_ref01_above_0]
                      · skip
                        first | (simp only [endP, s_ref01_above_0, h9, h8, h7, h6, h5, h4, h3, h2, h1, h0]; done) | (simp only [endP, s_ref01_above_0, h9, h8, h7, h6, h5, h4, h3, h2, h1, h0]; rfl) | (simp only [endP, s_ref01_above_0, h9, h8, h7, h6, h5, h4, h3, h2, h1, h0, cond_true, cond_false, Bool.true_and, Bool.false_and, Bool.and_true, Bool.and_false, Bool.true_or, Bool.false_or, Bool.or_true, Bool.or_false, Bool.not_true, Bool.not_false]; done) | (simp_all; done) | simp_all [feq_self, endP, s_ref01_above_0]
                    · skip
                      refine node_eq (fun h9 => ?_) (fun h9 => ?_)
                      · skip
                        first | (simp only [endP, s_ref01_above_0, h9, h8, h7, h6, h5, h4, h3, h2, h1, h0]; done) | (simp only [endP, s_ref01_above_0, h9, h8, h7, h6, h5, h4, h3, h2, h1, h0]; rfl) | (simp only [endP, s_ref01_above_0, h9, h8, h7, h6, h5, h4, h3, h2, h1, h0, cond_true, cond_false, Bool.true_and, Bool.false_and, Bool.and_true, Bool.and_false, Bool.true_or, Bool.false_or, Bool.or_true, Bool.or_false, Bool.not_true, Bool.not_false]; done) | (simp_all; done) | simp_all [feq_self, endP, s_ref01_above_0]
                      · skip
                        first | (simp only [endP, s_ref01_above_0, h9, h8, h7, h6, h5, h4, h3, h2, h1, h0]; done) | (simp only [endP, s_ref01_above_0, h9, h8, h7, h6, h5, h4, h3, h2, h1, h0]; rfl) | (simp only [endP, s_ref01_above_0, h9, h8, h7, h6, h5, h4, h3, h2, h1, h0, cond_true, cond_false, Bool.true_and, Bool.false_and, Bool.and_true, Bool.and_false, Bool.true_or, Bool.false_or, Bool.or_true, Bool.or_false, Bool.not_true, Bool.not_false]; done) | (simp_all; done) | simp_all [feq_self, endP, s_ref01_above_0]
                  · skip
                    first | (simp_all; done) | simp_all [feq_self]
                · skip
                  first | (simp_all; done) | simp_all [feq_self]
              · skip
                refine node_eq (fun h6 => ?_) (fun h6 => ?_)
                · skip
                  refine node_eq (fun h7 => ?_) (fun h7 => ?_)
                  · skip
                    refine node_eq (fun h8 => ?_) (fun h8 => ?_)
                    · skip
                      refine node_eq (fun h9 => ?_) (fun h9 => ?_)
                      · skip
                        first | (simp only [endP, s_ref01_above_0, h9, h8, h7, h6, h5, h4, h3, h2, h1, h0]; done) | (simp only [endP, s_ref01_above_0, h9, h8, h7, h6, h5, h4, h3, h2, h1, h0]; rfl) | (simp only [endP, s_ref01_above_0, h9, h8, h7, h6, h5, h4, h3, h2, h1, h0, cond_true, cond_false, Bool.true_and, Bool.false_and, Bool.and_true, Bool.and_false, Bool.true_or, Bool.false_or, Bool.or_true, Bool.or_false, Bool.not_true, Bool.not_false]; done) | (simp_all; done) | simp_all [feq_self, endP, s_ref01_above_0]
                      · skip
                        first | (simp only [endP, s_ref01_above_0, h9, h8, h7, h6, h5, h4, h3, h2, h1, h0]; done) | (simp only [endP, s_ref01_above_0, h9, h8, h7, h6, h5, h4, h3, h2, h1, h0]; rfl) | (simp only [endP, s_ref01_above_0, h9, h8, h7, h6, h5, h4, h3, h2, h1, h0, cond_true, cond_false, Bool.true_and, Bool.false_and, Bool.and_true, Bool.and_false, Bool.true_or, Bool.false_or, Bool.or_true, Bool.or_false, Bool.not_true, Bool.not_false]; done) | (simp_all; done) | simp_all [feq_self, endP, s_ref01_above_0]
                    · skip
                      refine node_eq (fun h9 => ?_) (fun h9 => ?_)
                      · skip
                        first | (simp only [endP, s_ref01_above_0, h9, h8, h7, h6, h5, h4, h3, h2, h1, h0]; done) | (simp only [endP, s_ref01_above_0, h9, h8, h7, h6, h5, h4, h3, h2, h1, h0]; rfl) | (simp only [endP, s_ref01_above_0, h9, h8, h7, h6, h5, h4, h3, h2, h1, h0, cond_true, cond_false, Bool.true_and, Bool.false_and, Bool.and_true, Bool.and_false, Bool.true_or, Bool.false_or, Bool.or_true, Bool.or_false, Bool.not_true, Bool.not_false]; done) | (simp_all; done) | simp_all [feq_self, endP, s_ref01_above_0]
                      · skip
                        first | (simp only [endP, s_ref01_above_0, h9, h8, h7, h6, h5, h4, h3, h2, h1, h0]; done) | (simp only [endP, s_ref01_above_0, h9, h8, h7, h6, h5, h4, h3, h2, h1, h0]; rfl) | (simp only [endP, s_ref01_above_0, h9, h8, h7, h6, h5, h4, h3, h2, h1, h0, cond_true, cond_false, Bool.true_and, Bool.false_and, Bool.and_true, Bool.and_false, Bool.true_or, Bool.false_or, Bool.or_true, Bool.or_false, Bool.not_true, Bool.not_false]; done) | (simp_all; done) | simp_all [feq_self, endP, s_ref01_above_0]
                  · skip
                    first | (simp_all; done) | simp_all [feq_self]
                · skip
                  first | (simp_all; done) | simp_all [feq_self]
            · skip
              refine node_eq (fun h5 => ?_) (fun h5 => ?_)
              · skip
                refine node_eq (fun h6 => ?_) (fun h6 => ?_)
                · skip
                  refine node_eq (fun h7 => ?_) (fun h7 => ?_)
                  · skip
                    refine node_eq (fun h8 => ?_) (fun h8 => ?_)
                    · skip
                      refine node_eq (fun h9 => ?_) (fun h9 => ?_)
                      · skip
                        first | (simp only [endP, s_ref01_above_0, h9, h8, h7, h6, h5, h4, h3, h2, h1, h0]; done) | (simp only [endP, s_ref01_above_0, h9, h8, h7, h6, h5, h4, h3, h2, h1, h0]; rfl) | (simp only [endP, s_ref01_above_0, h9, h8, h7, h6, h5, h4, h3, h2, h1, h0, cond_true, cond_false, Bool.true_and, Bool.false_and, Bool.and_true, Bool.and_false, Bool.true_or, Bool.false_or, Bool.or_true, Bool.or_false, Bool.not_true, Bool.not_false]; done) | (simp_all; done) | simp_all [feq_self, endP, s_ref01_above_0]
                      · skip
                        first | (simp only [endP, s_ref01_above_0, h9, h8, h7, h6, h5, h4, h3, h2, h1, h0]; done) | (simp only [endP, s_ref01_above_0, h9, h8, h7, h6, h5, h4, h3, h2, h1, h0]; rfl) | (simp only [endP, s_ref01_above_0, h9, h8, h7, h6, h5, h4, h3, h2, h1, h0, cond_true, cond_false, Bool.true_and, Bool.false_and, Bool.and_true, Bool.and_false, Bool.true_or, Bool.false_or, Bool.or_true, Bool.or_false, Bool.not_true, Bool.not_false]; done) | (simp_all; done) | simp_all [feq_self, endP, s_ref01_above_0]
                    · skip
                      refine node_eq (fun h9 => ?_) (fun h9 => ?_)
                      · skip
                        first | (simp only [endP, s_ref01_above_0, h9, h8, h7, h6, h5, h4, h3, h2, h1, h0]; done) | (simp only [endP, s_ref01_above_0, h9, h8, h7, h6, h5, h4, h3, h2, h1, h0]; rfl) | (simp only [endP, s_ref01_above_0, h9, h8, h7, h6, h5, h4, h3, h2, h1, h0, cond_true, cond_false, Bool.true_and, Bool.false_and, Bool.and_true, Bool.and_false, Bool.true_or, Bool.false_or, Bool.or_true, Bool.or_false, Bool.not_true, Bool.not_false]; done) | (simp_all; done) | simp_all [feq_self, endP, s_ref01_above_0]
                      · skip
                        first | (simp only [endP, s_ref01_above_0, h9, h8, h7, h6, h5, h4, h3, h2, h1, h0]; done) | (simp only [endP, s_ref01_above_0, h9, h8, h7, h6, h5, h4, h3, h2, h1, h0]; rfl) | (simp only [endP, s_ref01_above_0, h9, h8, h7, h6, h5, h4, h3, h2, h1, h0, cond_true, cond_false, Bool.true_and, Bool.false_and, Bool.and_true, Bool.and_false, Bool.true_or, Bool.false_or, Bool.or_true, Bool.or_false, Bool.not_true, Bool.not_false]; done) | (simp_all; done) | simp_all [feq_self, endP, s_ref01_above_0]
                  · skip
                    first | (simp_all; done) | simp_all [feq_self]
                · skip
                  first | (simp_all; done) | simp_all [feq_self]
              · skip
                refine node_eq (fun h6 => ?_) (fun h6 => ?_)
                · skip
                  refine node_eq (fun h7 => ?_) (fun h7 => ?_)
                  · skip
                    refine node_eq (fun h8 => ?_) (fun h8 => ?_)
                    · skip
                      refine node_eq (fun h9 => ?_) (fun h9 => ?_)
                      · skip
                        first | (simp only [endP, s_ref01_above_0, h9, h8, h7, h6, h5, h4, h3, h2, h1, h0]; done) | (simp only [endP, s_ref01_above_0, h9, h8, h7, h6, h5, h4, h3, h2, h1, h0]; rfl) | (simp only [endP, s_ref01_above_0, h9, h8, h7, h6, h5, h4, h3, h2, h1, h0, cond_true, cond_false, Bool.true_and, Bool.false_and, Bool.and_true, Bool.and_false, Bool.true_or, Bool.false_or, Bool.or_true, Bool.or_false, Bool.not_true, Bool.not_false]; done) | (simp_all; done) | simp_all [feq_self, endP, s_ref01_above_0]
                      · skip
                        first | (simp only [endP, s_ref01_above_0, h9, h8, h7, h6, h5, h4, h3, h2, h1, h0]; done) | (simp only [endP, s_ref01_above_0, h9, h8, h7, h6, h5, h4, h3, h2, h1, h0]; rfl) | (simp only [endP, s_ref01_above_0, h9, h8, h7, h6, h5, h4, h3, h2, h1, h0, cond_true, cond_false, Bool.true_and, Bool.false_and, Bool.and_true, Bool.and_false, Bool.true_or, Bool.false_or, Bool.or_true, Bool.or_false, Bool.not_true, Bool.not_false]; done) | (simp_all; done) | simp_all [feq_self, endP, s_ref01_above_0]
                    · skip
                      refine node_eq (fun h9 => ?_) (fun h9 => ?_)
                      · skip
                        first | (simp only [endP, s_ref01_above_0, h9, h8, h7, h6, h5, h4, h3, h2, h1, h0]; done) | (simp only [endP, s_ref01_above_0, h9, h8, h7, h6, h5, h4, h3, h2, h1, h0]; rfl) | (simp only [endP, s_ref01_above_0, h9, h8, h7, h6, h5, h4, h3, h2, h1, h0, cond_true, cond_false, Bool.true_and, Bool.false_and, Bool.and_true, Bool.and_false, Bool.true_or, Bool.false_or, Bool.or_true, Bool.or_false, Bool.not_true, Bool.not_false]; done) | (simp_all; done) | simp_all [feq_self, endP, s_ref01_above_0]
                      · skip
                        first | (simp only [endP, s_ref01_above_0, h9, h8, h7, h6, h5, h4, h3, h2, h1, h0]; done) | (simp only [endP, s_ref01_above_0, h9, h8, h7, h6, h5, h4, h3, h2, h1, h0]; rfl) | (simp only [endP, s_ref01_above_0, h9, h8, h7, h6, h5, h4, h3, h2, h1, h0, cond_true, cond_false, Bool.true_and, Bool.false_and, Bool.and_true, Bool.and_false, Bool.true_or, Bool.false_or, Bool.or_true, Bool.or_false, Bool.not_true, Bool.not_false]; done) | (simp_all; done) | simp_all [feq_self, endP, s_ref01_above_0]
                  · skip
                    first | (simp_all; done) | simp_all [feq_self]
                · skip
                  first | (simp_all; done) | simp_all [feq_self]
          · skip
            first | (simp_all; done) | simp_all [feq_self]
        · skip
          first | (simp_all; done) | simp_all [feq_self]
      · skip
        first | (simp only [endP, s_ref01_above_0, h1, h0]; done) | (simp only [endP, s_ref01_above_0, h1, h0]; rfl) | (simp only [endP, s_ref01_above_0, h1, h0, cond_true, cond_false, Bool.true_and, Bool.false_and, Bool.and_true, Bool.and_false, Bool.true_or, Bool.false_or, Bool.or_true, Bool.or_false, Bool.not_true, Bool.not_false]; done) | (simp_all; done) | simp_all [feq_self, endP, s_ref01_above_0]
    · skip
      first | (simp only [endP, s_ref01_above_0, h0]; done) | (simp only [endP, s_ref01_above_0, h0]; rfl) | (simp only [endP, s_ref01_above_0, h0, cond_true, cond_false, Bool.true_and, Bool.false_and, Bool.and_true, Bool.and_false, Bool.true_or, Bool.false_or, Bool.or_true, Bool.or_false, Bool.not_true, Bool.not_false]; done) | (simp_all; done) | simp_all [feq_self, endP, s_ref01_above_0]
  · cases h
noncomputable def rs38 : List (FuncId × RF) := (81, pureF S_ref01_above) :: rs37
noncomputable def env38 : Env := mkEnv xs rs38 ws0
theorem rs38_ok : All (ROk Try.prog false) rs38 := All.cons t_ref01_above rs37_ok
theorem env38_ok : env38.Ok Try.prog false := mkEnv_ok xs_ok rs38_ok ws0_ok
-- tumble/tumbleref01.Within
noncomputable def s_ref01_Within_0 (a0_0 : Nat) (a1_0 : Nat) : Bool := !nanb a0_0 && (!nanb a1_0 && (!s_ref01_above_0 a0_0 a1_0 && !s_ref01_above_0 (fneg a1_0) a0_0))
noncomputable def S_ref01_Within : List AV → Option AV
  | [AV.float a0_0, AV.float a1_0] => some (AV.bool (s_ref01_Within_0 a0_0 a1_0))
  | _ => none
theorem t_ref01_Within : ROk Try.prog false (71, pureF S_ref01_Within) := ROk.pure (N := 64) env38_ok Try.func71 Try.call71 fun args v h => by
  unfold S_ref01_Within at h
  split at h
  · rename_i a0_0 a1_0
    cases h
    refine ⟨rfl, rfl, ?_⟩
    rw [show evFn Try.prog false env38 64 Try.f71 [AV.float a0_0, AV.float a1_0] [] endP = bif !nanb a0_0 then bif !nanb a1_0 then bif !s_ref01_above_0 a0_0 a1_0 then endP (AV.bool !s_ref01_above_0 (fneg a1_0) a0_0) [] else endP (AV.bool false) [] else endP (AV.bool false) [] else endP (AV.bool false) [] from by kernel_rfl]
    refine node_eq (fun h0 => ?_) (fun h0 => ?_)
    · skip
      refine node_eq (fun h1 => ?_) (fun h1 => ?_)
      · skip
        refine node_eq (fun h2 => ?_) (fun h2 => ?_)
        · skip
          first | (simp only [endP, s_ref01_Within_0, h2, h1, h0]; done) | (simp only [endP, s_ref01_Within_0, h2, h1, h0]; rfl) | (simp only [endP, s_ref01_Within_0, h2, h1, h0, cond_true, cond_false, Bool.true_and, Bool.false_and, Bool.and_true, Bool.and_false, Bool.true_or, Bool.false_or, Bool.or_true, Bool.or_false, Bool.not_true, Bool.not_false]; done) | (simp_all; done) | simp_all [feq_self, endP, s_ref01_Within_0, s_ref01_above_0]
        · skip
          first | (simp only [endP, s_ref01_Within_0, h2, h1, h0]; done) | (simp only [endP, s_ref01_Within_0, h2, h1, h0]; rfl) | (simp only [endP, s_ref01_Within_0, h2, h1, h0, cond_true, cond_false, Bool.true_and, Bool.false_and, Bool.and_true, Bool.and_false, Bool.true_or, Bool.false_or, Bool.or_true, Bool.or_false, Bool.not_true, Bool.not_false]; done) | (simp_all; done) | simp_all [feq_self, endP, s_ref01_Within_0, s_ref01_above_0]
      · skip
        first | (simp only [endP, s_ref01_Within_0, h1, h0]; done) | (simp only [endP, s_ref01_Within_0, h1, h0]; rfl) | (simp only [endP, s_ref01_Within_0, h1, h0, cond_true, cond_false, Bool.true_and, Bool.false_and, Bool.and_true, Bool.and_false, Bool.true_or, Bool.false_or, Bool.or_true, Bool.or_false, Bool.not_true, Bool.not_false]; done) | (simp_all; done) | simp_all [feq_self, endP, s_ref01_Within_0, s_ref01_above_0]
    · skip
      first | (simp only [endP, s_ref01_Within_0, h0]; done) | (simp only [endP, s_ref01_Within_0, h0]; rfl) | (simp only [endP, s_ref01_Within_0, h0, cond_true, cond_false, Bool.true_and, Bool.false_and, Bool.and_true, Bool.and_false, Bool.true_or, Bool.false_or, Bool.or_true, Bool.or_false, Bool.not_true, Bool.not_false]; done) | (simp_all; done) | simp_all [feq_self, endP, s_ref01_Within_0, s_ref01_above_0]
  · cases h
noncomputable def rs39 : List (FuncId × RF) := (71, pureF S_ref01_Within) :: rs38
noncomputable def env39 : Env := mkEnv xs rs39 ws0
theorem rs39_ok : All (ROk Try.prog false) rs39 := All.cons t_ref01_Within rs38_ok
theorem env39_ok : env39.Ok Try.prog false := mkEnv_ok xs_ok rs39_ok ws0_ok
-- tumble/tumbleref04.Real
noncomputable def s_ref04_Real_0 (a0_0 : Nat) : Bool := s_ref01_Within_0 a0_0 4787326403894837248
noncomputable def S_ref04_Real : List AV → Option AV
  | [AV.float a0_0] => some (AV.bool (s_ref04_Real_0 a0_0))
  | _ => none
theorem t_ref04_Real : ROk Try.prog false (49, pureF S_ref04_Real) := ROk.pure (N := 64) env39_ok Try.func49 Try.call49 fun args v h => by
  unfold S_ref04_Real at h
  split at h
  · rename_i a0_0
    cases h
    exact ⟨rfl, rfl, by kernel_rfl⟩
  · cases h
noncomputable def rs40 : List (FuncId × RF) := (49, pureF S_ref04_Real) :: rs39
noncomputable def env40 : Env := mkEnv xs rs40 ws0
theorem rs40_ok : All (ROk Try.prog false) rs40 := All.cons t_ref04_Real rs39_ok
theorem env40_ok : env40.Ok Try.prog false := mkEnv_ok xs_ok rs40_ok ws0_ok
-- tumble/tumbleref03.Square
noncomputable def s_ref03_Square_0 (a0_0r : Nat) (a0_0i : Nat) : Nat := fadd (fmul a0_0r a0_0r) (fmul a0_0i a0_0i)
noncomputable def S_ref03_Square : List AV → Option AV
  | [AV.complex a0_0r a0_0i] => some (AV.float (s_ref03_Square_0 a0_0r a0_0i))
  | _ => none
theorem t_ref03_Square : ROk Try.prog false (72, pureF S_ref03_Square) := ROk.pure (N := 64) env40_ok Try.func72 Try.call72 fun args v h => by
  unfold S_ref03_Square at h
  split at h
  · rename_i a0_0r a0_0i
    cases h
    exact ⟨rfl, rfl, by kernel_rfl⟩
  · cases h
noncomputable def rs41 : List (FuncId × RF) := (72, pureF S_ref03_Square) :: rs40
noncomputable def env41 : Env := mkEnv xs rs41 ws0
theorem rs41_ok : All (ROk Try.prog false) rs41 := All.cons t_ref03_Square rs40_ok
theorem env41_ok : env41.Ok Try.prog false := mkEnv_ok xs_ok rs41_ok ws0_ok
-- tumble/tumbleref03.finite
noncomputable def s_ref03_finite_0 (a0_0 : Nat) : Bool := fle 18442240474082181119 a0_0 && fle a0_0 9218868437227405311
noncomputable def S_ref03_finite : List AV → Option AV
  | [AV.float a0_0] => some (AV.bool (s_ref03_finite_0 a0_0))
  | _ => none
theorem t_ref03_finite : ROk Try.prog false (73, pureF S_ref03_finite) := ROk.pure (N := 64) env41_ok Try.func73 Try.call73 fun args v h => by
  unfold S_ref03_finite at h
  split at h
  · rename_i a0_0
    cases h
    refine ⟨rfl, rfl, ?_⟩
    rw [show evFn Try.prog false env41 64 Try.f73 [AV.float a0_0] [] endP = bif fle 18442240474082181119 a0_0 then endP (AV.bool (fle a0_0 9218868437227405311)) [] else endP (AV.bool false) [] from by kernel_rfl]
    refine node_eq (fun h0 => ?_) (fun h0 => ?_)
    · skip
      first | (simp only [endP, s_ref03_finite_0, h0]; done) | (simp only [endP, s_ref03_finite_0, h0]; rfl) | (simp only [endP, s_ref03_finite_0, h0, cond_true, cond_false, Bool.true_and, Bool.false_and, Bool.and_true, Bool.and_false, Bool.true_or, Bool.false_or, Bool.or_true, Bool.or_false, Bool.not_true, Bool.not_false]; done) | (simp_all; done) | simp_all [feq_self, endP, s_ref03_finite_0]
    · skip
      first | (simp only [endP, s_ref03_finite_0, h0]; done) | (simp only [endP, s_ref03_finite_0, h0]; rfl) | (simp only [endP, s_ref03_finite_0, h0, cond_true, cond_false, Bool.true_and, Bool.false_and, Bool.and_true, Bool.and_false, Bool.true_or, Bool.false_or, Bool.or_true, Bool.or_false, Bool.not_true, Bool.not_false]; done) | (simp_all; done) | simp_all [feq_self, endP, s_ref03_finite_0]
  · cases h
noncomputable def rs42 : List (FuncId × RF) := (73, pureF S_ref03_finite) :: rs41
noncomputable def env42 : Env := mkEnv xs rs42 ws0
theorem rs42_ok : All (ROk Try.prog false) rs42 := All.cons t_ref03_finite rs41_ok
theorem env42_ok : env42.Ok Try.prog false := mkEnv_ok xs_ok rs42_ok ws0_ok
-- tumble/tumbleref03.Check
noncomputable def s_ref03_Check_0 (a0_0r : Nat) (a0_0i : Nat) : Int := bif !!s_ref03_finite_0 a0_0r then bif !!s_ref03_finite_0 a0_0i then bif fle 4607182418800009216 (s_ref03_Square_0 a0_0r a0_0i) then bif !fle (s_ref03_Square_0 a0_0r a0_0i) 4607182418800021504 then 30 else 0 else 30 else 30 else 30
noncomputable def S_ref03_Check : List AV → Option AV
  | [AV.complex a0_0r a0_0i] => some (AV.int IntKind.i64 (s_ref03_Check_0 a0_0r a0_0i))
  | _ => none
theorem t_ref03_Check : ROk Try.prog false (50, pureF S_ref03_Check) := ROk.pure (N := 64) env42_ok Try.func50 Try.call50 fun args v h => by
  unfold S_ref03_Check at h
  split at h
  · rename_i a0_0r a0_0i
    cases h
    refine ⟨rfl, rfl, ?_⟩
    rw [show evFn Try.prog false env42 64 Try.f50 [AV.complex a0_0r a0_0i] [] endP = bif !!s_ref03_finite_0 a0_0r then bif !!s_ref03_finite_0 a0_0i then bif fle 4607182418800009216 (s_ref03_Square_0 a0_0r a0_0i) then bif !fle (s_ref03_Square_0 a0_0r a0_0i) 4607182418800021504 then endP (AV.int IntKind.i64 30) [] else endP (AV.int IntKind.i64 0) [] else endP (AV.int IntKind.i64 30) [] else endP (AV.int IntKind.i64 30) [] else endP (AV.int IntKind.i64 30) [] from by kernel_rfl]
    refine node_eq (fun h0 => ?_) (fun h0 => ?_)
    · skip
      refine node_eq (fun h1 => ?_) (fun h1 => ?_)
      · skip
        refine node_eq (fun h2 => ?_) (fun h2 => ?_)
        · skip
          refine node_eq (fun h3 => ?_) (fun h3 => ?_)
          · skip
            first | (simp only [endP, s_ref03_Check_0, h3, h2, h1, h0]; done) | (simp only [endP, s_ref03_Check_0, h3, h2, h1, h0]; rfl) | (simp only [endP, s_ref03_Check_0, h3, h2, h1, h0, cond_true, cond_false, Bool.true_and, Bool.false_and, Bool.and_true, Bool.and_false, Bool.true_or, Bool.false_or, Bool.or_true, Bool.or_false, Bool.not_true, Bool.not_false]; done) | (simp_all; done) | simp_all [feq_self, endP, s_ref03_Check_0, s_ref03_finite_0, s_ref03_Square_0]
          · skip
            first | (simp only [endP, s_ref03_Check_0, h3, h2, h1, h0]; done) | (simp only [endP, s_ref03_Check_0, h3, h2, h1, h0]; rfl) | (simp only [endP, s_ref03_Check_0, h3, h2, h1, h0, cond_true, cond_false, Bool.true_and, Bool.false_and, Bool.and_true, Bool.and_false, Bool.true_or, Bool.false_or, Bool.or_true, Bool.or_false, Bool.not_true, Bool.not_false]; done) | (simp_all; done) | simp_all [feq_self, endP, s_ref03_Check_0, s_ref03_finite_0, s_ref03_Square_0]
        · skip
          first | (simp only [endP, s_ref03_Check_0, h2, h1, h0]; done) | (simp only [endP, s_ref03_Check_0, h2, h1, h0]; rfl) | (simp only [endP, s_ref03_Check_0, h2, h1, h0, cond_true, cond_false, Bool.true_and, Bool.false_and, Bool.and_true, Bool.and_false, Bool.true_or, Bool.false_or, Bool.or_true, Bool.or_false, Bool.not_true, Bool.not_false]; done) | (simp_all; done) | simp_all [feq_self, endP, s_ref03_Check_0, s_ref03_finite_0, s_ref03_Square_0]
      · skip
        first | (simp only [endP, s_ref03_Check_0, h1, h0]; done) | (simp only [endP, s_ref03_Check_0, h1, h0]; rfl) | (simp only [endP, s_ref03_Check_0, h1, h0, cond_true, cond_false, Bool.true_and, Bool.false_and, Bool.and_true, Bool.and_false, Bool.true_or, Bool.false_or, Bool.or_true, Bool.or_false, Bool.not_true, Bool.not_false]; done) | (simp_all; done) | simp_all [feq_self, endP, s_ref03_Check_0, s_ref03_finite_0, s_ref03_Square_0]
    · skip
      first | (simp only [endP, s_ref03_Check_0, h0]; done) | (simp only [endP, s_ref03_Check_0, h0]; rfl) | (simp only [endP, s_ref03_Check_0, h0, cond_true, cond_false, Bool.true_and, Bool.false_and, Bool.and_true, Bool.and_false, Bool.true_or, Bool.false_or, Bool.or_true, Bool.or_false, Bool.not_true, Bool.not_false]; done) | (simp_all; done) | simp_all [feq_self, endP, s_ref03_Check_0, s_ref03_finite_0, s_ref03_Square_0]
  · cases h
noncomputable def rs43 : List (FuncId × RF) := (50, pureF S_ref03_Check) :: rs42
noncomputable def env43 : Env := mkEnv xs rs43 ws0
theorem rs43_ok : All (ROk Try.prog false) rs43 := All.cons t_ref03_Check rs42_ok
theorem env43_ok : env43.Ok Try.prog false := mkEnv_ok xs_ok rs43_ok ws0_ok
-- tumble/tumbleref04.Check
noncomputable def s_ref04_Check_0 (a0_0 : Nat) (a0_1 : Nat) (a0_2r : Nat) (a0_2i : Nat) : Int := bif !!s_ref04_Real_0 a0_0 then bif !s_ref04_Real_0 a0_1 then 5 else s_ref03_Check_0 a0_2r a0_2i else 5
noncomputable def S_ref04_Check : List AV → Option AV
  | [AV.agg [.float a0_0, .float a0_1, .complex a0_2r a0_2i]] => some (AV.int IntKind.i64 (s_ref04_Check_0 a0_0 a0_1 a0_2r a0_2i))
  | _ => none
theorem t_ref04_Check : ROk Try.prog false (19, pureF S_ref04_Check) := ROk.pure (N := 64) env43_ok Try.func19 Try.call19 fun args v h => by
  unfold S_ref04_Check at h
  split at h
  · rename_i a0_0 a0_1 a0_2r a0_2i
    cases h
    refine ⟨rfl, rfl, ?_⟩
    rw [show evFn Try.prog false env43 64 Try.f19 [AV.agg [.float a0_0, .float a0_1, .complex a0_2r a0_2i]] [] endP = bif !!s_ref04_Real_0 a0_0 then bif !s_ref04_Real_0 a0_1 then endP (AV.int IntKind.i64 5) [] else endP (AV.int IntKind.i64 (s_ref03_Check_0 a0_2r a0_2i)) [] else endP (AV.int IntKind.i64 5) [] from by kernel_rfl]
    refine node_eq (fun h0 => ?_) (fun h0 => ?_)
    · skip
      refine node_eq (fun h1 => ?_) (fun h1 => ?_)
      · skip
        first | (simp only [endP, s_ref04_Check_0, h1, h0]; done) | (simp only [endP, s_ref04_Check_0, h1, h0]; rfl) | (simp only [endP, s_ref04_Check_0, h1, h0, cond_true, cond_false, Bool.true_and, Bool.false_and, Bool.and_true, Bool.and_false, Bool.true_or, Bool.false_or, Bool.or_true, Bool.or_false, Bool.not_true, Bool.not_false]; done) | (simp_all; done) | simp_all [feq_self, endP, s_ref04_Check_0, s_ref04_Real_0]
      · skip
        first | (simp only [endP, s_ref04_Check_0, h1, h0]; done) | (simp only [endP, s_ref04_Check_0, h1, h0]; rfl) | (simp only [endP, s_ref04_Check_0, h1, h0, cond_true, cond_false, Bool.true_and, Bool.false_and, Bool.and_true, Bool.and_false, Bool.true_or, Bool.false_or, Bool.or_true, Bool.or_false, Bool.not_true, Bool.not_false]; done) | (simp_all; done) | simp_all [feq_self, endP, s_ref04_Check_0, s_ref04_Real_0]
    · skip
      first | (simp only [endP, s_ref04_Check_0, h0]; done) | (simp only [endP, s_ref04_Check_0, h0]; rfl) | (simp only [endP, s_ref04_Check_0, h0, cond_true, cond_false, Bool.true_and, Bool.false_and, Bool.and_true, Bool.and_false, Bool.true_or, Bool.false_or, Bool.or_true, Bool.or_false, Bool.not_true, Bool.not_false]; done) | (simp_all; done) | simp_all [feq_self, endP, s_ref04_Check_0, s_ref04_Real_0]
  · cases h
noncomputable def rs44 : List (FuncId × RF) := (19, pureF S_ref04_Check) :: rs43
noncomputable def env44 : Env := mkEnv xs rs44 ws0
theorem rs44_ok : All (ROk Try.prog false) rs44 := All.cons t_ref04_Check rs43_ok
theorem env44_ok : env44.Ok Try.prog false := mkEnv_ok xs_ok rs44_ok ws0_ok
-- tumble/frame.plain
noncomputable def s_frame_plain_0 (a0_0 : Nat) (a0_1 : Nat) (a0_2r : Nat) (a0_2i : Nat) : Bool := !feq (fmul (fmul (fmul a0_0 a0_1) a0_2r) a0_2i) 0 && (feq a0_0 a0_0 && (feq a0_1 a0_1 && true) && (feq a0_2r a0_2r && feq a0_2i a0_2i && true))
noncomputable def S_frame_plain : List AV → Option AV
  | [AV.agg [.float a0_0, .float a0_1, .complex a0_2r a0_2i]] => some (AV.bool (s_frame_plain_0 a0_0 a0_1 a0_2r a0_2i))
  | _ => none
theorem t_frame_plain : ROk Try.prog false (51, pureF S_frame_plain) := ROk.pure (N := 64) env44_ok Try.func51 Try.call51 fun args v h => by
  unfold S_frame_plain at h
  split at h
  · rename_i a0_0 a0_1 a0_2r a0_2i
    cases h
    refine ⟨rfl, rfl, ?_⟩
    rw [show evFn Try.prog false env44 64 Try.f51 [AV.agg [.float a0_0, .float a0_1, .complex a0_2r a0_2i]] [] endP = bif !feq (fmul (fmul (fmul a0_0 a0_1) a0_2r) a0_2i) 0 then endP (AV.bool (feq a0_0 a0_0 && (feq a0_1 a0_1 && true) && (feq a0_2r a0_2r && feq a0_2i a0_2i && true))) [] else endP (AV.bool false) [] from by kernel_rfl]
    refine node_eq (fun h0 => ?_) (fun h0 => ?_)
    · skip
      first | (simp only [endP, s_frame_plain_0, h0]; done) | (simp only [endP, s_frame_plain_0, h0]; rfl) | (simp only [endP, s_frame_plain_0, h0, cond_true, cond_false, Bool.true_and, Bool.false_and, Bool.and_true, Bool.and_false, Bool.true_or, Bool.false_or, Bool.or_true, Bool.or_false, Bool.not_true, Bool.not_false]; done) | (simp_all; done) | simp_all [feq_self, endP, s_frame_plain_0]
    · skip
      first | (simp only [endP, s_frame_plain_0, h0]; done) | (simp only [endP, s_frame_plain_0, h0]; rfl) | (simp only [endP, s_frame_plain_0, h0, cond_true, cond_false, Bool.true_and, Bool.false_and, Bool.and_true, Bool.and_false, Bool.true_or, Bool.false_or, Bool.or_true, Bool.or_false, Bool.not_true, Bool.not_false]; done) | (simp_all; done) | simp_all [feq_self, endP, s_frame_plain_0]
  · cases h
noncomputable def rs45 : List (FuncId × RF) := (51, pureF S_frame_plain) :: rs44
noncomputable def env45 : Env := mkEnv xs rs45 ws0
theorem rs45_ok : All (ROk Try.prog false) rs45 := All.cons t_frame_plain rs44_ok
theorem env45_ok : env45.Ok Try.prog false := mkEnv_ok xs_ok rs45_ok ws0_ok
-- tumble/num.none[float64]
noncomputable def s_num_none_float64__0 (a0_0 : Nat) : Bool := !feq a0_0 a0_0
noncomputable def S_num_none_float64_ : List AV → Option AV
  | [AV.float a0_0] => some (AV.bool (s_num_none_float64__0 a0_0))
  | _ => none
theorem t_num_none_float64_ : ROk Try.prog false (77, pureF S_num_none_float64_) := ROk.pure (N := 64) env45_ok Try.func77 Try.call77 fun args v h => by
  unfold S_num_none_float64_ at h
  split at h
  · rename_i a0_0
    cases h
    exact ⟨rfl, rfl, by kernel_rfl⟩
  · cases h
noncomputable def rs46 : List (FuncId × RF) := (77, pureF S_num_none_float64_) :: rs45
noncomputable def env46 : Env := mkEnv xs rs46 ws0
theorem rs46_ok : All (ROk Try.prog false) rs46 := All.cons t_num_none_float64_ rs45_ok
theorem env46_ok : env46.Ok Try.prog false := mkEnv_ok xs_ok rs46_ok ws0_ok
-- tumble/num.Bits
noncomputable def s_num_Bits_0 (a0_0 : Nat) : Int := bif s_num_none_float64__0 a0_0 then 9221120237041090560 else (↑a0_0 : Int)
noncomputable def S_num_Bits : List AV → Option AV
  | [AV.float a0_0] => some (AV.int IntKind.u64 (s_num_Bits_0 a0_0))
  | _ => none
theorem t_num_Bits : ROk Try.prog false (74, pureF S_num_Bits) := ROk.pure (N := 64) env46_ok Try.func74 Try.call74 fun args v h => by
  unfold S_num_Bits at h
  split at h
  · rename_i a0_0
    cases h
    refine ⟨rfl, rfl, ?_⟩
    rw [show evFn Try.prog false env46 64 Try.f74 [AV.float a0_0] [] endP = bif s_num_none_float64__0 a0_0 then endP (AV.int IntKind.u64 9221120237041090560) [] else bif !nanb a0_0 then endP (AV.int IntKind.u64 (↑a0_0 : Int)) [] else none from by kernel_rfl]
    refine node_eq (fun h0 => ?_) (fun h0 => ?_)
    · skip
      first | (simp only [endP, s_num_Bits_0, h0]; done) | (simp only [endP, s_num_Bits_0, h0]; rfl) | (simp only [endP, s_num_Bits_0, h0, cond_true, cond_false, Bool.true_and, Bool.false_and, Bool.and_true, Bool.and_false, Bool.true_or, Bool.false_or, Bool.or_true, Bool.or_false, Bool.not_true, Bool.not_false]; done) | (simp_all; done) | simp_all [feq_self, endP, s_num_Bits_0, s_num_none_float64__0]
    · skip
      refine node_eq (fun h1 => ?_) (fun h1 => ?_)
      · skip
        first | (simp only [endP, s_num_Bits_0, h1, h0]; done) | (simp only [endP, s_num_Bits_0, h1, h0]; rfl) | (simp only [endP, s_num_Bits_0, h1, h0, cond_true, cond_false, Bool.true_and, Bool.false_and, Bool.and_true, Bool.and_false, Bool.true_or, Bool.false_or, Bool.or_true, Bool.or_false, Bool.not_true, Bool.not_false]; done) | (simp_all; done) | simp_all [feq_self, endP, s_num_Bits_0, s_num_none_float64__0]
      · skip
        first | (simp_all; done) | simp_all [feq_self, s_num_none_float64__0]
  · cases h
noncomputable def rs47 : List (FuncId × RF) := (74, pureF S_num_Bits) :: rs46
noncomputable def env47 : Env := mkEnv xs rs47 ws0
theorem rs47_ok : All (ROk Try.prog false) rs47 := All.cons t_num_Bits rs46_ok
theorem env47_ok : env47.Ok Try.prog false := mkEnv_ok xs_ok rs47_ok ws0_ok
-- tumble/num.minus[float64]
noncomputable def s_num_minus_float64__0 (a0_0 : Nat) : Bool := flt (fdiv 4607182418800017408 a0_0) 0
noncomputable def S_num_minus_float64_ : List AV → Option AV
  | [AV.float a0_0] => some (AV.bool (s_num_minus_float64__0 a0_0))
  | _ => none
theorem t_num_minus_float64_ : ROk Try.prog false (76, pureF S_num_minus_float64_) := ROk.pure (N := 64) env47_ok Try.func76 Try.call76 fun args v h => by
  unfold S_num_minus_float64_ at h
  split at h
  · rename_i a0_0
    cases h
    exact ⟨rfl, rfl, by kernel_rfl⟩
  · cases h
noncomputable def rs48 : List (FuncId × RF) := (76, pureF S_num_minus_float64_) :: rs47
noncomputable def env48 : Env := mkEnv xs rs48 ws0
theorem rs48_ok : All (ROk Try.prog false) rs48 := All.cons t_num_minus_float64_ rs47_ok
theorem env48_ok : env48.Ok Try.prog false := mkEnv_ok xs_ok rs48_ok ws0_ok
-- tumble/num.Same[float64]
noncomputable def s_num_Same_float64__0 (a0_0 : Nat) (a1_0 : Nat) : Bool := bif feq a0_0 0 then bif feq a1_0 0 then s_num_minus_float64__0 a0_0 == s_num_minus_float64__0 a1_0 else bif !feq a0_0 a1_0 then s_num_none_float64__0 a0_0 && s_num_none_float64__0 a1_0 else true else bif !feq a0_0 a1_0 then s_num_none_float64__0 a0_0 && s_num_none_float64__0 a1_0 else true
noncomputable def S_num_Same_float64_ : List AV → Option AV
  | [AV.float a0_0, AV.float a1_0] => some (AV.bool (s_num_Same_float64__0 a0_0 a1_0))
  | _ => none
theorem t_num_Same_float64_ : ROk Try.prog false (53, pureF S_num_Same_float64_) := ROk.pure (N := 64) env48_ok Try.func53 Try.call53 fun args v h => by
  unfold S_num_Same_float64_ at h
  split at h
  · rename_i a0_0 a1_0
    cases h
    refine ⟨rfl, rfl, ?_⟩
    rw [show evFn Try.prog false env48 64 Try.f53 [AV.float a0_0, AV.float a1_0] [] endP = bif feq a0_0 0 then bif feq a1_0 0 then endP (AV.bool (s_num_minus_float64__0 a0_0 == s_num_minus_float64__0 a1_0)) [] else bif !feq a0_0 a1_0 then bif s_num_none_float64__0 a0_0 then endP (AV.bool (s_num_none_float64__0 a1_0)) [] else endP (AV.bool false) [] else endP (AV.bool true) [] else bif !feq a0_0 a1_0 then bif s_num_none_float64__0 a0_0 then endP (AV.bool (s_num_none_float64__0 a1_0)) [] else endP (AV.bool false) [] else endP (AV.bool true) [] from by kernel_rfl]
    refine node_eq (fun h0 => ?_) (fun h0 => ?_)
    · skip
      refine node_eq (fun h1 => ?_) (fun h1 => ?_)
      · skip
        first | (simp only [endP, s_num_Same_float64__0, h1, h0]; done) | (simp only [endP, s_num_Same_float64__0, h1, h0]; rfl) | (simp only [endP, s_num_Same_float64__0, h1, h0, cond_true, cond_false, Bool.true_and, Bool.false_and, Bool.and_true, Bool.and_false, Bool.true_or, Bool.false_or, Bool.or_true, Bool.or_false, Bool.not_true, Bool.not_false]; done) | (simp_all; done) | simp_all [feq_self, endP, s_num_Same_float64__0, s_num_none_float64__0]
      · skip
        refine node_eq (fun h2 => ?_) (fun h2 => ?_)
        · skip
          refine node_eq (fun h3 => ?_) (fun h3 => ?_)
          · skip
            first | (simp only [endP, s_num_Same_float64__0, h3, h2, h1, h0]; done) | (simp only [endP, s_num_Same_float64__0, h3, h2, h1, h0]; rfl) | (simp only [endP, s_num_Same_float64__0, h3, h2, h1, h0, cond_true, cond_false, Bool.true_and, Bool.false_and, Bool.and_true, Bool.and_false, Bool.true_or, Bool.false_or, Bool.or_true, Bool.or_false, Bool.not_true, Bool.not_false]; done) | (simp_all; done) | simp_all [feq_self, endP, s_num_Same_float64__0, s_num_none_float64__0]
          · skip
            first | (simp only [endP, s_num_Same_float64__0, h3, h2, h1, h0]; done) | (simp only [endP, s_num_Same_float64__0, h3, h2, h1, h0]; rfl) | (simp only [endP, s_num_Same_float64__0, h3, h2, h1, h0, cond_true, cond_false, Bool.true_and, Bool.false_and, Bool.and_true, Bool.and_false, Bool.true_or, Bool.false_or, Bool.or_true, Bool.or_false, Bool.not_true, Bool.not_false]; done) | (simp_all; done) | simp_all [feq_self, endP, s_num_Same_float64__0, s_num_none_float64__0]
        · skip
          first | (simp only [endP, s_num_Same_float64__0, h2, h1, h0]; done) | (simp only [endP, s_num_Same_float64__0, h2, h1, h0]; rfl) | (simp only [endP, s_num_Same_float64__0, h2, h1, h0, cond_true, cond_false, Bool.true_and, Bool.false_and, Bool.and_true, Bool.and_false, Bool.true_or, Bool.false_or, Bool.or_true, Bool.or_false, Bool.not_true, Bool.not_false]; done) | (simp_all; done) | simp_all [feq_self, endP, s_num_Same_float64__0, s_num_none_float64__0]
    · skip
      refine node_eq (fun h1 => ?_) (fun h1 => ?_)
      · skip
        refine node_eq (fun h2 => ?_) (fun h2 => ?_)
        · skip
          first | (simp only [endP, s_num_Same_float64__0, h2, h1, h0]; done) | (simp only [endP, s_num_Same_float64__0, h2, h1, h0]; rfl) | (simp only [endP, s_num_Same_float64__0, h2, h1, h0, cond_true, cond_false, Bool.true_and, Bool.false_and, Bool.and_true, Bool.and_false, Bool.true_or, Bool.false_or, Bool.or_true, Bool.or_false, Bool.not_true, Bool.not_false]; done) | (simp_all; done) | simp_all [feq_self, endP, s_num_Same_float64__0, s_num_none_float64__0]
        · skip
          first | (simp only [endP, s_num_Same_float64__0, h2, h1, h0]; done) | (simp only [endP, s_num_Same_float64__0, h2, h1, h0]; rfl) | (simp only [endP, s_num_Same_float64__0, h2, h1, h0, cond_true, cond_false, Bool.true_and, Bool.false_and, Bool.and_true, Bool.and_false, Bool.true_or, Bool.false_or, Bool.or_true, Bool.or_false, Bool.not_true, Bool.not_false]; done) | (simp_all; done) | simp_all [feq_self, endP, s_num_Same_float64__0, s_num_none_float64__0]
      · skip
        first | (simp only [endP, s_num_Same_float64__0, h1, h0]; done) | (simp only [endP, s_num_Same_float64__0, h1, h0]; rfl) | (simp only [endP, s_num_Same_float64__0, h1, h0, cond_true, cond_false, Bool.true_and, Bool.false_and, Bool.and_true, Bool.and_false, Bool.true_or, Bool.false_or, Bool.or_true, Bool.or_false, Bool.not_true, Bool.not_false]; done) | (simp_all; done) | simp_all [feq_self, endP, s_num_Same_float64__0, s_num_none_float64__0]
  · cases h
noncomputable def rs49 : List (FuncId × RF) := (53, pureF S_num_Same_float64_) :: rs48
noncomputable def env49 : Env := mkEnv xs rs49 ws0
theorem rs49_ok : All (ROk Try.prog false) rs49 := All.cons t_num_Same_float64_ rs48_ok
theorem env49_ok : env49.Ok Try.prog false := mkEnv_ok xs_ok rs49_ok ws0_ok
-- tumble/vec.both
noncomputable def s_vec_both_0 (a0_0 : Nat) (a0_1 : Nat) (a1_0 : Nat) (a1_1 : Nat) : Bool := s_num_Same_float64__0 a0_0 a1_0 && s_num_Same_float64__0 a0_1 a1_1
noncomputable def S_vec_both : List AV → Option AV
  | [AV.agg [.float a0_0, .float a0_1], AV.agg [.float a1_0, .float a1_1]] => some (AV.bool (s_vec_both_0 a0_0 a0_1 a1_0 a1_1))
  | _ => none
theorem t_vec_both : ROk Try.prog false (75, pureF S_vec_both) := ROk.pure (N := 64) env49_ok Try.func75 Try.call75 fun args v h => by
  unfold S_vec_both at h
  split at h
  · rename_i a0_0 a0_1 a1_0 a1_1
    cases h
    refine ⟨rfl, rfl, ?_⟩
    rw [show evFn Try.prog false env49 64 Try.f75 [AV.agg [.float a0_0, .float a0_1], AV.agg [.float a1_0, .float a1_1]] [] endP = bif s_num_Same_float64__0 a0_0 a1_0 then endP (AV.bool (s_num_Same_float64__0 a0_1 a1_1)) [] else endP (AV.bool false) [] from by kernel_rfl]
    refine node_eq (fun h0 => ?_) (fun h0 => ?_)
    · skip
      first | (simp only [endP, s_vec_both_0, h0]; done) | (simp only [endP, s_vec_both_0, h0]; rfl) | (simp only [endP, s_vec_both_0, h0, cond_true, cond_false, Bool.true_and, Bool.false_and, Bool.and_true, Bool.and_false, Bool.true_or, Bool.false_or, Bool.or_true, Bool.or_false, Bool.not_true, Bool.not_false]; done) | (simp_all; done) | simp_all [feq_self, endP, s_vec_both_0, s_num_Same_float64__0]
    · skip
      first | (simp only [endP, s_vec_both_0, h0]; done) | (simp only [endP, s_vec_both_0, h0]; rfl) | (simp only [endP, s_vec_both_0, h0, cond_true, cond_false, Bool.true_and, Bool.false_and, Bool.and_true, Bool.and_false, Bool.true_or, Bool.false_or, Bool.or_true, Bool.or_false, Bool.not_true, Bool.not_false]; done) | (simp_all; done) | simp_all [feq_self, endP, s_vec_both_0, s_num_Same_float64__0]
  · cases h
noncomputable def rs50 : List (FuncId × RF) := (75, pureF S_vec_both) :: rs49
noncomputable def env50 : Env := mkEnv xs rs50 ws0
theorem rs50_ok : All (ROk Try.prog false) rs50 := All.cons t_vec_both rs49_ok
theorem env50_ok : env50.Ok Try.prog false := mkEnv_ok xs_ok rs50_ok ws0_ok
-- tumble/vec.Same
noncomputable def s_vec_Same_0 (a0_0 : Nat) (a0_1 : Nat) (a1_0 : Nat) (a1_1 : Nat) : Bool := bif feq a0_0 a1_0 && (feq a0_1 a1_1 && true) then bif ieq (s_num_Bits_0 a0_0) (s_num_Bits_0 a1_0) then bif !ieq (s_num_Bits_0 a0_1) (s_num_Bits_0 a1_1) then s_vec_both_0 a0_0 a0_1 a1_0 a1_1 else true else s_vec_both_0 a0_0 a0_1 a1_0 a1_1 else s_vec_both_0 a0_0 a0_1 a1_0 a1_1
noncomputable def S_vec_Same : List AV → Option AV
  | [AV.agg [.float a0_0, .float a0_1], AV.agg [.float a1_0, .float a1_1]] => some (AV.bool (s_vec_Same_0 a0_0 a0_1 a1_0 a1_1))
  | _ => none
theorem t_vec_Same : ROk Try.prog false (52, pureF S_vec_Same) := ROk.pure (N := 64) env50_ok Try.func52 Try.call52 fun args v h => by
  unfold S_vec_Same at h
  split at h
  · rename_i a0_0 a0_1 a1_0 a1_1
    cases h
    refine ⟨rfl, rfl, ?_⟩
    rw [show evFn Try.prog false env50 64 Try.f52 [AV.agg [.float a0_0, .float a0_1], AV.agg [.float a1_0, .float a1_1]] [] endP = bif feq a0_0 a1_0 && (feq a0_1 a1_1 && true) then bif ieq (s_num_Bits_0 a0_0) (s_num_Bits_0 a1_0) then bif !ieq (s_num_Bits_0 a0_1) (s_num_Bits_0 a1_1) then endP (AV.bool (s_vec_both_0 a0_0 a0_1 a1_0 a1_1)) [] else endP (AV.bool true) [] else endP (AV.bool (s_vec_both_0 a0_0 a0_1 a1_0 a1_1)) [] else endP (AV.bool (s_vec_both_0 a0_0 a0_1 a1_0 a1_1)) [] from by kernel_rfl]
    refine node_eq (fun h0 => ?_) (fun h0 => ?_)
    · skip
      refine node_eq (fun h1 => ?_) (fun h1 => ?_)
      · skip
        refine node_eq (fun h2 => ?_) (fun h2 => ?_)
        · skip
          first | (simp only [endP, s_vec_Same_0, h2, h1, h0]; done) | (simp only [endP, s_vec_Same_0, h2, h1, h0]; rfl) | (simp only [endP, s_vec_Same_0, h2, h1, h0, cond_true, cond_false, Bool.true_and, Bool.false_and, Bool.and_true, Bool.and_false, Bool.true_or, Bool.false_or, Bool.or_true, Bool.or_false, Bool.not_true, Bool.not_false]; done) | (simp_all; done) | simp_all [feq_self, endP, s_vec_Same_0, s_num_Bits_0]
        · skip
          first | (simp only [endP, s_vec_Same_0, h2, h1, h0]; done) | (simp only [endP, s_vec_Same_0, h2, h1, h0]; rfl) | (simp only [endP, s_vec_Same_0, h2, h1, h0, cond_true, cond_false, Bool.true_and, Bool.false_and, Bool.and_true, Bool.and_false, Bool.true_or, Bool.false_or, Bool.or_true, Bool.or_false, Bool.not_true, Bool.not_false]; done) | (simp_all; done) | simp_all [feq_self, endP, s_vec_Same_0, s_num_Bits_0]
      · skip
        first | (simp only [endP, s_vec_Same_0, h1, h0]; done) | (simp only [endP, s_vec_Same_0, h1, h0]; rfl) | (simp only [endP, s_vec_Same_0, h1, h0, cond_true, cond_false, Bool.true_and, Bool.false_and, Bool.and_true, Bool.and_false, Bool.true_or, Bool.false_or, Bool.or_true, Bool.or_false, Bool.not_true, Bool.not_false]; done) | (simp_all; done) | simp_all [feq_self, endP, s_vec_Same_0, s_num_Bits_0]
    · skip
      first | (simp only [endP, s_vec_Same_0, h0]; done) | (simp only [endP, s_vec_Same_0, h0]; rfl) | (simp only [endP, s_vec_Same_0, h0, cond_true, cond_false, Bool.true_and, Bool.false_and, Bool.and_true, Bool.and_false, Bool.true_or, Bool.false_or, Bool.or_true, Bool.or_false, Bool.not_true, Bool.not_false]; done) | (simp_all; done) | simp_all [feq_self, endP, s_vec_Same_0, s_num_Bits_0]
  · cases h
noncomputable def rs51 : List (FuncId × RF) := (52, pureF S_vec_Same) :: rs50
noncomputable def env51 : Env := mkEnv xs rs51 ws0
theorem rs51_ok : All (ROk Try.prog false) rs51 := All.cons t_vec_Same rs50_ok
theorem env51_ok : env51.Ok Try.prog false := mkEnv_ok xs_ok rs51_ok ws0_ok
-- tumble/frame.Same
noncomputable def s_frame_Same_0 (a0_0 : Nat) (a0_1 : Nat) (a0_2r : Nat) (a0_2i : Nat) (a1_0 : Nat) (a1_1 : Nat) (a1_2r : Nat) (a1_2i : Nat) : Bool := bif s_frame_plain_0 a0_0 a0_1 a0_2r a0_2i then bif s_frame_plain_0 a1_0 a1_1 a1_2r a1_2i then feq a0_0 a1_0 && (feq a0_1 a1_1 && true) && (feq a0_2r a1_2r && feq a0_2i a1_2i && true) else s_vec_Same_0 a0_0 a0_1 a1_0 a1_1 && (s_num_Same_float64__0 a0_2r a1_2r && s_num_Same_float64__0 a0_2i a1_2i) else s_vec_Same_0 a0_0 a0_1 a1_0 a1_1 && (s_num_Same_float64__0 a0_2r a1_2r && s_num_Same_float64__0 a0_2i a1_2i)
noncomputable def S_frame_Same : List AV → Option AV
  | [AV.agg [.float a0_0, .float a0_1, .complex a0_2r a0_2i], AV.agg [.float a1_0, .float a1_1, .complex a1_2r a1_2i]] => some (AV.bool (s_frame_Same_0 a0_0 a0_1 a0_2r a0_2i a1_0 a1_1 a1_2r a1_2i))
  | _ => none
theorem t_frame_Same : ROk Try.prog false (20, pureF S_frame_Same) := ROk.pure (N := 64) env51_ok Try.func20 Try.call20 fun args v h => by
  unfold S_frame_Same at h
  split at h
  · rename_i a0_0 a0_1 a0_2r a0_2i a1_0 a1_1 a1_2r a1_2i
    cases h
    refine ⟨rfl, rfl, ?_⟩
    rw [show evFn Try.prog false env51 64 Try.f20 [AV.agg [.float a0_0, .float a0_1, .complex a0_2r a0_2i], AV.agg [.float a1_0, .float a1_1, .complex a1_2r a1_2i]] [] endP = bif s_frame_plain_0 a0_0 a0_1 a0_2r a0_2i then bif s_frame_plain_0 a1_0 a1_1 a1_2r a1_2i then endP (AV.bool (feq a0_0 a1_0 && (feq a0_1 a1_1 && true) && (feq a0_2r a1_2r && feq a0_2i a1_2i && true))) [] else bif s_vec_Same_0 a0_0 a0_1 a1_0 a1_1 then bif s_num_Same_float64__0 a0_2r a1_2r then endP (AV.bool (s_num_Same_float64__0 a0_2i a1_2i)) [] else endP (AV.bool false) [] else endP (AV.bool false) [] else bif s_vec_Same_0 a0_0 a0_1 a1_0 a1_1 then bif s_num_Same_float64__0 a0_2r a1_2r then endP (AV.bool (s_num_Same_float64__0 a0_2i a1_2i)) [] else endP (AV.bool false) [] else endP (AV.bool false) [] from by kernel_rfl]
    refine node_eq (fun h0 => ?_) (fun h0 => ?_)
    · skip
      refine node_eq (fun h1 => ?_) (fun h1 => ?_)
      · skip
        first | (simp only [endP, s_frame_Same_0, h1, h0]; done) | (simp only [endP, s_frame_Same_0, h1, h0]; rfl) | (simp only [endP, s_frame_Same_0, h1, h0, cond_true, cond_false, Bool.true_and, Bool.false_and, Bool.and_true, Bool.and_false, Bool.true_or, Bool.false_or, Bool.or_true, Bool.or_false, Bool.not_true, Bool.not_false]; done) | (simp_all; done) | simp_all [feq_self, endP, s_frame_Same_0, s_frame_plain_0, s_vec_Same_0, s_num_Same_float64__0]
      · skip
        refine node_eq (fun h2 => ?_) (fun h2 => ?_)
        · skip
          refine node_eq (fun h3 => ?_) (fun h3 => ?_)
          · skip
            first | (simp only [endP, s_frame_Same_0, h3, h2, h1, h0]; done) | (simp only [endP, s_frame_Same_0, h3, h2, h1, h0]; rfl) | (simp only [endP, s_frame_Same_0, h3, h2, h1, h0, cond_true, cond_false, Bool.true_and, Bool.false_and, Bool.and_true, Bool.and_false, Bool.true_or, Bool.false_or, Bool.or_true, Bool.or_false, Bool.not_true, Bool.not_false]; done) | (simp_all; done) | simp_all [feq_self, endP, s_frame_Same_0, s_frame_plain_0, s_vec_Same_0, s_num_Same_float64__0]
          · skip
            first | (simp only [endP, s_frame_Same_0, h3, h2, h1, h0]; done) | (simp only [endP, s_frame_Same_0, h3, h2, h1, h0]; rfl) | (simp only [endP, s_frame_Same_0, h3, h2, h1, h0, cond_true, cond_false, Bool.true_and, Bool.false_and, Bool.and_true, Bool.and_false, Bool.true_or, Bool.false_or, Bool.or_true, Bool.or_false, Bool.not_true, Bool.not_false]; done) | (simp_all; done) | simp_all [feq_self, endP, s_frame_Same_0, s_frame_plain_0, s_vec_Same_0, s_num_Same_float64__0]
        · skip
          first | (simp only [endP, s_frame_Same_0, h2, h1, h0]; done) | (simp only [endP, s_frame_Same_0, h2, h1, h0]; rfl) | (simp only [endP, s_frame_Same_0, h2, h1, h0, cond_true, cond_false, Bool.true_and, Bool.false_and, Bool.and_true, Bool.and_false, Bool.true_or, Bool.false_or, Bool.or_true, Bool.or_false, Bool.not_true, Bool.not_false]; done) | (simp_all; done) | simp_all [feq_self, endP, s_frame_Same_0, s_frame_plain_0, s_vec_Same_0, s_num_Same_float64__0]
    · skip
      refine node_eq (fun h1 => ?_) (fun h1 => ?_)
      · skip
        refine node_eq (fun h2 => ?_) (fun h2 => ?_)
        · skip
          first | (simp only [endP, s_frame_Same_0, h2, h1, h0]; done) | (simp only [endP, s_frame_Same_0, h2, h1, h0]; rfl) | (simp only [endP, s_frame_Same_0, h2, h1, h0, cond_true, cond_false, Bool.true_and, Bool.false_and, Bool.and_true, Bool.and_false, Bool.true_or, Bool.false_or, Bool.or_true, Bool.or_false, Bool.not_true, Bool.not_false]; done) | (simp_all; done) | simp_all [feq_self, endP, s_frame_Same_0, s_frame_plain_0, s_vec_Same_0, s_num_Same_float64__0]
        · skip
          first | (simp only [endP, s_frame_Same_0, h2, h1, h0]; done) | (simp only [endP, s_frame_Same_0, h2, h1, h0]; rfl) | (simp only [endP, s_frame_Same_0, h2, h1, h0, cond_true, cond_false, Bool.true_and, Bool.false_and, Bool.and_true, Bool.and_false, Bool.true_or, Bool.false_or, Bool.or_true, Bool.or_false, Bool.not_true, Bool.not_false]; done) | (simp_all; done) | simp_all [feq_self, endP, s_frame_Same_0, s_frame_plain_0, s_vec_Same_0, s_num_Same_float64__0]
      · skip
        first | (simp only [endP, s_frame_Same_0, h1, h0]; done) | (simp only [endP, s_frame_Same_0, h1, h0]; rfl) | (simp only [endP, s_frame_Same_0, h1, h0, cond_true, cond_false, Bool.true_and, Bool.false_and, Bool.and_true, Bool.and_false, Bool.true_or, Bool.false_or, Bool.or_true, Bool.or_false, Bool.not_true, Bool.not_false]; done) | (simp_all; done) | simp_all [feq_self, endP, s_frame_Same_0, s_frame_plain_0, s_vec_Same_0, s_num_Same_float64__0]
  · cases h
noncomputable def rs52 : List (FuncId × RF) := (20, pureF S_frame_Same) :: rs51
noncomputable def env52 : Env := mkEnv xs rs52 ws0
theorem rs52_ok : All (ROk Try.prog false) rs52 := All.cons t_frame_Same rs51_ok
theorem env52_ok : env52.Ok Try.prog false := mkEnv_ok xs_ok rs52_ok ws0_ok
-- tumble/vec.Sub
noncomputable def s_vec_Sub_0 (a0_0 : Nat) (a0_1 : Nat) (a1_0 : Nat) (a1_1 : Nat) : Nat := fsub a0_0 a1_0
noncomputable def s_vec_Sub_1 (a0_0 : Nat) (a0_1 : Nat) (a1_0 : Nat) (a1_1 : Nat) : Nat := fsub a0_1 a1_1
noncomputable def S_vec_Sub : List AV → Option AV
  | [AV.agg [.float a0_0, .float a0_1], AV.agg [.float a1_0, .float a1_1]] => some (AV.agg [AV.float (s_vec_Sub_0 a0_0 a0_1 a1_0 a1_1), AV.float (s_vec_Sub_1 a0_0 a0_1 a1_0 a1_1)])
  | _ => none
theorem t_vec_Sub : ROk Try.prog false (59, pureF S_vec_Sub) := ROk.pure (N := 64) env52_ok Try.func59 Try.call59 fun args v h => by
  unfold S_vec_Sub at h
  split at h
  · rename_i a0_0 a0_1 a1_0 a1_1
    cases h
    exact ⟨rfl, rfl, by kernel_rfl⟩
  · cases h
noncomputable def rs53 : List (FuncId × RF) := (59, pureF S_vec_Sub) :: rs52
noncomputable def env53 : Env := mkEnv xs rs53 ws0
theorem rs53_ok : All (ROk Try.prog false) rs53 := All.cons t_vec_Sub rs52_ok
theorem env53_ok : env53.Ok Try.prog false := mkEnv_ok xs_ok rs53_ok ws0_ok
-- tumble/frame.Own
noncomputable def s_frame_Own_0 (a0_0 : Nat) (a0_1 : Nat) (a0_2r : Nat) (a0_2i : Nat) (a1_0 : Nat) (a1_1 : Nat) : Nat := s__frame_turned__undo_0 a0_2r a0_2i (s_vec_Sub_0 a1_0 a1_1 a0_0 a0_1) (s_vec_Sub_1 a1_0 a1_1 a0_0 a0_1)
noncomputable def s_frame_Own_1 (a0_0 : Nat) (a0_1 : Nat) (a0_2r : Nat) (a0_2i : Nat) (a1_0 : Nat) (a1_1 : Nat) : Nat := s__frame_turned__undo_1 a0_2r a0_2i (s_vec_Sub_0 a1_0 a1_1 a0_0 a0_1) (s_vec_Sub_1 a1_0 a1_1 a0_0 a0_1)
noncomputable def S_frame_Own : List AV → Option AV
  | [AV.agg [.float a0_0, .float a0_1, .complex a0_2r a0_2i], AV.agg [.float a1_0, .float a1_1]] => some (AV.agg [AV.float (s_frame_Own_0 a0_0 a0_1 a0_2r a0_2i a1_0 a1_1), AV.float (s_frame_Own_1 a0_0 a0_1 a0_2r a0_2i a1_0 a1_1)])
  | _ => none
theorem t_frame_Own : ROk Try.prog false (24, pureF S_frame_Own) := ROk.pure (N := 64) env53_ok Try.func24 Try.call24 fun args v h => by
  unfold S_frame_Own at h
  split at h
  · rename_i a0_0 a0_1 a0_2r a0_2i a1_0 a1_1
    cases h
    exact ⟨rfl, rfl, by kernel_rfl⟩
  · cases h
noncomputable def rs54 : List (FuncId × RF) := (24, pureF S_frame_Own) :: rs53
noncomputable def env54 : Env := mkEnv xs rs54 ws0
theorem rs54_ok : All (ROk Try.prog false) rs54 := All.cons t_frame_Own rs53_ok
theorem env54_ok : env54.Ok Try.prog false := mkEnv_ok xs_ok rs54_ok ws0_ok
-- tumble/tumbleref04.minus
noncomputable def s_ref04_minus_0 (a0_0 : Nat) (a0_1 : Nat) (a1_0 : Nat) (a1_1 : Nat) : Nat := fsub a0_0 a1_0
noncomputable def s_ref04_minus_1 (a0_0 : Nat) (a0_1 : Nat) (a1_0 : Nat) (a1_1 : Nat) : Nat := fsub a0_1 a1_1
noncomputable def S_ref04_minus : List AV → Option AV
  | [AV.agg [.float a0_0, .float a0_1], AV.agg [.float a1_0, .float a1_1]] => some (AV.agg [AV.float (s_ref04_minus_0 a0_0 a0_1 a1_0 a1_1), AV.float (s_ref04_minus_1 a0_0 a0_1 a1_0 a1_1)])
  | _ => none
theorem t_ref04_minus : ROk Try.prog false (60, pureF S_ref04_minus) := ROk.pure (N := 64) env54_ok Try.func60 Try.call60 fun args v h => by
  unfold S_ref04_minus at h
  split at h
  · rename_i a0_0 a0_1 a1_0 a1_1
    cases h
    exact ⟨rfl, rfl, by kernel_rfl⟩
  · cases h
noncomputable def rs55 : List (FuncId × RF) := (60, pureF S_ref04_minus) :: rs54
noncomputable def env55 : Env := mkEnv xs rs55 ws0
theorem rs55_ok : All (ROk Try.prog false) rs55 := All.cons t_ref04_minus rs54_ok
theorem env55_ok : env55.Ok Try.prog false := mkEnv_ok xs_ok rs55_ok ws0_ok
-- tumble/tumbleref04.Own
noncomputable def s_ref04_Own_0 (a0_0 : Nat) (a0_1 : Nat) (a0_2r : Nat) (a0_2i : Nat) (a1_0 : Nat) (a1_1 : Nat) : Nat := s_ref03_Undo_0 a0_2r a0_2i (s_ref04_minus_0 a1_0 a1_1 a0_0 a0_1) (s_ref04_minus_1 a1_0 a1_1 a0_0 a0_1)
noncomputable def s_ref04_Own_1 (a0_0 : Nat) (a0_1 : Nat) (a0_2r : Nat) (a0_2i : Nat) (a1_0 : Nat) (a1_1 : Nat) : Nat := s_ref03_Undo_1 a0_2r a0_2i (s_ref04_minus_0 a1_0 a1_1 a0_0 a0_1) (s_ref04_minus_1 a1_0 a1_1 a0_0 a0_1)
noncomputable def S_ref04_Own : List AV → Option AV
  | [AV.agg [.float a0_0, .float a0_1, .complex a0_2r a0_2i], AV.agg [.float a1_0, .float a1_1]] => some (AV.agg [AV.float (s_ref04_Own_0 a0_0 a0_1 a0_2r a0_2i a1_0 a1_1), AV.float (s_ref04_Own_1 a0_0 a0_1 a0_2r a0_2i a1_0 a1_1)])
  | _ => none
theorem t_ref04_Own : ROk Try.prog false (25, pureF S_ref04_Own) := ROk.pure (N := 64) env55_ok Try.func25 Try.call25 fun args v h => by
  unfold S_ref04_Own at h
  split at h
  · rename_i a0_0 a0_1 a0_2r a0_2i a1_0 a1_1
    cases h
    exact ⟨rfl, rfl, by kernel_rfl⟩
  · cases h
noncomputable def rs56 : List (FuncId × RF) := (25, pureF S_ref04_Own) :: rs55
noncomputable def env56 : Env := mkEnv xs rs56 ws0
theorem rs56_ok : All (ROk Try.prog false) rs56 := All.cons t_ref04_Own rs55_ok
theorem env56_ok : env56.Ok Try.prog false := mkEnv_ok xs_ok rs56_ok ws0_ok
-- tumble/tumblelaw04.FramePlaces
noncomputable def T_law04_FramePlaces (a0_0 : Nat) (a0_1 : Nat) (a0_2 : Nat) (a0_3 : Nat) (a1_0 : Nat) (a1_1 : Nat) (a1_2 : Nat) (a1_3 : Nat) (a2_0 : Nat) (a2_1 : Nat) : Option Res := bif u64ok (Int.ofNat a0_0) then bif u64ok (Int.ofNat a0_1) then bif u64ok (Int.ofNat a0_2) then bif u64ok (Int.ofNat a0_3) then bif u64ok (Int.ofNat a1_0) then bif u64ok (Int.ofNat a1_1) then bif u64ok (Int.ofNat a1_2) then bif u64ok (Int.ofNat a1_3) then bif u64ok (Int.ofNat a2_0) then bif u64ok (Int.ofNat a2_1) then bif ieq (s_frame_Check_0 (cn (Int.ofNat a0_0).toNat) (cn (Int.ofNat a0_1).toNat) (cn (Int.ofNat a0_2).toNat) (cn (Int.ofNat a0_3).toNat)) (s_ref04_Check_0 (cn (Int.ofNat a0_0).toNat) (cn (Int.ofNat a0_1).toNat) (cn (Int.ofNat a0_2).toNat) (cn (Int.ofNat a0_3).toNat)) then bif s_frame_Same_0 (cn (Int.ofNat a0_0).toNat) (cn (Int.ofNat a0_1).toNat) (cn (Int.ofNat a0_2).toNat) (cn (Int.ofNat a0_3).toNat) (cn (Int.ofNat a1_0).toNat) (cn (Int.ofNat a1_1).toNat) (cn (Int.ofNat a1_2).toNat) (cn (Int.ofNat a1_3).toNat) == s_ref04_Same_0 (cn (Int.ofNat a0_0).toNat) (cn (Int.ofNat a0_1).toNat) (cn (Int.ofNat a0_2).toNat) (cn (Int.ofNat a0_3).toNat) (cn (Int.ofNat a1_0).toNat) (cn (Int.ofNat a1_1).toNat) (cn (Int.ofNat a1_2).toNat) (cn (Int.ofNat a1_3).toNat) then bif s_frame_Same_0 (cn (Int.ofNat a0_0).toNat) (cn (Int.ofNat a0_1).toNat) (cn (Int.ofNat a0_2).toNat) (cn (Int.ofNat a0_3).toNat) (cn (Int.ofNat a0_0).toNat) (cn (Int.ofNat a0_1).toNat) (cn (Int.ofNat a0_2).toNat) (cn (Int.ofNat a0_3).toNat) then bif s_ref04_SameVec_0 (s_frame_To_0 (cn (Int.ofNat a0_0).toNat) (cn (Int.ofNat a0_1).toNat) (cn (Int.ofNat a0_2).toNat) (cn (Int.ofNat a0_3).toNat) (cn (Int.ofNat a2_0).toNat) (cn (Int.ofNat a2_1).toNat)) (s_frame_To_1 (cn (Int.ofNat a0_0).toNat) (cn (Int.ofNat a0_1).toNat) (cn (Int.ofNat a0_2).toNat) (cn (Int.ofNat a0_3).toNat) (cn (Int.ofNat a2_0).toNat) (cn (Int.ofNat a2_1).toNat)) (s_ref04_To_0 (cn (Int.ofNat a0_0).toNat) (cn (Int.ofNat a0_1).toNat) (cn (Int.ofNat a0_2).toNat) (cn (Int.ofNat a0_3).toNat) (cn (Int.ofNat a2_0).toNat) (cn (Int.ofNat a2_1).toNat)) (s_ref04_To_1 (cn (Int.ofNat a0_0).toNat) (cn (Int.ofNat a0_1).toNat) (cn (Int.ofNat a0_2).toNat) (cn (Int.ofNat a0_3).toNat) (cn (Int.ofNat a2_0).toNat) (cn (Int.ofNat a2_1).toNat)) then endP (AV.bool (s_ref04_SameVec_0 (s_frame_Own_0 (cn (Int.ofNat a0_0).toNat) (cn (Int.ofNat a0_1).toNat) (cn (Int.ofNat a0_2).toNat) (cn (Int.ofNat a0_3).toNat) (cn (Int.ofNat a2_0).toNat) (cn (Int.ofNat a2_1).toNat)) (s_frame_Own_1 (cn (Int.ofNat a0_0).toNat) (cn (Int.ofNat a0_1).toNat) (cn (Int.ofNat a0_2).toNat) (cn (Int.ofNat a0_3).toNat) (cn (Int.ofNat a2_0).toNat) (cn (Int.ofNat a2_1).toNat)) (s_ref04_Own_0 (cn (Int.ofNat a0_0).toNat) (cn (Int.ofNat a0_1).toNat) (cn (Int.ofNat a0_2).toNat) (cn (Int.ofNat a0_3).toNat) (cn (Int.ofNat a2_0).toNat) (cn (Int.ofNat a2_1).toNat)) (s_ref04_Own_1 (cn (Int.ofNat a0_0).toNat) (cn (Int.ofNat a0_1).toNat) (cn (Int.ofNat a0_2).toNat) (cn (Int.ofNat a0_3).toNat) (cn (Int.ofNat a2_0).toNat) (cn (Int.ofNat a2_1).toNat)))) [] else endP (AV.bool false) [] else endP (AV.bool false) [] else endP (AV.bool false) [] else endP (AV.bool false) [] else none else none else none else none else none else none else none else none else none else none
theorem tree_law04_FramePlaces (a0_0 : Nat) (a0_1 : Nat) (a0_2 : Nat) (a0_3 : Nat) (a1_0 : Nat) (a1_1 : Nat) (a1_2 : Nat) (a1_3 : Nat) (a2_0 : Nat) (a2_1 : Nat) : evFn Try.prog false env56 64 Try.f4 [AV.agg [.int .u64 (Int.ofNat a0_0), .int .u64 (Int.ofNat a0_1), .int .u64 (Int.ofNat a0_2), .int .u64 (Int.ofNat a0_3)], AV.agg [.int .u64 (Int.ofNat a1_0), .int .u64 (Int.ofNat a1_1), .int .u64 (Int.ofNat a1_2), .int .u64 (Int.ofNat a1_3)], AV.agg [.int .u64 (Int.ofNat a2_0), .int .u64 (Int.ofNat a2_1)]] [] endP = T_law04_FramePlaces a0_0 a0_1 a0_2 a0_3 a1_0 a1_1 a1_2 a1_3 a2_0 a2_1 := by kernel_rfl
-- math.Abs
noncomputable def S_math_Abs : List AV → Option AV
  | [AV.float a] => some (AV.float (fabs a))
  | _ => none
theorem t_math_Abs : ROk Try.prog false (31, pureF S_math_Abs) := exact1f (N := 64) xenv_ok Try.func31 Try.call31 fabs (fun args v h => by
    unfold S_math_Abs at h
    split at h
    · cases h; exact ⟨_, rfl, rfl⟩
    · cases h) fun b hb => ⟨_, by refine Eq.trans ?_ (abs_tree hb); kernel_rfl, (fabs_cn b).symm⟩
noncomputable def rs57 : List (FuncId × RF) := (31, pureF S_math_Abs) :: rs56
noncomputable def env57 : Env := mkEnv xs rs57 ws0
theorem rs57_ok : All (ROk Try.prog false) rs57 := All.cons t_math_Abs rs56_ok
theorem env57_ok : env57.Ok Try.prog false := mkEnv_ok xs_ok rs57_ok ws0_ok
-- math.IsInf
noncomputable def s_math_IsInf_0 (a0_0 : Nat) (a1_0 : Int) : Bool := bif ieq a1_0 0 then flt 9218868437227405311 (fabs a0_0) else bif ilt a1_0 0 then flt 9218868437227405311 (fneg a0_0) else flt 9218868437227405311 a0_0
noncomputable def S_math_IsInf : List AV → Option AV
  | [AV.float a0_0, AV.int .i64 a1_0] => some (AV.bool (s_math_IsInf_0 a0_0 a1_0))
  | _ => none
theorem t_math_IsInf : ROk Try.prog false (38, pureF S_math_IsInf) := ROk.pure (N := 64) env57_ok Try.func38 Try.call38 fun args v h => by
  unfold S_math_IsInf at h
  split at h
  · rename_i a0_0 a1_0
    cases h
    refine ⟨rfl, rfl, ?_⟩
    rw [show evFn Try.prog false env57 64 Try.f38 [AV.float a0_0, AV.int .i64 a1_0] [] endP = bif ieq a1_0 0 then endP (AV.bool (flt 9218868437227405311 (fabs a0_0))) [] else bif ilt a1_0 0 then endP (AV.bool (flt 9218868437227405311 (fneg a0_0))) [] else endP (AV.bool (flt 9218868437227405311 a0_0)) [] from by kernel_rfl]
    refine node_eq (fun h0 => ?_) (fun h0 => ?_)
    · skip
      first | (simp only [endP, s_math_IsInf_0, h0]; done) | (simp only [endP, s_math_IsInf_0, h0]; rfl) | (simp only [endP, s_math_IsInf_0, h0, cond_true, cond_false, Bool.true_and, Bool.false_and, Bool.and_true, Bool.and_false, Bool.true_or, Bool.false_or, Bool.or_true, Bool.or_false, Bool.not_true, Bool.not_false]; done) | (simp_all; done) | simp_all [feq_self, endP, s_math_IsInf_0]
    · skip
      refine node_eq (fun h1 => ?_) (fun h1 => ?_)
      · skip
        first | (simp only [endP, s_math_IsInf_0, h1, h0]; done) | (simp only [endP, s_math_IsInf_0, h1, h0]; rfl) | (simp only [endP, s_math_IsInf_0, h1, h0, cond_true, cond_false, Bool.true_and, Bool.false_and, Bool.and_true, Bool.and_false, Bool.true_or, Bool.false_or, Bool.or_true, Bool.or_false, Bool.not_true, Bool.not_false]; done) | (simp_all; done) | simp_all [feq_self, endP, s_math_IsInf_0]
      · skip
        first | (simp only [endP, s_math_IsInf_0, h1, h0]; done) | (simp only [endP, s_math_IsInf_0, h1, h0]; rfl) | (simp only [endP, s_math_IsInf_0, h1, h0, cond_true, cond_false, Bool.true_and, Bool.false_and, Bool.and_true, Bool.and_false, Bool.true_or, Bool.false_or, Bool.or_true, Bool.or_false, Bool.not_true, Bool.not_false]; done) | (simp_all; done) | simp_all [feq_self, endP, s_math_IsInf_0]
  · cases h
noncomputable def rs58 : List (FuncId × RF) := (38, pureF S_math_IsInf) :: rs57
noncomputable def env58 : Env := mkEnv xs rs58 ws0
theorem rs58_ok : All (ROk Try.prog false) rs58 := All.cons t_math_IsInf rs57_ok
theorem env58_ok : env58.Ok Try.prog false := mkEnv_ok xs_ok rs58_ok ws0_ok
-- tumble/turn.By
noncomputable def s_turn_By_0 (a0_0 : Nat) : Nat := bif s_math_IsInf_0 (fmul a0_0 a0_0) 1 then 13830554455654793216 else fdiv (fsub 4607182418800017408 (fmul a0_0 a0_0)) (fadd 4607182418800017408 (fmul a0_0 a0_0))
noncomputable def s_turn_By_1 (a0_0 : Nat) : Nat := bif s_math_IsInf_0 (fmul a0_0 a0_0) 1 then 0 else fdiv (fadd a0_0 a0_0) (fadd 4607182418800017408 (fmul a0_0 a0_0))
noncomputable def S_turn_By : List AV → Option AV
  | [AV.float a0_0] => some (AV.complex (s_turn_By_0 a0_0) (s_turn_By_1 a0_0))
  | _ => none
theorem t_turn_By : ROk Try.prog false (61, pureF S_turn_By) := ROk.pure (N := 64) env58_ok Try.func61 Try.call61 fun args v h => by
  unfold S_turn_By at h
  split at h
  · rename_i a0_0
    cases h
    refine ⟨rfl, rfl, ?_⟩
    rw [show evFn Try.prog false env58 64 Try.f61 [AV.float a0_0] [] endP = bif s_math_IsInf_0 (fmul a0_0 a0_0) 1 then endP (AV.complex 13830554455654793216 0) [] else endP (AV.complex (fdiv (fsub 4607182418800017408 (fmul a0_0 a0_0)) (fadd 4607182418800017408 (fmul a0_0 a0_0))) (fdiv (fadd a0_0 a0_0) (fadd 4607182418800017408 (fmul a0_0 a0_0)))) [] from by kernel_rfl]
    refine node_eq (fun h0 => ?_) (fun h0 => ?_)
    · skip
      first | (simp only [endP, s_turn_By_0, s_turn_By_1, h0]; done) | (simp only [endP, s_turn_By_0, s_turn_By_1, h0]; rfl) | (simp only [endP, s_turn_By_0, s_turn_By_1, h0, cond_true, cond_false, Bool.true_and, Bool.false_and, Bool.and_true, Bool.and_false, Bool.true_or, Bool.false_or, Bool.or_true, Bool.or_false, Bool.not_true, Bool.not_false]; done) | (simp_all; done) | simp_all [feq_self, endP, s_turn_By_0, s_turn_By_1, s_math_IsInf_0]
    · skip
      first | (simp only [endP, s_turn_By_0, s_turn_By_1, h0]; done) | (simp only [endP, s_turn_By_0, s_turn_By_1, h0]; rfl) | (simp only [endP, s_turn_By_0, s_turn_By_1, h0, cond_true, cond_false, Bool.true_and, Bool.false_and, Bool.and_true, Bool.and_false, Bool.true_or, Bool.false_or, Bool.or_true, Bool.or_false, Bool.not_true, Bool.not_false]; done) | (simp_all; done) | simp_all [feq_self, endP, s_turn_By_0, s_turn_By_1, s_math_IsInf_0]
  · cases h
noncomputable def rs59 : List (FuncId × RF) := (61, pureF S_turn_By) :: rs58
noncomputable def env59 : Env := mkEnv xs rs59 ws0
theorem rs59_ok : All (ROk Try.prog false) rs59 := All.cons t_turn_By rs58_ok
theorem env59_ok : env59.Ok Try.prog false := mkEnv_ok xs_ok rs59_ok ws0_ok
-- math.Sqrt
noncomputable def s_math_Sqrt_0 (a0_0 : Nat) : Nat := fsqrt a0_0
noncomputable def S_math_Sqrt : List AV → Option AV
  | [AV.float a0_0] => some (AV.float (s_math_Sqrt_0 a0_0))
  | _ => none
theorem t_math_Sqrt : ROk Try.prog false (80, pureF S_math_Sqrt) := ROk.pure (N := 64) env59_ok Try.func80 Try.call80 fun args v h => by
  unfold S_math_Sqrt at h
  split at h
  · rename_i a0_0
    cases h
    exact ⟨rfl, rfl, by kernel_rfl⟩
  · cases h
noncomputable def rs60 : List (FuncId × RF) := (80, pureF S_math_Sqrt) :: rs59
noncomputable def env60 : Env := mkEnv xs rs60 ws0
theorem rs60_ok : All (ROk Try.prog false) rs60 := All.cons t_math_Sqrt rs59_ok
theorem env60_ok : env60.Ok Try.prog false := mkEnv_ok xs_ok rs60_ok ws0_ok
-- tumble/turn.Unit
noncomputable def s_turn_Unit_0 (a0_0r : Nat) (a0_0i : Nat) : Nat := bif !ieq (s_turn_Check_0 (fdiv a0_0r (s_math_Sqrt_0 (s_turn_square_0 a0_0r a0_0i))) (fdiv a0_0i (s_math_Sqrt_0 (s_turn_square_0 a0_0r a0_0i)))) 0 then 0 else fdiv a0_0r (s_math_Sqrt_0 (s_turn_square_0 a0_0r a0_0i))
noncomputable def s_turn_Unit_1 (a0_0r : Nat) (a0_0i : Nat) : Nat := bif !ieq (s_turn_Check_0 (fdiv a0_0r (s_math_Sqrt_0 (s_turn_square_0 a0_0r a0_0i))) (fdiv a0_0i (s_math_Sqrt_0 (s_turn_square_0 a0_0r a0_0i)))) 0 then 0 else fdiv a0_0i (s_math_Sqrt_0 (s_turn_square_0 a0_0r a0_0i))
noncomputable def s_turn_Unit_2 (a0_0r : Nat) (a0_0i : Nat) : Bool := !!ieq (s_turn_Check_0 (fdiv a0_0r (s_math_Sqrt_0 (s_turn_square_0 a0_0r a0_0i))) (fdiv a0_0i (s_math_Sqrt_0 (s_turn_square_0 a0_0r a0_0i)))) 0
noncomputable def S_turn_Unit : List AV → Option AV
  | [AV.complex a0_0r a0_0i] => some (AV.tup [AV.complex (s_turn_Unit_0 a0_0r a0_0i) (s_turn_Unit_1 a0_0r a0_0i), AV.bool (s_turn_Unit_2 a0_0r a0_0i)])
  | _ => none
theorem t_turn_Unit : ROk Try.prog false (62, pureF S_turn_Unit) := ROk.pure (N := 64) env60_ok Try.func62 Try.call62 fun args v h => by
  unfold S_turn_Unit at h
  split at h
  · rename_i a0_0r a0_0i
    cases h
    refine ⟨rfl, rfl, ?_⟩
    rw [show evFn Try.prog false env60 64 Try.f62 [AV.complex a0_0r a0_0i] [] endP = bif !ieq (s_turn_Check_0 (fdiv a0_0r (s_math_Sqrt_0 (s_turn_square_0 a0_0r a0_0i))) (fdiv a0_0i (s_math_Sqrt_0 (s_turn_square_0 a0_0r a0_0i)))) 0 then endP (AV.tup [AV.complex 0 0, AV.bool false]) [] else endP (AV.tup [AV.complex (fdiv a0_0r (s_math_Sqrt_0 (s_turn_square_0 a0_0r a0_0i))) (fdiv a0_0i (s_math_Sqrt_0 (s_turn_square_0 a0_0r a0_0i))), AV.bool true]) [] from by kernel_rfl]
    refine node_eq (fun h0 => ?_) (fun h0 => ?_)
    · skip
      first | (simp only [endP, s_turn_Unit_0, s_turn_Unit_1, s_turn_Unit_2, h0]; done) | (simp only [endP, s_turn_Unit_0, s_turn_Unit_1, s_turn_Unit_2, h0]; rfl) | (simp only [endP, s_turn_Unit_0, s_turn_Unit_1, s_turn_Unit_2, h0, cond_true, cond_false, Bool.true_and, Bool.false_and, Bool.and_true, Bool.and_false, Bool.true_or, Bool.false_or, Bool.or_true, Bool.or_false, Bool.not_true, Bool.not_false]; done) | (simp_all; done) | simp_all [feq_self, endP, s_turn_Unit_0, s_turn_Unit_1, s_turn_Unit_2, s_turn_Check_0, s_math_Sqrt_0, s_turn_square_0]
    · skip
      first | (simp only [endP, s_turn_Unit_0, s_turn_Unit_1, s_turn_Unit_2, h0]; done) | (simp only [endP, s_turn_Unit_0, s_turn_Unit_1, s_turn_Unit_2, h0]; rfl) | (simp only [endP, s_turn_Unit_0, s_turn_Unit_1, s_turn_Unit_2, h0, cond_true, cond_false, Bool.true_and, Bool.false_and, Bool.and_true, Bool.and_false, Bool.true_or, Bool.false_or, Bool.or_true, Bool.or_false, Bool.not_true, Bool.not_false]; done) | (simp_all; done) | simp_all [feq_self, endP, s_turn_Unit_0, s_turn_Unit_1, s_turn_Unit_2, s_turn_Check_0, s_math_Sqrt_0, s_turn_square_0]
  · cases h
noncomputable def rs61 : List (FuncId × RF) := (62, pureF S_turn_Unit) :: rs60
noncomputable def env61 : Env := mkEnv xs rs61 ws0
theorem rs61_ok : All (ROk Try.prog false) rs61 := All.cons t_turn_Unit rs60_ok
theorem env61_ok : env61.Ok Try.prog false := mkEnv_ok xs_ok rs61_ok ws0_ok
-- tumble/vec.More
noncomputable def s_vec_More_0 (a0_0 : Nat) (a0_1 : Nat) (a1_0 : Nat) (a2_0 : Nat) (a2_1 : Nat) : Nat := fadd a0_0 (fmul a1_0 a2_0)
noncomputable def s_vec_More_1 (a0_0 : Nat) (a0_1 : Nat) (a1_0 : Nat) (a2_0 : Nat) (a2_1 : Nat) : Nat := fadd a0_1 (fmul a1_0 a2_1)
noncomputable def S_vec_More : List AV → Option AV
  | [AV.agg [.float a0_0, .float a0_1], AV.float a1_0, AV.agg [.float a2_0, .float a2_1]] => some (AV.agg [AV.float (s_vec_More_0 a0_0 a0_1 a1_0 a2_0 a2_1), AV.float (s_vec_More_1 a0_0 a0_1 a1_0 a2_0 a2_1)])
  | _ => none
theorem t_vec_More : ROk Try.prog false (63, pureF S_vec_More) := ROk.pure (N := 64) env61_ok Try.func63 Try.call63 fun args v h => by
  unfold S_vec_More at h
  split at h
  · rename_i a0_0 a0_1 a1_0 a2_0 a2_1
    cases h
    exact ⟨rfl, rfl, by kernel_rfl⟩
  · cases h
noncomputable def rs62 : List (FuncId × RF) := (63, pureF S_vec_More) :: rs61
noncomputable def env62 : Env := mkEnv xs rs62 ws0
theorem rs62_ok : All (ROk Try.prog false) rs62 := All.cons t_vec_More rs61_ok
theorem env62_ok : env62.Ok Try.prog false := mkEnv_ok xs_ok rs62_ok ws0_ok
-- tumble/frame.Move
noncomputable def s_frame_Move_0 (a0_0 : Nat) (a0_1 : Nat) (a0_2r : Nat) (a0_2i : Nat) (a1_0 : Nat) (a1_1 : Nat) (a2_0 : Nat) (a3_0 : Nat) : Nat := s_vec_More_0 a0_0 a0_1 a3_0 a1_0 a1_1
noncomputable def s_frame_Move_1 (a0_0 : Nat) (a0_1 : Nat) (a0_2r : Nat) (a0_2i : Nat) (a1_0 : Nat) (a1_1 : Nat) (a2_0 : Nat) (a3_0 : Nat) : Nat := s_vec_More_1 a0_0 a0_1 a3_0 a1_0 a1_1
noncomputable def s_frame_Move_2 (a0_0 : Nat) (a0_1 : Nat) (a0_2r : Nat) (a0_2i : Nat) (a1_0 : Nat) (a1_1 : Nat) (a2_0 : Nat) (a3_0 : Nat) : Nat := bif s_turn_Unit_2 (s_turn_Then_0 a0_2r a0_2i (s_turn_By_0 (fmul (fmul a2_0 a3_0) 4602678819172646912)) (s_turn_By_1 (fmul (fmul a2_0 a3_0) 4602678819172646912))) (s_turn_Then_1 a0_2r a0_2i (s_turn_By_0 (fmul (fmul a2_0 a3_0) 4602678819172646912)) (s_turn_By_1 (fmul (fmul a2_0 a3_0) 4602678819172646912))) then s_turn_Unit_0 (s_turn_Then_0 a0_2r a0_2i (s_turn_By_0 (fmul (fmul a2_0 a3_0) 4602678819172646912)) (s_turn_By_1 (fmul (fmul a2_0 a3_0) 4602678819172646912))) (s_turn_Then_1 a0_2r a0_2i (s_turn_By_0 (fmul (fmul a2_0 a3_0) 4602678819172646912)) (s_turn_By_1 (fmul (fmul a2_0 a3_0) 4602678819172646912))) else s_turn_Then_0 a0_2r a0_2i (s_turn_By_0 (fmul (fmul a2_0 a3_0) 4602678819172646912)) (s_turn_By_1 (fmul (fmul a2_0 a3_0) 4602678819172646912))
noncomputable def s_frame_Move_3 (a0_0 : Nat) (a0_1 : Nat) (a0_2r : Nat) (a0_2i : Nat) (a1_0 : Nat) (a1_1 : Nat) (a2_0 : Nat) (a3_0 : Nat) : Nat := bif s_turn_Unit_2 (s_turn_Then_0 a0_2r a0_2i (s_turn_By_0 (fmul (fmul a2_0 a3_0) 4602678819172646912)) (s_turn_By_1 (fmul (fmul a2_0 a3_0) 4602678819172646912))) (s_turn_Then_1 a0_2r a0_2i (s_turn_By_0 (fmul (fmul a2_0 a3_0) 4602678819172646912)) (s_turn_By_1 (fmul (fmul a2_0 a3_0) 4602678819172646912))) then s_turn_Unit_1 (s_turn_Then_0 a0_2r a0_2i (s_turn_By_0 (fmul (fmul a2_0 a3_0) 4602678819172646912)) (s_turn_By_1 (fmul (fmul a2_0 a3_0) 4602678819172646912))) (s_turn_Then_1 a0_2r a0_2i (s_turn_By_0 (fmul (fmul a2_0 a3_0) 4602678819172646912)) (s_turn_By_1 (fmul (fmul a2_0 a3_0) 4602678819172646912))) else s_turn_Then_1 a0_2r a0_2i (s_turn_By_0 (fmul (fmul a2_0 a3_0) 4602678819172646912)) (s_turn_By_1 (fmul (fmul a2_0 a3_0) 4602678819172646912))
noncomputable def S_frame_Move : List AV → Option AV
  | [AV.agg [.float a0_0, .float a0_1, .complex a0_2r a0_2i], AV.agg [.float a1_0, .float a1_1], AV.float a2_0, AV.float a3_0] => some (AV.agg [AV.float (s_frame_Move_0 a0_0 a0_1 a0_2r a0_2i a1_0 a1_1 a2_0 a3_0), AV.float (s_frame_Move_1 a0_0 a0_1 a0_2r a0_2i a1_0 a1_1 a2_0 a3_0), AV.complex (s_frame_Move_2 a0_0 a0_1 a0_2r a0_2i a1_0 a1_1 a2_0 a3_0) (s_frame_Move_3 a0_0 a0_1 a0_2r a0_2i a1_0 a1_1 a2_0 a3_0)])
  | _ => none
theorem t_frame_Move : ROk Try.prog false (26, pureF S_frame_Move) := ROk.pure (N := 64) env62_ok Try.func26 Try.call26 fun args v h => by
  unfold S_frame_Move at h
  split at h
  · rename_i a0_0 a0_1 a0_2r a0_2i a1_0 a1_1 a2_0 a3_0
    cases h
    refine ⟨rfl, rfl, ?_⟩
    rw [show evFn Try.prog false env62 64 Try.f26 [AV.agg [.float a0_0, .float a0_1, .complex a0_2r a0_2i], AV.agg [.float a1_0, .float a1_1], AV.float a2_0, AV.float a3_0] [] endP = bif s_turn_Unit_2 (s_turn_Then_0 a0_2r a0_2i (s_turn_By_0 (fmul (fmul a2_0 a3_0) 4602678819172646912)) (s_turn_By_1 (fmul (fmul a2_0 a3_0) 4602678819172646912))) (s_turn_Then_1 a0_2r a0_2i (s_turn_By_0 (fmul (fmul a2_0 a3_0) 4602678819172646912)) (s_turn_By_1 (fmul (fmul a2_0 a3_0) 4602678819172646912))) then endP (AV.agg [AV.float (s_vec_More_0 a0_0 a0_1 a3_0 a1_0 a1_1), AV.float (s_vec_More_1 a0_0 a0_1 a3_0 a1_0 a1_1), AV.complex (s_turn_Unit_0 (s_turn_Then_0 a0_2r a0_2i (s_turn_By_0 (fmul (fmul a2_0 a3_0) 4602678819172646912)) (s_turn_By_1 (fmul (fmul a2_0 a3_0) 4602678819172646912))) (s_turn_Then_1 a0_2r a0_2i (s_turn_By_0 (fmul (fmul a2_0 a3_0) 4602678819172646912)) (s_turn_By_1 (fmul (fmul a2_0 a3_0) 4602678819172646912)))) (s_turn_Unit_1 (s_turn_Then_0 a0_2r a0_2i (s_turn_By_0 (fmul (fmul a2_0 a3_0) 4602678819172646912)) (s_turn_By_1 (fmul (fmul a2_0 a3_0) 4602678819172646912))) (s_turn_Then_1 a0_2r a0_2i (s_turn_By_0 (fmul (fmul a2_0 a3_0) 4602678819172646912)) (s_turn_By_1 (fmul (fmul a2_0 a3_0) 4602678819172646912))))]) [] else endP (AV.agg [AV.float (s_vec_More_0 a0_0 a0_1 a3_0 a1_0 a1_1), AV.float (s_vec_More_1 a0_0 a0_1 a3_0 a1_0 a1_1), AV.complex (s_turn_Then_0 a0_2r a0_2i (s_turn_By_0 (fmul (fmul a2_0 a3_0) 4602678819172646912)) (s_turn_By_1 (fmul (fmul a2_0 a3_0) 4602678819172646912))) (s_turn_Then_1 a0_2r a0_2i (s_turn_By_0 (fmul (fmul a2_0 a3_0) 4602678819172646912)) (s_turn_By_1 (fmul (fmul a2_0 a3_0) 4602678819172646912)))]) [] from by kernel_rfl]
    refine node_eq (fun h0 => ?_) (fun h0 => ?_)
    · skip
      first | (simp only [endP, s_frame_Move_0, s_frame_Move_1, s_frame_Move_2, s_frame_Move_3, h0]; done) | (simp only [endP, s_frame_Move_0, s_frame_Move_1, s_frame_Move_2, s_frame_Move_3, h0]; rfl) | (simp only [endP, s_frame_Move_0, s_frame_Move_1, s_frame_Move_2, s_frame_Move_3, h0, cond_true, cond_false, Bool.true_and, Bool.false_and, Bool.and_true, Bool.and_false, Bool.true_or, Bool.false_or, Bool.or_true, Bool.or_false, Bool.not_true, Bool.not_false]; done) | (simp_all; done) | simp_all [feq_self, endP, s_frame_Move_0, s_frame_Move_1, s_frame_Move_2, s_frame_Move_3, s_turn_Unit_2, s_turn_Then_0, s_turn_By_0, s_turn_By_1, s_turn_Then_1]
    · skip
      first | (simp only [endP, s_frame_Move_0, s_frame_Move_1, s_frame_Move_2, s_frame_Move_3, h0]; done) | (simp only [endP, s_frame_Move_0, s_frame_Move_1, s_frame_Move_2, s_frame_Move_3, h0]; rfl) | (simp only [endP, s_frame_Move_0, s_frame_Move_1, s_frame_Move_2, s_frame_Move_3, h0, cond_true, cond_false, Bool.true_and, Bool.false_and, Bool.and_true, Bool.and_false, Bool.true_or, Bool.false_or, Bool.or_true, Bool.or_false, Bool.not_true, Bool.not_false]; done) | (simp_all; done) | simp_all [feq_self, endP, s_frame_Move_0, s_frame_Move_1, s_frame_Move_2, s_frame_Move_3, s_turn_Unit_2, s_turn_Then_0, s_turn_By_0, s_turn_By_1, s_turn_Then_1]
  · cases h
noncomputable def rs63 : List (FuncId × RF) := (26, pureF S_frame_Move) :: rs62
noncomputable def env63 : Env := mkEnv xs rs63 ws0
theorem rs63_ok : All (ROk Try.prog false) rs63 := All.cons t_frame_Move rs62_ok
theorem env63_ok : env63.Ok Try.prog false := mkEnv_ok xs_ok rs63_ok ws0_ok
-- tumble/tumbleref03.By
noncomputable def s_ref03_By_0 (a0_0 : Nat) : Nat := bif flt 9218868437227405311 (fmul a0_0 a0_0) then 13830554455654793216 else fdiv (fsub 4607182418800017408 (fmul a0_0 a0_0)) (fadd 4607182418800017408 (fmul a0_0 a0_0))
noncomputable def s_ref03_By_1 (a0_0 : Nat) : Nat := bif flt 9218868437227405311 (fmul a0_0 a0_0) then 0 else fdiv (fadd a0_0 a0_0) (fadd 4607182418800017408 (fmul a0_0 a0_0))
noncomputable def S_ref03_By : List AV → Option AV
  | [AV.float a0_0] => some (AV.complex (s_ref03_By_0 a0_0) (s_ref03_By_1 a0_0))
  | _ => none
theorem t_ref03_By : ROk Try.prog false (65, pureF S_ref03_By) := ROk.pure (N := 64) env63_ok Try.func65 Try.call65 fun args v h => by
  unfold S_ref03_By at h
  split at h
  · rename_i a0_0
    cases h
    refine ⟨rfl, rfl, ?_⟩
    rw [show evFn Try.prog false env63 64 Try.f65 [AV.float a0_0] [] endP = bif flt 9218868437227405311 (fmul a0_0 a0_0) then endP (AV.complex 13830554455654793216 0) [] else endP (AV.complex (fdiv (fsub 4607182418800017408 (fmul a0_0 a0_0)) (fadd 4607182418800017408 (fmul a0_0 a0_0))) (fdiv (fadd a0_0 a0_0) (fadd 4607182418800017408 (fmul a0_0 a0_0)))) [] from by kernel_rfl]
    refine node_eq (fun h0 => ?_) (fun h0 => ?_)
    · skip
      first | (simp only [endP, s_ref03_By_0, s_ref03_By_1, h0]; done) | (simp only [endP, s_ref03_By_0, s_ref03_By_1, h0]; rfl) | (simp only [endP, s_ref03_By_0, s_ref03_By_1, h0, cond_true, cond_false, Bool.true_and, Bool.false_and, Bool.and_true, Bool.and_false, Bool.true_or, Bool.false_or, Bool.or_true, Bool.or_false, Bool.not_true, Bool.not_false]; done) | (simp_all; done) | simp_all [feq_self, endP, s_ref03_By_0, s_ref03_By_1]
    · skip
      first | (simp only [endP, s_ref03_By_0, s_ref03_By_1, h0]; done) | (simp only [endP, s_ref03_By_0, s_ref03_By_1, h0]; rfl) | (simp only [endP, s_ref03_By_0, s_ref03_By_1, h0, cond_true, cond_false, Bool.true_and, Bool.false_and, Bool.and_true, Bool.and_false, Bool.true_or, Bool.false_or, Bool.or_true, Bool.or_false, Bool.not_true, Bool.not_false]; done) | (simp_all; done) | simp_all [feq_self, endP, s_ref03_By_0, s_ref03_By_1]
  · cases h
noncomputable def rs64 : List (FuncId × RF) := (65, pureF S_ref03_By) :: rs63
noncomputable def env64 : Env := mkEnv xs rs64 ws0
theorem rs64_ok : All (ROk Try.prog false) rs64 := All.cons t_ref03_By rs63_ok
theorem env64_ok : env64.Ok Try.prog false := mkEnv_ok xs_ok rs64_ok ws0_ok
-- tumble/tumbleref03.Unit
noncomputable def s_ref03_Unit_0 (a0_0r : Nat) (a0_0i : Nat) : Nat := bif !ieq (s_ref03_Check_0 (fdiv a0_0r (s_math_Sqrt_0 (s_ref03_Square_0 a0_0r a0_0i))) (fdiv a0_0i (s_math_Sqrt_0 (s_ref03_Square_0 a0_0r a0_0i)))) 0 then 0 else fdiv a0_0r (s_math_Sqrt_0 (s_ref03_Square_0 a0_0r a0_0i))
noncomputable def s_ref03_Unit_1 (a0_0r : Nat) (a0_0i : Nat) : Nat := bif !ieq (s_ref03_Check_0 (fdiv a0_0r (s_math_Sqrt_0 (s_ref03_Square_0 a0_0r a0_0i))) (fdiv a0_0i (s_math_Sqrt_0 (s_ref03_Square_0 a0_0r a0_0i)))) 0 then 0 else fdiv a0_0i (s_math_Sqrt_0 (s_ref03_Square_0 a0_0r a0_0i))
noncomputable def s_ref03_Unit_2 (a0_0r : Nat) (a0_0i : Nat) : Bool := !!ieq (s_ref03_Check_0 (fdiv a0_0r (s_math_Sqrt_0 (s_ref03_Square_0 a0_0r a0_0i))) (fdiv a0_0i (s_math_Sqrt_0 (s_ref03_Square_0 a0_0r a0_0i)))) 0
noncomputable def S_ref03_Unit : List AV → Option AV
  | [AV.complex a0_0r a0_0i] => some (AV.tup [AV.complex (s_ref03_Unit_0 a0_0r a0_0i) (s_ref03_Unit_1 a0_0r a0_0i), AV.bool (s_ref03_Unit_2 a0_0r a0_0i)])
  | _ => none
theorem t_ref03_Unit : ROk Try.prog false (66, pureF S_ref03_Unit) := ROk.pure (N := 64) env64_ok Try.func66 Try.call66 fun args v h => by
  unfold S_ref03_Unit at h
  split at h
  · rename_i a0_0r a0_0i
    cases h
    refine ⟨rfl, rfl, ?_⟩
    rw [show evFn Try.prog false env64 64 Try.f66 [AV.complex a0_0r a0_0i] [] endP = bif !ieq (s_ref03_Check_0 (fdiv a0_0r (s_math_Sqrt_0 (s_ref03_Square_0 a0_0r a0_0i))) (fdiv a0_0i (s_math_Sqrt_0 (s_ref03_Square_0 a0_0r a0_0i)))) 0 then endP (AV.tup [AV.complex 0 0, AV.bool false]) [] else endP (AV.tup [AV.complex (fdiv a0_0r (s_math_Sqrt_0 (s_ref03_Square_0 a0_0r a0_0i))) (fdiv a0_0i (s_math_Sqrt_0 (s_ref03_Square_0 a0_0r a0_0i))), AV.bool true]) [] from by kernel_rfl]
    refine node_eq (fun h0 => ?_) (fun h0 => ?_)
    · skip
      first | (simp only [endP, s_ref03_Unit_0, s_ref03_Unit_1, s_ref03_Unit_2, h0]; done) | (simp only [endP, s_ref03_Unit_0, s_ref03_Unit_1, s_ref03_Unit_2, h0]; rfl) | (simp only [endP, s_ref03_Unit_0, s_ref03_Unit_1, s_ref03_Unit_2, h0, cond_true, cond_false, Bool.true_and, Bool.false_and, Bool.and_true, Bool.and_false, Bool.true_or, Bool.false_or, Bool.or_true, Bool.or_false, Bool.not_true, Bool.not_false]; done) | (simp_all; done) | simp_all [feq_self, endP, s_ref03_Unit_0, s_ref03_Unit_1, s_ref03_Unit_2, s_ref03_Check_0, s_math_Sqrt_0, s_ref03_Square_0]
    · skip
      first | (simp only [endP, s_ref03_Unit_0, s_ref03_Unit_1, s_ref03_Unit_2, h0]; done) | (simp only [endP, s_ref03_Unit_0, s_ref03_Unit_1, s_ref03_Unit_2, h0]; rfl) | (simp only [endP, s_ref03_Unit_0, s_ref03_Unit_1, s_ref03_Unit_2, h0, cond_true, cond_false, Bool.true_and, Bool.false_and, Bool.and_true, Bool.and_false, Bool.true_or, Bool.false_or, Bool.or_true, Bool.or_false, Bool.not_true, Bool.not_false]; done) | (simp_all; done) | simp_all [feq_self, endP, s_ref03_Unit_0, s_ref03_Unit_1, s_ref03_Unit_2, s_ref03_Check_0, s_math_Sqrt_0, s_ref03_Square_0]
  · cases h
noncomputable def rs65 : List (FuncId × RF) := (66, pureF S_ref03_Unit) :: rs64
noncomputable def env65 : Env := mkEnv xs rs65 ws0
theorem rs65_ok : All (ROk Try.prog false) rs65 := All.cons t_ref03_Unit rs64_ok
theorem env65_ok : env65.Ok Try.prog false := mkEnv_ok xs_ok rs65_ok ws0_ok
-- tumble/tumbleref04.Move
noncomputable def s_ref04_Move_0 (a0_0 : Nat) (a0_1 : Nat) (a0_2r : Nat) (a0_2i : Nat) (a1_0 : Nat) (a1_1 : Nat) (a2_0 : Nat) (a3_0 : Nat) : Nat := fadd a0_0 (fmul a3_0 a1_0)
noncomputable def s_ref04_Move_1 (a0_0 : Nat) (a0_1 : Nat) (a0_2r : Nat) (a0_2i : Nat) (a1_0 : Nat) (a1_1 : Nat) (a2_0 : Nat) (a3_0 : Nat) : Nat := fadd a0_1 (fmul a3_0 a1_1)
noncomputable def s_ref04_Move_2 (a0_0 : Nat) (a0_1 : Nat) (a0_2r : Nat) (a0_2i : Nat) (a1_0 : Nat) (a1_1 : Nat) (a2_0 : Nat) (a3_0 : Nat) : Nat := bif s_ref03_Unit_2 (s_ref03_Then_0 a0_2r a0_2i (s_ref03_By_0 (fmul (fmul a2_0 a3_0) 4602678819172646912)) (s_ref03_By_1 (fmul (fmul a2_0 a3_0) 4602678819172646912))) (s_ref03_Then_1 a0_2r a0_2i (s_ref03_By_0 (fmul (fmul a2_0 a3_0) 4602678819172646912)) (s_ref03_By_1 (fmul (fmul a2_0 a3_0) 4602678819172646912))) then s_ref03_Unit_0 (s_ref03_Then_0 a0_2r a0_2i (s_ref03_By_0 (fmul (fmul a2_0 a3_0) 4602678819172646912)) (s_ref03_By_1 (fmul (fmul a2_0 a3_0) 4602678819172646912))) (s_ref03_Then_1 a0_2r a0_2i (s_ref03_By_0 (fmul (fmul a2_0 a3_0) 4602678819172646912)) (s_ref03_By_1 (fmul (fmul a2_0 a3_0) 4602678819172646912))) else s_ref03_Then_0 a0_2r a0_2i (s_ref03_By_0 (fmul (fmul a2_0 a3_0) 4602678819172646912)) (s_ref03_By_1 (fmul (fmul a2_0 a3_0) 4602678819172646912))
noncomputable def s_ref04_Move_3 (a0_0 : Nat) (a0_1 : Nat) (a0_2r : Nat) (a0_2i : Nat) (a1_0 : Nat) (a1_1 : Nat) (a2_0 : Nat) (a3_0 : Nat) : Nat := bif s_ref03_Unit_2 (s_ref03_Then_0 a0_2r a0_2i (s_ref03_By_0 (fmul (fmul a2_0 a3_0) 4602678819172646912)) (s_ref03_By_1 (fmul (fmul a2_0 a3_0) 4602678819172646912))) (s_ref03_Then_1 a0_2r a0_2i (s_ref03_By_0 (fmul (fmul a2_0 a3_0) 4602678819172646912)) (s_ref03_By_1 (fmul (fmul a2_0 a3_0) 4602678819172646912))) then s_ref03_Unit_1 (s_ref03_Then_0 a0_2r a0_2i (s_ref03_By_0 (fmul (fmul a2_0 a3_0) 4602678819172646912)) (s_ref03_By_1 (fmul (fmul a2_0 a3_0) 4602678819172646912))) (s_ref03_Then_1 a0_2r a0_2i (s_ref03_By_0 (fmul (fmul a2_0 a3_0) 4602678819172646912)) (s_ref03_By_1 (fmul (fmul a2_0 a3_0) 4602678819172646912))) else s_ref03_Then_1 a0_2r a0_2i (s_ref03_By_0 (fmul (fmul a2_0 a3_0) 4602678819172646912)) (s_ref03_By_1 (fmul (fmul a2_0 a3_0) 4602678819172646912))
noncomputable def S_ref04_Move : List AV → Option AV
  | [AV.agg [.float a0_0, .float a0_1, .complex a0_2r a0_2i], AV.agg [.float a1_0, .float a1_1], AV.float a2_0, AV.float a3_0] => some (AV.agg [AV.float (s_ref04_Move_0 a0_0 a0_1 a0_2r a0_2i a1_0 a1_1 a2_0 a3_0), AV.float (s_ref04_Move_1 a0_0 a0_1 a0_2r a0_2i a1_0 a1_1 a2_0 a3_0), AV.complex (s_ref04_Move_2 a0_0 a0_1 a0_2r a0_2i a1_0 a1_1 a2_0 a3_0) (s_ref04_Move_3 a0_0 a0_1 a0_2r a0_2i a1_0 a1_1 a2_0 a3_0)])
  | _ => none
theorem t_ref04_Move : ROk Try.prog false (28, pureF S_ref04_Move) := ROk.pure (N := 64) env65_ok Try.func28 Try.call28 fun args v h => by
  unfold S_ref04_Move at h
  split at h
  · rename_i a0_0 a0_1 a0_2r a0_2i a1_0 a1_1 a2_0 a3_0
    cases h
    refine ⟨rfl, rfl, ?_⟩
    rw [show evFn Try.prog false env65 64 Try.f28 [AV.agg [.float a0_0, .float a0_1, .complex a0_2r a0_2i], AV.agg [.float a1_0, .float a1_1], AV.float a2_0, AV.float a3_0] [] endP = bif s_ref03_Unit_2 (s_ref03_Then_0 a0_2r a0_2i (s_ref03_By_0 (fmul (fmul a2_0 a3_0) 4602678819172646912)) (s_ref03_By_1 (fmul (fmul a2_0 a3_0) 4602678819172646912))) (s_ref03_Then_1 a0_2r a0_2i (s_ref03_By_0 (fmul (fmul a2_0 a3_0) 4602678819172646912)) (s_ref03_By_1 (fmul (fmul a2_0 a3_0) 4602678819172646912))) then endP (AV.agg [AV.float (fadd a0_0 (fmul a3_0 a1_0)), AV.float (fadd a0_1 (fmul a3_0 a1_1)), AV.complex (s_ref03_Unit_0 (s_ref03_Then_0 a0_2r a0_2i (s_ref03_By_0 (fmul (fmul a2_0 a3_0) 4602678819172646912)) (s_ref03_By_1 (fmul (fmul a2_0 a3_0) 4602678819172646912))) (s_ref03_Then_1 a0_2r a0_2i (s_ref03_By_0 (fmul (fmul a2_0 a3_0) 4602678819172646912)) (s_ref03_By_1 (fmul (fmul a2_0 a3_0) 4602678819172646912)))) (s_ref03_Unit_1 (s_ref03_Then_0 a0_2r a0_2i (s_ref03_By_0 (fmul (fmul a2_0 a3_0) 4602678819172646912)) (s_ref03_By_1 (fmul (fmul a2_0 a3_0) 4602678819172646912))) (s_ref03_Then_1 a0_2r a0_2i (s_ref03_By_0 (fmul (fmul a2_0 a3_0) 4602678819172646912)) (s_ref03_By_1 (fmul (fmul a2_0 a3_0) 4602678819172646912))))]) [] else endP (AV.agg [AV.float (fadd a0_0 (fmul a3_0 a1_0)), AV.float (fadd a0_1 (fmul a3_0 a1_1)), AV.complex (s_ref03_Then_0 a0_2r a0_2i (s_ref03_By_0 (fmul (fmul a2_0 a3_0) 4602678819172646912)) (s_ref03_By_1 (fmul (fmul a2_0 a3_0) 4602678819172646912))) (s_ref03_Then_1 a0_2r a0_2i (s_ref03_By_0 (fmul (fmul a2_0 a3_0) 4602678819172646912)) (s_ref03_By_1 (fmul (fmul a2_0 a3_0) 4602678819172646912)))]) [] from by kernel_rfl]
    refine node_eq (fun h0 => ?_) (fun h0 => ?_)
    · skip
      first | (simp only [endP, s_ref04_Move_0, s_ref04_Move_1, s_ref04_Move_2, s_ref04_Move_3, h0]; done) | (simp only [endP, s_ref04_Move_0, s_ref04_Move_1, s_ref04_Move_2, s_ref04_Move_3, h0]; rfl) | (simp only [endP, s_ref04_Move_0, s_ref04_Move_1, s_ref04_Move_2, s_ref04_Move_3, h0, cond_true, cond_false, Bool.true_and, Bool.false_and, Bool.and_true, Bool.and_false, Bool.true_or, Bool.false_or, Bool.or_true, Bool.or_false, Bool.not_true, Bool.not_false]; done) | (simp_all; done) | simp_all [feq_self, endP, s_ref04_Move_0, s_ref04_Move_1, s_ref04_Move_2, s_ref04_Move_3, s_ref03_Unit_2, s_ref03_Then_0, s_ref03_By_0, s_ref03_By_1, s_ref03_Then_1]
    · skip
      first | (simp only [endP, s_ref04_Move_0, s_ref04_Move_1, s_ref04_Move_2, s_ref04_Move_3, h0]; done) | (simp only [endP, s_ref04_Move_0, s_ref04_Move_1, s_ref04_Move_2, s_ref04_Move_3, h0]; rfl) | (simp only [endP, s_ref04_Move_0, s_ref04_Move_1, s_ref04_Move_2, s_ref04_Move_3, h0, cond_true, cond_false, Bool.true_and, Bool.false_and, Bool.and_true, Bool.and_false, Bool.true_or, Bool.false_or, Bool.or_true, Bool.or_false, Bool.not_true, Bool.not_false]; done) | (simp_all; done) | simp_all [feq_self, endP, s_ref04_Move_0, s_ref04_Move_1, s_ref04_Move_2, s_ref04_Move_3, s_ref03_Unit_2, s_ref03_Then_0, s_ref03_By_0, s_ref03_By_1, s_ref03_Then_1]
  · cases h
noncomputable def rs66 : List (FuncId × RF) := (28, pureF S_ref04_Move) :: rs65
noncomputable def env66 : Env := mkEnv xs rs66 ws0
theorem rs66_ok : All (ROk Try.prog false) rs66 := All.cons t_ref04_Move rs65_ok
theorem env66_ok : env66.Ok Try.prog false := mkEnv_ok xs_ok rs66_ok ws0_ok
-- tumble/tumblelaw04.FrameMoves
noncomputable def T_law04_FrameMoves (a0_0 : Nat) (a0_1 : Nat) (a0_2 : Nat) (a0_3 : Nat) (a1_0 : Nat) (a1_1 : Nat) (a2_0 : Nat) (a3_0 : Nat) : Option Res := bif u64ok (Int.ofNat a0_0) then bif u64ok (Int.ofNat a0_1) then bif u64ok (Int.ofNat a0_2) then bif u64ok (Int.ofNat a0_3) then bif u64ok (Int.ofNat a1_0) then bif u64ok (Int.ofNat a1_1) then bif u64ok (Int.ofNat a2_0) then bif u64ok (Int.ofNat a3_0) then bif u64ok (Int.ofNat a1_0) then bif u64ok (Int.ofNat a1_1) then bif u64ok (Int.ofNat a2_0) then bif u64ok (Int.ofNat a3_0) then endP (AV.bool (s_ref04_Same_0 (s_frame_Move_0 (cn (Int.ofNat a0_0).toNat) (cn (Int.ofNat a0_1).toNat) (cn (Int.ofNat a0_2).toNat) (cn (Int.ofNat a0_3).toNat) (cn (Int.ofNat a1_0).toNat) (cn (Int.ofNat a1_1).toNat) (cn (Int.ofNat a2_0).toNat) (cn (Int.ofNat a3_0).toNat)) (s_frame_Move_1 (cn (Int.ofNat a0_0).toNat) (cn (Int.ofNat a0_1).toNat) (cn (Int.ofNat a0_2).toNat) (cn (Int.ofNat a0_3).toNat) (cn (Int.ofNat a1_0).toNat) (cn (Int.ofNat a1_1).toNat) (cn (Int.ofNat a2_0).toNat) (cn (Int.ofNat a3_0).toNat)) (s_frame_Move_2 (cn (Int.ofNat a0_0).toNat) (cn (Int.ofNat a0_1).toNat) (cn (Int.ofNat a0_2).toNat) (cn (Int.ofNat a0_3).toNat) (cn (Int.ofNat a1_0).toNat) (cn (Int.ofNat a1_1).toNat) (cn (Int.ofNat a2_0).toNat) (cn (Int.ofNat a3_0).toNat)) (s_frame_Move_3 (cn (Int.ofNat a0_0).toNat) (cn (Int.ofNat a0_1).toNat) (cn (Int.ofNat a0_2).toNat) (cn (Int.ofNat a0_3).toNat) (cn (Int.ofNat a1_0).toNat) (cn (Int.ofNat a1_1).toNat) (cn (Int.ofNat a2_0).toNat) (cn (Int.ofNat a3_0).toNat)) (s_ref04_Move_0 (cn (Int.ofNat a0_0).toNat) (cn (Int.ofNat a0_1).toNat) (cn (Int.ofNat a0_2).toNat) (cn (Int.ofNat a0_3).toNat) (cn (Int.ofNat a1_0).toNat) (cn (Int.ofNat a1_1).toNat) (cn (Int.ofNat a2_0).toNat) (cn (Int.ofNat a3_0).toNat)) (s_ref04_Move_1 (cn (Int.ofNat a0_0).toNat) (cn (Int.ofNat a0_1).toNat) (cn (Int.ofNat a0_2).toNat) (cn (Int.ofNat a0_3).toNat) (cn (Int.ofNat a1_0).toNat) (cn (Int.ofNat a1_1).toNat) (cn (Int.ofNat a2_0).toNat) (cn (Int.ofNat a3_0).toNat)) (s_ref04_Move_2 (cn (Int.ofNat a0_0).toNat) (cn (Int.ofNat a0_1).toNat) (cn (Int.ofNat a0_2).toNat) (cn (Int.ofNat a0_3).toNat) (cn (Int.ofNat a1_0).toNat) (cn (Int.ofNat a1_1).toNat) (cn (Int.ofNat a2_0).toNat) (cn (Int.ofNat a3_0).toNat)) (s_ref04_Move_3 (cn (Int.ofNat a0_0).toNat) (cn (Int.ofNat a0_1).toNat) (cn (Int.ofNat a0_2).toNat) (cn (Int.ofNat a0_3).toNat) (cn (Int.ofNat a1_0).toNat) (cn (Int.ofNat a1_1).toNat) (cn (Int.ofNat a2_0).toNat) (cn (Int.ofNat a3_0).toNat)))) [] else none else none else none else none else none else none else none else none else none else none else none else none
theorem tree_law04_FrameMoves (a0_0 : Nat) (a0_1 : Nat) (a0_2 : Nat) (a0_3 : Nat) (a1_0 : Nat) (a1_1 : Nat) (a2_0 : Nat) (a3_0 : Nat) : evFn Try.prog false env66 64 Try.f5 [AV.agg [.int .u64 (Int.ofNat a0_0), .int .u64 (Int.ofNat a0_1), .int .u64 (Int.ofNat a0_2), .int .u64 (Int.ofNat a0_3)], AV.agg [.int .u64 (Int.ofNat a1_0), .int .u64 (Int.ofNat a1_1)], AV.int .u64 (Int.ofNat a2_0), AV.int .u64 (Int.ofNat a3_0)] [] endP = T_law04_FrameMoves a0_0 a0_1 a0_2 a0_3 a1_0 a1_1 a2_0 a3_0 := by kernel_rfl
-- tumble/tumblelaw04.at
noncomputable def s_law04_at_0 (a0_0 : Nat) (a1_0 : Nat) (a2_0r : Nat) (a2_0i : Nat) : Nat := a0_0
noncomputable def s_law04_at_1 (a0_0 : Nat) (a1_0 : Nat) (a2_0r : Nat) (a2_0i : Nat) : Nat := a1_0
noncomputable def s_law04_at_2 (a0_0 : Nat) (a1_0 : Nat) (a2_0r : Nat) (a2_0i : Nat) : Nat := a2_0r
noncomputable def s_law04_at_3 (a0_0 : Nat) (a1_0 : Nat) (a2_0r : Nat) (a2_0i : Nat) : Nat := a2_0i
noncomputable def S_law04_at : List AV → Option AV
  | [AV.float a0_0, AV.float a1_0, AV.complex a2_0r a2_0i] => some (AV.agg [AV.float (s_law04_at_0 a0_0 a1_0 a2_0r a2_0i), AV.float (s_law04_at_1 a0_0 a1_0 a2_0r a2_0i), AV.complex (s_law04_at_2 a0_0 a1_0 a2_0r a2_0i) (s_law04_at_3 a0_0 a1_0 a2_0r a2_0i)])
  | _ => none
theorem t_law04_at : ROk Try.prog false (34, pureF S_law04_at) := ROk.pure (N := 64) env66_ok Try.func34 Try.call34 fun args v h => by
  unfold S_law04_at at h
  split at h
  · rename_i a0_0 a1_0 a2_0r a2_0i
    cases h
    exact ⟨rfl, rfl, by kernel_rfl⟩
  · cases h
noncomputable def rs67 : List (FuncId × RF) := (34, pureF S_law04_at) :: rs66
noncomputable def env67 : Env := mkEnv xs rs67 ws0
theorem rs67_ok : All (ROk Try.prog false) rs67 := All.cons t_law04_at rs66_ok
theorem env67_ok : env67.Ok Try.prog false := mkEnv_ok xs_ok rs67_ok ws0_ok
-- tumble/tumblelaw04.alive
noncomputable def s_law04_alive_0  : Bool := true
noncomputable def S_law04_alive : List AV → Option AV
  | [] => some (AV.bool (s_law04_alive_0))
  | _ => none
theorem t_law04_alive : ROk Try.prog false (29, pureF S_law04_alive) := ROk.pure (N := 64) env67_ok Try.func29 Try.call29 fun args v h => by
  unfold S_law04_alive at h
  split at h
  · skip
    cases h
    exact ⟨rfl, rfl, by kernel_rfl⟩
  · cases h
noncomputable def rs68 : List (FuncId × RF) := (29, pureF S_law04_alive) :: rs67
noncomputable def env68 : Env := mkEnv xs rs68 ws0
theorem rs68_ok : All (ROk Try.prog false) rs68 := All.cons t_law04_alive rs67_ok
theorem env68_ok : env68.Ok Try.prog false := mkEnv_ok xs_ok rs68_ok ws0_ok
-- tumble/tumblelaw04.calm
noncomputable def s_law04_calm_0 (a0_0 : Nat) : Bool := fle 14010698440749613056 a0_0 && (fle a0_0 4787326403894837248 && bif !feq a0_0 0 then bif !fle 3256102530588868608 a0_0 then fle a0_0 12479474567443644416 else true else true)
noncomputable def S_law04_calm : List AV → Option AV
  | [AV.float a0_0] => some (AV.bool (s_law04_calm_0 a0_0))
  | _ => none
theorem t_law04_calm : ROk Try.prog false (30, pureF S_law04_calm) := ROk.pure (N := 64) env68_ok Try.func30 Try.call30 fun args v h => by
  unfold S_law04_calm at h
  split at h
  · rename_i a0_0
    cases h
    refine ⟨rfl, rfl, ?_⟩
    rw [show evFn Try.prog false env68 64 Try.f30 [AV.float a0_0] [] endP = bif fle 14010698440749613056 a0_0 then bif fle a0_0 4787326403894837248 then bif !feq a0_0 0 then bif !fle 3256102530588868608 a0_0 then endP (AV.bool (fle a0_0 12479474567443644416)) [] else endP (AV.bool true) [] else endP (AV.bool true) [] else endP (AV.bool false) [] else endP (AV.bool false) [] from by kernel_rfl]
    refine node_eq (fun h0 => ?_) (fun h0 => ?_)
    · skip
      refine node_eq (fun h1 => ?_) (fun h1 => ?_)
      · skip
        refine node_eq (fun h2 => ?_) (fun h2 => ?_)
        · skip
          refine node_eq (fun h3 => ?_) (fun h3 => ?_)
          · skip
            first | (simp only [endP, s_law04_calm_0, h3, h2, h1, h0]; done) | (simp only [endP, s_law04_calm_0, h3, h2, h1, h0]; rfl) | (simp only [endP, s_law04_calm_0, h3, h2, h1, h0, cond_true, cond_false, Bool.true_and, Bool.false_and, Bool.and_true, Bool.and_false, Bool.true_or, Bool.false_or, Bool.or_true, Bool.or_false, Bool.not_true, Bool.not_false]; done) | (simp_all; done) | simp_all [feq_self, endP, s_law04_calm_0]
          · skip
            first | (simp only [endP, s_law04_calm_0, h3, h2, h1, h0]; done) | (simp only [endP, s_law04_calm_0, h3, h2, h1, h0]; rfl) | (simp only [endP, s_law04_calm_0, h3, h2, h1, h0, cond_true, cond_false, Bool.true_and, Bool.false_and, Bool.and_true, Bool.and_false, Bool.true_or, Bool.false_or, Bool.or_true, Bool.or_false, Bool.not_true, Bool.not_false]; done) | (simp_all; done) | simp_all [feq_self, endP, s_law04_calm_0]
        · skip
          first | (simp only [endP, s_law04_calm_0, h2, h1, h0]; done) | (simp only [endP, s_law04_calm_0, h2, h1, h0]; rfl) | (simp only [endP, s_law04_calm_0, h2, h1, h0, cond_true, cond_false, Bool.true_and, Bool.false_and, Bool.and_true, Bool.and_false, Bool.true_or, Bool.false_or, Bool.or_true, Bool.or_false, Bool.not_true, Bool.not_false]; done) | (simp_all; done) | simp_all [feq_self, endP, s_law04_calm_0]
      · skip
        first | (simp only [endP, s_law04_calm_0, h1, h0]; done) | (simp only [endP, s_law04_calm_0, h1, h0]; rfl) | (simp only [endP, s_law04_calm_0, h1, h0, cond_true, cond_false, Bool.true_and, Bool.false_and, Bool.and_true, Bool.and_false, Bool.true_or, Bool.false_or, Bool.or_true, Bool.or_false, Bool.not_true, Bool.not_false]; done) | (simp_all; done) | simp_all [feq_self, endP, s_law04_calm_0]
    · skip
      first | (simp only [endP, s_law04_calm_0, h0]; done) | (simp only [endP, s_law04_calm_0, h0]; rfl) | (simp only [endP, s_law04_calm_0, h0, cond_true, cond_false, Bool.true_and, Bool.false_and, Bool.and_true, Bool.and_false, Bool.true_or, Bool.false_or, Bool.or_true, Bool.or_false, Bool.not_true, Bool.not_false]; done) | (simp_all; done) | simp_all [feq_self, endP, s_law04_calm_0]
  · cases h
noncomputable def rs69 : List (FuncId × RF) := (30, pureF S_law04_calm) :: rs68
noncomputable def env69 : Env := mkEnv xs rs69 ws0
theorem rs69_ok : All (ROk Try.prog false) rs69 := All.cons t_law04_calm rs68_ok
theorem env69_ok : env69.Ok Try.prog false := mkEnv_ok xs_ok rs69_ok ws0_ok
-- tumble/tumblelaw04.near
noncomputable def s_law04_near_0 (a0_0 : Nat) (a0_1 : Nat) (a1_0 : Nat) (a1_1 : Nat) (a2_0 : Nat) : Bool := fle (fabs (fsub a0_0 a1_0)) (fmul 4445052832214679552 a2_0) && fle (fabs (fsub a0_1 a1_1)) (fmul 4445052832214679552 a2_0)
noncomputable def S_law04_near : List AV → Option AV
  | [AV.agg [.float a0_0, .float a0_1], AV.agg [.float a1_0, .float a1_1], AV.float a2_0] => some (AV.bool (s_law04_near_0 a0_0 a0_1 a1_0 a1_1 a2_0))
  | _ => none
theorem t_law04_near : ROk Try.prog false (32, pureF S_law04_near) := ROk.pure (N := 64) env69_ok Try.func32 Try.call32 fun args v h => by
  unfold S_law04_near at h
  split at h
  · rename_i a0_0 a0_1 a1_0 a1_1 a2_0
    cases h
    refine ⟨rfl, rfl, ?_⟩
    rw [show evFn Try.prog false env69 64 Try.f32 [AV.agg [.float a0_0, .float a0_1], AV.agg [.float a1_0, .float a1_1], AV.float a2_0] [] endP = bif fle (fabs (fsub a0_0 a1_0)) (fmul 4445052832214679552 a2_0) then endP (AV.bool (fle (fabs (fsub a0_1 a1_1)) (fmul 4445052832214679552 a2_0))) [] else endP (AV.bool false) [] from by kernel_rfl]
    refine node_eq (fun h0 => ?_) (fun h0 => ?_)
    · skip
      first | (simp only [endP, s_law04_near_0, h0]; done) | (simp only [endP, s_law04_near_0, h0]; rfl) | (simp only [endP, s_law04_near_0, h0, cond_true, cond_false, Bool.true_and, Bool.false_and, Bool.and_true, Bool.and_false, Bool.true_or, Bool.false_or, Bool.or_true, Bool.or_false, Bool.not_true, Bool.not_false]; done) | (simp_all; done) | simp_all [feq_self, endP, s_law04_near_0]
    · skip
      first | (simp only [endP, s_law04_near_0, h0]; done) | (simp only [endP, s_law04_near_0, h0]; rfl) | (simp only [endP, s_law04_near_0, h0, cond_true, cond_false, Bool.true_and, Bool.false_and, Bool.and_true, Bool.and_false, Bool.true_or, Bool.false_or, Bool.or_true, Bool.or_false, Bool.not_true, Bool.not_false]; done) | (simp_all; done) | simp_all [feq_self, endP, s_law04_near_0]
  · cases h
noncomputable def rs70 : List (FuncId × RF) := (32, pureF S_law04_near) :: rs69
noncomputable def env70 : Env := mkEnv xs rs70 ws0
theorem rs70_ok : All (ROk Try.prog false) rs70 := All.cons t_law04_near rs69_ok
theorem env70_ok : env70.Ok Try.prog false := mkEnv_ok xs_ok rs70_ok ws0_ok
-- tumble/tumblelaw04.FrameBack
noncomputable def T_law04_FrameBack (a0_0 : Nat) (a0_1 : Nat) (a0_2 : Nat) (a0_3 : Nat) (a1_0 : Nat) (a1_1 : Nat) : Option Res := bif u64ok (Int.ofNat a0_0) then bif u64ok (Int.ofNat a0_1) then bif u64ok (Int.ofNat a0_2) then bif u64ok (Int.ofNat a0_3) then bif u64ok (Int.ofNat a1_0) then bif u64ok (Int.ofNat a1_1) then bif !!ieq (s_frame_Check_0 (cn (Int.ofNat a0_0).toNat) (cn (Int.ofNat a0_1).toNat) (cn (Int.ofNat a0_2).toNat) (cn (Int.ofNat a0_3).toNat)) 0 then bif !!s_law04_calm_0 (cn (Int.ofNat a1_0).toNat) then bif !!s_law04_calm_0 (cn (Int.ofNat a1_1).toNat) then bif !!s_law04_calm_0 (cn (Int.ofNat a0_0).toNat) then bif !s_law04_calm_0 (cn (Int.ofNat a0_1).toNat) then endP (AV.bool true) [] else bif feq (s_frame_To_0 0 0 4607182418800017408 0 (cn (Int.ofNat a1_0).toNat) (cn (Int.ofNat a1_1).toNat)) (cn (Int.ofNat a1_0).toNat) && (feq (s_frame_To_1 0 0 4607182418800017408 0 (cn (Int.ofNat a1_0).toNat) (cn (Int.ofNat a1_1).toNat)) (cn (Int.ofNat a1_1).toNat) && true) then bif feq (s_frame_Then_0 0 0 4607182418800017408 0 (cn (Int.ofNat a0_0).toNat) (cn (Int.ofNat a0_1).toNat) (cn (Int.ofNat a0_2).toNat) (cn (Int.ofNat a0_3).toNat)) (cn (Int.ofNat a0_0).toNat) && (feq (s_frame_Then_1 0 0 4607182418800017408 0 (cn (Int.ofNat a0_0).toNat) (cn (Int.ofNat a0_1).toNat) (cn (Int.ofNat a0_2).toNat) (cn (Int.ofNat a0_3).toNat)) (cn (Int.ofNat a0_1).toNat) && true) && (feq (s_frame_Then_2 0 0 4607182418800017408 0 (cn (Int.ofNat a0_0).toNat) (cn (Int.ofNat a0_1).toNat) (cn (Int.ofNat a0_2).toNat) (cn (Int.ofNat a0_3).toNat)) (cn (Int.ofNat a0_2).toNat) && feq (s_frame_Then_3 0 0 4607182418800017408 0 (cn (Int.ofNat a0_0).toNat) (cn (Int.ofNat a0_1).toNat) (cn (Int.ofNat a0_2).toNat) (cn (Int.ofNat a0_3).toNat)) (cn (Int.ofNat a0_3).toNat) && true) then bif feq (s_frame_Then_0 (cn (Int.ofNat a0_0).toNat) (cn (Int.ofNat a0_1).toNat) (cn (Int.ofNat a0_2).toNat) (cn (Int.ofNat a0_3).toNat) 0 0 4607182418800017408 0) (cn (Int.ofNat a0_0).toNat) && (feq (s_frame_Then_1 (cn (Int.ofNat a0_0).toNat) (cn (Int.ofNat a0_1).toNat) (cn (Int.ofNat a0_2).toNat) (cn (Int.ofNat a0_3).toNat) 0 0 4607182418800017408 0) (cn (Int.ofNat a0_1).toNat) && true) then bif feq (s_frame_Own_0 0 0 4607182418800017408 0 (cn (Int.ofNat a1_0).toNat) (cn (Int.ofNat a1_1).toNat)) (cn (Int.ofNat a1_0).toNat) && (feq (s_frame_Own_1 0 0 4607182418800017408 0 (cn (Int.ofNat a1_0).toNat) (cn (Int.ofNat a1_1).toNat)) (cn (Int.ofNat a1_1).toNat) && true) then bif feq (s_frame_Then_2 (cn (Int.ofNat a0_0).toNat) (cn (Int.ofNat a0_1).toNat) (cn (Int.ofNat a0_2).toNat) (cn (Int.ofNat a0_3).toNat) 0 0 4607182418800017408 0) (cn (Int.ofNat a0_2).toNat) && feq (s_frame_Then_3 (cn (Int.ofNat a0_0).toNat) (cn (Int.ofNat a0_1).toNat) (cn (Int.ofNat a0_2).toNat) (cn (Int.ofNat a0_3).toNat) 0 0 4607182418800017408 0) (cn (Int.ofNat a0_3).toNat) then bif s_law04_near_0 (s_frame_Own_0 (cn (Int.ofNat a0_0).toNat) (cn (Int.ofNat a0_1).toNat) (cn (Int.ofNat a0_2).toNat) (cn (Int.ofNat a0_3).toNat) (s_frame_To_0 (cn (Int.ofNat a0_0).toNat) (cn (Int.ofNat a0_1).toNat) (cn (Int.ofNat a0_2).toNat) (cn (Int.ofNat a0_3).toNat) (cn (Int.ofNat a1_0).toNat) (cn (Int.ofNat a1_1).toNat)) (s_frame_To_1 (cn (Int.ofNat a0_0).toNat) (cn (Int.ofNat a0_1).toNat) (cn (Int.ofNat a0_2).toNat) (cn (Int.ofNat a0_3).toNat) (cn (Int.ofNat a1_0).toNat) (cn (Int.ofNat a1_1).toNat))) (s_frame_Own_1 (cn (Int.ofNat a0_0).toNat) (cn (Int.ofNat a0_1).toNat) (cn (Int.ofNat a0_2).toNat) (cn (Int.ofNat a0_3).toNat) (s_frame_To_0 (cn (Int.ofNat a0_0).toNat) (cn (Int.ofNat a0_1).toNat) (cn (Int.ofNat a0_2).toNat) (cn (Int.ofNat a0_3).toNat) (cn (Int.ofNat a1_0).toNat) (cn (Int.ofNat a1_1).toNat)) (s_frame_To_1 (cn (Int.ofNat a0_0).toNat) (cn (Int.ofNat a0_1).toNat) (cn (Int.ofNat a0_2).toNat) (cn (Int.ofNat a0_3).toNat) (cn (Int.ofNat a1_0).toNat) (cn (Int.ofNat a1_1).toNat))) (cn (Int.ofNat a1_0).toNat) (cn (Int.ofNat a1_1).toNat) (fadd (fadd (fadd (fabs (cn (Int.ofNat a1_0).toNat)) (fabs (cn (Int.ofNat a1_1).toNat))) (fabs (cn (Int.ofNat a0_0).toNat))) (fabs (cn (Int.ofNat a0_1).toNat))) then endP (AV.bool (s_law04_near_0 (s_frame_To_0 (s_frame_Back_0 (cn (Int.ofNat a0_0).toNat) (cn (Int.ofNat a0_1).toNat) (cn (Int.ofNat a0_2).toNat) (cn (Int.ofNat a0_3).toNat)) (s_frame_Back_1 (cn (Int.ofNat a0_0).toNat) (cn (Int.ofNat a0_1).toNat) (cn (Int.ofNat a0_2).toNat) (cn (Int.ofNat a0_3).toNat)) (s_frame_Back_2 (cn (Int.ofNat a0_0).toNat) (cn (Int.ofNat a0_1).toNat) (cn (Int.ofNat a0_2).toNat) (cn (Int.ofNat a0_3).toNat)) (s_frame_Back_3 (cn (Int.ofNat a0_0).toNat) (cn (Int.ofNat a0_1).toNat) (cn (Int.ofNat a0_2).toNat) (cn (Int.ofNat a0_3).toNat)) (s_frame_To_0 (cn (Int.ofNat a0_0).toNat) (cn (Int.ofNat a0_1).toNat) (cn (Int.ofNat a0_2).toNat) (cn (Int.ofNat a0_3).toNat) (cn (Int.ofNat a1_0).toNat) (cn (Int.ofNat a1_1).toNat)) (s_frame_To_1 (cn (Int.ofNat a0_0).toNat) (cn (Int.ofNat a0_1).toNat) (cn (Int.ofNat a0_2).toNat) (cn (Int.ofNat a0_3).toNat) (cn (Int.ofNat a1_0).toNat) (cn (Int.ofNat a1_1).toNat))) (s_frame_To_1 (s_frame_Back_0 (cn (Int.ofNat a0_0).toNat) (cn (Int.ofNat a0_1).toNat) (cn (Int.ofNat a0_2).toNat) (cn (Int.ofNat a0_3).toNat)) (s_frame_Back_1 (cn (Int.ofNat a0_0).toNat) (cn (Int.ofNat a0_1).toNat) (cn (Int.ofNat a0_2).toNat) (cn (Int.ofNat a0_3).toNat)) (s_frame_Back_2 (cn (Int.ofNat a0_0).toNat) (cn (Int.ofNat a0_1).toNat) (cn (Int.ofNat a0_2).toNat) (cn (Int.ofNat a0_3).toNat)) (s_frame_Back_3 (cn (Int.ofNat a0_0).toNat) (cn (Int.ofNat a0_1).toNat) (cn (Int.ofNat a0_2).toNat) (cn (Int.ofNat a0_3).toNat)) (s_frame_To_0 (cn (Int.ofNat a0_0).toNat) (cn (Int.ofNat a0_1).toNat) (cn (Int.ofNat a0_2).toNat) (cn (Int.ofNat a0_3).toNat) (cn (Int.ofNat a1_0).toNat) (cn (Int.ofNat a1_1).toNat)) (s_frame_To_1 (cn (Int.ofNat a0_0).toNat) (cn (Int.ofNat a0_1).toNat) (cn (Int.ofNat a0_2).toNat) (cn (Int.ofNat a0_3).toNat) (cn (Int.ofNat a1_0).toNat) (cn (Int.ofNat a1_1).toNat))) (cn (Int.ofNat a1_0).toNat) (cn (Int.ofNat a1_1).toNat) (fadd (fadd (fadd (fabs (cn (Int.ofNat a1_0).toNat)) (fabs (cn (Int.ofNat a1_1).toNat))) (fabs (cn (Int.ofNat a0_0).toNat))) (fabs (cn (Int.ofNat a0_1).toNat))))) [] else endP (AV.bool false) [] else endP (AV.bool false) [] else endP (AV.bool false) [] else bif feq (s_frame_Own_0 0 0 4607182418800017408 0 (cn (Int.ofNat a1_0).toNat) (cn (Int.ofNat a1_1).toNat)) (cn (Int.ofNat a1_0).toNat) && (feq (s_frame_Own_1 0 0 4607182418800017408 0 (cn (Int.ofNat a1_0).toNat) (cn (Int.ofNat a1_1).toNat)) (cn (Int.ofNat a1_1).toNat) && true) then endP (AV.bool false) [] else endP (AV.bool false) [] else bif feq (s_frame_Own_0 0 0 4607182418800017408 0 (cn (Int.ofNat a1_0).toNat) (cn (Int.ofNat a1_1).toNat)) (cn (Int.ofNat a1_0).toNat) && (feq (s_frame_Own_1 0 0 4607182418800017408 0 (cn (Int.ofNat a1_0).toNat) (cn (Int.ofNat a1_1).toNat)) (cn (Int.ofNat a1_1).toNat) && true) then endP (AV.bool false) [] else endP (AV.bool false) [] else bif feq (s_frame_Then_0 0 0 4607182418800017408 0 (cn (Int.ofNat a0_0).toNat) (cn (Int.ofNat a0_1).toNat) (cn (Int.ofNat a0_2).toNat) (cn (Int.ofNat a0_3).toNat)) (cn (Int.ofNat a0_0).toNat) && (feq (s_frame_Then_1 0 0 4607182418800017408 0 (cn (Int.ofNat a0_0).toNat) (cn (Int.ofNat a0_1).toNat) (cn (Int.ofNat a0_2).toNat) (cn (Int.ofNat a0_3).toNat)) (cn (Int.ofNat a0_1).toNat) && true) && (feq (s_frame_Then_2 0 0 4607182418800017408 0 (cn (Int.ofNat a0_0).toNat) (cn (Int.ofNat a0_1).toNat) (cn (Int.ofNat a0_2).toNat) (cn (Int.ofNat a0_3).toNat)) (cn (Int.ofNat a0_2).toNat) && feq (s_frame_Then_3 0 0 4607182418800017408 0 (cn (Int.ofNat a0_0).toNat) (cn (Int.ofNat a0_1).toNat) (cn (Int.ofNat a0_2).toNat) (cn (Int.ofNat a0_3).toNat)) (cn (Int.ofNat a0_3).toNat) && true) then bif feq (s_frame_Then_0 (cn (Int.ofNat a0_0).toNat) (cn (Int.ofNat a0_1).toNat) (cn (Int.ofNat a0_2).toNat) (cn (Int.ofNat a0_3).toNat) 0 0 4607182418800017408 0) (cn (Int.ofNat a0_0).toNat) && (feq (s_frame_Then_1 (cn (Int.ofNat a0_0).toNat) (cn (Int.ofNat a0_1).toNat) (cn (Int.ofNat a0_2).toNat) (cn (Int.ofNat a0_3).toNat) 0 0 4607182418800017408 0) (cn (Int.ofNat a0_1).toNat) && true) then endP (AV.bool false) [] else endP (AV.bool false) [] else endP (AV.bool false) [] else endP (AV.bool true) [] else endP (AV.bool true) [] else endP (AV.bool true) [] else endP (AV.bool true) [] else none else none else none else none else none else none
theorem tree_law04_FrameBack (a0_0 : Nat) (a0_1 : Nat) (a0_2 : Nat) (a0_3 : Nat) (a1_0 : Nat) (a1_1 : Nat) : evFn Try.prog false env70 64 Try.f6 [AV.agg [.int .u64 (Int.ofNat a0_0), .int .u64 (Int.ofNat a0_1), .int .u64 (Int.ofNat a0_2), .int .u64 (Int.ofNat a0_3)], AV.agg [.int .u64 (Int.ofNat a1_0), .int .u64 (Int.ofNat a1_1)]] [] endP = T_law04_FrameBack a0_0 a0_1 a0_2 a0_3 a1_0 a1_1 := by kernel_rfl
-- tumble/tumblelaw04.FrameTwice
noncomputable def T_law04_FrameTwice (a0_0 : Nat) (a0_1 : Nat) (a0_2 : Nat) (a0_3 : Nat) (a1_0 : Nat) (a1_1 : Nat) (a2_0 : Nat) (a3_0 : Nat) : Option Res := bif u64ok (Int.ofNat a0_0) then bif u64ok (Int.ofNat a0_1) then bif u64ok (Int.ofNat a0_2) then bif u64ok (Int.ofNat a0_3) then bif u64ok (Int.ofNat a0_0) then bif u64ok (Int.ofNat a0_1) then bif u64ok (Int.ofNat a0_2) then bif u64ok (Int.ofNat a0_3) then bif u64ok (Int.ofNat a1_0) then bif u64ok (Int.ofNat a1_1) then bif u64ok (Int.ofNat a2_0) then bif u64ok (Int.ofNat a3_0) then bif !!ieq (s_frame_Check_0 (cn (Int.ofNat a0_0).toNat) (cn (Int.ofNat a0_1).toNat) (cn (Int.ofNat a0_2).toNat) (cn (Int.ofNat a0_3).toNat)) 0 then bif !!s_law04_calm_0 (cn (Int.ofNat a1_0).toNat) then bif !!s_law04_calm_0 (cn (Int.ofNat a1_1).toNat) then bif !!s_law04_calm_0 (cn (Int.ofNat a2_0).toNat) then bif !s_law04_calm_0 (cn (Int.ofNat a3_0).toNat) then endP (AV.bool true) [] else bif feq (s_frame_Move_0 0 0 (cn (Int.ofNat a0_2).toNat) (cn (Int.ofNat a0_3).toNat) (fmul 4611686018427387904 (cn (Int.ofNat a1_0).toNat)) (fmul 4611686018427387904 (cn (Int.ofNat a1_1).toNat)) (cn (Int.ofNat a2_0).toNat) (cn (Int.ofNat a3_0).toNat)) (fmul 4611686018427387904 (s_frame_Move_0 0 0 (cn (Int.ofNat a0_2).toNat) (cn (Int.ofNat a0_3).toNat) (cn (Int.ofNat a1_0).toNat) (cn (Int.ofNat a1_1).toNat) (cn (Int.ofNat a2_0).toNat) (cn (Int.ofNat a3_0).toNat))) && (feq (s_frame_Move_1 0 0 (cn (Int.ofNat a0_2).toNat) (cn (Int.ofNat a0_3).toNat) (fmul 4611686018427387904 (cn (Int.ofNat a1_0).toNat)) (fmul 4611686018427387904 (cn (Int.ofNat a1_1).toNat)) (cn (Int.ofNat a2_0).toNat) (cn (Int.ofNat a3_0).toNat)) (fmul 4611686018427387904 (s_frame_Move_1 0 0 (cn (Int.ofNat a0_2).toNat) (cn (Int.ofNat a0_3).toNat) (cn (Int.ofNat a1_0).toNat) (cn (Int.ofNat a1_1).toNat) (cn (Int.ofNat a2_0).toNat) (cn (Int.ofNat a3_0).toNat))) && true) then bif feq (s_frame_Move_0 0 0 (cn (Int.ofNat a0_2).toNat) (cn (Int.ofNat a0_3).toNat) (fdiv (cn (Int.ofNat a1_0).toNat) 4611686018427387904) (fdiv (cn (Int.ofNat a1_1).toNat) 4611686018427387904) (fdiv (cn (Int.ofNat a2_0).toNat) 4611686018427387904) (fmul 4611686018427387904 (cn (Int.ofNat a3_0).toNat))) (s_frame_Move_0 0 0 (cn (Int.ofNat a0_2).toNat) (cn (Int.ofNat a0_3).toNat) (cn (Int.ofNat a1_0).toNat) (cn (Int.ofNat a1_1).toNat) (cn (Int.ofNat a2_0).toNat) (cn (Int.ofNat a3_0).toNat)) && (feq (s_frame_Move_1 0 0 (cn (Int.ofNat a0_2).toNat) (cn (Int.ofNat a0_3).toNat) (fdiv (cn (Int.ofNat a1_0).toNat) 4611686018427387904) (fdiv (cn (Int.ofNat a1_1).toNat) 4611686018427387904) (fdiv (cn (Int.ofNat a2_0).toNat) 4611686018427387904) (fmul 4611686018427387904 (cn (Int.ofNat a3_0).toNat))) (s_frame_Move_1 0 0 (cn (Int.ofNat a0_2).toNat) (cn (Int.ofNat a0_3).toNat) (cn (Int.ofNat a1_0).toNat) (cn (Int.ofNat a1_1).toNat) (cn (Int.ofNat a2_0).toNat) (cn (Int.ofNat a3_0).toNat)) && true) && (feq (s_frame_Move_2 0 0 (cn (Int.ofNat a0_2).toNat) (cn (Int.ofNat a0_3).toNat) (fdiv (cn (Int.ofNat a1_0).toNat) 4611686018427387904) (fdiv (cn (Int.ofNat a1_1).toNat) 4611686018427387904) (fdiv (cn (Int.ofNat a2_0).toNat) 4611686018427387904) (fmul 4611686018427387904 (cn (Int.ofNat a3_0).toNat))) (s_frame_Move_2 0 0 (cn (Int.ofNat a0_2).toNat) (cn (Int.ofNat a0_3).toNat) (cn (Int.ofNat a1_0).toNat) (cn (Int.ofNat a1_1).toNat) (cn (Int.ofNat a2_0).toNat) (cn (Int.ofNat a3_0).toNat)) && feq (s_frame_Move_3 0 0 (cn (Int.ofNat a0_2).toNat) (cn (Int.ofNat a0_3).toNat) (fdiv (cn (Int.ofNat a1_0).toNat) 4611686018427387904) (fdiv (cn (Int.ofNat a1_1).toNat) 4611686018427387904) (fdiv (cn (Int.ofNat a2_0).toNat) 4611686018427387904) (fmul 4611686018427387904 (cn (Int.ofNat a3_0).toNat))) (s_frame_Move_3 0 0 (cn (Int.ofNat a0_2).toNat) (cn (Int.ofNat a0_3).toNat) (cn (Int.ofNat a1_0).toNat) (cn (Int.ofNat a1_1).toNat) (cn (Int.ofNat a2_0).toNat) (cn (Int.ofNat a3_0).toNat)) && true) then bif feq (s_frame_Move_2 0 0 (cn (Int.ofNat a0_2).toNat) (cn (Int.ofNat a0_3).toNat) (fmul 4611686018427387904 (cn (Int.ofNat a1_0).toNat)) (fmul 4611686018427387904 (cn (Int.ofNat a1_1).toNat)) (cn (Int.ofNat a2_0).toNat) (cn (Int.ofNat a3_0).toNat)) (s_frame_Move_2 0 0 (cn (Int.ofNat a0_2).toNat) (cn (Int.ofNat a0_3).toNat) (cn (Int.ofNat a1_0).toNat) (cn (Int.ofNat a1_1).toNat) (cn (Int.ofNat a2_0).toNat) (cn (Int.ofNat a3_0).toNat)) && feq (s_frame_Move_3 0 0 (cn (Int.ofNat a0_2).toNat) (cn (Int.ofNat a0_3).toNat) (fmul 4611686018427387904 (cn (Int.ofNat a1_0).toNat)) (fmul 4611686018427387904 (cn (Int.ofNat a1_1).toNat)) (cn (Int.ofNat a2_0).toNat) (cn (Int.ofNat a3_0).toNat)) (s_frame_Move_3 0 0 (cn (Int.ofNat a0_2).toNat) (cn (Int.ofNat a0_3).toNat) (cn (Int.ofNat a1_0).toNat) (cn (Int.ofNat a1_1).toNat) (cn (Int.ofNat a2_0).toNat) (cn (Int.ofNat a3_0).toNat)) then bif ieq (s_turn_Check_0 (s_frame_Move_2 0 0 (cn (Int.ofNat a0_2).toNat) (cn (Int.ofNat a0_3).toNat) (cn (Int.ofNat a1_0).toNat) (cn (Int.ofNat a1_1).toNat) (cn (Int.ofNat a2_0).toNat) (cn (Int.ofNat a3_0).toNat)) (s_frame_Move_3 0 0 (cn (Int.ofNat a0_2).toNat) (cn (Int.ofNat a0_3).toNat) (cn (Int.ofNat a1_0).toNat) (cn (Int.ofNat a1_1).toNat) (cn (Int.ofNat a2_0).toNat) (cn (Int.ofNat a3_0).toNat))) 0 then endP (AV.bool (feq (s_frame_Move_0 (cn (Int.ofNat a0_0).toNat) (cn (Int.ofNat a0_1).toNat) (cn (Int.ofNat a0_2).toNat) (cn (Int.ofNat a0_3).toNat) 0 0 0 (cn (Int.ofNat a3_0).toNat)) (cn (Int.ofNat a0_0).toNat) && (feq (s_frame_Move_1 (cn (Int.ofNat a0_0).toNat) (cn (Int.ofNat a0_1).toNat) (cn (Int.ofNat a0_2).toNat) (cn (Int.ofNat a0_3).toNat) 0 0 0 (cn (Int.ofNat a3_0).toNat)) (cn (Int.ofNat a0_1).toNat) && true))) [] else endP (AV.bool false) [] else endP (AV.bool false) [] else endP (AV.bool false) [] else endP (AV.bool false) [] else endP (AV.bool true) [] else endP (AV.bool true) [] else endP (AV.bool true) [] else endP (AV.bool true) [] else none else none else none else none else none else none else none else none else none else none else none else none
theorem tree_law04_FrameTwice (a0_0 : Nat) (a0_1 : Nat) (a0_2 : Nat) (a0_3 : Nat) (a1_0 : Nat) (a1_1 : Nat) (a2_0 : Nat) (a3_0 : Nat) : evFn Try.prog false env70 64 Try.f7 [AV.agg [.int .u64 (Int.ofNat a0_0), .int .u64 (Int.ofNat a0_1), .int .u64 (Int.ofNat a0_2), .int .u64 (Int.ofNat a0_3)], AV.agg [.int .u64 (Int.ofNat a1_0), .int .u64 (Int.ofNat a1_1)], AV.int .u64 (Int.ofNat a2_0), AV.int .u64 (Int.ofNat a3_0)] [] endP = T_law04_FrameTwice a0_0 a0_1 a0_2 a0_3 a1_0 a1_1 a2_0 a3_0 := by kernel_rfl
-- math.NaN
noncomputable def s_math_NaN_0  : Nat := 9221120237041090561
noncomputable def S_math_NaN : List AV → Option AV
  | [] => some (AV.float (s_math_NaN_0))
  | _ => none
theorem t_math_NaN : ROk Try.prog false (35, pureF S_math_NaN) := ROk.pure (N := 64) env70_ok Try.func35 Try.call35 fun args v h => by
  unfold S_math_NaN at h
  split at h
  · skip
    cases h
    exact ⟨rfl, rfl, by kernel_rfl⟩
  · cases h
noncomputable def rs71 : List (FuncId × RF) := (35, pureF S_math_NaN) :: rs70
noncomputable def env71 : Env := mkEnv xs rs71 ws0
theorem rs71_ok : All (ROk Try.prog false) rs71 := All.cons t_math_NaN rs70_ok
theorem env71_ok : env71.Ok Try.prog false := mkEnv_ok xs_ok rs71_ok ws0_ok
-- math.Copysign
noncomputable def S_math_Copysign : List AV → Option AV
  | [AV.float a, AV.float c] => cond (nanb c) none (some (AV.float (fcps a c)))
  | _ => none
theorem t_math_Copysign : ROk Try.prog false (36, pureF S_math_Copysign) := exact2f (N := 64) xenv_ok Try.func36 Try.call36 fcps (fun args v h => by
    unfold S_math_Copysign at h
    split at h
    · obtain ⟨hn, h⟩ := cond_some' h rfl; cases h; exact ⟨_, _, rfl, hn, rfl⟩
    · cases h) fun b d hb hd _ => ⟨_, by refine Eq.trans ?_ (cps_tree hb hd); kernel_rfl, cps_cn⟩
noncomputable def rs72 : List (FuncId × RF) := (36, pureF S_math_Copysign) :: rs71
noncomputable def env72 : Env := mkEnv xs rs72 ws0
theorem rs72_ok : All (ROk Try.prog false) rs72 := All.cons t_math_Copysign rs71_ok
theorem env72_ok : env72.Ok Try.prog false := mkEnv_ok xs_ok rs72_ok ws0_ok
-- math.Inf
noncomputable def s_math_Inf_0 (a0_0 : Int) : Nat := bif ile 0 a0_0 then 9218868437227405312 else 18442240474082181120
noncomputable def S_math_Inf : List AV → Option AV
  | [AV.int .i64 a0_0] => some (AV.float (s_math_Inf_0 a0_0))
  | _ => none
theorem t_math_Inf : ROk Try.prog false (37, pureF S_math_Inf) := ROk.pure (N := 64) env72_ok Try.func37 Try.call37 fun args v h => by
  unfold S_math_Inf at h
  split at h
  · rename_i a0_0
    cases h
    refine ⟨rfl, rfl, ?_⟩
    rw [show evFn Try.prog false env72 64 Try.f37 [AV.int .i64 a0_0] [] endP = bif ile 0 a0_0 then endP (AV.float 9218868437227405312) [] else endP (AV.float 18442240474082181120) [] from by kernel_rfl]
    refine node_eq (fun h0 => ?_) (fun h0 => ?_)
    · skip
      first | (simp only [endP, s_math_Inf_0, h0]; done) | (simp only [endP, s_math_Inf_0, h0]; rfl) | (simp only [endP, s_math_Inf_0, h0, cond_true, cond_false, Bool.true_and, Bool.false_and, Bool.and_true, Bool.and_false, Bool.true_or, Bool.false_or, Bool.or_true, Bool.or_false, Bool.not_true, Bool.not_false]; done) | (simp_all; done) | simp_all [feq_self, endP, s_math_Inf_0]
    · skip
      first | (simp only [endP, s_math_Inf_0, h0]; done) | (simp only [endP, s_math_Inf_0, h0]; rfl) | (simp only [endP, s_math_Inf_0, h0, cond_true, cond_false, Bool.true_and, Bool.false_and, Bool.and_true, Bool.and_false, Bool.true_or, Bool.false_or, Bool.or_true, Bool.or_false, Bool.not_true, Bool.not_false]; done) | (simp_all; done) | simp_all [feq_self, endP, s_math_Inf_0]
  · cases h
noncomputable def rs73 : List (FuncId × RF) := (37, pureF S_math_Inf) :: rs72
noncomputable def env73 : Env := mkEnv xs rs73 ws0
theorem rs73_ok : All (ROk Try.prog false) rs73 := All.cons t_math_Inf rs72_ok
theorem env73_ok : env73.Ok Try.prog false := mkEnv_ok xs_ok rs73_ok ws0_ok
-- tumble/tumblelaw04.FrameNames
noncomputable def T_law04_FrameNames  : Option Res := endP (AV.bool true) []
theorem tree_law04_FrameNames  : evFn Try.prog false env73 64 Try.f8 [] [] endP = T_law04_FrameNames  := by kernel_rfl
end Go.Proofs.Ytefmihgjheokeaa
