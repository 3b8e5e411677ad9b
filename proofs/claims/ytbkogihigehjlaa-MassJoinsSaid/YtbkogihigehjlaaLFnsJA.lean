/- The contracts of the functions that these laws reach, loops too, printed by a program of this work: each says what the Go function gives, up to which NaN. -/
import Derived.Test.YtbkogihigehjlaaProg
import Derived.KernelRfl
import Derived.Test.YtbkogihigehjlaaLExact
set_option linter.unusedVariables false
set_option linter.unusedSimpArgs false
set_option maxRecDepth 100000
set_option maxHeartbeats 4000000
namespace Go.Proofs.Ytbkogihigehjlaa
open Go.Lst
open Go.Sim (fadd fsub fmul fdiv fneg feq flt fle fsqrt cn nanb fabs fcps fsame feq_self cps_cn fabs_cn)
def xxs : List (FuncId × XFM) := [(82, xFM true .sqrt), (62, xFM true .frombits), (63, xFM true .tobits)]
def xenv : EnvM := mkEnvM xxs [] []
theorem xxs_ok : All (XOkM Try.prog true) xxs := All.cons (xM_ok (ex := true) (f := 82) .sqrt fun args w => run_callFunc_extern Try.func82 (by kernel_rfl) (by kernel_rfl) (by kernel_rfl) (by kernel_rfl) args w)
  (All.cons (xM_ok (ex := true) (f := 62) .frombits fun args w => run_callFunc_extern Try.func62 (by kernel_rfl) (by kernel_rfl) (by kernel_rfl) (by kernel_rfl) args w)
  (All.cons (xM_ok (ex := true) (f := 63) .tobits fun args w => run_callFunc_extern Try.func63 (by kernel_rfl) (by kernel_rfl) (by kernel_rfl) (by kernel_rfl) args w)
  (All.nil)))
theorem xenv_ok : xenv.Ok Try.prog true := mkEnvM_ok xxs_ok All.nil All.nil
def mxs : List (FuncId × XFM) := [(82, xFM false .sqrt), (62, xFM false .frombits), (63, xFM false .tobits)]
theorem mxs_ok : All (XOkM Try.prog false) mxs := All.cons (xM_ok (ex := false) (f := 82) .sqrt fun args w => run_callFunc_extern Try.func82 (by kernel_rfl) (by kernel_rfl) (by kernel_rfl) (by kernel_rfl) args w)
  (All.cons (xM_ok (ex := false) (f := 62) .frombits fun args w => run_callFunc_extern Try.func62 (by kernel_rfl) (by kernel_rfl) (by kernel_rfl) (by kernel_rfl) args w)
  (All.cons (xM_ok (ex := false) (f := 63) .tobits fun args w => run_callFunc_extern Try.func63 (by kernel_rfl) (by kernel_rfl) (by kernel_rfl) (by kernel_rfl) args w)
  (All.nil)))
def mss0 : List (FuncId × SFM) := []
def mws0 : List (FuncId × WFM) := []
def menv0 : EnvM := mkEnvM mxs mss0 mws0
theorem mss0_ok : All (SOkM Try.prog false) mss0 := All.nil
theorem mws0_ok : All (WOkM Try.prog false) mws0 := All.nil
theorem menv0_ok : menv0.Ok Try.prog false := mkEnvM_ok mxs_ok mss0_ok mws0_ok
-- math.Abs
noncomputable def S_math_Abs : List AV → Option AV
  | [AV.float a] => some (AV.float (fabs a))
  | _ => none
theorem t_math_Abs : SOkM Try.prog false (27, pureS S_math_Abs) := exact1 (N := 96) (A := .no) (lits := []) (fk := []) xenv_ok Try.func27 (fnNo _) Try.call27 (fun a v => v = .float (fabs a)) (fun args v h => by
    unfold S_math_Abs at h
    split at h
    · cases h; exact ⟨_, rfl, rfl⟩
    · cases h) fun b v hb h => ⟨.float (absV b), (show outB (evFnM Try.prog true xenv [] [] 96 .no Try.f27 [.float b] []) = some (absOb b, .float (absV b)) by kernel_rfl).trans (by rw [abs_ob]), rfl, fun μ x hx => by subst h; exact toFloat hx (by rw [abs_val hb]; exact (fabs_cn b).symm)⟩
noncomputable def c_math_Abs : SFM := pureS S_math_Abs
theorem c_math_Abs_ok : SOkM Try.prog false (27, c_math_Abs) := t_math_Abs
noncomputable def mss1 : List (FuncId × SFM) := (27, c_math_Abs) :: mss0
noncomputable def menv1 : EnvM := mkEnvM mxs mss1 mws0
theorem mss1_ok : All (SOkM Try.prog false) mss1 := All.cons c_math_Abs_ok mss0_ok
theorem menv1_ok : menv1.Ok Try.prog false := mkEnvM_ok mxs_ok mss1_ok mws0_ok
-- tumble/tumblelaw08.alive
noncomputable def mss2 : List (FuncId × SFM) := mss1
theorem mss2_ok : All (SOkM Try.prog false) mss2 := mss1_ok
noncomputable def mws1 : List (FuncId × WFM) := (24, (inlWM Try.prog false menv1 [] [] 96 .no Try.f24 100000)) :: mws0
noncomputable def menv2 : EnvM := mkEnvM mxs mss2 mws1
theorem mws1_ok : All (WOkM Try.prog false) mws1 := All.cons (WOkM.inl menv1_ok Try.func24 (fnNo _) Try.call24) mws0_ok
theorem menv2_ok : menv2.Ok Try.prog false := mkEnvM_ok mxs_ok mss2_ok mws1_ok
noncomputable def mws2 : List (FuncId × WFM) := (77, (inlWM Try.prog false menv2 [8, 17, 33, 53] [] 96 .no Try.f77 100000)) :: mws1
noncomputable def menv3 : EnvM := mkEnvM mxs mss2 mws2
theorem mws2_ok : All (WOkM Try.prog false) mws2 := All.cons (WOkM.inl menv2_ok Try.func77 (fnNo _) Try.call77) mws1_ok
theorem menv3_ok : menv3.Ok Try.prog false := mkEnvM_ok mxs_ok mss2_ok mws2_ok
noncomputable def mss3 : List (FuncId × SFM) := (58, (inlSM Try.prog false menv3 [] [] 96 .no Try.f58)) :: mss2
noncomputable def menv4 : EnvM := mkEnvM mxs mss3 mws2
theorem mss3_ok : All (SOkM Try.prog false) mss3 := All.cons (SOkM.inl menv3_ok Try.func58 (fnNo _) Try.call58) mss2_ok
theorem menv4_ok : menv4.Ok Try.prog false := mkEnvM_ok mxs_ok mss3_ok mws2_ok
noncomputable def mss4 : List (FuncId × SFM) := (22, (inlSM Try.prog false menv4 [] [] 96 .no Try.f22)) :: mss3
noncomputable def menv5 : EnvM := mkEnvM mxs mss4 mws2
theorem mss4_ok : All (SOkM Try.prog false) mss4 := All.cons (SOkM.inl menv4_ok Try.func22 (fnNo _) Try.call22) mss3_ok
theorem menv5_ok : menv5.Ok Try.prog false := mkEnvM_ok mxs_ok mss4_ok mws2_ok
noncomputable def mss5 : List (FuncId × SFM) := (52, (inlSM Try.prog false menv5 [7, 11, 16] [] 96 .no Try.f52)) :: mss4
noncomputable def menv6 : EnvM := mkEnvM mxs mss5 mws2
theorem mss5_ok : All (SOkM Try.prog false) mss5 := All.cons (SOkM.inl menv5_ok Try.func52 (fnNo _) Try.call52) mss4_ok
theorem menv6_ok : menv6.Ok Try.prog false := mkEnvM_ok mxs_ok mss5_ok mws2_ok
noncomputable def mss6 : List (FuncId × SFM) := (56, (inlSM Try.prog false menv6 [] [] 96 .no Try.f56)) :: mss5
noncomputable def menv7 : EnvM := mkEnvM mxs mss6 mws2
theorem mss6_ok : All (SOkM Try.prog false) mss6 := All.cons (SOkM.inl menv6_ok Try.func56 (fnNo _) Try.call56) mss5_ok
theorem menv7_ok : menv7.Ok Try.prog false := mkEnvM_ok mxs_ok mss6_ok mws2_ok
noncomputable def mss7 : List (FuncId × SFM) := (53, (inlSM Try.prog false menv7 [] [] 96 .no Try.f53)) :: mss6
noncomputable def menv8 : EnvM := mkEnvM mxs mss7 mws2
theorem mss7_ok : All (SOkM Try.prog false) mss7 := All.cons (SOkM.inl menv7_ok Try.func53 (fnNo _) Try.call53) mss6_ok
theorem menv8_ok : menv8.Ok Try.prog false := mkEnvM_ok mxs_ok mss7_ok mws2_ok
noncomputable def mss8 : List (FuncId × SFM) := (76, (inlSM Try.prog false menv8 [] [] 96 .no Try.f76)) :: mss7
noncomputable def menv9 : EnvM := mkEnvM mxs mss8 mws2
theorem mss8_ok : All (SOkM Try.prog false) mss8 := All.cons (SOkM.inl menv8_ok Try.func76 (fnNo _) Try.call76) mss7_ok
theorem menv9_ok : menv9.Ok Try.prog false := mkEnvM_ok mxs_ok mss8_ok mws2_ok
noncomputable def mss9 : List (FuncId × SFM) := (68, (inlSM Try.prog false menv9 [] [] 96 .no Try.f68)) :: mss8
noncomputable def menv10 : EnvM := mkEnvM mxs mss9 mws2
theorem mss9_ok : All (SOkM Try.prog false) mss9 := All.cons (SOkM.inl menv9_ok Try.func68 (fnNo _) Try.call68) mss8_ok
theorem menv10_ok : menv10.Ok Try.prog false := mkEnvM_ok mxs_ok mss9_ok mws2_ok
noncomputable def mss10 : List (FuncId × SFM) := (71, (inlSM Try.prog false menv10 [] [] 96 .no Try.f71)) :: mss9
noncomputable def menv11 : EnvM := mkEnvM mxs mss10 mws2
theorem mss10_ok : All (SOkM Try.prog false) mss10 := All.cons (SOkM.inl menv10_ok Try.func71 (fnNo _) Try.call71) mss9_ok
theorem menv11_ok : menv11.Ok Try.prog false := mkEnvM_ok mxs_ok mss10_ok mws2_ok
noncomputable def mss11 : List (FuncId × SFM) := (54, (inlSM Try.prog false menv11 [] [] 96 .no Try.f54)) :: mss10
noncomputable def menv12 : EnvM := mkEnvM mxs mss11 mws2
theorem mss11_ok : All (SOkM Try.prog false) mss11 := All.cons (SOkM.inl menv11_ok Try.func54 (fnNo _) Try.call54) mss10_ok
theorem menv12_ok : menv12.Ok Try.prog false := mkEnvM_ok mxs_ok mss11_ok mws2_ok
noncomputable def mss12 : List (FuncId × SFM) := (55, (inlSM Try.prog false menv12 [] [] 96 .no Try.f55)) :: mss11
noncomputable def menv13 : EnvM := mkEnvM mxs mss12 mws2
theorem mss12_ok : All (SOkM Try.prog false) mss12 := All.cons (SOkM.inl menv12_ok Try.func55 (fnNo _) Try.call55) mss11_ok
theorem menv13_ok : menv13.Ok Try.prog false := mkEnvM_ok mxs_ok mss12_ok mws2_ok
noncomputable def mss13 : List (FuncId × SFM) := (20, (inlSM Try.prog false menv13 [11, 15, 19, 28, 32, 48] [] 96 .no Try.f20)) :: mss12
noncomputable def menv14 : EnvM := mkEnvM mxs mss13 mws2
theorem mss13_ok : All (SOkM Try.prog false) mss13 := All.cons (SOkM.inl menv13_ok Try.func20 (fnNo _) Try.call20) mss12_ok
theorem menv14_ok : menv14.Ok Try.prog false := mkEnvM_ok mxs_ok mss13_ok mws2_ok
noncomputable def mss14 : List (FuncId × SFM) := (109, (inlSM Try.prog false menv14 [] [] 96 .no Try.f109)) :: mss13
noncomputable def menv15 : EnvM := mkEnvM mxs mss14 mws2
theorem mss14_ok : All (SOkM Try.prog false) mss14 := All.cons (SOkM.inl menv14_ok Try.func109 (fnNo _) Try.call109) mss13_ok
theorem menv15_ok : menv15.Ok Try.prog false := mkEnvM_ok mxs_ok mss14_ok mws2_ok
noncomputable def mss15 : List (FuncId × SFM) := (103, (inlSM Try.prog false menv15 [] [] 96 .no Try.f103)) :: mss14
noncomputable def menv16 : EnvM := mkEnvM mxs mss15 mws2
theorem mss15_ok : All (SOkM Try.prog false) mss15 := All.cons (SOkM.inl menv15_ok Try.func103 (fnNo _) Try.call103) mss14_ok
theorem menv16_ok : menv16.Ok Try.prog false := mkEnvM_ok mxs_ok mss15_ok mws2_ok
noncomputable def mss16 : List (FuncId × SFM) := (100, (inlSM Try.prog false menv16 [12] [] 96 .no Try.f100)) :: mss15
noncomputable def menv17 : EnvM := mkEnvM mxs mss16 mws2
theorem mss16_ok : All (SOkM Try.prog false) mss16 := All.cons (SOkM.inl menv16_ok Try.func100 (fnNo _) Try.call100) mss15_ok
theorem menv17_ok : menv17.Ok Try.prog false := mkEnvM_ok mxs_ok mss16_ok mws2_ok
noncomputable def mss17 : List (FuncId × SFM) := (64, (inlSM Try.prog false menv17 [12, 17] [] 96 .no Try.f64)) :: mss16
noncomputable def menv18 : EnvM := mkEnvM mxs mss17 mws2
theorem mss17_ok : All (SOkM Try.prog false) mss17 := All.cons (SOkM.inl menv17_ok Try.func64 (fnNo _) Try.call64) mss16_ok
theorem menv18_ok : menv18.Ok Try.prog false := mkEnvM_ok mxs_ok mss17_ok mws2_ok
noncomputable def mss18 : List (FuncId × SFM) := (30, (inlSM Try.prog false menv18 [] [] 96 .no Try.f30)) :: mss17
noncomputable def menv19 : EnvM := mkEnvM mxs mss18 mws2
theorem mss18_ok : All (SOkM Try.prog false) mss18 := All.cons (SOkM.inl menv18_ok Try.func30 (fnNo _) Try.call30) mss17_ok
theorem menv19_ok : menv19.Ok Try.prog false := mkEnvM_ok mxs_ok mss18_ok mws2_ok
noncomputable def mss19 : List (FuncId × SFM) := (72, (inlSM Try.prog false menv19 [] [] 96 .no Try.f72)) :: mss18
noncomputable def menv20 : EnvM := mkEnvM mxs mss19 mws2
theorem mss19_ok : All (SOkM Try.prog false) mss19 := All.cons (SOkM.inl menv19_ok Try.func72 (fnNo _) Try.call72) mss18_ok
theorem menv20_ok : menv20.Ok Try.prog false := mkEnvM_ok mxs_ok mss19_ok mws2_ok
noncomputable def mss20 : List (FuncId × SFM) := (32, (inlSM Try.prog false menv20 [] [] 96 .no Try.f32)) :: mss19
noncomputable def menv21 : EnvM := mkEnvM mxs mss20 mws2
theorem mss20_ok : All (SOkM Try.prog false) mss20 := All.cons (SOkM.inl menv20_ok Try.func32 (fnNo _) Try.call32) mss19_ok
theorem menv21_ok : menv21.Ok Try.prog false := mkEnvM_ok mxs_ok mss20_ok mws2_ok
noncomputable def mss21 : List (FuncId × SFM) := (57, (inlSM Try.prog false menv21 [13, 42] [] 96 .no Try.f57)) :: mss20
noncomputable def menv22 : EnvM := mkEnvM mxs mss21 mws2
theorem mss21_ok : All (SOkM Try.prog false) mss21 := All.cons (SOkM.inl menv21_ok Try.func57 (fnNo _) Try.call57) mss20_ok
theorem menv22_ok : menv22.Ok Try.prog false := mkEnvM_ok mxs_ok mss21_ok mws2_ok
noncomputable def mss22 : List (FuncId × SFM) := (21, (inlSM Try.prog false menv22 [10, 19] [] 96 .no Try.f21)) :: mss21
noncomputable def menv23 : EnvM := mkEnvM mxs mss22 mws2
theorem mss22_ok : All (SOkM Try.prog false) mss22 := All.cons (SOkM.inl menv22_ok Try.func21 (fnNo _) Try.call21) mss21_ok
theorem menv23_ok : menv23.Ok Try.prog false := mkEnvM_ok mxs_ok mss22_ok mws2_ok
noncomputable def mss23 : List (FuncId × SFM) := (75, (inlSM Try.prog false menv23 [10, 20] [] 96 .no Try.f75)) :: mss22
noncomputable def menv24 : EnvM := mkEnvM mxs mss23 mws2
theorem mss23_ok : All (SOkM Try.prog false) mss23 := All.cons (SOkM.inl menv23_ok Try.func75 (fnNo _) Try.call75) mss22_ok
theorem menv24_ok : menv24.Ok Try.prog false := mkEnvM_ok mxs_ok mss23_ok mws2_ok
noncomputable def mss24 : List (FuncId × SFM) := (67, (inlSM Try.prog false menv24 [8, 16] [] 96 .no Try.f67)) :: mss23
noncomputable def menv25 : EnvM := mkEnvM mxs mss24 mws2
theorem mss24_ok : All (SOkM Try.prog false) mss24 := All.cons (SOkM.inl menv24_ok Try.func67 (fnNo _) Try.call67) mss23_ok
theorem menv25_ok : menv25.Ok Try.prog false := mkEnvM_ok mxs_ok mss24_ok mws2_ok
noncomputable def mss25 : List (FuncId × SFM) := (61, (inlSM Try.prog false menv25 [20, 30, 40] [] 96 .no Try.f61)) :: mss24
noncomputable def menv26 : EnvM := mkEnvM mxs mss25 mws2
theorem mss25_ok : All (SOkM Try.prog false) mss25 := All.cons (SOkM.inl menv25_ok Try.func61 (fnNo _) Try.call61) mss24_ok
theorem menv26_ok : menv26.Ok Try.prog false := mkEnvM_ok mxs_ok mss25_ok mws2_ok
noncomputable def mss26 : List (FuncId × SFM) := (70, (inlSM Try.prog false menv26 [] [] 96 .no Try.f70)) :: mss25
noncomputable def menv27 : EnvM := mkEnvM mxs mss26 mws2
theorem mss26_ok : All (SOkM Try.prog false) mss26 := All.cons (SOkM.inl menv26_ok Try.func70 (fnNo _) Try.call70) mss25_ok
theorem menv27_ok : menv27.Ok Try.prog false := mkEnvM_ok mxs_ok mss26_ok mws2_ok
noncomputable def mss27 : List (FuncId × SFM) := (49, (inlSM Try.prog false menv27 [] [] 96 .no Try.f49)) :: mss26
noncomputable def menv28 : EnvM := mkEnvM mxs mss27 mws2
theorem mss27_ok : All (SOkM Try.prog false) mss27 := All.cons (SOkM.inl menv27_ok Try.func49 (fnNo _) Try.call49) mss26_ok
theorem menv28_ok : menv28.Ok Try.prog false := mkEnvM_ok mxs_ok mss27_ok mws2_ok
noncomputable def mss28 : List (FuncId × SFM) := (17, (inlSM Try.prog false menv28 [18] [] 96 .no Try.f17)) :: mss27
noncomputable def menv29 : EnvM := mkEnvM mxs mss28 mws2
theorem mss28_ok : All (SOkM Try.prog false) mss28 := All.cons (SOkM.inl menv28_ok Try.func17 (fnNo _) Try.call17) mss27_ok
theorem menv29_ok : menv29.Ok Try.prog false := mkEnvM_ok mxs_ok mss28_ok mws2_ok
noncomputable def mss29 : List (FuncId × SFM) := (40, (inlSM Try.prog false menv29 [8] [] 96 .no Try.f40)) :: mss28
noncomputable def menv30 : EnvM := mkEnvM mxs mss29 mws2
theorem mss29_ok : All (SOkM Try.prog false) mss29 := All.cons (SOkM.inl menv29_ok Try.func40 (fnNo _) Try.call40) mss28_ok
theorem menv30_ok : menv30.Ok Try.prog false := mkEnvM_ok mxs_ok mss29_ok mws2_ok
noncomputable def mss30 : List (FuncId × SFM) := (73, (inlSM Try.prog false menv30 [] [] 96 .no Try.f73)) :: mss29
noncomputable def menv31 : EnvM := mkEnvM mxs mss30 mws2
theorem mss30_ok : All (SOkM Try.prog false) mss30 := All.cons (SOkM.inl menv30_ok Try.func73 (fnNo _) Try.call73) mss29_ok
theorem menv31_ok : menv31.Ok Try.prog false := mkEnvM_ok mxs_ok mss30_ok mws2_ok
noncomputable def mss31 : List (FuncId × SFM) := (59, (inlSM Try.prog false menv31 [] [] 96 .no Try.f59)) :: mss30
noncomputable def menv32 : EnvM := mkEnvM mxs mss31 mws2
theorem mss31_ok : All (SOkM Try.prog false) mss31 := All.cons (SOkM.inl menv31_ok Try.func59 (fnNo _) Try.call59) mss30_ok
theorem menv32_ok : menv32.Ok Try.prog false := mkEnvM_ok mxs_ok mss31_ok mws2_ok
noncomputable def mss32 : List (FuncId × SFM) := (23, (inlSM Try.prog false menv32 [12, 21, 32, 37, 43] [] 96 .no Try.f23)) :: mss31
noncomputable def menv33 : EnvM := mkEnvM mxs mss32 mws2
theorem mss32_ok : All (SOkM Try.prog false) mss32 := All.cons (SOkM.inl menv32_ok Try.func23 (fnNo _) Try.call23) mss31_ok
theorem menv33_ok : menv33.Ok Try.prog false := mkEnvM_ok mxs_ok mss32_ok mws2_ok
noncomputable def mss33 : List (FuncId × SFM) := (28, (inlSM Try.prog false menv33 [] [] 96 .no Try.f28)) :: mss32
noncomputable def menv34 : EnvM := mkEnvM mxs mss33 mws2
theorem mss33_ok : All (SOkM Try.prog false) mss33 := All.cons (SOkM.inl menv33_ok Try.func28 (fnNo _) Try.call28) mss32_ok
theorem menv34_ok : menv34.Ok Try.prog false := mkEnvM_ok mxs_ok mss33_ok mws2_ok
noncomputable def mss34 : List (FuncId × SFM) := (35, (inlSM Try.prog false menv34 [] [] 96 .no Try.f35)) :: mss33
noncomputable def menv35 : EnvM := mkEnvM mxs mss34 mws2
theorem mss34_ok : All (SOkM Try.prog false) mss34 := All.cons (SOkM.inl menv34_ok Try.func35 (fnNo _) Try.call35) mss33_ok
theorem menv35_ok : menv35.Ok Try.prog false := mkEnvM_ok mxs_ok mss34_ok mws2_ok
noncomputable def mss35 : List (FuncId × SFM) := (36, (inlSM Try.prog false menv35 [] [] 96 .no Try.f36)) :: mss34
noncomputable def menv36 : EnvM := mkEnvM mxs mss35 mws2
theorem mss35_ok : All (SOkM Try.prog false) mss35 := All.cons (SOkM.inl menv35_ok Try.func36 (fnNo _) Try.call36) mss34_ok
theorem menv36_ok : menv36.Ok Try.prog false := mkEnvM_ok mxs_ok mss35_ok mws2_ok
noncomputable def mss36 : List (FuncId × SFM) := (37, (inlSM Try.prog false menv36 [] [] 96 .no Try.f37)) :: mss35
noncomputable def menv37 : EnvM := mkEnvM mxs mss36 mws2
theorem mss36_ok : All (SOkM Try.prog false) mss36 := All.cons (SOkM.inl menv36_ok Try.func37 (fnNo _) Try.call37) mss35_ok
theorem menv37_ok : menv37.Ok Try.prog false := mkEnvM_ok mxs_ok mss36_ok mws2_ok
noncomputable def mss37 : List (FuncId × SFM) := (39, (inlSM Try.prog false menv37 [] [] 96 .no Try.f39)) :: mss36
noncomputable def menv38 : EnvM := mkEnvM mxs mss37 mws2
theorem mss37_ok : All (SOkM Try.prog false) mss37 := All.cons (SOkM.inl menv37_ok Try.func39 (fnNo _) Try.call39) mss36_ok
theorem menv38_ok : menv38.Ok Try.prog false := mkEnvM_ok mxs_ok mss37_ok mws2_ok
noncomputable def mss38 : List (FuncId × SFM) := (38, (inlSM Try.prog false menv38 [] [] 96 .no Try.f38)) :: mss37
noncomputable def menv39 : EnvM := mkEnvM mxs mss38 mws2
theorem mss38_ok : All (SOkM Try.prog false) mss38 := All.cons (SOkM.inl menv38_ok Try.func38 (fnNo _) Try.call38) mss37_ok
theorem menv39_ok : menv39.Ok Try.prog false := mkEnvM_ok mxs_ok mss38_ok mws2_ok
noncomputable def mss39 : List (FuncId × SFM) := (34, (inlSM Try.prog false menv39 [14] [] 96 .no Try.f34)) :: mss38
noncomputable def menv40 : EnvM := mkEnvM mxs mss39 mws2
theorem mss39_ok : All (SOkM Try.prog false) mss39 := All.cons (SOkM.inl menv39_ok Try.func34 (fnNo _) Try.call34) mss38_ok
theorem menv40_ok : menv40.Ok Try.prog false := mkEnvM_ok mxs_ok mss39_ok mws2_ok
noncomputable def mss40 : List (FuncId × SFM) := (10, (inlSM Try.prog false menv40 [14, 19, 25, 31, 34, 42] [] 96 .no Try.f10)) :: mss39
noncomputable def menv41 : EnvM := mkEnvM mxs mss40 mws2
theorem mss40_ok : All (SOkM Try.prog false) mss40 := All.cons (SOkM.inl menv40_ok Try.func10 (fnNo _) Try.call10) mss39_ok
theorem menv41_ok : menv41.Ok Try.prog false := mkEnvM_ok mxs_ok mss40_ok mws2_ok
noncomputable def mss41 : List (FuncId × SFM) := (13, (inlSM Try.prog false menv41 [10, 14] [] 96 .no Try.f13)) :: mss40
noncomputable def menv42 : EnvM := mkEnvM mxs mss41 mws2
theorem mss41_ok : All (SOkM Try.prog false) mss41 := All.cons (SOkM.inl menv41_ok Try.func13 (fnNo _) Try.call13) mss40_ok
theorem menv42_ok : menv42.Ok Try.prog false := mkEnvM_ok mxs_ok mss41_ok mws2_ok
noncomputable def mss42 : List (FuncId × SFM) := (47, (inlSM Try.prog false menv42 [7] [] 96 .no Try.f47)) :: mss41
noncomputable def menv43 : EnvM := mkEnvM mxs mss42 mws2
theorem mss42_ok : All (SOkM Try.prog false) mss42 := All.cons (SOkM.inl menv42_ok Try.func47 (fnNo _) Try.call47) mss41_ok
theorem menv43_ok : menv43.Ok Try.prog false := mkEnvM_ok mxs_ok mss42_ok mws2_ok
noncomputable def mss43 : List (FuncId × SFM) := (15, (inlSM Try.prog false menv43 [9] [] 96 .no Try.f15)) :: mss42
noncomputable def menv44 : EnvM := mkEnvM mxs mss43 mws2
theorem mss43_ok : All (SOkM Try.prog false) mss43 := All.cons (SOkM.inl menv43_ok Try.func15 (fnNo _) Try.call15) mss42_ok
theorem menv44_ok : menv44.Ok Try.prog false := mkEnvM_ok mxs_ok mss43_ok mws2_ok
noncomputable def mss44 : List (FuncId × SFM) := (33, (inlSM Try.prog false menv44 [5] [] 96 .no Try.f33)) :: mss43
noncomputable def menv45 : EnvM := mkEnvM mxs mss44 mws2
theorem mss44_ok : All (SOkM Try.prog false) mss44 := All.cons (SOkM.inl menv44_ok Try.func33 (fnNo _) Try.call33) mss43_ok
theorem menv45_ok : menv45.Ok Try.prog false := mkEnvM_ok mxs_ok mss44_ok mws2_ok
theorem ann_law08_alive : FnOk Try.prog false 0 Try.f9 Ann.no := (fnNo _)
noncomputable def s_law08_alive_0 : Bool := true
theorem e_law08_alive : outB (evFnM Try.prog false menv45 [] [] 96 Ann.no Try.f9 [] []) = some (true, AV.bool (s_law08_alive_0)) := by kernel_rfl
noncomputable def S_law08_alive : List AV → Option (Ob × AV)
  | [] => some (Ob.tt, AV.bool (s_law08_alive_0))
  | _ => none
theorem ob_law08_alive : true = true := rfl
theorem t_law08_alive : SOkM Try.prog false (9, fun args => match S_law08_alive args with | some (o, v) => some (o, v, []) | none => none) := SOkM.flat (N := 96) menv45_ok Try.func9 ann_law08_alive Try.call9 fun args o v h ho => by
  unfold S_law08_alive at h
  split at h
  · skip
    cases h
    have ho2 := ho
    have this : outB (evFnM Try.prog false menv45 [] [] 96 Ann.no Try.f9 [] []) = some (true, AV.bool (s_law08_alive_0)) := Eq.trans (show outB (evFnM Try.prog false menv45 [] [] 96 Ann.no Try.f9 [] []) = _ from e_law08_alive) (by rw [(ob_law08_alive)])
    exact ⟨this, rfl⟩
  · cases h
noncomputable def c_law08_alive : SFM := fun args => match S_law08_alive args with | some (o, v) => some (o, v, []) | none => none
theorem c_law08_alive_ok : SOkM Try.prog false (9, c_law08_alive) := t_law08_alive
noncomputable def mss45 : List (FuncId × SFM) := (9, c_law08_alive) :: mss44
noncomputable def menv46 : EnvM := mkEnvM mxs mss45 mws2
theorem mss45_ok : All (SOkM Try.prog false) mss45 := All.cons c_law08_alive_ok mss44_ok
theorem menv46_ok : menv46.Ok Try.prog false := mkEnvM_ok mxs_ok mss45_ok mws2_ok
-- tumble/num.Finite[float64]
theorem ann_num_Finite_float64_ : FnOk Try.prog false 0 Try.f70 Ann.no := (fnNo _)
noncomputable def s_num_Finite_float64__0 (a0 : Nat) : Bool := (feq (fsub a0 a0) 0)
theorem e_num_Finite_float64_ (a0 : Nat) : outB (evFnM Try.prog false menv46 [] [] 96 Ann.no Try.f70 [AV.float a0] []) = some (true, AV.bool (s_num_Finite_float64__0 a0)) := by kernel_rfl
noncomputable def S_num_Finite_float64_ : List AV → Option (Ob × AV)
  | [AV.float a0] => some (Ob.tt, AV.bool (s_num_Finite_float64__0 a0))
  | _ => none
theorem ob_num_Finite_float64_ (a0 : Nat) : true = true := rfl
theorem t_num_Finite_float64_ : SOkM Try.prog false (70, fun args => match S_num_Finite_float64_ args with | some (o, v) => some (o, v, []) | none => none) := SOkM.flat (N := 96) menv46_ok Try.func70 ann_num_Finite_float64_ Try.call70 fun args o v h ho => by
  unfold S_num_Finite_float64_ at h
  split at h
  · rename_i a0
    cases h
    have ho2 := ho
    have this : outB (evFnM Try.prog false menv46 [] [] 96 Ann.no Try.f70 [AV.float a0] []) = some (true, AV.bool (s_num_Finite_float64__0 a0)) := Eq.trans (show outB (evFnM Try.prog false menv46 [] [] 96 Ann.no Try.f70 [AV.float a0] []) = _ from e_num_Finite_float64_ a0) (by rw [(ob_num_Finite_float64_ a0)])
    exact ⟨this, rfl⟩
  · cases h
noncomputable def c_num_Finite_float64_ : SFM := fun args => match S_num_Finite_float64_ args with | some (o, v) => some (o, v, []) | none => none
theorem c_num_Finite_float64__ok : SOkM Try.prog false (70, c_num_Finite_float64_) := t_num_Finite_float64_
noncomputable def mss46 : List (FuncId × SFM) := (70, c_num_Finite_float64_) :: mss45
noncomputable def menv47 : EnvM := mkEnvM mxs mss46 mws2
theorem mss46_ok : All (SOkM Try.prog false) mss46 := All.cons c_num_Finite_float64__ok mss45_ok
theorem menv47_ok : menv47.Ok Try.prog false := mkEnvM_ok mxs_ok mss46_ok mws2_ok
-- tumble/mass.weight
theorem ann_mass_weight : FnOk Try.prog false 0 Try.f49 Ann.no := (fnNo _)
noncomputable def s_mass_weight_0 (a0 : Nat) : Bool := ((s_num_Finite_float64__0 a0) && (fle 0 a0))
theorem e_mass_weight (a0 : Nat) : outB (evFnM Try.prog false menv47 [] [] 96 Ann.no Try.f49 [AV.float a0] []) = some (true, AV.bool (s_mass_weight_0 a0)) := by kernel_rfl
noncomputable def S_mass_weight : List AV → Option (Ob × AV)
  | [AV.float a0] => some (Ob.tt, AV.bool (s_mass_weight_0 a0))
  | _ => none
theorem ob_mass_weight (a0 : Nat) : true = true := rfl
theorem t_mass_weight : SOkM Try.prog false (49, fun args => match S_mass_weight args with | some (o, v) => some (o, v, []) | none => none) := SOkM.flat (N := 96) menv47_ok Try.func49 ann_mass_weight Try.call49 fun args o v h ho => by
  unfold S_mass_weight at h
  split at h
  · rename_i a0
    cases h
    have ho2 := ho
    have this : outB (evFnM Try.prog false menv47 [] [] 96 Ann.no Try.f49 [AV.float a0] []) = some (true, AV.bool (s_mass_weight_0 a0)) := Eq.trans (show outB (evFnM Try.prog false menv47 [] [] 96 Ann.no Try.f49 [AV.float a0] []) = _ from e_mass_weight a0) (by rw [(ob_mass_weight a0)])
    exact ⟨this, rfl⟩
  · cases h
noncomputable def c_mass_weight : SFM := fun args => match S_mass_weight args with | some (o, v) => some (o, v, []) | none => none
theorem c_mass_weight_ok : SOkM Try.prog false (49, c_mass_weight) := t_mass_weight
noncomputable def mss47 : List (FuncId × SFM) := (49, c_mass_weight) :: mss46
noncomputable def menv48 : EnvM := mkEnvM mxs mss47 mws2
theorem mss47_ok : All (SOkM Try.prog false) mss47 := All.cons c_mass_weight_ok mss46_ok
theorem menv48_ok : menv48.Ok Try.prog false := mkEnvM_ok mxs_ok mss47_ok mws2_ok
-- tumble/num.Within[float64]
theorem ann_num_Within_float64_ : FnOk Try.prog false 0 Try.f58 Ann.no := (fnNo _)
noncomputable def s_num_Within_float64__0 (a0 : Nat) (a1 : Nat) : Bool := ((fle (fneg a1) a0) && (fle a0 a1))
theorem e_num_Within_float64_ (a0 : Nat) (a1 : Nat) : outB (evFnM Try.prog false menv48 [] [] 96 Ann.no Try.f58 [AV.float a0, AV.float a1] []) = some (true, AV.bool (s_num_Within_float64__0 a0 a1)) := by kernel_rfl
noncomputable def S_num_Within_float64_ : List AV → Option (Ob × AV)
  | [AV.float a0, AV.float a1] => some (Ob.tt, AV.bool (s_num_Within_float64__0 a0 a1))
  | _ => none
theorem ob_num_Within_float64_ (a0 : Nat) (a1 : Nat) : true = true := rfl
theorem t_num_Within_float64_ : SOkM Try.prog false (58, fun args => match S_num_Within_float64_ args with | some (o, v) => some (o, v, []) | none => none) := SOkM.flat (N := 96) menv48_ok Try.func58 ann_num_Within_float64_ Try.call58 fun args o v h ho => by
  unfold S_num_Within_float64_ at h
  split at h
  · rename_i a0 a1
    cases h
    have ho2 := ho
    have this : outB (evFnM Try.prog false menv48 [] [] 96 Ann.no Try.f58 [AV.float a0, AV.float a1] []) = some (true, AV.bool (s_num_Within_float64__0 a0 a1)) := Eq.trans (show outB (evFnM Try.prog false menv48 [] [] 96 Ann.no Try.f58 [AV.float a0, AV.float a1] []) = _ from e_num_Within_float64_ a0 a1) (by rw [(ob_num_Within_float64_ a0 a1)])
    exact ⟨this, rfl⟩
  · cases h
noncomputable def c_num_Within_float64_ : SFM := fun args => match S_num_Within_float64_ args with | some (o, v) => some (o, v, []) | none => none
theorem c_num_Within_float64__ok : SOkM Try.prog false (58, c_num_Within_float64_) := t_num_Within_float64_
noncomputable def mss48 : List (FuncId × SFM) := (58, c_num_Within_float64_) :: mss47
noncomputable def menv49 : EnvM := mkEnvM mxs mss48 mws2
theorem mss48_ok : All (SOkM Try.prog false) mss48 := All.cons c_num_Within_float64__ok mss47_ok
theorem menv49_ok : menv49.Ok Try.prog false := mkEnvM_ok mxs_ok mss48_ok mws2_ok
-- tumble/vec.Within
theorem ann_vec_Within : FnOk Try.prog false 0 Try.f22 Ann.no := (fnNo _)
noncomputable def s_vec_Within_0 (a0 : Nat) (a1 : Nat) (a2 : Nat) : Bool := ((s_num_Within_float64__0 a0 a2) && (s_num_Within_float64__0 a1 a2))
theorem e_vec_Within (a0 : Nat) (a1 : Nat) (a2 : Nat) : outB (evFnM Try.prog false menv49 [] [] 96 Ann.no Try.f22 [AV.agg [AV.float a0, AV.float a1], AV.float a2] []) = some (true, AV.bool (s_vec_Within_0 a0 a1 a2)) := by kernel_rfl
noncomputable def S_vec_Within : List AV → Option (Ob × AV)
  | [AV.agg [AV.float a0, AV.float a1], AV.float a2] => some (Ob.tt, AV.bool (s_vec_Within_0 a0 a1 a2))
  | _ => none
theorem ob_vec_Within (a0 : Nat) (a1 : Nat) (a2 : Nat) : true = true := rfl
theorem t_vec_Within : SOkM Try.prog false (22, fun args => match S_vec_Within args with | some (o, v) => some (o, v, []) | none => none) := SOkM.flat (N := 96) menv49_ok Try.func22 ann_vec_Within Try.call22 fun args o v h ho => by
  unfold S_vec_Within at h
  split at h
  · rename_i a0 a1 a2
    cases h
    have ho2 := ho
    have this : outB (evFnM Try.prog false menv49 [] [] 96 Ann.no Try.f22 [AV.agg [AV.float a0, AV.float a1], AV.float a2] []) = some (true, AV.bool (s_vec_Within_0 a0 a1 a2)) := Eq.trans (show outB (evFnM Try.prog false menv49 [] [] 96 Ann.no Try.f22 [AV.agg [AV.float a0, AV.float a1], AV.float a2] []) = _ from e_vec_Within a0 a1 a2) (by rw [(ob_vec_Within a0 a1 a2)])
    exact ⟨this, rfl⟩
  · cases h
noncomputable def c_vec_Within : SFM := fun args => match S_vec_Within args with | some (o, v) => some (o, v, []) | none => none
theorem c_vec_Within_ok : SOkM Try.prog false (22, c_vec_Within) := t_vec_Within
noncomputable def mss49 : List (FuncId × SFM) := (22, c_vec_Within) :: mss48
noncomputable def menv50 : EnvM := mkEnvM mxs mss49 mws2
theorem mss49_ok : All (SOkM Try.prog false) mss49 := All.cons c_vec_Within_ok mss48_ok
theorem menv50_ok : menv50.Ok Try.prog false := mkEnvM_ok mxs_ok mss49_ok mws2_ok
-- tumble/mass.Check
theorem ann_mass_Check : FnOk Try.prog false 0 Try.f17 Ann.no := (fnNo _)
noncomputable def s_mass_Check_0 (a0 : Nat) (a1 : Nat) (a2 : Nat) (a3 : Nat) : Int := (bif (((!(s_mass_weight_0 a0)) || (!(s_mass_weight_0 a1))) || (!(s_vec_Within_0 a2 a3 4787326403894837248))) then (80 : Int) else (0 : Int))
theorem e_mass_Check (a0 : Nat) (a1 : Nat) (a2 : Nat) (a3 : Nat) : outB (evFnM Try.prog false menv50 [] [] 96 Ann.no Try.f17 [AV.agg [AV.float a0, AV.float a1, AV.float a2, AV.float a3]] []) = some (true, AV.int .i64 (s_mass_Check_0 a0 a1 a2 a3)) := by kernel_rfl
noncomputable def S_mass_Check : List AV → Option (Ob × AV)
  | [AV.agg [AV.float a0, AV.float a1, AV.float a2, AV.float a3]] => some (Ob.tt, AV.int .i64 (s_mass_Check_0 a0 a1 a2 a3))
  | _ => none
theorem ob_mass_Check (a0 : Nat) (a1 : Nat) (a2 : Nat) (a3 : Nat) : true = true := rfl
theorem t_mass_Check : SOkM Try.prog false (17, fun args => match S_mass_Check args with | some (o, v) => some (o, v, []) | none => none) := SOkM.flat (N := 96) menv50_ok Try.func17 ann_mass_Check Try.call17 fun args o v h ho => by
  unfold S_mass_Check at h
  split at h
  · rename_i a0 a1 a2 a3
    cases h
    have ho2 := ho
    have this : outB (evFnM Try.prog false menv50 [] [] 96 Ann.no Try.f17 [AV.agg [AV.float a0, AV.float a1, AV.float a2, AV.float a3]] []) = some (true, AV.int .i64 (s_mass_Check_0 a0 a1 a2 a3)) := Eq.trans (show outB (evFnM Try.prog false menv50 [] [] 96 Ann.no Try.f17 [AV.agg [AV.float a0, AV.float a1, AV.float a2, AV.float a3]] []) = _ from e_mass_Check a0 a1 a2 a3) (by rw [(ob_mass_Check a0 a1 a2 a3)])
    exact ⟨this, rfl⟩
  · cases h
noncomputable def c_mass_Check : SFM := fun args => match S_mass_Check args with | some (o, v) => some (o, v, []) | none => none
theorem c_mass_Check_ok : SOkM Try.prog false (17, c_mass_Check) := t_mass_Check
noncomputable def mss50 : List (FuncId × SFM) := (17, c_mass_Check) :: mss49
noncomputable def menv51 : EnvM := mkEnvM mxs mss50 mws2
theorem mss50_ok : All (SOkM Try.prog false) mss50 := All.cons c_mass_Check_ok mss49_ok
theorem menv51_ok : menv51.Ok Try.prog false := mkEnvM_ok mxs_ok mss50_ok mws2_ok
-- tumble/mass.Join$1
theorem ann_mass_Join_1 : FnOk Try.prog false 0 Try.f35 Ann.no := (fnNo _)
noncomputable def s_mass_Join_1_0 (a0 : Nat) (a1 : Nat) (a2 : Nat) (a3 : Nat) : Nat := a0
theorem e_mass_Join_1 (a0 : Nat) (a1 : Nat) (a2 : Nat) (a3 : Nat) : outB (evFnM Try.prog false menv51 [] [] 96 Ann.no Try.f35 [AV.agg [AV.float a0, AV.float a1, AV.float a2, AV.float a3]] []) = some (true, AV.float (s_mass_Join_1_0 a0 a1 a2 a3)) := by kernel_rfl
noncomputable def S_mass_Join_1 : List AV → Option (Ob × AV)
  | [AV.agg [AV.float a0, AV.float a1, AV.float a2, AV.float a3]] => some (Ob.tt, AV.float (s_mass_Join_1_0 a0 a1 a2 a3))
  | _ => none
theorem ob_mass_Join_1 (a0 : Nat) (a1 : Nat) (a2 : Nat) (a3 : Nat) : true = true := rfl
theorem t_mass_Join_1 : SOkM Try.prog false (35, fun args => match S_mass_Join_1 args with | some (o, v) => some (o, v, []) | none => none) := SOkM.flat (N := 96) menv51_ok Try.func35 ann_mass_Join_1 Try.call35 fun args o v h ho => by
  unfold S_mass_Join_1 at h
  split at h
  · rename_i a0 a1 a2 a3
    cases h
    have ho2 := ho
    have this : outB (evFnM Try.prog false menv51 [] [] 96 Ann.no Try.f35 [AV.agg [AV.float a0, AV.float a1, AV.float a2, AV.float a3]] []) = some (true, AV.float (s_mass_Join_1_0 a0 a1 a2 a3)) := Eq.trans (show outB (evFnM Try.prog false menv51 [] [] 96 Ann.no Try.f35 [AV.agg [AV.float a0, AV.float a1, AV.float a2, AV.float a3]] []) = _ from e_mass_Join_1 a0 a1 a2 a3) (by rw [(ob_mass_Join_1 a0 a1 a2 a3)])
    exact ⟨this, rfl⟩
  · cases h
noncomputable def c_mass_Join_1 : SFM := fun args => match S_mass_Join_1 args with | some (o, v) => some (o, v, []) | none => none
theorem c_mass_Join_1_ok : SOkM Try.prog false (35, c_mass_Join_1) := t_mass_Join_1
noncomputable def mss51 : List (FuncId × SFM) := (35, c_mass_Join_1) :: mss50
noncomputable def menv52 : EnvM := mkEnvM mxs mss51 mws2
theorem mss51_ok : All (SOkM Try.prog false) mss51 := All.cons c_mass_Join_1_ok mss50_ok
theorem menv52_ok : menv52.Ok Try.prog false := mkEnvM_ok mxs_ok mss51_ok mws2_ok
-- tumble/num.Sum
-- a loop of tumble/num.Sum
structure V_num_Sum_L0 where
  v0 : Nat
  v1 : Int
def tpl_num_Sum_L0 : List AV := [AV.top, AV.top, AV.top, AV.nul, AV.top, AV.top, AV.top, AV.top, AV.top, AV.top, AV.top, AV.top, AV.top, AV.nul, AV.nul, AV.nul, AV.top, AV.top, AV.top, AV.top, AV.top, AV.top, AV.top, AV.top]
def cts_num_Sum_L0 : List CT := []
def phs_num_Sum_L0 : List Src := []
def T_num_Sum_L0 (c0 : Nat) (c1 : (Nat → Nat)) (c2 : Int) (x : V_num_Sum_L0) (F0 : Nat → List AV) : List AV × Heap := ([AV.top, AV.top, AV.top, AV.float x.v0, AV.top, AV.top, AV.top, AV.top, AV.top, AV.top, AV.top, AV.top, AV.top, AV.view c0 1 F0, AV.int .i64 c2, AV.int .i64 x.v1, AV.top, AV.top, AV.top, AV.top, AV.top, AV.top, AV.top, AV.top], [])
def sh_num_Sum_L0 (c0 : Nat) (c1 : (Nat → Nat)) (c2 : Int) (x : V_num_Sum_L0) : List AV × Heap := T_num_Sum_L0 c0 c1 c2 x (fun (j0 : Nat) => [AV.float (c1 j0)])
noncomputable def step_num_Sum_L0 (c0 : Nat) (c1 : (Nat → Nat)) (c2 : Int) (x : V_num_Sum_L0) : V_num_Sum_L0 := V_num_Sum_L0.mk (fadd x.v0 (c1 (Int.toNat x.v1))) (IntKind.wrap .i64 (x.v1 + (1 : Int)))
noncomputable def go_num_Sum_L0 (c0 : Nat) (c1 : (Nat → Nat)) (c2 : Int) (x : V_num_Sum_L0) : Bool := (bif (!(ilt x.v1 c2)) then false else true)
noncomputable def ok_num_Sum_L0 (c0 : Nat) (c1 : (Nat → Nat)) (c2 : Int) (x : V_num_Sum_L0) : Bool := (mrgB (!(ilt x.v1 c2)) true ((ile (0 : Int) x.v1) && (Nat.blt (Int.toNat x.v1) c0)))
noncomputable def L_num_Sum_L0 (c0 : Nat) (c1 : (Nat → Nat)) (c2 : Int) (x : V_num_Sum_L0) : V_num_Sum_L0 := lastL (ok_num_Sum_L0 c0 c1 c2) (go_num_Sum_L0 c0 c1 c2) (step_num_Sum_L0 c0 c1 c2) x
noncomputable def E_num_Sum_L0 (c0 : Nat) (c1 : (Nat → Nat)) (c2 : Int) (x : V_num_Sum_L0) : Bool := endsL (ok_num_Sum_L0 c0 c1 c2) (go_num_Sum_L0 c0 c1 c2) (step_num_Sum_L0 c0 c1 c2) x
theorem all_num_Sum_L0 (c0 : Nat) (c1 : (Nat → Nat)) (c2 : Int) (x : V_num_Sum_L0) : rnd Try.prog false menv52 [] [] 96 Ann.no (subC [1, 1, 1, 0, 1, 0, 0] (codeOf Try.f67)) 0 [] tpl_num_Sum_L0 cts_num_Sum_L0 [true, true, true, true, true, true, true, true, true, true, true, true, true, false, false, true, true, true, true, true, true, true, true, true] [] (sh_num_Sum_L0 c0 c1 c2 x) = (true, true, go_num_Sum_L0 c0 c1 c2 x, ok_num_Sum_L0 c0 c1 c2 x, true, sh_num_Sum_L0 c0 c1 c2 (step_num_Sum_L0 c0 c1 c2 x), true) := by kernel_rfl
noncomputable def fam_num_Sum_L0 (c0 : Nat) (c1 : (Nat → Nat)) (c2 : Int) : Fam Try.prog false menv52 [] [] 96 0 Ann.no (subC [1, 1, 1, 0, 1, 0, 0] (codeOf Try.f67)) V_num_Sum_L0 where
  sh := sh_num_Sum_L0 c0 c1 c2
  ok := ok_num_Sum_L0 c0 c1 c2
  go := go_num_Sum_L0 c0 c1 c2
  step := step_num_Sum_L0 c0 c1 c2
  chg := [true, true, true, true, true, true, true, true, true, true, true, true, true, false, false, true, true, true, true, true, true, true, true, true]
  chgH := []
  tpl := tpl_num_Sum_L0
  cts := cts_num_Sum_L0
  keep := 0
  srcs := []
  ann := (annNo (subC [1, 1, 1, 0, 1, 0, 0] (codeOf Try.f67)))
  le := by kernel_rfl
  kept := by kernel_rfl
  keptB := by kernel_rfl
  all := all_num_Sum_L0 c0 c1 c2
  len := fun x => by kernel_rfl
  head := fun x y => by kernel_rfl
  con := fun x y => by kernel_rfl
  conH := fun x y => by kernel_rfl
noncomputable def F_num_Sum_L0 : St → Option Ch := fun s => cond (Nat.beq s.tm.length 24 && Nat.beq s.H.length 0) (tkTops 3 (alL tpl_num_Sum_L0 s.tm) fun t0 => tkCons t0 fun a1 t1 => tkF a1 fun s0 => tkTops 9 t1 fun t2 => tkCons t2 fun a3 t3 => tkView 1 a3 fun s1 f0 => tkCons t3 fun a4 t4 => tkI .i64 a4 fun s3 => tkCons t4 fun a5 t5 => tkI .i64 a5 fun s4 => tkTops 8 t5 fun t6 => tkNil t6 <| tkNil (alH cts_num_Sum_L0 (s.H ++ List.map phan phs_num_Sum_L0)) <| Fam.out (fam_num_Sum_L0 s1 (fun (i : Nat) => flO (atL (f0 i) 0)) s3) s (allB fun (i : Nat) => isNrm [Ck.f] (f0 i)) (V_num_Sum_L0.mk s0 s4)) none
theorem F_num_Sum_L0_ok : ∀ s ch, F_num_Sum_L0 s = some ch → AllI s ch ∧ LoopSpec Try.prog false 0 (subC [1, 1, 1, 0, 1, 0, 0] (codeOf Try.f67)) s (sel ch) := by
  intro s ch h
  unfold F_num_Sum_L0 at h
  obtain ⟨hl, h0⟩ := cond_some h rfl
  clear h
  obtain ⟨hl, hb⟩ := and_beq2 hl
  obtain ⟨t0, e0, h1⟩ := tkTops_some h0
  obtain ⟨a1, t1, rfl, h2⟩ := tkCons_some h1
  obtain ⟨s0, rfl, h3⟩ := tkF_some h2
  obtain ⟨t2, rfl, h4⟩ := tkTops_some h3
  obtain ⟨a3, t3, rfl, h5⟩ := tkCons_some h4
  obtain ⟨s1, f0, rfl, h6⟩ := tkView_some h5
  obtain ⟨a4, t4, rfl, h7⟩ := tkCons_some h6
  obtain ⟨s3, rfl, h8⟩ := tkI_some h7
  obtain ⟨a5, t5, rfl, h9⟩ := tkCons_some h8
  obtain ⟨s4, rfl, h10⟩ := tkI_some h9
  obtain ⟨t6, rfl, h11⟩ := tkTops_some h10
  obtain ⟨rfl, h12⟩ := tkNil_some h11
  obtain ⟨eH, h13⟩ := tkNil_some h12
  refine Fam.spec menv52_ok (fam_num_Sum_L0 s1 (fun (i : Nat) => flO (atL (f0 i) 0)) s3) (phs := phs_num_Sum_L0) (hl.trans (by kernel_rfl)) (hb.trans (by kernel_rfl)) ?_ ?_ h13
  · rw [← hdr_alH cts_num_Sum_L0 (s.H ++ List.map phan phs_num_Sum_L0), eH]; kernel_rfl
  · intro hq
    have hq0 := hq
    have n0 := nrm_fun hq0
    show sh_num_Sum_L0 s1 (fun (i : Nat) => flO (atL (f0 i) 0)) s3 (V_num_Sum_L0.mk s0 s4) = (alL tpl_num_Sum_L0 s.tm, alH cts_num_Sum_L0 (s.H ++ List.map phan phs_num_Sum_L0))
    rw [e0, eH]
    refine Eq.trans (show sh_num_Sum_L0 s1 (fun (i : Nat) => flO (atL (f0 i) 0)) s3 (V_num_Sum_L0.mk s0 s4) = T_num_Sum_L0 s1 (fun (i : Nat) => flO (atL (f0 i) 0)) s3 (V_num_Sum_L0.mk s0 s4) (fun (i : Nat) => mkN [Ck.f] (f0 i) 0) by kernel_rfl) ?_
    rw [n0]
    kernel_rfl
theorem ann_num_Sum : FnOk Try.prog false 0 Try.f67 (Ann.two Ann.no (Ann.two Ann.no (Ann.two Ann.no (Ann.two (Ann.two Ann.no (Ann.one (Ann.loop F_num_Sum_L0))) Ann.no)))) := (fnOk_of (c := codeOf Try.f67) (by kernel_rfl) (annSeq (a := (subC [0] (codeOf Try.f67))) (b := (subC [1] (codeOf Try.f67))) (by kernel_rfl) (annNo (subC [0] (codeOf Try.f67))) (annSeq (a := (subC [1, 0] (codeOf Try.f67))) (b := (subC [1, 1] (codeOf Try.f67))) (by kernel_rfl) (annNo (subC [1, 0] (codeOf Try.f67))) (annSeq (a := (subC [1, 1, 0] (codeOf Try.f67))) (b := (subC [1, 1, 1] (codeOf Try.f67))) (by kernel_rfl) (annNo (subC [1, 1, 0] (codeOf Try.f67))) (annSeq (a := (subC [1, 1, 1, 0] (codeOf Try.f67))) (b := (subC [1, 1, 1, 1] (codeOf Try.f67))) (by kernel_rfl) (annSeq (a := (subC [1, 1, 1, 0, 0] (codeOf Try.f67))) (b := (subC [1, 1, 1, 0, 1] (codeOf Try.f67))) (by kernel_rfl) (annNo (subC [1, 1, 1, 0, 0] (codeOf Try.f67))) (annBlock (a := (subC [1, 1, 1, 0, 1, 0] (codeOf Try.f67))) (i := 0) (by kernel_rfl) (annLoop (a := (subC [1, 1, 1, 0, 1, 0, 0] (codeOf Try.f67))) (by kernel_rfl) F_num_Sum_L0_ok))) (annNo (subC [1, 1, 1, 1] (codeOf Try.f67))))))))
noncomputable def s_num_Sum_0 (a0n : Nat) (a0_0 : Nat → Nat) : Nat := (bif (ieq (Int.ofNat a0n) (0 : Int)) then 0 else ((L_num_Sum_L0 (a0n - 1) (fun (j0 : Nat) => (a0_0 (1 + j0))) (Int.ofNat (a0n - 1)) (V_num_Sum_L0.mk (a0_0 0) (0 : Int))).v0))
theorem e_num_Sum (a0n : Nat) (a0_0 : Nat → Nat) : outB (evFnM Try.prog false menv52 [] [] 96 (Ann.two Ann.no (Ann.two Ann.no (Ann.two Ann.no (Ann.two (Ann.two Ann.no (Ann.one (Ann.loop F_num_Sum_L0))) Ann.no)))) Try.f67 [AV.view a0n 1 (fun (i0 : Nat) => [AV.float (a0_0 i0)])] []) = some ((mrgB (ieq (Int.ofNat a0n) (0 : Int)) true ((((Nat.ble 1 a0n) && (Nat.ble a0n a0n)) && (Nat.blt 0 a0n)) && ((allB fun _ => true) && (E_num_Sum_L0 (a0n - 1) (fun (j0 : Nat) => (a0_0 (1 + j0))) (Int.ofNat (a0n - 1)) (V_num_Sum_L0.mk (a0_0 0) (0 : Int)))))), AV.float (s_num_Sum_0 a0n a0_0)) := by kernel_rfl
noncomputable def o_num_Sum (a0n : Nat) (a0_0 : Nat → Nat) : Bool := (mrgB (ieq (Int.ofNat a0n) (0 : Int)) true ((((Nat.ble 1 a0n) && (Nat.ble a0n a0n)) && (Nat.blt 0 a0n)) && (E_num_Sum_L0 (a0n - 1) (fun (j0 : Nat) => (a0_0 (1 + j0))) (Int.ofNat (a0n - 1)) (V_num_Sum_L0.mk (a0_0 0) (0 : Int)))))
noncomputable def S_num_Sum : List AV → Option (Ob × AV)
  | [AV.view a0n 1 a0f] => some (Ob.both (Ob.bit (allB fun (i : Nat) => isNrm [Ck.f] (a0f i))) (Ob.bit (o_num_Sum a0n (fun (i0 : Nat) => (flO (atL (a0f i0) 0))))), AV.float (s_num_Sum_0 a0n (fun (i0 : Nat) => (flO (atL (a0f i0) 0)))))
  | _ => none
theorem ob_num_Sum (a0n : Nat) (a0_0 : Nat → Nat) (ho : o_num_Sum a0n a0_0 = true) : (mrgB (ieq (Int.ofNat a0n) (0 : Int)) true ((((Nat.ble 1 a0n) && (Nat.ble a0n a0n)) && (Nat.blt 0 a0n)) && ((allB fun _ => true) && (E_num_Sum_L0 (a0n - 1) (fun (j0 : Nat) => (a0_0 (1 + j0))) (Int.ofNat (a0n - 1)) (V_num_Sum_L0.mk (a0_0 0) (0 : Int)))))) = true := by
  unfold o_num_Sum at ho
  simp only [allB_true, eqT_self, mrgB_self, Bool.true_and, Bool.and_true] at ho ⊢
  exact ho
theorem t_num_Sum : SOkM Try.prog false (67, fun args => match S_num_Sum args with | some (o, v) => some (o, v, []) | none => none) := SOkM.flat (N := 96) menv52_ok Try.func67 ann_num_Sum Try.call67 fun args o v h ho => by
  unfold S_num_Sum at h
  split at h
  · rename_i a0n a0f
    cases h
    rw [Ob.both_ok, Bool.and_eq_true] at ho
    obtain ⟨hn, ho2⟩ := ho
    have n0 := hn
    simp only [Ob.ok] at n0
    replace n0 := nrm_fun n0
    have this : outB (evFnM Try.prog false menv52 [] [] 96 (Ann.two Ann.no (Ann.two Ann.no (Ann.two Ann.no (Ann.two (Ann.two Ann.no (Ann.one (Ann.loop F_num_Sum_L0))) Ann.no)))) Try.f67 [AV.view a0n 1 (fun (i : Nat) => mkN [Ck.f] (a0f i) 0)] []) = some (true, AV.float (s_num_Sum_0 a0n (fun (i0 : Nat) => (flO (atL (a0f i0) 0))))) := Eq.trans (show outB (evFnM Try.prog false menv52 [] [] 96 (Ann.two Ann.no (Ann.two Ann.no (Ann.two Ann.no (Ann.two (Ann.two Ann.no (Ann.one (Ann.loop F_num_Sum_L0))) Ann.no)))) Try.f67 [AV.view a0n 1 (fun (i : Nat) => mkN [Ck.f] (a0f i) 0)] []) = _ from e_num_Sum a0n (fun (i0 : Nat) => (flO (atL (a0f i0) 0)))) (by rw [(ob_num_Sum a0n (fun (i0 : Nat) => (flO (atL (a0f i0) 0))) ho2)])
    rw [n0] at this
    exact ⟨this, rfl⟩
  · cases h
noncomputable def c_num_Sum : SFM := fun args => match S_num_Sum args with | some (o, v) => some (o, v, []) | none => none
theorem c_num_Sum_ok : SOkM Try.prog false (67, c_num_Sum) := t_num_Sum
noncomputable def mss52 : List (FuncId × SFM) := (67, c_num_Sum) :: mss51
noncomputable def menv53 : EnvM := mkEnvM mxs mss52 mws2
theorem mss52_ok : All (SOkM Try.prog false) mss52 := All.cons c_num_Sum_ok mss51_ok
theorem menv53_ok : menv53.Ok Try.prog false := mkEnvM_ok mxs_ok mss52_ok mws2_ok
-- tumble/mass.sum
-- a loop of tumble/mass.sum
structure V_mass_sum_L0 where
  v0 : Int
  v1 : (Nat → Nat)
def tpl_mass_sum_L0 : List AV := [AV.top, AV.nul, AV.top, AV.top, AV.top, AV.nul, AV.top, AV.top, AV.top, AV.top, AV.top, AV.nul, AV.nul, AV.nul, AV.top, AV.top, AV.top, AV.top, AV.top, AV.top, AV.top, AV.top, AV.top, AV.top, AV.top, AV.top, AV.top]
def cts_mass_sum_L0 : List CT := [CT.keep]
def phs_mass_sum_L0 : List Src := []
def T_mass_sum_L0 (c0 : Nat) (c1 : (Nat → Nat)) (c2 : (Nat → Nat)) (c3 : (Nat → Nat)) (c4 : (Nat → Nat)) (c5 : Int) (x : V_mass_sum_L0) (F0 : Nat → List AV) (F1 : Nat → List AV) : List AV × Heap := ([AV.top, AV.func 35 [] [], AV.top, AV.top, AV.top, AV.lst 0 0 1 c0 c0, AV.top, AV.top, AV.top, AV.top, AV.top, AV.view c0 4 F0, AV.int .i64 c5, AV.int .i64 x.v0, AV.top, AV.top, AV.top, AV.top, AV.top, AV.top, AV.top, AV.top, AV.top, AV.top, AV.top, AV.top, AV.top], [⟨.sym c0 1 F1, 24, 0⟩])
def sh_mass_sum_L0 (c0 : Nat) (c1 : (Nat → Nat)) (c2 : (Nat → Nat)) (c3 : (Nat → Nat)) (c4 : (Nat → Nat)) (c5 : Int) (x : V_mass_sum_L0) : List AV × Heap := T_mass_sum_L0 c0 c1 c2 c3 c4 c5 x (fun (j0 : Nat) => [AV.float (c1 j0), AV.float (c2 j0), AV.float (c3 j0), AV.float (c4 j0)]) (fun (j0 : Nat) => [AV.float (x.v1 j0)])
noncomputable def step_mass_sum_L0 (c0 : Nat) (c1 : (Nat → Nat)) (c2 : (Nat → Nat)) (c3 : (Nat → Nat)) (c4 : (Nat → Nat)) (c5 : Int) (x : V_mass_sum_L0) : V_mass_sum_L0 := V_mass_sum_L0.mk (IntKind.wrap .i64 (x.v0 + (1 : Int))) (fun (j0 : Nat) => (bif (Nat.beq j0 (Int.toNat x.v0)) then (s_mass_Join_1_0 (c1 (Int.toNat x.v0)) (c2 (Int.toNat x.v0)) (c3 (Int.toNat x.v0)) (c4 (Int.toNat x.v0))) else (x.v1 j0)))
noncomputable def go_mass_sum_L0 (c0 : Nat) (c1 : (Nat → Nat)) (c2 : (Nat → Nat)) (c3 : (Nat → Nat)) (c4 : (Nat → Nat)) (c5 : Int) (x : V_mass_sum_L0) : Bool := (bif (!(ilt x.v0 c5)) then false else true)
noncomputable def ok_mass_sum_L0 (c0 : Nat) (c1 : (Nat → Nat)) (c2 : (Nat → Nat)) (c3 : (Nat → Nat)) (c4 : (Nat → Nat)) (c5 : Int) (x : V_mass_sum_L0) : Bool := (mrgB (!(ilt x.v0 c5)) true ((Nat.blt (Int.toNat x.v0) c0) && (((ile (0 : Int) x.v0) && (Nat.blt (Int.toNat x.v0) c0)) && ((ile (0 : Int) x.v0) && (Nat.blt (Int.toNat x.v0) c0)))))
noncomputable def L_mass_sum_L0 (c0 : Nat) (c1 : (Nat → Nat)) (c2 : (Nat → Nat)) (c3 : (Nat → Nat)) (c4 : (Nat → Nat)) (c5 : Int) (x : V_mass_sum_L0) : V_mass_sum_L0 := lastL (ok_mass_sum_L0 c0 c1 c2 c3 c4 c5) (go_mass_sum_L0 c0 c1 c2 c3 c4 c5) (step_mass_sum_L0 c0 c1 c2 c3 c4 c5) x
noncomputable def E_mass_sum_L0 (c0 : Nat) (c1 : (Nat → Nat)) (c2 : (Nat → Nat)) (c3 : (Nat → Nat)) (c4 : (Nat → Nat)) (c5 : Int) (x : V_mass_sum_L0) : Bool := endsL (ok_mass_sum_L0 c0 c1 c2 c3 c4 c5) (go_mass_sum_L0 c0 c1 c2 c3 c4 c5) (step_mass_sum_L0 c0 c1 c2 c3 c4 c5) x
theorem all_mass_sum_L0 (c0 : Nat) (c1 : (Nat → Nat)) (c2 : (Nat → Nat)) (c3 : (Nat → Nat)) (c4 : (Nat → Nat)) (c5 : Int) (x : V_mass_sum_L0) : rnd Try.prog false menv53 [] [] 96 Ann.no (subC [1, 1, 0, 1, 0, 0] (codeOf Try.f34)) 0 [⟨some 0, 0, 0, []⟩] tpl_mass_sum_L0 cts_mass_sum_L0 [true, false, true, true, true, false, true, true, true, true, true, false, false, true, true, true, true, true, true, true, true, true, true, true, true, true, true] [true] (sh_mass_sum_L0 c0 c1 c2 c3 c4 c5 x) = (true, true, go_mass_sum_L0 c0 c1 c2 c3 c4 c5 x, ok_mass_sum_L0 c0 c1 c2 c3 c4 c5 x, true, sh_mass_sum_L0 c0 c1 c2 c3 c4 c5 (step_mass_sum_L0 c0 c1 c2 c3 c4 c5 x), true) := by kernel_rfl
noncomputable def fam_mass_sum_L0 (c0 : Nat) (c1 : (Nat → Nat)) (c2 : (Nat → Nat)) (c3 : (Nat → Nat)) (c4 : (Nat → Nat)) (c5 : Int) : Fam Try.prog false menv53 [] [] 96 0 Ann.no (subC [1, 1, 0, 1, 0, 0] (codeOf Try.f34)) V_mass_sum_L0 where
  sh := sh_mass_sum_L0 c0 c1 c2 c3 c4 c5
  ok := ok_mass_sum_L0 c0 c1 c2 c3 c4 c5
  go := go_mass_sum_L0 c0 c1 c2 c3 c4 c5
  step := step_mass_sum_L0 c0 c1 c2 c3 c4 c5
  chg := [true, false, true, true, true, false, true, true, true, true, true, false, false, true, true, true, true, true, true, true, true, true, true, true, true, true, true]
  chgH := [true]
  tpl := tpl_mass_sum_L0
  cts := cts_mass_sum_L0
  keep := 0
  srcs := [⟨some 0, 0, 0, []⟩]
  ann := (annNo (subC [1, 1, 0, 1, 0, 0] (codeOf Try.f34)))
  le := by kernel_rfl
  kept := by kernel_rfl
  keptB := by kernel_rfl
  all := all_mass_sum_L0 c0 c1 c2 c3 c4 c5
  len := fun x => by kernel_rfl
  head := fun x y => by kernel_rfl
  con := fun x y => by kernel_rfl
  conH := fun x y => by kernel_rfl
noncomputable def F_mass_sum_L0 : St → Option Ch := fun s => cond (Nat.beq s.tm.length 27 && Nat.beq s.H.length 1) (tkTops 1 (alL tpl_mass_sum_L0 s.tm) fun t0 => tkCons t0 fun a1 t1 => tkFunc 35 a1 fun l2 l3 => tkNil l2 <| tkNil l3 <| tkTops 3 t1 fun t4 => tkCons t4 fun a5 t5 => tkLst 0 0 1 a5 fun s0 s1 => tkTops 5 t5 fun t6 => tkCons t6 fun a7 t7 => tkView 4 a7 fun s2 f0 => tkCons t7 fun a8 t8 => tkI .i64 a8 fun s7 => tkCons t8 fun a9 t9 => tkI .i64 a9 fun s8 => tkTops 13 t9 fun t10 => tkNil t10 <| tkCons (alH cts_mass_sum_L0 (s.H ++ List.map phan phs_mass_sum_L0)) fun b11 t11 => tkSym 24 0 1 b11 fun s9 f1 => tkNil t11 <| Fam.out (fam_mass_sum_L0 s0 (fun (i : Nat) => flO (atL (f0 i) 0)) (fun (i : Nat) => flO (atL (f0 i) 1)) (fun (i : Nat) => flO (atL (f0 i) 2)) (fun (i : Nat) => flO (atL (f0 i) 3)) s7) s (((((allB fun (i : Nat) => isNrm [Ck.f, Ck.f, Ck.f, Ck.f] (f0 i)) && (allB fun (i : Nat) => isNrm [Ck.f] (f1 i))) && (eqT s1 s0)) && (eqT s2 s0)) && (eqT s9 s0)) (V_mass_sum_L0.mk s8 (fun (i : Nat) => flO (atL (f1 i) 0)))) none
theorem F_mass_sum_L0_ok : ∀ s ch, F_mass_sum_L0 s = some ch → AllI s ch ∧ LoopSpec Try.prog false 0 (subC [1, 1, 0, 1, 0, 0] (codeOf Try.f34)) s (sel ch) := by
  intro s ch h
  unfold F_mass_sum_L0 at h
  obtain ⟨hl, h0⟩ := cond_some h rfl
  clear h
  obtain ⟨hl, hb⟩ := and_beq2 hl
  obtain ⟨t0, e0, h1⟩ := tkTops_some h0
  obtain ⟨a1, t1, rfl, h2⟩ := tkCons_some h1
  obtain ⟨l2, l3, rfl, h3⟩ := tkFunc_some h2
  obtain ⟨rfl, h4⟩ := tkNil_some h3
  obtain ⟨rfl, h5⟩ := tkNil_some h4
  obtain ⟨t4, rfl, h6⟩ := tkTops_some h5
  obtain ⟨a5, t5, rfl, h7⟩ := tkCons_some h6
  obtain ⟨s0, s1, rfl, h8⟩ := tkLst_some h7
  obtain ⟨t6, rfl, h9⟩ := tkTops_some h8
  obtain ⟨a7, t7, rfl, h10⟩ := tkCons_some h9
  obtain ⟨s2, f0, rfl, h11⟩ := tkView_some h10
  obtain ⟨a8, t8, rfl, h12⟩ := tkCons_some h11
  obtain ⟨s7, rfl, h13⟩ := tkI_some h12
  obtain ⟨a9, t9, rfl, h14⟩ := tkCons_some h13
  obtain ⟨s8, rfl, h15⟩ := tkI_some h14
  obtain ⟨t10, rfl, h16⟩ := tkTops_some h15
  obtain ⟨rfl, h17⟩ := tkNil_some h16
  obtain ⟨b11, t11, eH, h18⟩ := tkCons_some h17
  obtain ⟨s9, f1, rfl, h19⟩ := tkSym_some h18
  obtain ⟨rfl, h20⟩ := tkNil_some h19
  refine Fam.spec menv53_ok (fam_mass_sum_L0 s0 (fun (i : Nat) => flO (atL (f0 i) 0)) (fun (i : Nat) => flO (atL (f0 i) 1)) (fun (i : Nat) => flO (atL (f0 i) 2)) (fun (i : Nat) => flO (atL (f0 i) 3)) s7) (phs := phs_mass_sum_L0) (hl.trans (by kernel_rfl)) (hb.trans (by kernel_rfl)) ?_ ?_ h20
  · rw [← hdr_alH cts_mass_sum_L0 (s.H ++ List.map phan phs_mass_sum_L0), eH]; kernel_rfl
  · intro hq
    simp only [Bool.and_eq_true] at hq
    obtain ⟨⟨⟨⟨hq0, hq1⟩, hq2⟩, hq3⟩, hq4⟩ := hq
    have n0 := nrm_fun hq0
    have n1 := nrm_fun hq1
    have hx := eqT_eq hq2; subst s1
    have hx := eqT_eq hq3; subst s2
    have hx := eqT_eq hq4; subst s9
    show sh_mass_sum_L0 s0 (fun (i : Nat) => flO (atL (f0 i) 0)) (fun (i : Nat) => flO (atL (f0 i) 1)) (fun (i : Nat) => flO (atL (f0 i) 2)) (fun (i : Nat) => flO (atL (f0 i) 3)) s7 (V_mass_sum_L0.mk s8 (fun (i : Nat) => flO (atL (f1 i) 0))) = (alL tpl_mass_sum_L0 s.tm, alH cts_mass_sum_L0 (s.H ++ List.map phan phs_mass_sum_L0))
    rw [e0, eH]
    refine Eq.trans (show sh_mass_sum_L0 s0 (fun (i : Nat) => flO (atL (f0 i) 0)) (fun (i : Nat) => flO (atL (f0 i) 1)) (fun (i : Nat) => flO (atL (f0 i) 2)) (fun (i : Nat) => flO (atL (f0 i) 3)) s7 (V_mass_sum_L0.mk s8 (fun (i : Nat) => flO (atL (f1 i) 0))) = T_mass_sum_L0 s0 (fun (i : Nat) => flO (atL (f0 i) 0)) (fun (i : Nat) => flO (atL (f0 i) 1)) (fun (i : Nat) => flO (atL (f0 i) 2)) (fun (i : Nat) => flO (atL (f0 i) 3)) s7 (V_mass_sum_L0.mk s8 (fun (i : Nat) => flO (atL (f1 i) 0))) (fun (i : Nat) => mkN [Ck.f, Ck.f, Ck.f, Ck.f] (f0 i) 0) (fun (i : Nat) => mkN [Ck.f] (f1 i) 0) by kernel_rfl) ?_
    rw [n0, n1]
    kernel_rfl
theorem ann_mass_sum : FnOk Try.prog false 0 Try.f34 (Ann.two Ann.no (Ann.two Ann.no (Ann.two (Ann.two Ann.no (Ann.one (Ann.loop F_mass_sum_L0))) Ann.no))) := (fnOk_of (c := codeOf Try.f34) (by kernel_rfl) (annSeq (a := (subC [0] (codeOf Try.f34))) (b := (subC [1] (codeOf Try.f34))) (by kernel_rfl) (annNo (subC [0] (codeOf Try.f34))) (annSeq (a := (subC [1, 0] (codeOf Try.f34))) (b := (subC [1, 1] (codeOf Try.f34))) (by kernel_rfl) (annNo (subC [1, 0] (codeOf Try.f34))) (annSeq (a := (subC [1, 1, 0] (codeOf Try.f34))) (b := (subC [1, 1, 1] (codeOf Try.f34))) (by kernel_rfl) (annSeq (a := (subC [1, 1, 0, 0] (codeOf Try.f34))) (b := (subC [1, 1, 0, 1] (codeOf Try.f34))) (by kernel_rfl) (annNo (subC [1, 1, 0, 0] (codeOf Try.f34))) (annBlock (a := (subC [1, 1, 0, 1, 0] (codeOf Try.f34))) (i := 0) (by kernel_rfl) (annLoop (a := (subC [1, 1, 0, 1, 0, 0] (codeOf Try.f34))) (by kernel_rfl) F_mass_sum_L0_ok))) (annNo (subC [1, 1, 1] (codeOf Try.f34)))))))
noncomputable def s_mass_sum_0 (a0n : Nat) (a0_0 : Nat → Nat) (a0_1 : Nat → Nat) (a0_2 : Nat → Nat) (a0_3 : Nat → Nat) : Nat := (s_num_Sum_0 a0n ((L_mass_sum_L0 a0n a0_0 a0_1 a0_2 a0_3 (Int.ofNat a0n) (V_mass_sum_L0.mk (0 : Int) (fun (j0 : Nat) => 0))).v1))
theorem e_mass_sum (a0n : Nat) (a0_0 : Nat → Nat) (a0_1 : Nat → Nat) (a0_2 : Nat → Nat) (a0_3 : Nat → Nat) : outB (evFnM Try.prog false menv53 [] [] 96 (Ann.two Ann.no (Ann.two Ann.no (Ann.two (Ann.two Ann.no (Ann.one (Ann.loop F_mass_sum_L0))) Ann.no))) Try.f34 [AV.view a0n 4 (fun (i0 : Nat) => [AV.float (a0_0 i0), AV.float (a0_1 i0), AV.float (a0_2 i0), AV.float (a0_3 i0)]), AV.func 35 [] []] []) = some ((((Nat.ble a0n a0n) && ((allB fun _ => true) && (o_num_Sum a0n ((L_mass_sum_L0 a0n a0_0 a0_1 a0_2 a0_3 (Int.ofNat a0n) (V_mass_sum_L0.mk (0 : Int) (fun (j0 : Nat) => 0))).v1)))) && (((ile (Int.ofNat a0n) (Int.ofNat a0n)) && ((ile ((8 : Int) * (Int.ofNat a0n)) (281474976710656 : Int)) && (ile (Int.ofNat a0n) (9223372036854775807 : Int)))) && ((((((allB fun _ => true) && (allB fun _ => true)) && (eqT a0n a0n)) && (eqT a0n a0n)) && (eqT a0n a0n)) && (E_mass_sum_L0 a0n a0_0 a0_1 a0_2 a0_3 (Int.ofNat a0n) (V_mass_sum_L0.mk (0 : Int) (fun (j0 : Nat) => 0)))))), AV.float (s_mass_sum_0 a0n a0_0 a0_1 a0_2 a0_3)) := by kernel_rfl
noncomputable def o_mass_sum (a0n : Nat) (a0_0 : Nat → Nat) (a0_1 : Nat → Nat) (a0_2 : Nat → Nat) (a0_3 : Nat → Nat) : Bool := (((Nat.ble a0n a0n) && (o_num_Sum a0n ((L_mass_sum_L0 a0n a0_0 a0_1 a0_2 a0_3 (Int.ofNat a0n) (V_mass_sum_L0.mk (0 : Int) (fun (j0 : Nat) => 0))).v1))) && (((ile (Int.ofNat a0n) (Int.ofNat a0n)) && ((ile ((8 : Int) * (Int.ofNat a0n)) (281474976710656 : Int)) && (ile (Int.ofNat a0n) (9223372036854775807 : Int)))) && (E_mass_sum_L0 a0n a0_0 a0_1 a0_2 a0_3 (Int.ofNat a0n) (V_mass_sum_L0.mk (0 : Int) (fun (j0 : Nat) => 0)))))
noncomputable def S_mass_sum : List AV → Option (Ob × AV)
  | [AV.view a0n 4 a0f, AV.func 35 [] []] => some (Ob.both (Ob.bit (allB fun (i : Nat) => isNrm [Ck.f, Ck.f, Ck.f, Ck.f] (a0f i))) (Ob.bit (o_mass_sum a0n (fun (i0 : Nat) => (flO (atL (a0f i0) 0))) (fun (i0 : Nat) => (flO (atL (a0f i0) 1))) (fun (i0 : Nat) => (flO (atL (a0f i0) 2))) (fun (i0 : Nat) => (flO (atL (a0f i0) 3))))), AV.float (s_mass_sum_0 a0n (fun (i0 : Nat) => (flO (atL (a0f i0) 0))) (fun (i0 : Nat) => (flO (atL (a0f i0) 1))) (fun (i0 : Nat) => (flO (atL (a0f i0) 2))) (fun (i0 : Nat) => (flO (atL (a0f i0) 3)))))
  | _ => none
theorem ob_mass_sum (a0n : Nat) (a0_0 : Nat → Nat) (a0_1 : Nat → Nat) (a0_2 : Nat → Nat) (a0_3 : Nat → Nat) (ho : o_mass_sum a0n a0_0 a0_1 a0_2 a0_3 = true) : (((Nat.ble a0n a0n) && ((allB fun _ => true) && (o_num_Sum a0n ((L_mass_sum_L0 a0n a0_0 a0_1 a0_2 a0_3 (Int.ofNat a0n) (V_mass_sum_L0.mk (0 : Int) (fun (j0 : Nat) => 0))).v1)))) && (((ile (Int.ofNat a0n) (Int.ofNat a0n)) && ((ile ((8 : Int) * (Int.ofNat a0n)) (281474976710656 : Int)) && (ile (Int.ofNat a0n) (9223372036854775807 : Int)))) && ((((((allB fun _ => true) && (allB fun _ => true)) && (eqT a0n a0n)) && (eqT a0n a0n)) && (eqT a0n a0n)) && (E_mass_sum_L0 a0n a0_0 a0_1 a0_2 a0_3 (Int.ofNat a0n) (V_mass_sum_L0.mk (0 : Int) (fun (j0 : Nat) => 0)))))) = true := by
  unfold o_mass_sum at ho
  simp only [allB_true, eqT_self, mrgB_self, Bool.true_and, Bool.and_true] at ho ⊢
  exact ho
theorem t_mass_sum : SOkM Try.prog false (34, fun args => match S_mass_sum args with | some (o, v) => some (o, v, []) | none => none) := SOkM.flat (N := 96) menv53_ok Try.func34 ann_mass_sum Try.call34 fun args o v h ho => by
  unfold S_mass_sum at h
  split at h
  · rename_i a0n a0f
    cases h
    rw [Ob.both_ok, Bool.and_eq_true] at ho
    obtain ⟨hn, ho2⟩ := ho
    have n0 := hn
    simp only [Ob.ok] at n0
    replace n0 := nrm_fun n0
    have this : outB (evFnM Try.prog false menv53 [] [] 96 (Ann.two Ann.no (Ann.two Ann.no (Ann.two (Ann.two Ann.no (Ann.one (Ann.loop F_mass_sum_L0))) Ann.no))) Try.f34 [AV.view a0n 4 (fun (i : Nat) => mkN [Ck.f, Ck.f, Ck.f, Ck.f] (a0f i) 0), AV.func 35 [] []] []) = some (true, AV.float (s_mass_sum_0 a0n (fun (i0 : Nat) => (flO (atL (a0f i0) 0))) (fun (i0 : Nat) => (flO (atL (a0f i0) 1))) (fun (i0 : Nat) => (flO (atL (a0f i0) 2))) (fun (i0 : Nat) => (flO (atL (a0f i0) 3))))) := Eq.trans (show outB (evFnM Try.prog false menv53 [] [] 96 (Ann.two Ann.no (Ann.two Ann.no (Ann.two (Ann.two Ann.no (Ann.one (Ann.loop F_mass_sum_L0))) Ann.no))) Try.f34 [AV.view a0n 4 (fun (i : Nat) => mkN [Ck.f, Ck.f, Ck.f, Ck.f] (a0f i) 0), AV.func 35 [] []] []) = _ from e_mass_sum a0n (fun (i0 : Nat) => (flO (atL (a0f i0) 0))) (fun (i0 : Nat) => (flO (atL (a0f i0) 1))) (fun (i0 : Nat) => (flO (atL (a0f i0) 2))) (fun (i0 : Nat) => (flO (atL (a0f i0) 3)))) (by rw [(ob_mass_sum a0n (fun (i0 : Nat) => (flO (atL (a0f i0) 0))) (fun (i0 : Nat) => (flO (atL (a0f i0) 1))) (fun (i0 : Nat) => (flO (atL (a0f i0) 2))) (fun (i0 : Nat) => (flO (atL (a0f i0) 3))) ho2)])
    rw [n0] at this
    exact ⟨this, rfl⟩
  · cases h
noncomputable def c_mass_sum : SFM := fun args => match S_mass_sum args with | some (o, v) => some (o, v, []) | none => none
theorem c_mass_sum_ok : SOkM Try.prog false (34, c_mass_sum) := t_mass_sum
noncomputable def mss53 : List (FuncId × SFM) := (34, c_mass_sum) :: mss52
noncomputable def menv54 : EnvM := mkEnvM mxs mss53 mws2
theorem mss53_ok : All (SOkM Try.prog false) mss53 := All.cons c_mass_sum_ok mss52_ok
theorem menv54_ok : menv54.Ok Try.prog false := mkEnvM_ok mxs_ok mss53_ok mws2_ok
-- tumble/mass.Join$2
theorem ann_mass_Join_2 : FnOk Try.prog false 0 Try.f36 Ann.no := (fnNo _)
noncomputable def s_mass_Join_2_0 (a0 : Nat) (a1 : Nat) (a2 : Nat) (a3 : Nat) : Nat := (fmul a0 a2)
theorem e_mass_Join_2 (a0 : Nat) (a1 : Nat) (a2 : Nat) (a3 : Nat) : outB (evFnM Try.prog false menv54 [] [] 96 Ann.no Try.f36 [AV.agg [AV.float a0, AV.float a1, AV.float a2, AV.float a3]] []) = some (true, AV.float (s_mass_Join_2_0 a0 a1 a2 a3)) := by kernel_rfl
noncomputable def S_mass_Join_2 : List AV → Option (Ob × AV)
  | [AV.agg [AV.float a0, AV.float a1, AV.float a2, AV.float a3]] => some (Ob.tt, AV.float (s_mass_Join_2_0 a0 a1 a2 a3))
  | _ => none
theorem ob_mass_Join_2 (a0 : Nat) (a1 : Nat) (a2 : Nat) (a3 : Nat) : true = true := rfl
theorem t_mass_Join_2 : SOkM Try.prog false (36, fun args => match S_mass_Join_2 args with | some (o, v) => some (o, v, []) | none => none) := SOkM.flat (N := 96) menv54_ok Try.func36 ann_mass_Join_2 Try.call36 fun args o v h ho => by
  unfold S_mass_Join_2 at h
  split at h
  · rename_i a0 a1 a2 a3
    cases h
    have ho2 := ho
    have this : outB (evFnM Try.prog false menv54 [] [] 96 Ann.no Try.f36 [AV.agg [AV.float a0, AV.float a1, AV.float a2, AV.float a3]] []) = some (true, AV.float (s_mass_Join_2_0 a0 a1 a2 a3)) := Eq.trans (show outB (evFnM Try.prog false menv54 [] [] 96 Ann.no Try.f36 [AV.agg [AV.float a0, AV.float a1, AV.float a2, AV.float a3]] []) = _ from e_mass_Join_2 a0 a1 a2 a3) (by rw [(ob_mass_Join_2 a0 a1 a2 a3)])
    exact ⟨this, rfl⟩
  · cases h
noncomputable def c_mass_Join_2 : SFM := fun args => match S_mass_Join_2 args with | some (o, v) => some (o, v, []) | none => none
theorem c_mass_Join_2_ok : SOkM Try.prog false (36, c_mass_Join_2) := t_mass_Join_2
noncomputable def mss54 : List (FuncId × SFM) := (36, c_mass_Join_2) :: mss53
noncomputable def menv55 : EnvM := mkEnvM mxs mss54 mws2
theorem mss54_ok : All (SOkM Try.prog false) mss54 := All.cons c_mass_Join_2_ok mss53_ok
theorem menv55_ok : menv55.Ok Try.prog false := mkEnvM_ok mxs_ok mss54_ok mws2_ok
-- tumble/mass.sum
-- a loop of tumble/mass.sum
structure V_mass_sum_v1_L0 where
  v0 : Int
  v1 : (Nat → Nat)
def tpl_mass_sum_v1_L0 : List AV := [AV.top, AV.nul, AV.top, AV.top, AV.top, AV.nul, AV.top, AV.top, AV.top, AV.top, AV.top, AV.nul, AV.nul, AV.nul, AV.top, AV.top, AV.top, AV.top, AV.top, AV.top, AV.top, AV.top, AV.top, AV.top, AV.top, AV.top, AV.top]
def cts_mass_sum_v1_L0 : List CT := [CT.keep]
def phs_mass_sum_v1_L0 : List Src := []
def T_mass_sum_v1_L0 (c0 : Nat) (c1 : (Nat → Nat)) (c2 : (Nat → Nat)) (c3 : (Nat → Nat)) (c4 : (Nat → Nat)) (c5 : Int) (x : V_mass_sum_v1_L0) (F0 : Nat → List AV) (F1 : Nat → List AV) : List AV × Heap := ([AV.top, AV.func 36 [] [], AV.top, AV.top, AV.top, AV.lst 0 0 1 c0 c0, AV.top, AV.top, AV.top, AV.top, AV.top, AV.view c0 4 F0, AV.int .i64 c5, AV.int .i64 x.v0, AV.top, AV.top, AV.top, AV.top, AV.top, AV.top, AV.top, AV.top, AV.top, AV.top, AV.top, AV.top, AV.top], [⟨.sym c0 1 F1, 24, 0⟩])
def sh_mass_sum_v1_L0 (c0 : Nat) (c1 : (Nat → Nat)) (c2 : (Nat → Nat)) (c3 : (Nat → Nat)) (c4 : (Nat → Nat)) (c5 : Int) (x : V_mass_sum_v1_L0) : List AV × Heap := T_mass_sum_v1_L0 c0 c1 c2 c3 c4 c5 x (fun (j0 : Nat) => [AV.float (c1 j0), AV.float (c2 j0), AV.float (c3 j0), AV.float (c4 j0)]) (fun (j0 : Nat) => [AV.float (x.v1 j0)])
noncomputable def step_mass_sum_v1_L0 (c0 : Nat) (c1 : (Nat → Nat)) (c2 : (Nat → Nat)) (c3 : (Nat → Nat)) (c4 : (Nat → Nat)) (c5 : Int) (x : V_mass_sum_v1_L0) : V_mass_sum_v1_L0 := V_mass_sum_v1_L0.mk (IntKind.wrap .i64 (x.v0 + (1 : Int))) (fun (j0 : Nat) => (bif (Nat.beq j0 (Int.toNat x.v0)) then (s_mass_Join_2_0 (c1 (Int.toNat x.v0)) (c2 (Int.toNat x.v0)) (c3 (Int.toNat x.v0)) (c4 (Int.toNat x.v0))) else (x.v1 j0)))
noncomputable def go_mass_sum_v1_L0 (c0 : Nat) (c1 : (Nat → Nat)) (c2 : (Nat → Nat)) (c3 : (Nat → Nat)) (c4 : (Nat → Nat)) (c5 : Int) (x : V_mass_sum_v1_L0) : Bool := (bif (!(ilt x.v0 c5)) then false else true)
noncomputable def ok_mass_sum_v1_L0 (c0 : Nat) (c1 : (Nat → Nat)) (c2 : (Nat → Nat)) (c3 : (Nat → Nat)) (c4 : (Nat → Nat)) (c5 : Int) (x : V_mass_sum_v1_L0) : Bool := (mrgB (!(ilt x.v0 c5)) true ((Nat.blt (Int.toNat x.v0) c0) && (((ile (0 : Int) x.v0) && (Nat.blt (Int.toNat x.v0) c0)) && ((ile (0 : Int) x.v0) && (Nat.blt (Int.toNat x.v0) c0)))))
noncomputable def L_mass_sum_v1_L0 (c0 : Nat) (c1 : (Nat → Nat)) (c2 : (Nat → Nat)) (c3 : (Nat → Nat)) (c4 : (Nat → Nat)) (c5 : Int) (x : V_mass_sum_v1_L0) : V_mass_sum_v1_L0 := lastL (ok_mass_sum_v1_L0 c0 c1 c2 c3 c4 c5) (go_mass_sum_v1_L0 c0 c1 c2 c3 c4 c5) (step_mass_sum_v1_L0 c0 c1 c2 c3 c4 c5) x
noncomputable def E_mass_sum_v1_L0 (c0 : Nat) (c1 : (Nat → Nat)) (c2 : (Nat → Nat)) (c3 : (Nat → Nat)) (c4 : (Nat → Nat)) (c5 : Int) (x : V_mass_sum_v1_L0) : Bool := endsL (ok_mass_sum_v1_L0 c0 c1 c2 c3 c4 c5) (go_mass_sum_v1_L0 c0 c1 c2 c3 c4 c5) (step_mass_sum_v1_L0 c0 c1 c2 c3 c4 c5) x
theorem all_mass_sum_v1_L0 (c0 : Nat) (c1 : (Nat → Nat)) (c2 : (Nat → Nat)) (c3 : (Nat → Nat)) (c4 : (Nat → Nat)) (c5 : Int) (x : V_mass_sum_v1_L0) : rnd Try.prog false menv55 [] [] 96 Ann.no (subC [1, 1, 0, 1, 0, 0] (codeOf Try.f34)) 0 [⟨some 0, 0, 0, []⟩] tpl_mass_sum_v1_L0 cts_mass_sum_v1_L0 [true, false, true, true, true, false, true, true, true, true, true, false, false, true, true, true, true, true, true, true, true, true, true, true, true, true, true] [true] (sh_mass_sum_v1_L0 c0 c1 c2 c3 c4 c5 x) = (true, true, go_mass_sum_v1_L0 c0 c1 c2 c3 c4 c5 x, ok_mass_sum_v1_L0 c0 c1 c2 c3 c4 c5 x, true, sh_mass_sum_v1_L0 c0 c1 c2 c3 c4 c5 (step_mass_sum_v1_L0 c0 c1 c2 c3 c4 c5 x), true) := by kernel_rfl
noncomputable def fam_mass_sum_v1_L0 (c0 : Nat) (c1 : (Nat → Nat)) (c2 : (Nat → Nat)) (c3 : (Nat → Nat)) (c4 : (Nat → Nat)) (c5 : Int) : Fam Try.prog false menv55 [] [] 96 0 Ann.no (subC [1, 1, 0, 1, 0, 0] (codeOf Try.f34)) V_mass_sum_v1_L0 where
  sh := sh_mass_sum_v1_L0 c0 c1 c2 c3 c4 c5
  ok := ok_mass_sum_v1_L0 c0 c1 c2 c3 c4 c5
  go := go_mass_sum_v1_L0 c0 c1 c2 c3 c4 c5
  step := step_mass_sum_v1_L0 c0 c1 c2 c3 c4 c5
  chg := [true, false, true, true, true, false, true, true, true, true, true, false, false, true, true, true, true, true, true, true, true, true, true, true, true, true, true]
  chgH := [true]
  tpl := tpl_mass_sum_v1_L0
  cts := cts_mass_sum_v1_L0
  keep := 0
  srcs := [⟨some 0, 0, 0, []⟩]
  ann := (annNo (subC [1, 1, 0, 1, 0, 0] (codeOf Try.f34)))
  le := by kernel_rfl
  kept := by kernel_rfl
  keptB := by kernel_rfl
  all := all_mass_sum_v1_L0 c0 c1 c2 c3 c4 c5
  len := fun x => by kernel_rfl
  head := fun x y => by kernel_rfl
  con := fun x y => by kernel_rfl
  conH := fun x y => by kernel_rfl
noncomputable def F_mass_sum_v1_L0 : St → Option Ch := fun s => cond (Nat.beq s.tm.length 27 && Nat.beq s.H.length 1) (tkTops 1 (alL tpl_mass_sum_v1_L0 s.tm) fun t0 => tkCons t0 fun a1 t1 => tkFunc 36 a1 fun l2 l3 => tkNil l2 <| tkNil l3 <| tkTops 3 t1 fun t4 => tkCons t4 fun a5 t5 => tkLst 0 0 1 a5 fun s0 s1 => tkTops 5 t5 fun t6 => tkCons t6 fun a7 t7 => tkView 4 a7 fun s2 f0 => tkCons t7 fun a8 t8 => tkI .i64 a8 fun s7 => tkCons t8 fun a9 t9 => tkI .i64 a9 fun s8 => tkTops 13 t9 fun t10 => tkNil t10 <| tkCons (alH cts_mass_sum_v1_L0 (s.H ++ List.map phan phs_mass_sum_v1_L0)) fun b11 t11 => tkSym 24 0 1 b11 fun s9 f1 => tkNil t11 <| Fam.out (fam_mass_sum_v1_L0 s0 (fun (i : Nat) => flO (atL (f0 i) 0)) (fun (i : Nat) => flO (atL (f0 i) 1)) (fun (i : Nat) => flO (atL (f0 i) 2)) (fun (i : Nat) => flO (atL (f0 i) 3)) s7) s (((((allB fun (i : Nat) => isNrm [Ck.f, Ck.f, Ck.f, Ck.f] (f0 i)) && (allB fun (i : Nat) => isNrm [Ck.f] (f1 i))) && (eqT s1 s0)) && (eqT s2 s0)) && (eqT s9 s0)) (V_mass_sum_v1_L0.mk s8 (fun (i : Nat) => flO (atL (f1 i) 0)))) none
theorem F_mass_sum_v1_L0_ok : ∀ s ch, F_mass_sum_v1_L0 s = some ch → AllI s ch ∧ LoopSpec Try.prog false 0 (subC [1, 1, 0, 1, 0, 0] (codeOf Try.f34)) s (sel ch) := by
  intro s ch h
  unfold F_mass_sum_v1_L0 at h
  obtain ⟨hl, h0⟩ := cond_some h rfl
  clear h
  obtain ⟨hl, hb⟩ := and_beq2 hl
  obtain ⟨t0, e0, h1⟩ := tkTops_some h0
  obtain ⟨a1, t1, rfl, h2⟩ := tkCons_some h1
  obtain ⟨l2, l3, rfl, h3⟩ := tkFunc_some h2
  obtain ⟨rfl, h4⟩ := tkNil_some h3
  obtain ⟨rfl, h5⟩ := tkNil_some h4
  obtain ⟨t4, rfl, h6⟩ := tkTops_some h5
  obtain ⟨a5, t5, rfl, h7⟩ := tkCons_some h6
  obtain ⟨s0, s1, rfl, h8⟩ := tkLst_some h7
  obtain ⟨t6, rfl, h9⟩ := tkTops_some h8
  obtain ⟨a7, t7, rfl, h10⟩ := tkCons_some h9
  obtain ⟨s2, f0, rfl, h11⟩ := tkView_some h10
  obtain ⟨a8, t8, rfl, h12⟩ := tkCons_some h11
  obtain ⟨s7, rfl, h13⟩ := tkI_some h12
  obtain ⟨a9, t9, rfl, h14⟩ := tkCons_some h13
  obtain ⟨s8, rfl, h15⟩ := tkI_some h14
  obtain ⟨t10, rfl, h16⟩ := tkTops_some h15
  obtain ⟨rfl, h17⟩ := tkNil_some h16
  obtain ⟨b11, t11, eH, h18⟩ := tkCons_some h17
  obtain ⟨s9, f1, rfl, h19⟩ := tkSym_some h18
  obtain ⟨rfl, h20⟩ := tkNil_some h19
  refine Fam.spec menv55_ok (fam_mass_sum_v1_L0 s0 (fun (i : Nat) => flO (atL (f0 i) 0)) (fun (i : Nat) => flO (atL (f0 i) 1)) (fun (i : Nat) => flO (atL (f0 i) 2)) (fun (i : Nat) => flO (atL (f0 i) 3)) s7) (phs := phs_mass_sum_v1_L0) (hl.trans (by kernel_rfl)) (hb.trans (by kernel_rfl)) ?_ ?_ h20
  · rw [← hdr_alH cts_mass_sum_v1_L0 (s.H ++ List.map phan phs_mass_sum_v1_L0), eH]; kernel_rfl
  · intro hq
    simp only [Bool.and_eq_true] at hq
    obtain ⟨⟨⟨⟨hq0, hq1⟩, hq2⟩, hq3⟩, hq4⟩ := hq
    have n0 := nrm_fun hq0
    have n1 := nrm_fun hq1
    have hx := eqT_eq hq2; subst s1
    have hx := eqT_eq hq3; subst s2
    have hx := eqT_eq hq4; subst s9
    show sh_mass_sum_v1_L0 s0 (fun (i : Nat) => flO (atL (f0 i) 0)) (fun (i : Nat) => flO (atL (f0 i) 1)) (fun (i : Nat) => flO (atL (f0 i) 2)) (fun (i : Nat) => flO (atL (f0 i) 3)) s7 (V_mass_sum_v1_L0.mk s8 (fun (i : Nat) => flO (atL (f1 i) 0))) = (alL tpl_mass_sum_v1_L0 s.tm, alH cts_mass_sum_v1_L0 (s.H ++ List.map phan phs_mass_sum_v1_L0))
    rw [e0, eH]
    refine Eq.trans (show sh_mass_sum_v1_L0 s0 (fun (i : Nat) => flO (atL (f0 i) 0)) (fun (i : Nat) => flO (atL (f0 i) 1)) (fun (i : Nat) => flO (atL (f0 i) 2)) (fun (i : Nat) => flO (atL (f0 i) 3)) s7 (V_mass_sum_v1_L0.mk s8 (fun (i : Nat) => flO (atL (f1 i) 0))) = T_mass_sum_v1_L0 s0 (fun (i : Nat) => flO (atL (f0 i) 0)) (fun (i : Nat) => flO (atL (f0 i) 1)) (fun (i : Nat) => flO (atL (f0 i) 2)) (fun (i : Nat) => flO (atL (f0 i) 3)) s7 (V_mass_sum_v1_L0.mk s8 (fun (i : Nat) => flO (atL (f1 i) 0))) (fun (i : Nat) => mkN [Ck.f, Ck.f, Ck.f, Ck.f] (f0 i) 0) (fun (i : Nat) => mkN [Ck.f] (f1 i) 0) by kernel_rfl) ?_
    rw [n0, n1]
    kernel_rfl
theorem ann_mass_sum_v1 : FnOk Try.prog false 0 Try.f34 (Ann.two Ann.no (Ann.two Ann.no (Ann.two (Ann.two Ann.no (Ann.one (Ann.loop F_mass_sum_v1_L0))) Ann.no))) := (fnOk_of (c := codeOf Try.f34) (by kernel_rfl) (annSeq (a := (subC [0] (codeOf Try.f34))) (b := (subC [1] (codeOf Try.f34))) (by kernel_rfl) (annNo (subC [0] (codeOf Try.f34))) (annSeq (a := (subC [1, 0] (codeOf Try.f34))) (b := (subC [1, 1] (codeOf Try.f34))) (by kernel_rfl) (annNo (subC [1, 0] (codeOf Try.f34))) (annSeq (a := (subC [1, 1, 0] (codeOf Try.f34))) (b := (subC [1, 1, 1] (codeOf Try.f34))) (by kernel_rfl) (annSeq (a := (subC [1, 1, 0, 0] (codeOf Try.f34))) (b := (subC [1, 1, 0, 1] (codeOf Try.f34))) (by kernel_rfl) (annNo (subC [1, 1, 0, 0] (codeOf Try.f34))) (annBlock (a := (subC [1, 1, 0, 1, 0] (codeOf Try.f34))) (i := 0) (by kernel_rfl) (annLoop (a := (subC [1, 1, 0, 1, 0, 0] (codeOf Try.f34))) (by kernel_rfl) F_mass_sum_v1_L0_ok))) (annNo (subC [1, 1, 1] (codeOf Try.f34)))))))
noncomputable def s_mass_sum_v1_0 (a0n : Nat) (a0_0 : Nat → Nat) (a0_1 : Nat → Nat) (a0_2 : Nat → Nat) (a0_3 : Nat → Nat) : Nat := (s_num_Sum_0 a0n ((L_mass_sum_v1_L0 a0n a0_0 a0_1 a0_2 a0_3 (Int.ofNat a0n) (V_mass_sum_v1_L0.mk (0 : Int) (fun (j0 : Nat) => 0))).v1))
theorem e_mass_sum_v1 (a0n : Nat) (a0_0 : Nat → Nat) (a0_1 : Nat → Nat) (a0_2 : Nat → Nat) (a0_3 : Nat → Nat) : outB (evFnM Try.prog false menv55 [] [] 96 (Ann.two Ann.no (Ann.two Ann.no (Ann.two (Ann.two Ann.no (Ann.one (Ann.loop F_mass_sum_v1_L0))) Ann.no))) Try.f34 [AV.view a0n 4 (fun (i0 : Nat) => [AV.float (a0_0 i0), AV.float (a0_1 i0), AV.float (a0_2 i0), AV.float (a0_3 i0)]), AV.func 36 [] []] []) = some ((((Nat.ble a0n a0n) && ((allB fun _ => true) && (o_num_Sum a0n ((L_mass_sum_v1_L0 a0n a0_0 a0_1 a0_2 a0_3 (Int.ofNat a0n) (V_mass_sum_v1_L0.mk (0 : Int) (fun (j0 : Nat) => 0))).v1)))) && (((ile (Int.ofNat a0n) (Int.ofNat a0n)) && ((ile ((8 : Int) * (Int.ofNat a0n)) (281474976710656 : Int)) && (ile (Int.ofNat a0n) (9223372036854775807 : Int)))) && ((((((allB fun _ => true) && (allB fun _ => true)) && (eqT a0n a0n)) && (eqT a0n a0n)) && (eqT a0n a0n)) && (E_mass_sum_v1_L0 a0n a0_0 a0_1 a0_2 a0_3 (Int.ofNat a0n) (V_mass_sum_v1_L0.mk (0 : Int) (fun (j0 : Nat) => 0)))))), AV.float (s_mass_sum_v1_0 a0n a0_0 a0_1 a0_2 a0_3)) := by kernel_rfl
noncomputable def o_mass_sum_v1 (a0n : Nat) (a0_0 : Nat → Nat) (a0_1 : Nat → Nat) (a0_2 : Nat → Nat) (a0_3 : Nat → Nat) : Bool := (((Nat.ble a0n a0n) && (o_num_Sum a0n ((L_mass_sum_v1_L0 a0n a0_0 a0_1 a0_2 a0_3 (Int.ofNat a0n) (V_mass_sum_v1_L0.mk (0 : Int) (fun (j0 : Nat) => 0))).v1))) && (((ile (Int.ofNat a0n) (Int.ofNat a0n)) && ((ile ((8 : Int) * (Int.ofNat a0n)) (281474976710656 : Int)) && (ile (Int.ofNat a0n) (9223372036854775807 : Int)))) && (E_mass_sum_v1_L0 a0n a0_0 a0_1 a0_2 a0_3 (Int.ofNat a0n) (V_mass_sum_v1_L0.mk (0 : Int) (fun (j0 : Nat) => 0)))))
noncomputable def S_mass_sum_v1 : List AV → Option (Ob × AV)
  | [AV.view a0n 4 a0f, AV.func 36 [] []] => some (Ob.both (Ob.bit (allB fun (i : Nat) => isNrm [Ck.f, Ck.f, Ck.f, Ck.f] (a0f i))) (Ob.bit (o_mass_sum_v1 a0n (fun (i0 : Nat) => (flO (atL (a0f i0) 0))) (fun (i0 : Nat) => (flO (atL (a0f i0) 1))) (fun (i0 : Nat) => (flO (atL (a0f i0) 2))) (fun (i0 : Nat) => (flO (atL (a0f i0) 3))))), AV.float (s_mass_sum_v1_0 a0n (fun (i0 : Nat) => (flO (atL (a0f i0) 0))) (fun (i0 : Nat) => (flO (atL (a0f i0) 1))) (fun (i0 : Nat) => (flO (atL (a0f i0) 2))) (fun (i0 : Nat) => (flO (atL (a0f i0) 3)))))
  | _ => none
theorem ob_mass_sum_v1 (a0n : Nat) (a0_0 : Nat → Nat) (a0_1 : Nat → Nat) (a0_2 : Nat → Nat) (a0_3 : Nat → Nat) (ho : o_mass_sum_v1 a0n a0_0 a0_1 a0_2 a0_3 = true) : (((Nat.ble a0n a0n) && ((allB fun _ => true) && (o_num_Sum a0n ((L_mass_sum_v1_L0 a0n a0_0 a0_1 a0_2 a0_3 (Int.ofNat a0n) (V_mass_sum_v1_L0.mk (0 : Int) (fun (j0 : Nat) => 0))).v1)))) && (((ile (Int.ofNat a0n) (Int.ofNat a0n)) && ((ile ((8 : Int) * (Int.ofNat a0n)) (281474976710656 : Int)) && (ile (Int.ofNat a0n) (9223372036854775807 : Int)))) && ((((((allB fun _ => true) && (allB fun _ => true)) && (eqT a0n a0n)) && (eqT a0n a0n)) && (eqT a0n a0n)) && (E_mass_sum_v1_L0 a0n a0_0 a0_1 a0_2 a0_3 (Int.ofNat a0n) (V_mass_sum_v1_L0.mk (0 : Int) (fun (j0 : Nat) => 0)))))) = true := by
  unfold o_mass_sum_v1 at ho
  simp only [allB_true, eqT_self, mrgB_self, Bool.true_and, Bool.and_true] at ho ⊢
  exact ho
theorem t_mass_sum_v1 : SOkM Try.prog false (34, fun args => match S_mass_sum_v1 args with | some (o, v) => some (o, v, []) | none => none) := SOkM.flat (N := 96) menv55_ok Try.func34 ann_mass_sum_v1 Try.call34 fun args o v h ho => by
  unfold S_mass_sum_v1 at h
  split at h
  · rename_i a0n a0f
    cases h
    rw [Ob.both_ok, Bool.and_eq_true] at ho
    obtain ⟨hn, ho2⟩ := ho
    have n0 := hn
    simp only [Ob.ok] at n0
    replace n0 := nrm_fun n0
    have this : outB (evFnM Try.prog false menv55 [] [] 96 (Ann.two Ann.no (Ann.two Ann.no (Ann.two (Ann.two Ann.no (Ann.one (Ann.loop F_mass_sum_v1_L0))) Ann.no))) Try.f34 [AV.view a0n 4 (fun (i : Nat) => mkN [Ck.f, Ck.f, Ck.f, Ck.f] (a0f i) 0), AV.func 36 [] []] []) = some (true, AV.float (s_mass_sum_v1_0 a0n (fun (i0 : Nat) => (flO (atL (a0f i0) 0))) (fun (i0 : Nat) => (flO (atL (a0f i0) 1))) (fun (i0 : Nat) => (flO (atL (a0f i0) 2))) (fun (i0 : Nat) => (flO (atL (a0f i0) 3))))) := Eq.trans (show outB (evFnM Try.prog false menv55 [] [] 96 (Ann.two Ann.no (Ann.two Ann.no (Ann.two (Ann.two Ann.no (Ann.one (Ann.loop F_mass_sum_v1_L0))) Ann.no))) Try.f34 [AV.view a0n 4 (fun (i : Nat) => mkN [Ck.f, Ck.f, Ck.f, Ck.f] (a0f i) 0), AV.func 36 [] []] []) = _ from e_mass_sum_v1 a0n (fun (i0 : Nat) => (flO (atL (a0f i0) 0))) (fun (i0 : Nat) => (flO (atL (a0f i0) 1))) (fun (i0 : Nat) => (flO (atL (a0f i0) 2))) (fun (i0 : Nat) => (flO (atL (a0f i0) 3)))) (by rw [(ob_mass_sum_v1 a0n (fun (i0 : Nat) => (flO (atL (a0f i0) 0))) (fun (i0 : Nat) => (flO (atL (a0f i0) 1))) (fun (i0 : Nat) => (flO (atL (a0f i0) 2))) (fun (i0 : Nat) => (flO (atL (a0f i0) 3))) ho2)])
    rw [n0] at this
    exact ⟨this, rfl⟩
  · cases h
noncomputable def c_mass_sum_v1 : SFM := altS (fun args => match S_mass_sum_v1 args with | some (o, v) => some (o, v, []) | none => none) (c_mass_sum)
theorem c_mass_sum_v1_ok : SOkM Try.prog false (34, c_mass_sum_v1) := (SOkM.alt t_mass_sum_v1 c_mass_sum_ok)
noncomputable def mss55 : List (FuncId × SFM) := (34, c_mass_sum_v1) :: mss54
noncomputable def menv56 : EnvM := mkEnvM mxs mss55 mws2
theorem mss55_ok : All (SOkM Try.prog false) mss55 := All.cons c_mass_sum_v1_ok mss54_ok
theorem menv56_ok : menv56.Ok Try.prog false := mkEnvM_ok mxs_ok mss55_ok mws2_ok
-- tumble/mass.Join$3
theorem ann_mass_Join_3 : FnOk Try.prog false 0 Try.f37 Ann.no := (fnNo _)
noncomputable def s_mass_Join_3_0 (a0 : Nat) (a1 : Nat) (a2 : Nat) (a3 : Nat) : Nat := (fmul a0 a3)
theorem e_mass_Join_3 (a0 : Nat) (a1 : Nat) (a2 : Nat) (a3 : Nat) : outB (evFnM Try.prog false menv56 [] [] 96 Ann.no Try.f37 [AV.agg [AV.float a0, AV.float a1, AV.float a2, AV.float a3]] []) = some (true, AV.float (s_mass_Join_3_0 a0 a1 a2 a3)) := by kernel_rfl
noncomputable def S_mass_Join_3 : List AV → Option (Ob × AV)
  | [AV.agg [AV.float a0, AV.float a1, AV.float a2, AV.float a3]] => some (Ob.tt, AV.float (s_mass_Join_3_0 a0 a1 a2 a3))
  | _ => none
theorem ob_mass_Join_3 (a0 : Nat) (a1 : Nat) (a2 : Nat) (a3 : Nat) : true = true := rfl
theorem t_mass_Join_3 : SOkM Try.prog false (37, fun args => match S_mass_Join_3 args with | some (o, v) => some (o, v, []) | none => none) := SOkM.flat (N := 96) menv56_ok Try.func37 ann_mass_Join_3 Try.call37 fun args o v h ho => by
  unfold S_mass_Join_3 at h
  split at h
  · rename_i a0 a1 a2 a3
    cases h
    have ho2 := ho
    have this : outB (evFnM Try.prog false menv56 [] [] 96 Ann.no Try.f37 [AV.agg [AV.float a0, AV.float a1, AV.float a2, AV.float a3]] []) = some (true, AV.float (s_mass_Join_3_0 a0 a1 a2 a3)) := Eq.trans (show outB (evFnM Try.prog false menv56 [] [] 96 Ann.no Try.f37 [AV.agg [AV.float a0, AV.float a1, AV.float a2, AV.float a3]] []) = _ from e_mass_Join_3 a0 a1 a2 a3) (by rw [(ob_mass_Join_3 a0 a1 a2 a3)])
    exact ⟨this, rfl⟩
  · cases h
noncomputable def c_mass_Join_3 : SFM := fun args => match S_mass_Join_3 args with | some (o, v) => some (o, v, []) | none => none
theorem c_mass_Join_3_ok : SOkM Try.prog false (37, c_mass_Join_3) := t_mass_Join_3
noncomputable def mss56 : List (FuncId × SFM) := (37, c_mass_Join_3) :: mss55
noncomputable def menv57 : EnvM := mkEnvM mxs mss56 mws2
theorem mss56_ok : All (SOkM Try.prog false) mss56 := All.cons c_mass_Join_3_ok mss55_ok
theorem menv57_ok : menv57.Ok Try.prog false := mkEnvM_ok mxs_ok mss56_ok mws2_ok
-- tumble/mass.sum
-- a loop of tumble/mass.sum
structure V_mass_sum_v2_L0 where
  v0 : Int
  v1 : (Nat → Nat)
def tpl_mass_sum_v2_L0 : List AV := [AV.top, AV.nul, AV.top, AV.top, AV.top, AV.nul, AV.top, AV.top, AV.top, AV.top, AV.top, AV.nul, AV.nul, AV.nul, AV.top, AV.top, AV.top, AV.top, AV.top, AV.top, AV.top, AV.top, AV.top, AV.top, AV.top, AV.top, AV.top]
def cts_mass_sum_v2_L0 : List CT := [CT.keep]
def phs_mass_sum_v2_L0 : List Src := []
def T_mass_sum_v2_L0 (c0 : Nat) (c1 : (Nat → Nat)) (c2 : (Nat → Nat)) (c3 : (Nat → Nat)) (c4 : (Nat → Nat)) (c5 : Int) (x : V_mass_sum_v2_L0) (F0 : Nat → List AV) (F1 : Nat → List AV) : List AV × Heap := ([AV.top, AV.func 37 [] [], AV.top, AV.top, AV.top, AV.lst 0 0 1 c0 c0, AV.top, AV.top, AV.top, AV.top, AV.top, AV.view c0 4 F0, AV.int .i64 c5, AV.int .i64 x.v0, AV.top, AV.top, AV.top, AV.top, AV.top, AV.top, AV.top, AV.top, AV.top, AV.top, AV.top, AV.top, AV.top], [⟨.sym c0 1 F1, 24, 0⟩])
def sh_mass_sum_v2_L0 (c0 : Nat) (c1 : (Nat → Nat)) (c2 : (Nat → Nat)) (c3 : (Nat → Nat)) (c4 : (Nat → Nat)) (c5 : Int) (x : V_mass_sum_v2_L0) : List AV × Heap := T_mass_sum_v2_L0 c0 c1 c2 c3 c4 c5 x (fun (j0 : Nat) => [AV.float (c1 j0), AV.float (c2 j0), AV.float (c3 j0), AV.float (c4 j0)]) (fun (j0 : Nat) => [AV.float (x.v1 j0)])
noncomputable def step_mass_sum_v2_L0 (c0 : Nat) (c1 : (Nat → Nat)) (c2 : (Nat → Nat)) (c3 : (Nat → Nat)) (c4 : (Nat → Nat)) (c5 : Int) (x : V_mass_sum_v2_L0) : V_mass_sum_v2_L0 := V_mass_sum_v2_L0.mk (IntKind.wrap .i64 (x.v0 + (1 : Int))) (fun (j0 : Nat) => (bif (Nat.beq j0 (Int.toNat x.v0)) then (s_mass_Join_3_0 (c1 (Int.toNat x.v0)) (c2 (Int.toNat x.v0)) (c3 (Int.toNat x.v0)) (c4 (Int.toNat x.v0))) else (x.v1 j0)))
noncomputable def go_mass_sum_v2_L0 (c0 : Nat) (c1 : (Nat → Nat)) (c2 : (Nat → Nat)) (c3 : (Nat → Nat)) (c4 : (Nat → Nat)) (c5 : Int) (x : V_mass_sum_v2_L0) : Bool := (bif (!(ilt x.v0 c5)) then false else true)
noncomputable def ok_mass_sum_v2_L0 (c0 : Nat) (c1 : (Nat → Nat)) (c2 : (Nat → Nat)) (c3 : (Nat → Nat)) (c4 : (Nat → Nat)) (c5 : Int) (x : V_mass_sum_v2_L0) : Bool := (mrgB (!(ilt x.v0 c5)) true ((Nat.blt (Int.toNat x.v0) c0) && (((ile (0 : Int) x.v0) && (Nat.blt (Int.toNat x.v0) c0)) && ((ile (0 : Int) x.v0) && (Nat.blt (Int.toNat x.v0) c0)))))
noncomputable def L_mass_sum_v2_L0 (c0 : Nat) (c1 : (Nat → Nat)) (c2 : (Nat → Nat)) (c3 : (Nat → Nat)) (c4 : (Nat → Nat)) (c5 : Int) (x : V_mass_sum_v2_L0) : V_mass_sum_v2_L0 := lastL (ok_mass_sum_v2_L0 c0 c1 c2 c3 c4 c5) (go_mass_sum_v2_L0 c0 c1 c2 c3 c4 c5) (step_mass_sum_v2_L0 c0 c1 c2 c3 c4 c5) x
noncomputable def E_mass_sum_v2_L0 (c0 : Nat) (c1 : (Nat → Nat)) (c2 : (Nat → Nat)) (c3 : (Nat → Nat)) (c4 : (Nat → Nat)) (c5 : Int) (x : V_mass_sum_v2_L0) : Bool := endsL (ok_mass_sum_v2_L0 c0 c1 c2 c3 c4 c5) (go_mass_sum_v2_L0 c0 c1 c2 c3 c4 c5) (step_mass_sum_v2_L0 c0 c1 c2 c3 c4 c5) x
theorem all_mass_sum_v2_L0 (c0 : Nat) (c1 : (Nat → Nat)) (c2 : (Nat → Nat)) (c3 : (Nat → Nat)) (c4 : (Nat → Nat)) (c5 : Int) (x : V_mass_sum_v2_L0) : rnd Try.prog false menv57 [] [] 96 Ann.no (subC [1, 1, 0, 1, 0, 0] (codeOf Try.f34)) 0 [⟨some 0, 0, 0, []⟩] tpl_mass_sum_v2_L0 cts_mass_sum_v2_L0 [true, false, true, true, true, false, true, true, true, true, true, false, false, true, true, true, true, true, true, true, true, true, true, true, true, true, true] [true] (sh_mass_sum_v2_L0 c0 c1 c2 c3 c4 c5 x) = (true, true, go_mass_sum_v2_L0 c0 c1 c2 c3 c4 c5 x, ok_mass_sum_v2_L0 c0 c1 c2 c3 c4 c5 x, true, sh_mass_sum_v2_L0 c0 c1 c2 c3 c4 c5 (step_mass_sum_v2_L0 c0 c1 c2 c3 c4 c5 x), true) := by kernel_rfl
noncomputable def fam_mass_sum_v2_L0 (c0 : Nat) (c1 : (Nat → Nat)) (c2 : (Nat → Nat)) (c3 : (Nat → Nat)) (c4 : (Nat → Nat)) (c5 : Int) : Fam Try.prog false menv57 [] [] 96 0 Ann.no (subC [1, 1, 0, 1, 0, 0] (codeOf Try.f34)) V_mass_sum_v2_L0 where
  sh := sh_mass_sum_v2_L0 c0 c1 c2 c3 c4 c5
  ok := ok_mass_sum_v2_L0 c0 c1 c2 c3 c4 c5
  go := go_mass_sum_v2_L0 c0 c1 c2 c3 c4 c5
  step := step_mass_sum_v2_L0 c0 c1 c2 c3 c4 c5
  chg := [true, false, true, true, true, false, true, true, true, true, true, false, false, true, true, true, true, true, true, true, true, true, true, true, true, true, true]
  chgH := [true]
  tpl := tpl_mass_sum_v2_L0
  cts := cts_mass_sum_v2_L0
  keep := 0
  srcs := [⟨some 0, 0, 0, []⟩]
  ann := (annNo (subC [1, 1, 0, 1, 0, 0] (codeOf Try.f34)))
  le := by kernel_rfl
  kept := by kernel_rfl
  keptB := by kernel_rfl
  all := all_mass_sum_v2_L0 c0 c1 c2 c3 c4 c5
  len := fun x => by kernel_rfl
  head := fun x y => by kernel_rfl
  con := fun x y => by kernel_rfl
  conH := fun x y => by kernel_rfl
noncomputable def F_mass_sum_v2_L0 : St → Option Ch := fun s => cond (Nat.beq s.tm.length 27 && Nat.beq s.H.length 1) (tkTops 1 (alL tpl_mass_sum_v2_L0 s.tm) fun t0 => tkCons t0 fun a1 t1 => tkFunc 37 a1 fun l2 l3 => tkNil l2 <| tkNil l3 <| tkTops 3 t1 fun t4 => tkCons t4 fun a5 t5 => tkLst 0 0 1 a5 fun s0 s1 => tkTops 5 t5 fun t6 => tkCons t6 fun a7 t7 => tkView 4 a7 fun s2 f0 => tkCons t7 fun a8 t8 => tkI .i64 a8 fun s7 => tkCons t8 fun a9 t9 => tkI .i64 a9 fun s8 => tkTops 13 t9 fun t10 => tkNil t10 <| tkCons (alH cts_mass_sum_v2_L0 (s.H ++ List.map phan phs_mass_sum_v2_L0)) fun b11 t11 => tkSym 24 0 1 b11 fun s9 f1 => tkNil t11 <| Fam.out (fam_mass_sum_v2_L0 s0 (fun (i : Nat) => flO (atL (f0 i) 0)) (fun (i : Nat) => flO (atL (f0 i) 1)) (fun (i : Nat) => flO (atL (f0 i) 2)) (fun (i : Nat) => flO (atL (f0 i) 3)) s7) s (((((allB fun (i : Nat) => isNrm [Ck.f, Ck.f, Ck.f, Ck.f] (f0 i)) && (allB fun (i : Nat) => isNrm [Ck.f] (f1 i))) && (eqT s1 s0)) && (eqT s2 s0)) && (eqT s9 s0)) (V_mass_sum_v2_L0.mk s8 (fun (i : Nat) => flO (atL (f1 i) 0)))) none
theorem F_mass_sum_v2_L0_ok : ∀ s ch, F_mass_sum_v2_L0 s = some ch → AllI s ch ∧ LoopSpec Try.prog false 0 (subC [1, 1, 0, 1, 0, 0] (codeOf Try.f34)) s (sel ch) := by
  intro s ch h
  unfold F_mass_sum_v2_L0 at h
  obtain ⟨hl, h0⟩ := cond_some h rfl
  clear h
  obtain ⟨hl, hb⟩ := and_beq2 hl
  obtain ⟨t0, e0, h1⟩ := tkTops_some h0
  obtain ⟨a1, t1, rfl, h2⟩ := tkCons_some h1
  obtain ⟨l2, l3, rfl, h3⟩ := tkFunc_some h2
  obtain ⟨rfl, h4⟩ := tkNil_some h3
  obtain ⟨rfl, h5⟩ := tkNil_some h4
  obtain ⟨t4, rfl, h6⟩ := tkTops_some h5
  obtain ⟨a5, t5, rfl, h7⟩ := tkCons_some h6
  obtain ⟨s0, s1, rfl, h8⟩ := tkLst_some h7
  obtain ⟨t6, rfl, h9⟩ := tkTops_some h8
  obtain ⟨a7, t7, rfl, h10⟩ := tkCons_some h9
  obtain ⟨s2, f0, rfl, h11⟩ := tkView_some h10
  obtain ⟨a8, t8, rfl, h12⟩ := tkCons_some h11
  obtain ⟨s7, rfl, h13⟩ := tkI_some h12
  obtain ⟨a9, t9, rfl, h14⟩ := tkCons_some h13
  obtain ⟨s8, rfl, h15⟩ := tkI_some h14
  obtain ⟨t10, rfl, h16⟩ := tkTops_some h15
  obtain ⟨rfl, h17⟩ := tkNil_some h16
  obtain ⟨b11, t11, eH, h18⟩ := tkCons_some h17
  obtain ⟨s9, f1, rfl, h19⟩ := tkSym_some h18
  obtain ⟨rfl, h20⟩ := tkNil_some h19
  refine Fam.spec menv57_ok (fam_mass_sum_v2_L0 s0 (fun (i : Nat) => flO (atL (f0 i) 0)) (fun (i : Nat) => flO (atL (f0 i) 1)) (fun (i : Nat) => flO (atL (f0 i) 2)) (fun (i : Nat) => flO (atL (f0 i) 3)) s7) (phs := phs_mass_sum_v2_L0) (hl.trans (by kernel_rfl)) (hb.trans (by kernel_rfl)) ?_ ?_ h20
  · rw [← hdr_alH cts_mass_sum_v2_L0 (s.H ++ List.map phan phs_mass_sum_v2_L0), eH]; kernel_rfl
  · intro hq
    simp only [Bool.and_eq_true] at hq
    obtain ⟨⟨⟨⟨hq0, hq1⟩, hq2⟩, hq3⟩, hq4⟩ := hq
    have n0 := nrm_fun hq0
    have n1 := nrm_fun hq1
    have hx := eqT_eq hq2; subst s1
    have hx := eqT_eq hq3; subst s2
    have hx := eqT_eq hq4; subst s9
    show sh_mass_sum_v2_L0 s0 (fun (i : Nat) => flO (atL (f0 i) 0)) (fun (i : Nat) => flO (atL (f0 i) 1)) (fun (i : Nat) => flO (atL (f0 i) 2)) (fun (i : Nat) => flO (atL (f0 i) 3)) s7 (V_mass_sum_v2_L0.mk s8 (fun (i : Nat) => flO (atL (f1 i) 0))) = (alL tpl_mass_sum_v2_L0 s.tm, alH cts_mass_sum_v2_L0 (s.H ++ List.map phan phs_mass_sum_v2_L0))
    rw [e0, eH]
    refine Eq.trans (show sh_mass_sum_v2_L0 s0 (fun (i : Nat) => flO (atL (f0 i) 0)) (fun (i : Nat) => flO (atL (f0 i) 1)) (fun (i : Nat) => flO (atL (f0 i) 2)) (fun (i : Nat) => flO (atL (f0 i) 3)) s7 (V_mass_sum_v2_L0.mk s8 (fun (i : Nat) => flO (atL (f1 i) 0))) = T_mass_sum_v2_L0 s0 (fun (i : Nat) => flO (atL (f0 i) 0)) (fun (i : Nat) => flO (atL (f0 i) 1)) (fun (i : Nat) => flO (atL (f0 i) 2)) (fun (i : Nat) => flO (atL (f0 i) 3)) s7 (V_mass_sum_v2_L0.mk s8 (fun (i : Nat) => flO (atL (f1 i) 0))) (fun (i : Nat) => mkN [Ck.f, Ck.f, Ck.f, Ck.f] (f0 i) 0) (fun (i : Nat) => mkN [Ck.f] (f1 i) 0) by kernel_rfl) ?_
    rw [n0, n1]
    kernel_rfl
theorem ann_mass_sum_v2 : FnOk Try.prog false 0 Try.f34 (Ann.two Ann.no (Ann.two Ann.no (Ann.two (Ann.two Ann.no (Ann.one (Ann.loop F_mass_sum_v2_L0))) Ann.no))) := (fnOk_of (c := codeOf Try.f34) (by kernel_rfl) (annSeq (a := (subC [0] (codeOf Try.f34))) (b := (subC [1] (codeOf Try.f34))) (by kernel_rfl) (annNo (subC [0] (codeOf Try.f34))) (annSeq (a := (subC [1, 0] (codeOf Try.f34))) (b := (subC [1, 1] (codeOf Try.f34))) (by kernel_rfl) (annNo (subC [1, 0] (codeOf Try.f34))) (annSeq (a := (subC [1, 1, 0] (codeOf Try.f34))) (b := (subC [1, 1, 1] (codeOf Try.f34))) (by kernel_rfl) (annSeq (a := (subC [1, 1, 0, 0] (codeOf Try.f34))) (b := (subC [1, 1, 0, 1] (codeOf Try.f34))) (by kernel_rfl) (annNo (subC [1, 1, 0, 0] (codeOf Try.f34))) (annBlock (a := (subC [1, 1, 0, 1, 0] (codeOf Try.f34))) (i := 0) (by kernel_rfl) (annLoop (a := (subC [1, 1, 0, 1, 0, 0] (codeOf Try.f34))) (by kernel_rfl) F_mass_sum_v2_L0_ok))) (annNo (subC [1, 1, 1] (codeOf Try.f34)))))))
noncomputable def s_mass_sum_v2_0 (a0n : Nat) (a0_0 : Nat → Nat) (a0_1 : Nat → Nat) (a0_2 : Nat → Nat) (a0_3 : Nat → Nat) : Nat := (s_num_Sum_0 a0n ((L_mass_sum_v2_L0 a0n a0_0 a0_1 a0_2 a0_3 (Int.ofNat a0n) (V_mass_sum_v2_L0.mk (0 : Int) (fun (j0 : Nat) => 0))).v1))
theorem e_mass_sum_v2 (a0n : Nat) (a0_0 : Nat → Nat) (a0_1 : Nat → Nat) (a0_2 : Nat → Nat) (a0_3 : Nat → Nat) : outB (evFnM Try.prog false menv57 [] [] 96 (Ann.two Ann.no (Ann.two Ann.no (Ann.two (Ann.two Ann.no (Ann.one (Ann.loop F_mass_sum_v2_L0))) Ann.no))) Try.f34 [AV.view a0n 4 (fun (i0 : Nat) => [AV.float (a0_0 i0), AV.float (a0_1 i0), AV.float (a0_2 i0), AV.float (a0_3 i0)]), AV.func 37 [] []] []) = some ((((Nat.ble a0n a0n) && ((allB fun _ => true) && (o_num_Sum a0n ((L_mass_sum_v2_L0 a0n a0_0 a0_1 a0_2 a0_3 (Int.ofNat a0n) (V_mass_sum_v2_L0.mk (0 : Int) (fun (j0 : Nat) => 0))).v1)))) && (((ile (Int.ofNat a0n) (Int.ofNat a0n)) && ((ile ((8 : Int) * (Int.ofNat a0n)) (281474976710656 : Int)) && (ile (Int.ofNat a0n) (9223372036854775807 : Int)))) && ((((((allB fun _ => true) && (allB fun _ => true)) && (eqT a0n a0n)) && (eqT a0n a0n)) && (eqT a0n a0n)) && (E_mass_sum_v2_L0 a0n a0_0 a0_1 a0_2 a0_3 (Int.ofNat a0n) (V_mass_sum_v2_L0.mk (0 : Int) (fun (j0 : Nat) => 0)))))), AV.float (s_mass_sum_v2_0 a0n a0_0 a0_1 a0_2 a0_3)) := by kernel_rfl
noncomputable def o_mass_sum_v2 (a0n : Nat) (a0_0 : Nat → Nat) (a0_1 : Nat → Nat) (a0_2 : Nat → Nat) (a0_3 : Nat → Nat) : Bool := (((Nat.ble a0n a0n) && (o_num_Sum a0n ((L_mass_sum_v2_L0 a0n a0_0 a0_1 a0_2 a0_3 (Int.ofNat a0n) (V_mass_sum_v2_L0.mk (0 : Int) (fun (j0 : Nat) => 0))).v1))) && (((ile (Int.ofNat a0n) (Int.ofNat a0n)) && ((ile ((8 : Int) * (Int.ofNat a0n)) (281474976710656 : Int)) && (ile (Int.ofNat a0n) (9223372036854775807 : Int)))) && (E_mass_sum_v2_L0 a0n a0_0 a0_1 a0_2 a0_3 (Int.ofNat a0n) (V_mass_sum_v2_L0.mk (0 : Int) (fun (j0 : Nat) => 0)))))
noncomputable def S_mass_sum_v2 : List AV → Option (Ob × AV)
  | [AV.view a0n 4 a0f, AV.func 37 [] []] => some (Ob.both (Ob.bit (allB fun (i : Nat) => isNrm [Ck.f, Ck.f, Ck.f, Ck.f] (a0f i))) (Ob.bit (o_mass_sum_v2 a0n (fun (i0 : Nat) => (flO (atL (a0f i0) 0))) (fun (i0 : Nat) => (flO (atL (a0f i0) 1))) (fun (i0 : Nat) => (flO (atL (a0f i0) 2))) (fun (i0 : Nat) => (flO (atL (a0f i0) 3))))), AV.float (s_mass_sum_v2_0 a0n (fun (i0 : Nat) => (flO (atL (a0f i0) 0))) (fun (i0 : Nat) => (flO (atL (a0f i0) 1))) (fun (i0 : Nat) => (flO (atL (a0f i0) 2))) (fun (i0 : Nat) => (flO (atL (a0f i0) 3)))))
  | _ => none
theorem ob_mass_sum_v2 (a0n : Nat) (a0_0 : Nat → Nat) (a0_1 : Nat → Nat) (a0_2 : Nat → Nat) (a0_3 : Nat → Nat) (ho : o_mass_sum_v2 a0n a0_0 a0_1 a0_2 a0_3 = true) : (((Nat.ble a0n a0n) && ((allB fun _ => true) && (o_num_Sum a0n ((L_mass_sum_v2_L0 a0n a0_0 a0_1 a0_2 a0_3 (Int.ofNat a0n) (V_mass_sum_v2_L0.mk (0 : Int) (fun (j0 : Nat) => 0))).v1)))) && (((ile (Int.ofNat a0n) (Int.ofNat a0n)) && ((ile ((8 : Int) * (Int.ofNat a0n)) (281474976710656 : Int)) && (ile (Int.ofNat a0n) (9223372036854775807 : Int)))) && ((((((allB fun _ => true) && (allB fun _ => true)) && (eqT a0n a0n)) && (eqT a0n a0n)) && (eqT a0n a0n)) && (E_mass_sum_v2_L0 a0n a0_0 a0_1 a0_2 a0_3 (Int.ofNat a0n) (V_mass_sum_v2_L0.mk (0 : Int) (fun (j0 : Nat) => 0)))))) = true := by
  unfold o_mass_sum_v2 at ho
  simp only [allB_true, eqT_self, mrgB_self, Bool.true_and, Bool.and_true] at ho ⊢
  exact ho
theorem t_mass_sum_v2 : SOkM Try.prog false (34, fun args => match S_mass_sum_v2 args with | some (o, v) => some (o, v, []) | none => none) := SOkM.flat (N := 96) menv57_ok Try.func34 ann_mass_sum_v2 Try.call34 fun args o v h ho => by
  unfold S_mass_sum_v2 at h
  split at h
  · rename_i a0n a0f
    cases h
    rw [Ob.both_ok, Bool.and_eq_true] at ho
    obtain ⟨hn, ho2⟩ := ho
    have n0 := hn
    simp only [Ob.ok] at n0
    replace n0 := nrm_fun n0
    have this : outB (evFnM Try.prog false menv57 [] [] 96 (Ann.two Ann.no (Ann.two Ann.no (Ann.two (Ann.two Ann.no (Ann.one (Ann.loop F_mass_sum_v2_L0))) Ann.no))) Try.f34 [AV.view a0n 4 (fun (i : Nat) => mkN [Ck.f, Ck.f, Ck.f, Ck.f] (a0f i) 0), AV.func 37 [] []] []) = some (true, AV.float (s_mass_sum_v2_0 a0n (fun (i0 : Nat) => (flO (atL (a0f i0) 0))) (fun (i0 : Nat) => (flO (atL (a0f i0) 1))) (fun (i0 : Nat) => (flO (atL (a0f i0) 2))) (fun (i0 : Nat) => (flO (atL (a0f i0) 3))))) := Eq.trans (show outB (evFnM Try.prog false menv57 [] [] 96 (Ann.two Ann.no (Ann.two Ann.no (Ann.two (Ann.two Ann.no (Ann.one (Ann.loop F_mass_sum_v2_L0))) Ann.no))) Try.f34 [AV.view a0n 4 (fun (i : Nat) => mkN [Ck.f, Ck.f, Ck.f, Ck.f] (a0f i) 0), AV.func 37 [] []] []) = _ from e_mass_sum_v2 a0n (fun (i0 : Nat) => (flO (atL (a0f i0) 0))) (fun (i0 : Nat) => (flO (atL (a0f i0) 1))) (fun (i0 : Nat) => (flO (atL (a0f i0) 2))) (fun (i0 : Nat) => (flO (atL (a0f i0) 3)))) (by rw [(ob_mass_sum_v2 a0n (fun (i0 : Nat) => (flO (atL (a0f i0) 0))) (fun (i0 : Nat) => (flO (atL (a0f i0) 1))) (fun (i0 : Nat) => (flO (atL (a0f i0) 2))) (fun (i0 : Nat) => (flO (atL (a0f i0) 3))) ho2)])
    rw [n0] at this
    exact ⟨this, rfl⟩
  · cases h
noncomputable def c_mass_sum_v2 : SFM := altS (fun args => match S_mass_sum_v2 args with | some (o, v) => some (o, v, []) | none => none) (c_mass_sum_v1)
theorem c_mass_sum_v2_ok : SOkM Try.prog false (34, c_mass_sum_v2) := (SOkM.alt t_mass_sum_v2 c_mass_sum_v1_ok)
noncomputable def mss57 : List (FuncId × SFM) := (34, c_mass_sum_v2) :: mss56
noncomputable def menv58 : EnvM := mkEnvM mxs mss57 mws2
theorem mss57_ok : All (SOkM Try.prog false) mss57 := All.cons c_mass_sum_v2_ok mss56_ok
theorem menv58_ok : menv58.Ok Try.prog false := mkEnvM_ok mxs_ok mss57_ok mws2_ok
-- tumble/vec.Sub
theorem ann_vec_Sub : FnOk Try.prog false 0 Try.f56 Ann.no := (fnNo _)
noncomputable def s_vec_Sub_0 (a0 : Nat) (a1 : Nat) (a2 : Nat) (a3 : Nat) : Nat := (fsub a0 a2)
noncomputable def s_vec_Sub_1 (a0 : Nat) (a1 : Nat) (a2 : Nat) (a3 : Nat) : Nat := (fsub a1 a3)
theorem e_vec_Sub (a0 : Nat) (a1 : Nat) (a2 : Nat) (a3 : Nat) : outB (evFnM Try.prog false menv58 [] [] 96 Ann.no Try.f56 [AV.agg [AV.float a0, AV.float a1], AV.agg [AV.float a2, AV.float a3]] []) = some (true, AV.agg [AV.float (s_vec_Sub_0 a0 a1 a2 a3), AV.float (s_vec_Sub_1 a0 a1 a2 a3)]) := by kernel_rfl
noncomputable def S_vec_Sub : List AV → Option (Ob × AV)
  | [AV.agg [AV.float a0, AV.float a1], AV.agg [AV.float a2, AV.float a3]] => some (Ob.tt, AV.agg [AV.float (s_vec_Sub_0 a0 a1 a2 a3), AV.float (s_vec_Sub_1 a0 a1 a2 a3)])
  | _ => none
theorem ob_vec_Sub (a0 : Nat) (a1 : Nat) (a2 : Nat) (a3 : Nat) : true = true := rfl
theorem t_vec_Sub : SOkM Try.prog false (56, fun args => match S_vec_Sub args with | some (o, v) => some (o, v, []) | none => none) := SOkM.flat (N := 96) menv58_ok Try.func56 ann_vec_Sub Try.call56 fun args o v h ho => by
  unfold S_vec_Sub at h
  split at h
  · rename_i a0 a1 a2 a3
    cases h
    have ho2 := ho
    have this : outB (evFnM Try.prog false menv58 [] [] 96 Ann.no Try.f56 [AV.agg [AV.float a0, AV.float a1], AV.agg [AV.float a2, AV.float a3]] []) = some (true, AV.agg [AV.float (s_vec_Sub_0 a0 a1 a2 a3), AV.float (s_vec_Sub_1 a0 a1 a2 a3)]) := Eq.trans (show outB (evFnM Try.prog false menv58 [] [] 96 Ann.no Try.f56 [AV.agg [AV.float a0, AV.float a1], AV.agg [AV.float a2, AV.float a3]] []) = _ from e_vec_Sub a0 a1 a2 a3) (by rw [(ob_vec_Sub a0 a1 a2 a3)])
    exact ⟨this, rfl⟩
  · cases h
noncomputable def c_vec_Sub : SFM := fun args => match S_vec_Sub args with | some (o, v) => some (o, v, []) | none => none
theorem c_vec_Sub_ok : SOkM Try.prog false (56, c_vec_Sub) := t_vec_Sub
noncomputable def mss58 : List (FuncId × SFM) := (56, c_vec_Sub) :: mss57
noncomputable def menv59 : EnvM := mkEnvM mxs mss58 mws2
theorem mss58_ok : All (SOkM Try.prog false) mss58 := All.cons c_vec_Sub_ok mss57_ok
theorem menv59_ok : menv59.Ok Try.prog false := mkEnvM_ok mxs_ok mss58_ok mws2_ok
-- tumble/vec.Dot
theorem ann_vec_Dot : FnOk Try.prog false 0 Try.f76 Ann.no := (fnNo _)
noncomputable def s_vec_Dot_0 (a0 : Nat) (a1 : Nat) (a2 : Nat) (a3 : Nat) : Nat := (fadd (fmul a0 a2) (fmul a1 a3))
theorem e_vec_Dot (a0 : Nat) (a1 : Nat) (a2 : Nat) (a3 : Nat) : outB (evFnM Try.prog false menv59 [] [] 96 Ann.no Try.f76 [AV.agg [AV.float a0, AV.float a1], AV.agg [AV.float a2, AV.float a3]] []) = some (true, AV.float (s_vec_Dot_0 a0 a1 a2 a3)) := by kernel_rfl
noncomputable def S_vec_Dot : List AV → Option (Ob × AV)
  | [AV.agg [AV.float a0, AV.float a1], AV.agg [AV.float a2, AV.float a3]] => some (Ob.tt, AV.float (s_vec_Dot_0 a0 a1 a2 a3))
  | _ => none
theorem ob_vec_Dot (a0 : Nat) (a1 : Nat) (a2 : Nat) (a3 : Nat) : true = true := rfl
theorem t_vec_Dot : SOkM Try.prog false (76, fun args => match S_vec_Dot args with | some (o, v) => some (o, v, []) | none => none) := SOkM.flat (N := 96) menv59_ok Try.func76 ann_vec_Dot Try.call76 fun args o v h ho => by
  unfold S_vec_Dot at h
  split at h
  · rename_i a0 a1 a2 a3
    cases h
    have ho2 := ho
    have this : outB (evFnM Try.prog false menv59 [] [] 96 Ann.no Try.f76 [AV.agg [AV.float a0, AV.float a1], AV.agg [AV.float a2, AV.float a3]] []) = some (true, AV.float (s_vec_Dot_0 a0 a1 a2 a3)) := Eq.trans (show outB (evFnM Try.prog false menv59 [] [] 96 Ann.no Try.f76 [AV.agg [AV.float a0, AV.float a1], AV.agg [AV.float a2, AV.float a3]] []) = _ from e_vec_Dot a0 a1 a2 a3) (by rw [(ob_vec_Dot a0 a1 a2 a3)])
    exact ⟨this, rfl⟩
  · cases h
noncomputable def c_vec_Dot : SFM := fun args => match S_vec_Dot args with | some (o, v) => some (o, v, []) | none => none
theorem c_vec_Dot_ok : SOkM Try.prog false (76, c_vec_Dot) := t_vec_Dot
noncomputable def mss59 : List (FuncId × SFM) := (76, c_vec_Dot) :: mss58
noncomputable def menv60 : EnvM := mkEnvM mxs mss59 mws2
theorem mss59_ok : All (SOkM Try.prog false) mss59 := All.cons c_vec_Dot_ok mss58_ok
theorem menv60_ok : menv60.Ok Try.prog false := mkEnvM_ok mxs_ok mss59_ok mws2_ok
-- tumble/vec.Square
theorem ann_vec_Square : FnOk Try.prog false 0 Try.f68 Ann.no := (fnNo _)
noncomputable def s_vec_Square_0 (a0 : Nat) (a1 : Nat) : Nat := (s_vec_Dot_0 a0 a1 a0 a1)
theorem e_vec_Square (a0 : Nat) (a1 : Nat) : outB (evFnM Try.prog false menv60 [] [] 96 Ann.no Try.f68 [AV.agg [AV.float a0, AV.float a1]] []) = some (true, AV.float (s_vec_Square_0 a0 a1)) := by kernel_rfl
noncomputable def S_vec_Square : List AV → Option (Ob × AV)
  | [AV.agg [AV.float a0, AV.float a1]] => some (Ob.tt, AV.float (s_vec_Square_0 a0 a1))
  | _ => none
theorem ob_vec_Square (a0 : Nat) (a1 : Nat) : true = true := rfl
theorem t_vec_Square : SOkM Try.prog false (68, fun args => match S_vec_Square args with | some (o, v) => some (o, v, []) | none => none) := SOkM.flat (N := 96) menv60_ok Try.func68 ann_vec_Square Try.call68 fun args o v h ho => by
  unfold S_vec_Square at h
  split at h
  · rename_i a0 a1
    cases h
    have ho2 := ho
    have this : outB (evFnM Try.prog false menv60 [] [] 96 Ann.no Try.f68 [AV.agg [AV.float a0, AV.float a1]] []) = some (true, AV.float (s_vec_Square_0 a0 a1)) := Eq.trans (show outB (evFnM Try.prog false menv60 [] [] 96 Ann.no Try.f68 [AV.agg [AV.float a0, AV.float a1]] []) = _ from e_vec_Square a0 a1) (by rw [(ob_vec_Square a0 a1)])
    exact ⟨this, rfl⟩
  · cases h
noncomputable def c_vec_Square : SFM := fun args => match S_vec_Square args with | some (o, v) => some (o, v, []) | none => none
theorem c_vec_Square_ok : SOkM Try.prog false (68, c_vec_Square) := t_vec_Square
noncomputable def mss60 : List (FuncId × SFM) := (68, c_vec_Square) :: mss59
noncomputable def menv61 : EnvM := mkEnvM mxs mss60 mws2
theorem mss60_ok : All (SOkM Try.prog false) mss60 := All.cons c_vec_Square_ok mss59_ok
theorem menv61_ok : menv61.Ok Try.prog false := mkEnvM_ok mxs_ok mss60_ok mws2_ok
-- tumble/mass.about
theorem ann_mass_about : FnOk Try.prog false 0 Try.f39 Ann.no := (fnNo _)
noncomputable def s_mass_about_0 (a0 : Nat) (a1 : Nat) (a2 : Nat) (a3 : Nat) (a4 : Nat) (a5 : Nat) : Nat := (fadd a1 (fmul a0 (s_vec_Square_0 (s_vec_Sub_0 a4 a5 a2 a3) (s_vec_Sub_1 a4 a5 a2 a3))))
theorem e_mass_about (a0 : Nat) (a1 : Nat) (a2 : Nat) (a3 : Nat) (a4 : Nat) (a5 : Nat) : outB (evFnM Try.prog false menv61 [] [] 96 Ann.no Try.f39 [AV.agg [AV.float a0, AV.float a1, AV.float a2, AV.float a3], AV.agg [AV.float a4, AV.float a5]] []) = some (true, AV.float (s_mass_about_0 a0 a1 a2 a3 a4 a5)) := by kernel_rfl
noncomputable def S_mass_about : List AV → Option (Ob × AV)
  | [AV.agg [AV.float a0, AV.float a1, AV.float a2, AV.float a3], AV.agg [AV.float a4, AV.float a5]] => some (Ob.tt, AV.float (s_mass_about_0 a0 a1 a2 a3 a4 a5))
  | _ => none
theorem ob_mass_about (a0 : Nat) (a1 : Nat) (a2 : Nat) (a3 : Nat) (a4 : Nat) (a5 : Nat) : true = true := rfl
theorem t_mass_about : SOkM Try.prog false (39, fun args => match S_mass_about args with | some (o, v) => some (o, v, []) | none => none) := SOkM.flat (N := 96) menv61_ok Try.func39 ann_mass_about Try.call39 fun args o v h ho => by
  unfold S_mass_about at h
  split at h
  · rename_i a0 a1 a2 a3 a4 a5
    cases h
    have ho2 := ho
    have this : outB (evFnM Try.prog false menv61 [] [] 96 Ann.no Try.f39 [AV.agg [AV.float a0, AV.float a1, AV.float a2, AV.float a3], AV.agg [AV.float a4, AV.float a5]] []) = some (true, AV.float (s_mass_about_0 a0 a1 a2 a3 a4 a5)) := Eq.trans (show outB (evFnM Try.prog false menv61 [] [] 96 Ann.no Try.f39 [AV.agg [AV.float a0, AV.float a1, AV.float a2, AV.float a3], AV.agg [AV.float a4, AV.float a5]] []) = _ from e_mass_about a0 a1 a2 a3 a4 a5) (by rw [(ob_mass_about a0 a1 a2 a3 a4 a5)])
    exact ⟨this, rfl⟩
  · cases h
noncomputable def c_mass_about : SFM := fun args => match S_mass_about args with | some (o, v) => some (o, v, []) | none => none
theorem c_mass_about_ok : SOkM Try.prog false (39, c_mass_about) := t_mass_about
noncomputable def mss61 : List (FuncId × SFM) := (39, c_mass_about) :: mss60
noncomputable def menv62 : EnvM := mkEnvM mxs mss61 mws2
theorem mss61_ok : All (SOkM Try.prog false) mss61 := All.cons c_mass_about_ok mss60_ok
theorem menv62_ok : menv62.Ok Try.prog false := mkEnvM_ok mxs_ok mss61_ok mws2_ok
-- tumble/mass.Join$4
theorem ann_mass_Join_4 : FnOk Try.prog false 0 Try.f38 Ann.no := (fnNo _)
noncomputable def s_mass_Join_4_0 (a0 : Nat) (a1 : Nat) (a2 : Nat) (a3 : Nat) (a4 : Nat) (a5 : Nat) : Nat := (s_mass_about_0 a0 a1 a2 a3 a4 a5)
theorem e_mass_Join_4 (a0 : Nat) (a1 : Nat) (a2 : Nat) (a3 : Nat) (a4 : Nat) (a5 : Nat) : outB (evFnM Try.prog false menv62 [] [] 96 Ann.no Try.f38 [AV.agg [AV.float a0, AV.float a1, AV.float a2, AV.float a3], AV.vptr [AV.float a4, AV.float a5]] []) = some (true, AV.float (s_mass_Join_4_0 a0 a1 a2 a3 a4 a5)) := by kernel_rfl
noncomputable def S_mass_Join_4 : List AV → Option (Ob × AV)
  | [AV.agg [AV.float a0, AV.float a1, AV.float a2, AV.float a3], AV.vptr [AV.float a4, AV.float a5]] => some (Ob.tt, AV.float (s_mass_Join_4_0 a0 a1 a2 a3 a4 a5))
  | _ => none
theorem ob_mass_Join_4 (a0 : Nat) (a1 : Nat) (a2 : Nat) (a3 : Nat) (a4 : Nat) (a5 : Nat) : true = true := rfl
theorem t_mass_Join_4 : SOkM Try.prog false (38, fun args => match S_mass_Join_4 args with | some (o, v) => some (o, v, []) | none => none) := SOkM.flat (N := 96) menv62_ok Try.func38 ann_mass_Join_4 Try.call38 fun args o v h ho => by
  unfold S_mass_Join_4 at h
  split at h
  · rename_i a0 a1 a2 a3 a4 a5
    cases h
    have ho2 := ho
    have this : outB (evFnM Try.prog false menv62 [] [] 96 Ann.no Try.f38 [AV.agg [AV.float a0, AV.float a1, AV.float a2, AV.float a3], AV.vptr [AV.float a4, AV.float a5]] []) = some (true, AV.float (s_mass_Join_4_0 a0 a1 a2 a3 a4 a5)) := Eq.trans (show outB (evFnM Try.prog false menv62 [] [] 96 Ann.no Try.f38 [AV.agg [AV.float a0, AV.float a1, AV.float a2, AV.float a3], AV.vptr [AV.float a4, AV.float a5]] []) = _ from e_mass_Join_4 a0 a1 a2 a3 a4 a5) (by rw [(ob_mass_Join_4 a0 a1 a2 a3 a4 a5)])
    exact ⟨this, rfl⟩
  · cases h
noncomputable def c_mass_Join_4 : SFM := fun args => match S_mass_Join_4 args with | some (o, v) => some (o, v, []) | none => none
theorem c_mass_Join_4_ok : SOkM Try.prog false (38, c_mass_Join_4) := t_mass_Join_4
noncomputable def mss62 : List (FuncId × SFM) := (38, c_mass_Join_4) :: mss61
noncomputable def menv63 : EnvM := mkEnvM mxs mss62 mws2
theorem mss62_ok : All (SOkM Try.prog false) mss62 := All.cons c_mass_Join_4_ok mss61_ok
theorem menv63_ok : menv63.Ok Try.prog false := mkEnvM_ok mxs_ok mss62_ok mws2_ok
-- tumble/mass.sum
-- a loop of tumble/mass.sum
structure V_mass_sum_v3_L0 where
  v0 : Int
  v1 : (Nat → Nat)
def tpl_mass_sum_v3_L0 : List AV := [AV.top, AV.nul, AV.top, AV.top, AV.top, AV.nul, AV.top, AV.top, AV.top, AV.top, AV.top, AV.nul, AV.nul, AV.nul, AV.top, AV.top, AV.top, AV.top, AV.top, AV.top, AV.top, AV.top, AV.top, AV.top, AV.top, AV.top, AV.top]
def cts_mass_sum_v3_L0 : List CT := [CT.keep]
def phs_mass_sum_v3_L0 : List Src := []
def T_mass_sum_v3_L0 (c0 : Nat) (c1 : Nat) (c2 : Nat) (c3 : (Nat → Nat)) (c4 : (Nat → Nat)) (c5 : (Nat → Nat)) (c6 : (Nat → Nat)) (c7 : Int) (x : V_mass_sum_v3_L0) (F0 : Nat → List AV) (F1 : Nat → List AV) : List AV × Heap := ([AV.top, AV.func 38 [] [AV.vptr [AV.float c0, AV.float c1]], AV.top, AV.top, AV.top, AV.lst 0 0 1 c2 c2, AV.top, AV.top, AV.top, AV.top, AV.top, AV.view c2 4 F0, AV.int .i64 c7, AV.int .i64 x.v0, AV.top, AV.top, AV.top, AV.top, AV.top, AV.top, AV.top, AV.top, AV.top, AV.top, AV.top, AV.top, AV.top], [⟨.sym c2 1 F1, 24, 0⟩])
def sh_mass_sum_v3_L0 (c0 : Nat) (c1 : Nat) (c2 : Nat) (c3 : (Nat → Nat)) (c4 : (Nat → Nat)) (c5 : (Nat → Nat)) (c6 : (Nat → Nat)) (c7 : Int) (x : V_mass_sum_v3_L0) : List AV × Heap := T_mass_sum_v3_L0 c0 c1 c2 c3 c4 c5 c6 c7 x (fun (j0 : Nat) => [AV.float (c3 j0), AV.float (c4 j0), AV.float (c5 j0), AV.float (c6 j0)]) (fun (j0 : Nat) => [AV.float (x.v1 j0)])
noncomputable def step_mass_sum_v3_L0 (c0 : Nat) (c1 : Nat) (c2 : Nat) (c3 : (Nat → Nat)) (c4 : (Nat → Nat)) (c5 : (Nat → Nat)) (c6 : (Nat → Nat)) (c7 : Int) (x : V_mass_sum_v3_L0) : V_mass_sum_v3_L0 := V_mass_sum_v3_L0.mk (IntKind.wrap .i64 (x.v0 + (1 : Int))) (fun (j0 : Nat) => (bif (Nat.beq j0 (Int.toNat x.v0)) then (s_mass_Join_4_0 (c3 (Int.toNat x.v0)) (c4 (Int.toNat x.v0)) (c5 (Int.toNat x.v0)) (c6 (Int.toNat x.v0)) c0 c1) else (x.v1 j0)))
noncomputable def go_mass_sum_v3_L0 (c0 : Nat) (c1 : Nat) (c2 : Nat) (c3 : (Nat → Nat)) (c4 : (Nat → Nat)) (c5 : (Nat → Nat)) (c6 : (Nat → Nat)) (c7 : Int) (x : V_mass_sum_v3_L0) : Bool := (bif (!(ilt x.v0 c7)) then false else true)
noncomputable def ok_mass_sum_v3_L0 (c0 : Nat) (c1 : Nat) (c2 : Nat) (c3 : (Nat → Nat)) (c4 : (Nat → Nat)) (c5 : (Nat → Nat)) (c6 : (Nat → Nat)) (c7 : Int) (x : V_mass_sum_v3_L0) : Bool := (mrgB (!(ilt x.v0 c7)) true ((Nat.blt (Int.toNat x.v0) c2) && (((ile (0 : Int) x.v0) && (Nat.blt (Int.toNat x.v0) c2)) && ((ile (0 : Int) x.v0) && (Nat.blt (Int.toNat x.v0) c2)))))
noncomputable def L_mass_sum_v3_L0 (c0 : Nat) (c1 : Nat) (c2 : Nat) (c3 : (Nat → Nat)) (c4 : (Nat → Nat)) (c5 : (Nat → Nat)) (c6 : (Nat → Nat)) (c7 : Int) (x : V_mass_sum_v3_L0) : V_mass_sum_v3_L0 := lastL (ok_mass_sum_v3_L0 c0 c1 c2 c3 c4 c5 c6 c7) (go_mass_sum_v3_L0 c0 c1 c2 c3 c4 c5 c6 c7) (step_mass_sum_v3_L0 c0 c1 c2 c3 c4 c5 c6 c7) x
noncomputable def E_mass_sum_v3_L0 (c0 : Nat) (c1 : Nat) (c2 : Nat) (c3 : (Nat → Nat)) (c4 : (Nat → Nat)) (c5 : (Nat → Nat)) (c6 : (Nat → Nat)) (c7 : Int) (x : V_mass_sum_v3_L0) : Bool := endsL (ok_mass_sum_v3_L0 c0 c1 c2 c3 c4 c5 c6 c7) (go_mass_sum_v3_L0 c0 c1 c2 c3 c4 c5 c6 c7) (step_mass_sum_v3_L0 c0 c1 c2 c3 c4 c5 c6 c7) x
theorem all_mass_sum_v3_L0 (c0 : Nat) (c1 : Nat) (c2 : Nat) (c3 : (Nat → Nat)) (c4 : (Nat → Nat)) (c5 : (Nat → Nat)) (c6 : (Nat → Nat)) (c7 : Int) (x : V_mass_sum_v3_L0) : rnd Try.prog false menv63 [] [] 96 Ann.no (subC [1, 1, 0, 1, 0, 0] (codeOf Try.f34)) 0 [⟨some 0, 0, 0, []⟩] tpl_mass_sum_v3_L0 cts_mass_sum_v3_L0 [true, false, true, true, true, false, true, true, true, true, true, false, false, true, true, true, true, true, true, true, true, true, true, true, true, true, true] [true] (sh_mass_sum_v3_L0 c0 c1 c2 c3 c4 c5 c6 c7 x) = (true, true, go_mass_sum_v3_L0 c0 c1 c2 c3 c4 c5 c6 c7 x, ok_mass_sum_v3_L0 c0 c1 c2 c3 c4 c5 c6 c7 x, true, sh_mass_sum_v3_L0 c0 c1 c2 c3 c4 c5 c6 c7 (step_mass_sum_v3_L0 c0 c1 c2 c3 c4 c5 c6 c7 x), true) := by kernel_rfl
noncomputable def fam_mass_sum_v3_L0 (c0 : Nat) (c1 : Nat) (c2 : Nat) (c3 : (Nat → Nat)) (c4 : (Nat → Nat)) (c5 : (Nat → Nat)) (c6 : (Nat → Nat)) (c7 : Int) : Fam Try.prog false menv63 [] [] 96 0 Ann.no (subC [1, 1, 0, 1, 0, 0] (codeOf Try.f34)) V_mass_sum_v3_L0 where
  sh := sh_mass_sum_v3_L0 c0 c1 c2 c3 c4 c5 c6 c7
  ok := ok_mass_sum_v3_L0 c0 c1 c2 c3 c4 c5 c6 c7
  go := go_mass_sum_v3_L0 c0 c1 c2 c3 c4 c5 c6 c7
  step := step_mass_sum_v3_L0 c0 c1 c2 c3 c4 c5 c6 c7
  chg := [true, false, true, true, true, false, true, true, true, true, true, false, false, true, true, true, true, true, true, true, true, true, true, true, true, true, true]
  chgH := [true]
  tpl := tpl_mass_sum_v3_L0
  cts := cts_mass_sum_v3_L0
  keep := 0
  srcs := [⟨some 0, 0, 0, []⟩]
  ann := (annNo (subC [1, 1, 0, 1, 0, 0] (codeOf Try.f34)))
  le := by kernel_rfl
  kept := by kernel_rfl
  keptB := by kernel_rfl
  all := all_mass_sum_v3_L0 c0 c1 c2 c3 c4 c5 c6 c7
  len := fun x => by kernel_rfl
  head := fun x y => by kernel_rfl
  con := fun x y => by kernel_rfl
  conH := fun x y => by kernel_rfl
noncomputable def F_mass_sum_v3_L0 : St → Option Ch := fun s => cond (Nat.beq s.tm.length 27 && Nat.beq s.H.length 1) (tkTops 1 (alL tpl_mass_sum_v3_L0 s.tm) fun t0 => tkCons t0 fun a1 t1 => tkFunc 38 a1 fun l2 l3 => tkNil l2 <| tkCons l3 fun a4 t4 => tkVptr a4 fun l5 => tkCons l5 fun a6 t6 => tkF a6 fun s0 => tkCons t6 fun a7 t7 => tkF a7 fun s1 => tkNil t7 <| tkNil t4 <| tkTops 3 t1 fun t8 => tkCons t8 fun a9 t9 => tkLst 0 0 1 a9 fun s2 s3 => tkTops 5 t9 fun t10 => tkCons t10 fun a11 t11 => tkView 4 a11 fun s4 f0 => tkCons t11 fun a12 t12 => tkI .i64 a12 fun s9 => tkCons t12 fun a13 t13 => tkI .i64 a13 fun s10 => tkTops 13 t13 fun t14 => tkNil t14 <| tkCons (alH cts_mass_sum_v3_L0 (s.H ++ List.map phan phs_mass_sum_v3_L0)) fun b15 t15 => tkSym 24 0 1 b15 fun s11 f1 => tkNil t15 <| Fam.out (fam_mass_sum_v3_L0 s0 s1 s2 (fun (i : Nat) => flO (atL (f0 i) 0)) (fun (i : Nat) => flO (atL (f0 i) 1)) (fun (i : Nat) => flO (atL (f0 i) 2)) (fun (i : Nat) => flO (atL (f0 i) 3)) s9) s (((((allB fun (i : Nat) => isNrm [Ck.f, Ck.f, Ck.f, Ck.f] (f0 i)) && (allB fun (i : Nat) => isNrm [Ck.f] (f1 i))) && (eqT s3 s2)) && (eqT s4 s2)) && (eqT s11 s2)) (V_mass_sum_v3_L0.mk s10 (fun (i : Nat) => flO (atL (f1 i) 0)))) none
theorem F_mass_sum_v3_L0_ok : ∀ s ch, F_mass_sum_v3_L0 s = some ch → AllI s ch ∧ LoopSpec Try.prog false 0 (subC [1, 1, 0, 1, 0, 0] (codeOf Try.f34)) s (sel ch) := by
  intro s ch h
  unfold F_mass_sum_v3_L0 at h
  obtain ⟨hl, h0⟩ := cond_some h rfl
  clear h
  obtain ⟨hl, hb⟩ := and_beq2 hl
  obtain ⟨t0, e0, h1⟩ := tkTops_some h0
  obtain ⟨a1, t1, rfl, h2⟩ := tkCons_some h1
  obtain ⟨l2, l3, rfl, h3⟩ := tkFunc_some h2
  obtain ⟨rfl, h4⟩ := tkNil_some h3
  obtain ⟨a4, t4, rfl, h5⟩ := tkCons_some h4
  obtain ⟨l5, rfl, h6⟩ := tkVptr_some h5
  obtain ⟨a6, t6, rfl, h7⟩ := tkCons_some h6
  obtain ⟨s0, rfl, h8⟩ := tkF_some h7
  obtain ⟨a7, t7, rfl, h9⟩ := tkCons_some h8
  obtain ⟨s1, rfl, h10⟩ := tkF_some h9
  obtain ⟨rfl, h11⟩ := tkNil_some h10
  obtain ⟨rfl, h12⟩ := tkNil_some h11
  obtain ⟨t8, rfl, h13⟩ := tkTops_some h12
  obtain ⟨a9, t9, rfl, h14⟩ := tkCons_some h13
  obtain ⟨s2, s3, rfl, h15⟩ := tkLst_some h14
  obtain ⟨t10, rfl, h16⟩ := tkTops_some h15
  obtain ⟨a11, t11, rfl, h17⟩ := tkCons_some h16
  obtain ⟨s4, f0, rfl, h18⟩ := tkView_some h17
  obtain ⟨a12, t12, rfl, h19⟩ := tkCons_some h18
  obtain ⟨s9, rfl, h20⟩ := tkI_some h19
  obtain ⟨a13, t13, rfl, h21⟩ := tkCons_some h20
  obtain ⟨s10, rfl, h22⟩ := tkI_some h21
  obtain ⟨t14, rfl, h23⟩ := tkTops_some h22
  obtain ⟨rfl, h24⟩ := tkNil_some h23
  obtain ⟨b15, t15, eH, h25⟩ := tkCons_some h24
  obtain ⟨s11, f1, rfl, h26⟩ := tkSym_some h25
  obtain ⟨rfl, h27⟩ := tkNil_some h26
  refine Fam.spec menv63_ok (fam_mass_sum_v3_L0 s0 s1 s2 (fun (i : Nat) => flO (atL (f0 i) 0)) (fun (i : Nat) => flO (atL (f0 i) 1)) (fun (i : Nat) => flO (atL (f0 i) 2)) (fun (i : Nat) => flO (atL (f0 i) 3)) s9) (phs := phs_mass_sum_v3_L0) (hl.trans (by kernel_rfl)) (hb.trans (by kernel_rfl)) ?_ ?_ h27
  · rw [← hdr_alH cts_mass_sum_v3_L0 (s.H ++ List.map phan phs_mass_sum_v3_L0), eH]; kernel_rfl
  · intro hq
    simp only [Bool.and_eq_true] at hq
    obtain ⟨⟨⟨⟨hq0, hq1⟩, hq2⟩, hq3⟩, hq4⟩ := hq
    have n0 := nrm_fun hq0
    have n1 := nrm_fun hq1
    have hx := eqT_eq hq2; subst s3
    have hx := eqT_eq hq3; subst s4
    have hx := eqT_eq hq4; subst s11
    show sh_mass_sum_v3_L0 s0 s1 s2 (fun (i : Nat) => flO (atL (f0 i) 0)) (fun (i : Nat) => flO (atL (f0 i) 1)) (fun (i : Nat) => flO (atL (f0 i) 2)) (fun (i : Nat) => flO (atL (f0 i) 3)) s9 (V_mass_sum_v3_L0.mk s10 (fun (i : Nat) => flO (atL (f1 i) 0))) = (alL tpl_mass_sum_v3_L0 s.tm, alH cts_mass_sum_v3_L0 (s.H ++ List.map phan phs_mass_sum_v3_L0))
    rw [e0, eH]
    refine Eq.trans (show sh_mass_sum_v3_L0 s0 s1 s2 (fun (i : Nat) => flO (atL (f0 i) 0)) (fun (i : Nat) => flO (atL (f0 i) 1)) (fun (i : Nat) => flO (atL (f0 i) 2)) (fun (i : Nat) => flO (atL (f0 i) 3)) s9 (V_mass_sum_v3_L0.mk s10 (fun (i : Nat) => flO (atL (f1 i) 0))) = T_mass_sum_v3_L0 s0 s1 s2 (fun (i : Nat) => flO (atL (f0 i) 0)) (fun (i : Nat) => flO (atL (f0 i) 1)) (fun (i : Nat) => flO (atL (f0 i) 2)) (fun (i : Nat) => flO (atL (f0 i) 3)) s9 (V_mass_sum_v3_L0.mk s10 (fun (i : Nat) => flO (atL (f1 i) 0))) (fun (i : Nat) => mkN [Ck.f, Ck.f, Ck.f, Ck.f] (f0 i) 0) (fun (i : Nat) => mkN [Ck.f] (f1 i) 0) by kernel_rfl) ?_
    rw [n0, n1]
    kernel_rfl
theorem ann_mass_sum_v3 : FnOk Try.prog false 0 Try.f34 (Ann.two Ann.no (Ann.two Ann.no (Ann.two (Ann.two Ann.no (Ann.one (Ann.loop F_mass_sum_v3_L0))) Ann.no))) := (fnOk_of (c := codeOf Try.f34) (by kernel_rfl) (annSeq (a := (subC [0] (codeOf Try.f34))) (b := (subC [1] (codeOf Try.f34))) (by kernel_rfl) (annNo (subC [0] (codeOf Try.f34))) (annSeq (a := (subC [1, 0] (codeOf Try.f34))) (b := (subC [1, 1] (codeOf Try.f34))) (by kernel_rfl) (annNo (subC [1, 0] (codeOf Try.f34))) (annSeq (a := (subC [1, 1, 0] (codeOf Try.f34))) (b := (subC [1, 1, 1] (codeOf Try.f34))) (by kernel_rfl) (annSeq (a := (subC [1, 1, 0, 0] (codeOf Try.f34))) (b := (subC [1, 1, 0, 1] (codeOf Try.f34))) (by kernel_rfl) (annNo (subC [1, 1, 0, 0] (codeOf Try.f34))) (annBlock (a := (subC [1, 1, 0, 1, 0] (codeOf Try.f34))) (i := 0) (by kernel_rfl) (annLoop (a := (subC [1, 1, 0, 1, 0, 0] (codeOf Try.f34))) (by kernel_rfl) F_mass_sum_v3_L0_ok))) (annNo (subC [1, 1, 1] (codeOf Try.f34)))))))
noncomputable def s_mass_sum_v3_0 (a0n : Nat) (a0_0 : Nat → Nat) (a0_1 : Nat → Nat) (a0_2 : Nat → Nat) (a0_3 : Nat → Nat) (a1 : Nat) (a2 : Nat) : Nat := (s_num_Sum_0 a0n ((L_mass_sum_v3_L0 a1 a2 a0n a0_0 a0_1 a0_2 a0_3 (Int.ofNat a0n) (V_mass_sum_v3_L0.mk (0 : Int) (fun (j0 : Nat) => 0))).v1))
theorem e_mass_sum_v3 (a0n : Nat) (a0_0 : Nat → Nat) (a0_1 : Nat → Nat) (a0_2 : Nat → Nat) (a0_3 : Nat → Nat) (a1 : Nat) (a2 : Nat) : outB (evFnM Try.prog false menv63 [] [] 96 (Ann.two Ann.no (Ann.two Ann.no (Ann.two (Ann.two Ann.no (Ann.one (Ann.loop F_mass_sum_v3_L0))) Ann.no))) Try.f34 [AV.view a0n 4 (fun (i0 : Nat) => [AV.float (a0_0 i0), AV.float (a0_1 i0), AV.float (a0_2 i0), AV.float (a0_3 i0)]), AV.func 38 [] [AV.vptr [AV.float a1, AV.float a2]]] []) = some ((((Nat.ble a0n a0n) && ((allB fun _ => true) && (o_num_Sum a0n ((L_mass_sum_v3_L0 a1 a2 a0n a0_0 a0_1 a0_2 a0_3 (Int.ofNat a0n) (V_mass_sum_v3_L0.mk (0 : Int) (fun (j0 : Nat) => 0))).v1)))) && (((ile (Int.ofNat a0n) (Int.ofNat a0n)) && ((ile ((8 : Int) * (Int.ofNat a0n)) (281474976710656 : Int)) && (ile (Int.ofNat a0n) (9223372036854775807 : Int)))) && ((((((allB fun _ => true) && (allB fun _ => true)) && (eqT a0n a0n)) && (eqT a0n a0n)) && (eqT a0n a0n)) && (E_mass_sum_v3_L0 a1 a2 a0n a0_0 a0_1 a0_2 a0_3 (Int.ofNat a0n) (V_mass_sum_v3_L0.mk (0 : Int) (fun (j0 : Nat) => 0)))))), AV.float (s_mass_sum_v3_0 a0n a0_0 a0_1 a0_2 a0_3 a1 a2)) := by kernel_rfl
noncomputable def o_mass_sum_v3 (a0n : Nat) (a0_0 : Nat → Nat) (a0_1 : Nat → Nat) (a0_2 : Nat → Nat) (a0_3 : Nat → Nat) (a1 : Nat) (a2 : Nat) : Bool := (((Nat.ble a0n a0n) && (o_num_Sum a0n ((L_mass_sum_v3_L0 a1 a2 a0n a0_0 a0_1 a0_2 a0_3 (Int.ofNat a0n) (V_mass_sum_v3_L0.mk (0 : Int) (fun (j0 : Nat) => 0))).v1))) && (((ile (Int.ofNat a0n) (Int.ofNat a0n)) && ((ile ((8 : Int) * (Int.ofNat a0n)) (281474976710656 : Int)) && (ile (Int.ofNat a0n) (9223372036854775807 : Int)))) && (E_mass_sum_v3_L0 a1 a2 a0n a0_0 a0_1 a0_2 a0_3 (Int.ofNat a0n) (V_mass_sum_v3_L0.mk (0 : Int) (fun (j0 : Nat) => 0)))))
noncomputable def S_mass_sum_v3 : List AV → Option (Ob × AV)
  | [AV.view a0n 4 a0f, AV.func 38 [] [AV.vptr [AV.float a1, AV.float a2]]] => some (Ob.both (Ob.bit (allB fun (i : Nat) => isNrm [Ck.f, Ck.f, Ck.f, Ck.f] (a0f i))) (Ob.bit (o_mass_sum_v3 a0n (fun (i0 : Nat) => (flO (atL (a0f i0) 0))) (fun (i0 : Nat) => (flO (atL (a0f i0) 1))) (fun (i0 : Nat) => (flO (atL (a0f i0) 2))) (fun (i0 : Nat) => (flO (atL (a0f i0) 3))) a1 a2)), AV.float (s_mass_sum_v3_0 a0n (fun (i0 : Nat) => (flO (atL (a0f i0) 0))) (fun (i0 : Nat) => (flO (atL (a0f i0) 1))) (fun (i0 : Nat) => (flO (atL (a0f i0) 2))) (fun (i0 : Nat) => (flO (atL (a0f i0) 3))) a1 a2))
  | _ => none
theorem ob_mass_sum_v3 (a0n : Nat) (a0_0 : Nat → Nat) (a0_1 : Nat → Nat) (a0_2 : Nat → Nat) (a0_3 : Nat → Nat) (a1 : Nat) (a2 : Nat) (ho : o_mass_sum_v3 a0n a0_0 a0_1 a0_2 a0_3 a1 a2 = true) : (((Nat.ble a0n a0n) && ((allB fun _ => true) && (o_num_Sum a0n ((L_mass_sum_v3_L0 a1 a2 a0n a0_0 a0_1 a0_2 a0_3 (Int.ofNat a0n) (V_mass_sum_v3_L0.mk (0 : Int) (fun (j0 : Nat) => 0))).v1)))) && (((ile (Int.ofNat a0n) (Int.ofNat a0n)) && ((ile ((8 : Int) * (Int.ofNat a0n)) (281474976710656 : Int)) && (ile (Int.ofNat a0n) (9223372036854775807 : Int)))) && ((((((allB fun _ => true) && (allB fun _ => true)) && (eqT a0n a0n)) && (eqT a0n a0n)) && (eqT a0n a0n)) && (E_mass_sum_v3_L0 a1 a2 a0n a0_0 a0_1 a0_2 a0_3 (Int.ofNat a0n) (V_mass_sum_v3_L0.mk (0 : Int) (fun (j0 : Nat) => 0)))))) = true := by
  unfold o_mass_sum_v3 at ho
  simp only [allB_true, eqT_self, mrgB_self, Bool.true_and, Bool.and_true] at ho ⊢
  exact ho
theorem t_mass_sum_v3 : SOkM Try.prog false (34, fun args => match S_mass_sum_v3 args with | some (o, v) => some (o, v, []) | none => none) := SOkM.flat (N := 96) menv63_ok Try.func34 ann_mass_sum_v3 Try.call34 fun args o v h ho => by
  unfold S_mass_sum_v3 at h
  split at h
  · rename_i a0n a0f a1 a2
    cases h
    rw [Ob.both_ok, Bool.and_eq_true] at ho
    obtain ⟨hn, ho2⟩ := ho
    have n0 := hn
    simp only [Ob.ok] at n0
    replace n0 := nrm_fun n0
    have this : outB (evFnM Try.prog false menv63 [] [] 96 (Ann.two Ann.no (Ann.two Ann.no (Ann.two (Ann.two Ann.no (Ann.one (Ann.loop F_mass_sum_v3_L0))) Ann.no))) Try.f34 [AV.view a0n 4 (fun (i : Nat) => mkN [Ck.f, Ck.f, Ck.f, Ck.f] (a0f i) 0), AV.func 38 [] [AV.vptr [AV.float a1, AV.float a2]]] []) = some (true, AV.float (s_mass_sum_v3_0 a0n (fun (i0 : Nat) => (flO (atL (a0f i0) 0))) (fun (i0 : Nat) => (flO (atL (a0f i0) 1))) (fun (i0 : Nat) => (flO (atL (a0f i0) 2))) (fun (i0 : Nat) => (flO (atL (a0f i0) 3))) a1 a2)) := Eq.trans (show outB (evFnM Try.prog false menv63 [] [] 96 (Ann.two Ann.no (Ann.two Ann.no (Ann.two (Ann.two Ann.no (Ann.one (Ann.loop F_mass_sum_v3_L0))) Ann.no))) Try.f34 [AV.view a0n 4 (fun (i : Nat) => mkN [Ck.f, Ck.f, Ck.f, Ck.f] (a0f i) 0), AV.func 38 [] [AV.vptr [AV.float a1, AV.float a2]]] []) = _ from e_mass_sum_v3 a0n (fun (i0 : Nat) => (flO (atL (a0f i0) 0))) (fun (i0 : Nat) => (flO (atL (a0f i0) 1))) (fun (i0 : Nat) => (flO (atL (a0f i0) 2))) (fun (i0 : Nat) => (flO (atL (a0f i0) 3))) a1 a2) (by rw [(ob_mass_sum_v3 a0n (fun (i0 : Nat) => (flO (atL (a0f i0) 0))) (fun (i0 : Nat) => (flO (atL (a0f i0) 1))) (fun (i0 : Nat) => (flO (atL (a0f i0) 2))) (fun (i0 : Nat) => (flO (atL (a0f i0) 3))) a1 a2 ho2)])
    rw [n0] at this
    exact ⟨this, rfl⟩
  · cases h
noncomputable def c_mass_sum_v3 : SFM := altS (fun args => match S_mass_sum_v3 args with | some (o, v) => some (o, v, []) | none => none) (c_mass_sum_v2)
theorem c_mass_sum_v3_ok : SOkM Try.prog false (34, c_mass_sum_v3) := (SOkM.alt t_mass_sum_v3 c_mass_sum_v2_ok)
noncomputable def mss63 : List (FuncId × SFM) := (34, c_mass_sum_v3) :: mss62
noncomputable def menv64 : EnvM := mkEnvM mxs mss63 mws2
theorem mss63_ok : All (SOkM Try.prog false) mss63 := All.cons c_mass_sum_v3_ok mss62_ok
theorem menv64_ok : menv64.Ok Try.prog false := mkEnvM_ok mxs_ok mss63_ok mws2_ok
-- tumble/mass.checked
theorem ann_mass_checked : FnOk Try.prog false 0 Try.f40 Ann.no := (fnNo _)
noncomputable def s_mass_checked_0 (a0 : Nat) (a1 : Nat) (a2 : Nat) (a3 : Nat) : Nat := (bif (!(ieq (s_mass_Check_0 a0 a1 a2 a3) (0 : Int))) then 0 else a0)
noncomputable def s_mass_checked_1 (a0 : Nat) (a1 : Nat) (a2 : Nat) (a3 : Nat) : Nat := (bif (!(ieq (s_mass_Check_0 a0 a1 a2 a3) (0 : Int))) then 0 else a1)
noncomputable def s_mass_checked_2 (a0 : Nat) (a1 : Nat) (a2 : Nat) (a3 : Nat) : Nat := (bif (!(ieq (s_mass_Check_0 a0 a1 a2 a3) (0 : Int))) then 0 else a2)
noncomputable def s_mass_checked_3 (a0 : Nat) (a1 : Nat) (a2 : Nat) (a3 : Nat) : Nat := (bif (!(ieq (s_mass_Check_0 a0 a1 a2 a3) (0 : Int))) then 0 else a3)
noncomputable def s_mass_checked_4 (a0 : Nat) (a1 : Nat) (a2 : Nat) (a3 : Nat) : Int := (bif (!(ieq (s_mass_Check_0 a0 a1 a2 a3) (0 : Int))) then (s_mass_Check_0 a0 a1 a2 a3) else (0 : Int))
theorem e_mass_checked (a0 : Nat) (a1 : Nat) (a2 : Nat) (a3 : Nat) : outB (evFnM Try.prog false menv64 [] [] 96 Ann.no Try.f40 [AV.agg [AV.float a0, AV.float a1, AV.float a2, AV.float a3]] []) = some (true, AV.tup [AV.agg [AV.float (s_mass_checked_0 a0 a1 a2 a3), AV.float (s_mass_checked_1 a0 a1 a2 a3), AV.float (s_mass_checked_2 a0 a1 a2 a3), AV.float (s_mass_checked_3 a0 a1 a2 a3)], AV.int .i64 (s_mass_checked_4 a0 a1 a2 a3)]) := by kernel_rfl
noncomputable def S_mass_checked : List AV → Option (Ob × AV)
  | [AV.agg [AV.float a0, AV.float a1, AV.float a2, AV.float a3]] => some (Ob.tt, AV.tup [AV.agg [AV.float (s_mass_checked_0 a0 a1 a2 a3), AV.float (s_mass_checked_1 a0 a1 a2 a3), AV.float (s_mass_checked_2 a0 a1 a2 a3), AV.float (s_mass_checked_3 a0 a1 a2 a3)], AV.int .i64 (s_mass_checked_4 a0 a1 a2 a3)])
  | _ => none
theorem ob_mass_checked (a0 : Nat) (a1 : Nat) (a2 : Nat) (a3 : Nat) : true = true := rfl
theorem t_mass_checked : SOkM Try.prog false (40, fun args => match S_mass_checked args with | some (o, v) => some (o, v, []) | none => none) := SOkM.flat (N := 96) menv64_ok Try.func40 ann_mass_checked Try.call40 fun args o v h ho => by
  unfold S_mass_checked at h
  split at h
  · rename_i a0 a1 a2 a3
    cases h
    have ho2 := ho
    have this : outB (evFnM Try.prog false menv64 [] [] 96 Ann.no Try.f40 [AV.agg [AV.float a0, AV.float a1, AV.float a2, AV.float a3]] []) = some (true, AV.tup [AV.agg [AV.float (s_mass_checked_0 a0 a1 a2 a3), AV.float (s_mass_checked_1 a0 a1 a2 a3), AV.float (s_mass_checked_2 a0 a1 a2 a3), AV.float (s_mass_checked_3 a0 a1 a2 a3)], AV.int .i64 (s_mass_checked_4 a0 a1 a2 a3)]) := Eq.trans (show outB (evFnM Try.prog false menv64 [] [] 96 Ann.no Try.f40 [AV.agg [AV.float a0, AV.float a1, AV.float a2, AV.float a3]] []) = _ from e_mass_checked a0 a1 a2 a3) (by rw [(ob_mass_checked a0 a1 a2 a3)])
    exact ⟨this, rfl⟩
  · cases h
noncomputable def c_mass_checked : SFM := fun args => match S_mass_checked args with | some (o, v) => some (o, v, []) | none => none
theorem c_mass_checked_ok : SOkM Try.prog false (40, c_mass_checked) := t_mass_checked
noncomputable def mss64 : List (FuncId × SFM) := (40, c_mass_checked) :: mss63
noncomputable def menv65 : EnvM := mkEnvM mxs mss64 mws2
theorem mss64_ok : All (SOkM Try.prog false) mss64 := All.cons c_mass_checked_ok mss63_ok
theorem menv65_ok : menv65.Ok Try.prog false := mkEnvM_ok mxs_ok mss64_ok mws2_ok
-- tumble/mass.Join
-- a loop of tumble/mass.Join
structure V_mass_Join_L0 where
  v0 : Int
def tpl_mass_Join_L0 : List AV := [AV.nul, AV.top, AV.nul, AV.top, AV.top, AV.top, AV.top, AV.top, AV.top, AV.top, AV.top, AV.top, AV.top, AV.top, AV.top, AV.top, AV.nul, AV.nul, AV.nul, AV.top, AV.top, AV.top, AV.top, AV.top, AV.top, AV.top, AV.top, AV.top, AV.top, AV.top, AV.top, AV.top, AV.top, AV.top, AV.top, AV.top, AV.top, AV.top, AV.top, AV.top, AV.top, AV.top, AV.top, AV.top, AV.top, AV.top, AV.top, AV.top, AV.top, AV.top, AV.top, AV.top, AV.top, AV.top, AV.top, AV.top, AV.top, AV.top, AV.top, AV.top, AV.top, AV.top, AV.top, AV.top, AV.top]
def cts_mass_Join_L0 : List CT := [CT.keep]
def phs_mass_Join_L0 : List Src := []
def T_mass_Join_L0 (c0 : Nat) (c1 : (Nat → Nat)) (c2 : (Nat → Nat)) (c3 : (Nat → Nat)) (c4 : (Nat → Nat)) (c5 : Int) (x : V_mass_Join_L0) (F0 : Nat → List AV) (F1 : Nat → List AV) : List AV × Heap := ([AV.view c0 4 F0, AV.top, AV.ptr (some ⟨0, 0, .lit 0⟩), AV.top, AV.top, AV.top, AV.top, AV.top, AV.top, AV.top, AV.top, AV.top, AV.top, AV.top, AV.top, AV.top, AV.view c0 4 F1, AV.int .i64 c5, AV.int .i64 x.v0, AV.top, AV.top, AV.top, AV.top, AV.top, AV.top, AV.top, AV.top, AV.top, AV.top, AV.top, AV.top, AV.top, AV.top, AV.top, AV.top, AV.top, AV.top, AV.top, AV.top, AV.top, AV.top, AV.top, AV.top, AV.top, AV.top, AV.top, AV.top, AV.top, AV.top, AV.top, AV.top, AV.top, AV.top, AV.top, AV.top, AV.top, AV.top, AV.top, AV.top, AV.top, AV.top, AV.top, AV.top, AV.top, AV.top], [⟨.flat [AV.float 0, AV.float 0, AV.float 0, AV.float 0], 28, 0⟩])
def sh_mass_Join_L0 (c0 : Nat) (c1 : (Nat → Nat)) (c2 : (Nat → Nat)) (c3 : (Nat → Nat)) (c4 : (Nat → Nat)) (c5 : Int) (x : V_mass_Join_L0) : List AV × Heap := T_mass_Join_L0 c0 c1 c2 c3 c4 c5 x (fun (j0 : Nat) => [AV.float (c1 j0), AV.float (c2 j0), AV.float (c3 j0), AV.float (c4 j0)]) (fun (j0 : Nat) => [AV.float (c1 j0), AV.float (c2 j0), AV.float (c3 j0), AV.float (c4 j0)])
noncomputable def step_mass_Join_L0 (c0 : Nat) (c1 : (Nat → Nat)) (c2 : (Nat → Nat)) (c3 : (Nat → Nat)) (c4 : (Nat → Nat)) (c5 : Int) (x : V_mass_Join_L0) : V_mass_Join_L0 := V_mass_Join_L0.mk (IntKind.wrap .i64 (x.v0 + (1 : Int)))
noncomputable def go_mass_Join_L0 (c0 : Nat) (c1 : (Nat → Nat)) (c2 : (Nat → Nat)) (c3 : (Nat → Nat)) (c4 : (Nat → Nat)) (c5 : Int) (x : V_mass_Join_L0) : Bool := (bif (bif (!(ilt x.v0 c5)) then false else (!(ieq (s_mass_Check_0 (c1 (Int.toNat x.v0)) (c2 (Int.toNat x.v0)) (c3 (Int.toNat x.v0)) (c4 (Int.toNat x.v0))) (0 : Int)))) then false else (bif (!(ilt x.v0 c5)) then false else true))
noncomputable def ok_mass_Join_L0 (c0 : Nat) (c1 : (Nat → Nat)) (c2 : (Nat → Nat)) (c3 : (Nat → Nat)) (c4 : (Nat → Nat)) (c5 : Int) (x : V_mass_Join_L0) : Bool := (mrgB (bif (!(ilt x.v0 c5)) then false else (!(ieq (s_mass_Check_0 (c1 (Int.toNat x.v0)) (c2 (Int.toNat x.v0)) (c3 (Int.toNat x.v0)) (c4 (Int.toNat x.v0))) (0 : Int)))) ((ile (0 : Int) x.v0) && (Nat.blt (Int.toNat x.v0) c0)) (mrgB (!(ilt x.v0 c5)) true ((ile (0 : Int) x.v0) && (Nat.blt (Int.toNat x.v0) c0))))
noncomputable def L_mass_Join_L0 (c0 : Nat) (c1 : (Nat → Nat)) (c2 : (Nat → Nat)) (c3 : (Nat → Nat)) (c4 : (Nat → Nat)) (c5 : Int) (x : V_mass_Join_L0) : V_mass_Join_L0 := lastL (ok_mass_Join_L0 c0 c1 c2 c3 c4 c5) (go_mass_Join_L0 c0 c1 c2 c3 c4 c5) (step_mass_Join_L0 c0 c1 c2 c3 c4 c5) x
noncomputable def E_mass_Join_L0 (c0 : Nat) (c1 : (Nat → Nat)) (c2 : (Nat → Nat)) (c3 : (Nat → Nat)) (c4 : (Nat → Nat)) (c5 : Int) (x : V_mass_Join_L0) : Bool := endsL (ok_mass_Join_L0 c0 c1 c2 c3 c4 c5) (go_mass_Join_L0 c0 c1 c2 c3 c4 c5) (step_mass_Join_L0 c0 c1 c2 c3 c4 c5) x
theorem all_mass_Join_L0 (c0 : Nat) (c1 : (Nat → Nat)) (c2 : (Nat → Nat)) (c3 : (Nat → Nat)) (c4 : (Nat → Nat)) (c5 : Int) (x : V_mass_Join_L0) : rnd Try.prog false menv65 [] [] 96 Ann.no (subC [1, 1, 0, 1, 0, 0] (codeOf Try.f10)) 0 [⟨some 0, 0, 0, []⟩] tpl_mass_Join_L0 cts_mass_Join_L0 [false, true, false, true, true, true, true, true, true, true, true, true, true, true, true, true, false, false, true, true, true, true, true, true, true, true, true, true, true, true, true, true, true, true, true, true, true, true, true, true, true, true, true, true, true, true, true, true, true, true, true, true, true, true, true, true, true, true, true, true, true, true, true, true, true] [true] (sh_mass_Join_L0 c0 c1 c2 c3 c4 c5 x) = (true, true, go_mass_Join_L0 c0 c1 c2 c3 c4 c5 x, ok_mass_Join_L0 c0 c1 c2 c3 c4 c5 x, true, sh_mass_Join_L0 c0 c1 c2 c3 c4 c5 (step_mass_Join_L0 c0 c1 c2 c3 c4 c5 x), true) := by kernel_rfl
noncomputable def fam_mass_Join_L0 (c0 : Nat) (c1 : (Nat → Nat)) (c2 : (Nat → Nat)) (c3 : (Nat → Nat)) (c4 : (Nat → Nat)) (c5 : Int) : Fam Try.prog false menv65 [] [] 96 0 Ann.no (subC [1, 1, 0, 1, 0, 0] (codeOf Try.f10)) V_mass_Join_L0 where
  sh := sh_mass_Join_L0 c0 c1 c2 c3 c4 c5
  ok := ok_mass_Join_L0 c0 c1 c2 c3 c4 c5
  go := go_mass_Join_L0 c0 c1 c2 c3 c4 c5
  step := step_mass_Join_L0 c0 c1 c2 c3 c4 c5
  chg := [false, true, false, true, true, true, true, true, true, true, true, true, true, true, true, true, false, false, true, true, true, true, true, true, true, true, true, true, true, true, true, true, true, true, true, true, true, true, true, true, true, true, true, true, true, true, true, true, true, true, true, true, true, true, true, true, true, true, true, true, true, true, true, true, true]
  chgH := [true]
  tpl := tpl_mass_Join_L0
  cts := cts_mass_Join_L0
  keep := 0
  srcs := [⟨some 0, 0, 0, []⟩]
  ann := (annNo (subC [1, 1, 0, 1, 0, 0] (codeOf Try.f10)))
  le := by kernel_rfl
  kept := by kernel_rfl
  keptB := by kernel_rfl
  all := all_mass_Join_L0 c0 c1 c2 c3 c4 c5
  len := fun x => by kernel_rfl
  head := fun x y => by kernel_rfl
  con := fun x y => by kernel_rfl
  conH := fun x y => by kernel_rfl
noncomputable def F_mass_Join_L0 : St → Option Ch := fun s => cond (Nat.beq s.tm.length 65 && Nat.beq s.H.length 1) (tkCons (alL tpl_mass_Join_L0 s.tm) fun a0 t0 => tkView 4 a0 fun s0 f0 => tkTops 1 t0 fun t1 => tkCons t1 fun a2 t2 => tkPtr 0 0 0 a2 <| tkTops 13 t2 fun t3 => tkCons t3 fun a4 t4 => tkView 4 a4 fun s5 f1 => tkCons t4 fun a5 t5 => tkI .i64 a5 fun s10 => tkCons t5 fun a6 t6 => tkI .i64 a6 fun s11 => tkTops 46 t6 fun t7 => tkNil t7 <| tkCons (alH cts_mass_Join_L0 (s.H ++ List.map phan phs_mass_Join_L0)) fun b8 t8 => tkFlat 28 0 b8 fun m8 => tkCons m8 fun a9 t9 => tkFL 0 a9 <| tkCons t9 fun a10 t10 => tkFL 0 a10 <| tkCons t10 fun a11 t11 => tkFL 0 a11 <| tkCons t11 fun a12 t12 => tkFL 0 a12 <| tkNil t12 <| tkNil t8 <| Fam.out (fam_mass_Join_L0 s0 (fun (i : Nat) => flO (atL (f0 i) 0)) (fun (i : Nat) => flO (atL (f0 i) 1)) (fun (i : Nat) => flO (atL (f0 i) 2)) (fun (i : Nat) => flO (atL (f0 i) 3)) s10) s (((allB fun (i : Nat) => isNrm [Ck.f, Ck.f, Ck.f, Ck.f] (f0 i)) && (eqT f1 f0)) && (eqT s5 s0)) (V_mass_Join_L0.mk s11)) none
theorem F_mass_Join_L0_ok : ∀ s ch, F_mass_Join_L0 s = some ch → AllI s ch ∧ LoopSpec Try.prog false 0 (subC [1, 1, 0, 1, 0, 0] (codeOf Try.f10)) s (sel ch) := by
  intro s ch h
  unfold F_mass_Join_L0 at h
  obtain ⟨hl, h0⟩ := cond_some h rfl
  clear h
  obtain ⟨hl, hb⟩ := and_beq2 hl
  obtain ⟨a0, t0, e0, h1⟩ := tkCons_some h0
  obtain ⟨s0, f0, rfl, h2⟩ := tkView_some h1
  obtain ⟨t1, rfl, h3⟩ := tkTops_some h2
  obtain ⟨a2, t2, rfl, h4⟩ := tkCons_some h3
  obtain ⟨rfl, h5⟩ := tkPtr_some h4
  obtain ⟨t3, rfl, h6⟩ := tkTops_some h5
  obtain ⟨a4, t4, rfl, h7⟩ := tkCons_some h6
  obtain ⟨s5, f1, rfl, h8⟩ := tkView_some h7
  obtain ⟨a5, t5, rfl, h9⟩ := tkCons_some h8
  obtain ⟨s10, rfl, h10⟩ := tkI_some h9
  obtain ⟨a6, t6, rfl, h11⟩ := tkCons_some h10
  obtain ⟨s11, rfl, h12⟩ := tkI_some h11
  obtain ⟨t7, rfl, h13⟩ := tkTops_some h12
  obtain ⟨rfl, h14⟩ := tkNil_some h13
  obtain ⟨b8, t8, eH, h15⟩ := tkCons_some h14
  obtain ⟨m8, rfl, h16⟩ := tkFlat_some h15
  obtain ⟨a9, t9, rfl, h17⟩ := tkCons_some h16
  obtain ⟨rfl, h18⟩ := tkFL_some h17
  obtain ⟨a10, t10, rfl, h19⟩ := tkCons_some h18
  obtain ⟨rfl, h20⟩ := tkFL_some h19
  obtain ⟨a11, t11, rfl, h21⟩ := tkCons_some h20
  obtain ⟨rfl, h22⟩ := tkFL_some h21
  obtain ⟨a12, t12, rfl, h23⟩ := tkCons_some h22
  obtain ⟨rfl, h24⟩ := tkFL_some h23
  obtain ⟨rfl, h25⟩ := tkNil_some h24
  obtain ⟨rfl, h26⟩ := tkNil_some h25
  refine Fam.spec menv65_ok (fam_mass_Join_L0 s0 (fun (i : Nat) => flO (atL (f0 i) 0)) (fun (i : Nat) => flO (atL (f0 i) 1)) (fun (i : Nat) => flO (atL (f0 i) 2)) (fun (i : Nat) => flO (atL (f0 i) 3)) s10) (phs := phs_mass_Join_L0) (hl.trans (by kernel_rfl)) (hb.trans (by kernel_rfl)) ?_ ?_ h26
  · rw [← hdr_alH cts_mass_Join_L0 (s.H ++ List.map phan phs_mass_Join_L0), eH]; kernel_rfl
  · intro hq
    simp only [Bool.and_eq_true] at hq
    obtain ⟨⟨hq0, hq1⟩, hq2⟩ := hq
    have n0 := nrm_fun hq0
    have hx := eqT_eq hq1; subst f1
    have hx := eqT_eq hq2; subst s5
    show sh_mass_Join_L0 s0 (fun (i : Nat) => flO (atL (f0 i) 0)) (fun (i : Nat) => flO (atL (f0 i) 1)) (fun (i : Nat) => flO (atL (f0 i) 2)) (fun (i : Nat) => flO (atL (f0 i) 3)) s10 (V_mass_Join_L0.mk s11) = (alL tpl_mass_Join_L0 s.tm, alH cts_mass_Join_L0 (s.H ++ List.map phan phs_mass_Join_L0))
    rw [e0, eH]
    refine Eq.trans (show sh_mass_Join_L0 s0 (fun (i : Nat) => flO (atL (f0 i) 0)) (fun (i : Nat) => flO (atL (f0 i) 1)) (fun (i : Nat) => flO (atL (f0 i) 2)) (fun (i : Nat) => flO (atL (f0 i) 3)) s10 (V_mass_Join_L0.mk s11) = T_mass_Join_L0 s0 (fun (i : Nat) => flO (atL (f0 i) 0)) (fun (i : Nat) => flO (atL (f0 i) 1)) (fun (i : Nat) => flO (atL (f0 i) 2)) (fun (i : Nat) => flO (atL (f0 i) 3)) s10 (V_mass_Join_L0.mk s11) (fun (i : Nat) => mkN [Ck.f, Ck.f, Ck.f, Ck.f] (f0 i) 0) (fun (i : Nat) => mkN [Ck.f, Ck.f, Ck.f, Ck.f] (f0 i) 0) by kernel_rfl) ?_
    rw [n0]
    kernel_rfl
theorem ann_mass_Join : FnOk Try.prog false 0 Try.f10 (Ann.two Ann.no (Ann.two Ann.no (Ann.two (Ann.two Ann.no (Ann.one (Ann.loop F_mass_Join_L0))) Ann.no))) := (fnOk_of (c := codeOf Try.f10) (by kernel_rfl) (annSeq (a := (subC [0] (codeOf Try.f10))) (b := (subC [1] (codeOf Try.f10))) (by kernel_rfl) (annNo (subC [0] (codeOf Try.f10))) (annSeq (a := (subC [1, 0] (codeOf Try.f10))) (b := (subC [1, 1] (codeOf Try.f10))) (by kernel_rfl) (annNo (subC [1, 0] (codeOf Try.f10))) (annSeq (a := (subC [1, 1, 0] (codeOf Try.f10))) (b := (subC [1, 1, 1] (codeOf Try.f10))) (by kernel_rfl) (annSeq (a := (subC [1, 1, 0, 0] (codeOf Try.f10))) (b := (subC [1, 1, 0, 1] (codeOf Try.f10))) (by kernel_rfl) (annNo (subC [1, 1, 0, 0] (codeOf Try.f10))) (annBlock (a := (subC [1, 1, 0, 1, 0] (codeOf Try.f10))) (i := 0) (by kernel_rfl) (annLoop (a := (subC [1, 1, 0, 1, 0, 0] (codeOf Try.f10))) (by kernel_rfl) F_mass_Join_L0_ok))) (annNo (subC [1, 1, 1] (codeOf Try.f10)))))))
noncomputable def s_mass_Join_0 (a0n : Nat) (a0_0 : Nat → Nat) (a0_1 : Nat → Nat) (a0_2 : Nat → Nat) (a0_3 : Nat → Nat) : Nat := let x0 : Nat := (s_mass_sum_0 a0n a0_0 a0_1 a0_2 a0_3); let x1 : Nat := (fdiv (s_mass_sum_v2_0 a0n a0_0 a0_1 a0_2 a0_3) x0); let x2 : Nat := (fdiv (s_mass_sum_v1_0 a0n a0_0 a0_1 a0_2 a0_3) x0); let x3 : Bool := (ieq (Int.ofNat a0n) (0 : Int)); let x4 : Int := ((L_mass_Join_L0 a0n a0_0 a0_1 a0_2 a0_3 (Int.ofNat a0n) (V_mass_Join_L0.mk (0 : Int))).v0); let x5 : Nat := (Int.toNat x4); (bif (ilt (16384 : Int) (Int.ofNat a0n)) then 0 else (bif (bif (!(ilt x4 (Int.ofNat a0n))) then false else (!(ieq (s_mass_Check_0 (a0_0 x5) (a0_1 x5) (a0_2 x5) (a0_3 x5)) (0 : Int)))) then 0 else (bif (x3 || (ieq (Int.ofNat a0n) (1 : Int))) then (bif x3 then 0 else (a0_0 0)) else (bif (feq x0 0) then 0 else (s_mass_checked_0 x0 (s_mass_sum_v3_0 a0n a0_0 a0_1 a0_2 a0_3 x2 x1) x2 x1)))))
noncomputable def s_mass_Join_1 (a0n : Nat) (a0_0 : Nat → Nat) (a0_1 : Nat → Nat) (a0_2 : Nat → Nat) (a0_3 : Nat → Nat) : Nat := let x0 : Nat := (s_mass_sum_0 a0n a0_0 a0_1 a0_2 a0_3); let x1 : Nat := (fdiv (s_mass_sum_v2_0 a0n a0_0 a0_1 a0_2 a0_3) x0); let x2 : Nat := (fdiv (s_mass_sum_v1_0 a0n a0_0 a0_1 a0_2 a0_3) x0); let x3 : Bool := (ieq (Int.ofNat a0n) (0 : Int)); let x4 : Int := ((L_mass_Join_L0 a0n a0_0 a0_1 a0_2 a0_3 (Int.ofNat a0n) (V_mass_Join_L0.mk (0 : Int))).v0); let x5 : Nat := (Int.toNat x4); (bif (ilt (16384 : Int) (Int.ofNat a0n)) then 0 else (bif (bif (!(ilt x4 (Int.ofNat a0n))) then false else (!(ieq (s_mass_Check_0 (a0_0 x5) (a0_1 x5) (a0_2 x5) (a0_3 x5)) (0 : Int)))) then 0 else (bif (x3 || (ieq (Int.ofNat a0n) (1 : Int))) then (bif x3 then 0 else (a0_1 0)) else (bif (feq x0 0) then 0 else (s_mass_checked_1 x0 (s_mass_sum_v3_0 a0n a0_0 a0_1 a0_2 a0_3 x2 x1) x2 x1)))))
noncomputable def s_mass_Join_2 (a0n : Nat) (a0_0 : Nat → Nat) (a0_1 : Nat → Nat) (a0_2 : Nat → Nat) (a0_3 : Nat → Nat) : Nat := let x0 : Nat := (s_mass_sum_0 a0n a0_0 a0_1 a0_2 a0_3); let x1 : Nat := (fdiv (s_mass_sum_v2_0 a0n a0_0 a0_1 a0_2 a0_3) x0); let x2 : Nat := (fdiv (s_mass_sum_v1_0 a0n a0_0 a0_1 a0_2 a0_3) x0); let x3 : Bool := (ieq (Int.ofNat a0n) (0 : Int)); let x4 : Int := ((L_mass_Join_L0 a0n a0_0 a0_1 a0_2 a0_3 (Int.ofNat a0n) (V_mass_Join_L0.mk (0 : Int))).v0); let x5 : Nat := (Int.toNat x4); (bif (ilt (16384 : Int) (Int.ofNat a0n)) then 0 else (bif (bif (!(ilt x4 (Int.ofNat a0n))) then false else (!(ieq (s_mass_Check_0 (a0_0 x5) (a0_1 x5) (a0_2 x5) (a0_3 x5)) (0 : Int)))) then 0 else (bif (x3 || (ieq (Int.ofNat a0n) (1 : Int))) then (bif x3 then 0 else (a0_2 0)) else (bif (feq x0 0) then 0 else (s_mass_checked_2 x0 (s_mass_sum_v3_0 a0n a0_0 a0_1 a0_2 a0_3 x2 x1) x2 x1)))))
noncomputable def s_mass_Join_3 (a0n : Nat) (a0_0 : Nat → Nat) (a0_1 : Nat → Nat) (a0_2 : Nat → Nat) (a0_3 : Nat → Nat) : Nat := let x0 : Nat := (s_mass_sum_0 a0n a0_0 a0_1 a0_2 a0_3); let x1 : Nat := (fdiv (s_mass_sum_v2_0 a0n a0_0 a0_1 a0_2 a0_3) x0); let x2 : Nat := (fdiv (s_mass_sum_v1_0 a0n a0_0 a0_1 a0_2 a0_3) x0); let x3 : Bool := (ieq (Int.ofNat a0n) (0 : Int)); let x4 : Int := ((L_mass_Join_L0 a0n a0_0 a0_1 a0_2 a0_3 (Int.ofNat a0n) (V_mass_Join_L0.mk (0 : Int))).v0); let x5 : Nat := (Int.toNat x4); (bif (ilt (16384 : Int) (Int.ofNat a0n)) then 0 else (bif (bif (!(ilt x4 (Int.ofNat a0n))) then false else (!(ieq (s_mass_Check_0 (a0_0 x5) (a0_1 x5) (a0_2 x5) (a0_3 x5)) (0 : Int)))) then 0 else (bif (x3 || (ieq (Int.ofNat a0n) (1 : Int))) then (bif x3 then 0 else (a0_3 0)) else (bif (feq x0 0) then 0 else (s_mass_checked_3 x0 (s_mass_sum_v3_0 a0n a0_0 a0_1 a0_2 a0_3 x2 x1) x2 x1)))))
noncomputable def s_mass_Join_4 (a0n : Nat) (a0_0 : Nat → Nat) (a0_1 : Nat → Nat) (a0_2 : Nat → Nat) (a0_3 : Nat → Nat) : Int := let x0 : Nat := (s_mass_sum_0 a0n a0_0 a0_1 a0_2 a0_3); let x1 : Nat := (fdiv (s_mass_sum_v2_0 a0n a0_0 a0_1 a0_2 a0_3) x0); let x2 : Nat := (fdiv (s_mass_sum_v1_0 a0n a0_0 a0_1 a0_2 a0_3) x0); let x3 : Bool := (ieq (Int.ofNat a0n) (0 : Int)); let x4 : Int := ((L_mass_Join_L0 a0n a0_0 a0_1 a0_2 a0_3 (Int.ofNat a0n) (V_mass_Join_L0.mk (0 : Int))).v0); let x5 : Nat := (Int.toNat x4); let x6 : Int := (s_mass_Check_0 (a0_0 x5) (a0_1 x5) (a0_2 x5) (a0_3 x5)); (bif (ilt (16384 : Int) (Int.ofNat a0n)) then (4 : Int) else (bif (bif (!(ilt x4 (Int.ofNat a0n))) then false else (!(ieq x6 (0 : Int)))) then x6 else (bif (x3 || (ieq (Int.ofNat a0n) (1 : Int))) then (bif x3 then (0 : Int) else (0 : Int)) else (bif (feq x0 0) then (0 : Int) else (s_mass_checked_4 x0 (s_mass_sum_v3_0 a0n a0_0 a0_1 a0_2 a0_3 x2 x1) x2 x1)))))
theorem e_mass_Join (a0n : Nat) (a0_0 : Nat → Nat) (a0_1 : Nat → Nat) (a0_2 : Nat → Nat) (a0_3 : Nat → Nat) : outB (evFnM Try.prog false menv65 [] [] 96 (Ann.two Ann.no (Ann.two Ann.no (Ann.two (Ann.two Ann.no (Ann.one (Ann.loop F_mass_Join_L0))) Ann.no))) Try.f10 [AV.view a0n 4 (fun (i0 : Nat) => [AV.float (a0_0 i0), AV.float (a0_1 i0), AV.float (a0_2 i0), AV.float (a0_3 i0)])] []) = some ((let x0 : Bool := ((((allB fun _ => true) && (eqT (fun (i : Nat) => [AV.float (a0_0 i), AV.float (a0_1 i), AV.float (a0_2 i), AV.float (a0_3 i)]) (fun (i : Nat) => [AV.float (a0_0 i), AV.float (a0_1 i), AV.float (a0_2 i), AV.float (a0_3 i)]))) && (eqT a0n a0n)) && (E_mass_Join_L0 a0n a0_0 a0_1 a0_2 a0_3 (Int.ofNat a0n) (V_mass_Join_L0.mk (0 : Int)))); let x1 : Bool := (((allB fun _ => true) && (o_mass_sum a0n a0_0 a0_1 a0_2 a0_3)) && x0); let x2 : Nat := (s_mass_sum_0 a0n a0_0 a0_1 a0_2 a0_3); let x3 : Bool := (ieq (Int.ofNat a0n) (0 : Int)); let x4 : Int := ((L_mass_Join_L0 a0n a0_0 a0_1 a0_2 a0_3 (Int.ofNat a0n) (V_mass_Join_L0.mk (0 : Int))).v0); let x5 : Nat := (Int.toNat x4); (mrgB (ilt (16384 : Int) (Int.ofNat a0n)) true (mrgB (bif (!(ilt x4 (Int.ofNat a0n))) then false else (!(ieq (s_mass_Check_0 (a0_0 x5) (a0_1 x5) (a0_2 x5) (a0_3 x5)) (0 : Int)))) x0 (mrgB (x3 || (ieq (Int.ofNat a0n) (1 : Int))) (mrgB x3 x0 ((Nat.blt 0 a0n) && x0)) (mrgB (feq x2 0) x1 (((allB fun _ => true) && (o_mass_sum_v3 a0n a0_0 a0_1 a0_2 a0_3 (fdiv (s_mass_sum_v1_0 a0n a0_0 a0_1 a0_2 a0_3) x2) (fdiv (s_mass_sum_v2_0 a0n a0_0 a0_1 a0_2 a0_3) x2))) && (((allB fun _ => true) && (o_mass_sum_v2 a0n a0_0 a0_1 a0_2 a0_3)) && (((allB fun _ => true) && (o_mass_sum_v1 a0n a0_0 a0_1 a0_2 a0_3)) && x1)))))))), AV.tup [AV.agg [AV.float (s_mass_Join_0 a0n a0_0 a0_1 a0_2 a0_3), AV.float (s_mass_Join_1 a0n a0_0 a0_1 a0_2 a0_3), AV.float (s_mass_Join_2 a0n a0_0 a0_1 a0_2 a0_3), AV.float (s_mass_Join_3 a0n a0_0 a0_1 a0_2 a0_3)], AV.int .i64 (s_mass_Join_4 a0n a0_0 a0_1 a0_2 a0_3)]) := by kernel_rfl
noncomputable def o_mass_Join (a0n : Nat) (a0_0 : Nat → Nat) (a0_1 : Nat → Nat) (a0_2 : Nat → Nat) (a0_3 : Nat → Nat) : Bool := let x0 : Bool := (E_mass_Join_L0 a0n a0_0 a0_1 a0_2 a0_3 (Int.ofNat a0n) (V_mass_Join_L0.mk (0 : Int))); let x1 : Bool := ((o_mass_sum a0n a0_0 a0_1 a0_2 a0_3) && x0); let x2 : Nat := (s_mass_sum_0 a0n a0_0 a0_1 a0_2 a0_3); let x3 : Bool := (ieq (Int.ofNat a0n) (0 : Int)); let x4 : Int := ((L_mass_Join_L0 a0n a0_0 a0_1 a0_2 a0_3 (Int.ofNat a0n) (V_mass_Join_L0.mk (0 : Int))).v0); let x5 : Nat := (Int.toNat x4); (mrgB (ilt (16384 : Int) (Int.ofNat a0n)) true (mrgB (bif (!(ilt x4 (Int.ofNat a0n))) then false else (!(ieq (s_mass_Check_0 (a0_0 x5) (a0_1 x5) (a0_2 x5) (a0_3 x5)) (0 : Int)))) x0 (mrgB (x3 || (ieq (Int.ofNat a0n) (1 : Int))) (mrgB x3 x0 ((Nat.blt 0 a0n) && x0)) (mrgB (feq x2 0) x1 ((o_mass_sum_v3 a0n a0_0 a0_1 a0_2 a0_3 (fdiv (s_mass_sum_v1_0 a0n a0_0 a0_1 a0_2 a0_3) x2) (fdiv (s_mass_sum_v2_0 a0n a0_0 a0_1 a0_2 a0_3) x2)) && ((o_mass_sum_v2 a0n a0_0 a0_1 a0_2 a0_3) && ((o_mass_sum_v1 a0n a0_0 a0_1 a0_2 a0_3) && x1)))))))
noncomputable def S_mass_Join : List AV → Option (Ob × AV)
  | [AV.view a0n 4 a0f] => some (Ob.both (Ob.bit (allB fun (i : Nat) => isNrm [Ck.f, Ck.f, Ck.f, Ck.f] (a0f i))) (Ob.bit (o_mass_Join a0n (fun (i0 : Nat) => (flO (atL (a0f i0) 0))) (fun (i0 : Nat) => (flO (atL (a0f i0) 1))) (fun (i0 : Nat) => (flO (atL (a0f i0) 2))) (fun (i0 : Nat) => (flO (atL (a0f i0) 3))))), AV.tup [AV.agg [AV.float (s_mass_Join_0 a0n (fun (i0 : Nat) => (flO (atL (a0f i0) 0))) (fun (i0 : Nat) => (flO (atL (a0f i0) 1))) (fun (i0 : Nat) => (flO (atL (a0f i0) 2))) (fun (i0 : Nat) => (flO (atL (a0f i0) 3)))), AV.float (s_mass_Join_1 a0n (fun (i0 : Nat) => (flO (atL (a0f i0) 0))) (fun (i0 : Nat) => (flO (atL (a0f i0) 1))) (fun (i0 : Nat) => (flO (atL (a0f i0) 2))) (fun (i0 : Nat) => (flO (atL (a0f i0) 3)))), AV.float (s_mass_Join_2 a0n (fun (i0 : Nat) => (flO (atL (a0f i0) 0))) (fun (i0 : Nat) => (flO (atL (a0f i0) 1))) (fun (i0 : Nat) => (flO (atL (a0f i0) 2))) (fun (i0 : Nat) => (flO (atL (a0f i0) 3)))), AV.float (s_mass_Join_3 a0n (fun (i0 : Nat) => (flO (atL (a0f i0) 0))) (fun (i0 : Nat) => (flO (atL (a0f i0) 1))) (fun (i0 : Nat) => (flO (atL (a0f i0) 2))) (fun (i0 : Nat) => (flO (atL (a0f i0) 3))))], AV.int .i64 (s_mass_Join_4 a0n (fun (i0 : Nat) => (flO (atL (a0f i0) 0))) (fun (i0 : Nat) => (flO (atL (a0f i0) 1))) (fun (i0 : Nat) => (flO (atL (a0f i0) 2))) (fun (i0 : Nat) => (flO (atL (a0f i0) 3))))])
  | _ => none
theorem ob_mass_Join (a0n : Nat) (a0_0 : Nat → Nat) (a0_1 : Nat → Nat) (a0_2 : Nat → Nat) (a0_3 : Nat → Nat) (ho : o_mass_Join a0n a0_0 a0_1 a0_2 a0_3 = true) : (let x0 : Bool := ((((allB fun _ => true) && (eqT (fun (i : Nat) => [AV.float (a0_0 i), AV.float (a0_1 i), AV.float (a0_2 i), AV.float (a0_3 i)]) (fun (i : Nat) => [AV.float (a0_0 i), AV.float (a0_1 i), AV.float (a0_2 i), AV.float (a0_3 i)]))) && (eqT a0n a0n)) && (E_mass_Join_L0 a0n a0_0 a0_1 a0_2 a0_3 (Int.ofNat a0n) (V_mass_Join_L0.mk (0 : Int)))); let x1 : Bool := (((allB fun _ => true) && (o_mass_sum a0n a0_0 a0_1 a0_2 a0_3)) && x0); let x2 : Nat := (s_mass_sum_0 a0n a0_0 a0_1 a0_2 a0_3); let x3 : Bool := (ieq (Int.ofNat a0n) (0 : Int)); let x4 : Int := ((L_mass_Join_L0 a0n a0_0 a0_1 a0_2 a0_3 (Int.ofNat a0n) (V_mass_Join_L0.mk (0 : Int))).v0); let x5 : Nat := (Int.toNat x4); (mrgB (ilt (16384 : Int) (Int.ofNat a0n)) true (mrgB (bif (!(ilt x4 (Int.ofNat a0n))) then false else (!(ieq (s_mass_Check_0 (a0_0 x5) (a0_1 x5) (a0_2 x5) (a0_3 x5)) (0 : Int)))) x0 (mrgB (x3 || (ieq (Int.ofNat a0n) (1 : Int))) (mrgB x3 x0 ((Nat.blt 0 a0n) && x0)) (mrgB (feq x2 0) x1 (((allB fun _ => true) && (o_mass_sum_v3 a0n a0_0 a0_1 a0_2 a0_3 (fdiv (s_mass_sum_v1_0 a0n a0_0 a0_1 a0_2 a0_3) x2) (fdiv (s_mass_sum_v2_0 a0n a0_0 a0_1 a0_2 a0_3) x2))) && (((allB fun _ => true) && (o_mass_sum_v2 a0n a0_0 a0_1 a0_2 a0_3)) && (((allB fun _ => true) && (o_mass_sum_v1 a0n a0_0 a0_1 a0_2 a0_3)) && x1)))))))) = true := by
  unfold o_mass_Join at ho
  simp only [allB_true, eqT_self, mrgB_self, Bool.true_and, Bool.and_true] at ho ⊢
  exact ho
theorem t_mass_Join : SOkM Try.prog false (10, fun args => match S_mass_Join args with | some (o, v) => some (o, v, []) | none => none) := SOkM.flat (N := 96) menv65_ok Try.func10 ann_mass_Join Try.call10 fun args o v h ho => by
  unfold S_mass_Join at h
  split at h
  · rename_i a0n a0f
    cases h
    rw [Ob.both_ok, Bool.and_eq_true] at ho
    obtain ⟨hn, ho2⟩ := ho
    have n0 := hn
    simp only [Ob.ok] at n0
    replace n0 := nrm_fun n0
    have this : outB (evFnM Try.prog false menv65 [] [] 96 (Ann.two Ann.no (Ann.two Ann.no (Ann.two (Ann.two Ann.no (Ann.one (Ann.loop F_mass_Join_L0))) Ann.no))) Try.f10 [AV.view a0n 4 (fun (i : Nat) => mkN [Ck.f, Ck.f, Ck.f, Ck.f] (a0f i) 0)] []) = some (true, AV.tup [AV.agg [AV.float (s_mass_Join_0 a0n (fun (i0 : Nat) => (flO (atL (a0f i0) 0))) (fun (i0 : Nat) => (flO (atL (a0f i0) 1))) (fun (i0 : Nat) => (flO (atL (a0f i0) 2))) (fun (i0 : Nat) => (flO (atL (a0f i0) 3)))), AV.float (s_mass_Join_1 a0n (fun (i0 : Nat) => (flO (atL (a0f i0) 0))) (fun (i0 : Nat) => (flO (atL (a0f i0) 1))) (fun (i0 : Nat) => (flO (atL (a0f i0) 2))) (fun (i0 : Nat) => (flO (atL (a0f i0) 3)))), AV.float (s_mass_Join_2 a0n (fun (i0 : Nat) => (flO (atL (a0f i0) 0))) (fun (i0 : Nat) => (flO (atL (a0f i0) 1))) (fun (i0 : Nat) => (flO (atL (a0f i0) 2))) (fun (i0 : Nat) => (flO (atL (a0f i0) 3)))), AV.float (s_mass_Join_3 a0n (fun (i0 : Nat) => (flO (atL (a0f i0) 0))) (fun (i0 : Nat) => (flO (atL (a0f i0) 1))) (fun (i0 : Nat) => (flO (atL (a0f i0) 2))) (fun (i0 : Nat) => (flO (atL (a0f i0) 3))))], AV.int .i64 (s_mass_Join_4 a0n (fun (i0 : Nat) => (flO (atL (a0f i0) 0))) (fun (i0 : Nat) => (flO (atL (a0f i0) 1))) (fun (i0 : Nat) => (flO (atL (a0f i0) 2))) (fun (i0 : Nat) => (flO (atL (a0f i0) 3))))]) := Eq.trans (show outB (evFnM Try.prog false menv65 [] [] 96 (Ann.two Ann.no (Ann.two Ann.no (Ann.two (Ann.two Ann.no (Ann.one (Ann.loop F_mass_Join_L0))) Ann.no))) Try.f10 [AV.view a0n 4 (fun (i : Nat) => mkN [Ck.f, Ck.f, Ck.f, Ck.f] (a0f i) 0)] []) = _ from e_mass_Join a0n (fun (i0 : Nat) => (flO (atL (a0f i0) 0))) (fun (i0 : Nat) => (flO (atL (a0f i0) 1))) (fun (i0 : Nat) => (flO (atL (a0f i0) 2))) (fun (i0 : Nat) => (flO (atL (a0f i0) 3)))) (by rw [(ob_mass_Join a0n (fun (i0 : Nat) => (flO (atL (a0f i0) 0))) (fun (i0 : Nat) => (flO (atL (a0f i0) 1))) (fun (i0 : Nat) => (flO (atL (a0f i0) 2))) (fun (i0 : Nat) => (flO (atL (a0f i0) 3))) ho2)])
    rw [n0] at this
    exact ⟨this, rfl⟩
  · cases h
noncomputable def c_mass_Join : SFM := fun args => match S_mass_Join args with | some (o, v) => some (o, v, []) | none => none
theorem c_mass_Join_ok : SOkM Try.prog false (10, c_mass_Join) := t_mass_Join
noncomputable def mss65 : List (FuncId × SFM) := (10, c_mass_Join) :: mss64
noncomputable def menv66 : EnvM := mkEnvM mxs mss65 mws2
theorem mss65_ok : All (SOkM Try.prog false) mss65 := All.cons c_mass_Join_ok mss64_ok
theorem menv66_ok : menv66.Ok Try.prog false := mkEnvM_ok mxs_ok mss65_ok mws2_ok
-- tumble/tumbleref08.End
theorem ann_ref08_End : FnOk Try.prog false 0 Try.f50 Ann.no := (fnNo _)
noncomputable def s_ref08_End_0 (a0 : Nat) : Bool := ((fle 0 a0) && (feq (fsub a0 a0) 0))
theorem e_ref08_End (a0 : Nat) : outB (evFnM Try.prog false menv66 [] [] 96 Ann.no Try.f50 [AV.float a0] []) = some (true, AV.bool (s_ref08_End_0 a0)) := by kernel_rfl
noncomputable def S_ref08_End : List AV → Option (Ob × AV)
  | [AV.float a0] => some (Ob.tt, AV.bool (s_ref08_End_0 a0))
  | _ => none
theorem ob_ref08_End (a0 : Nat) : true = true := rfl
theorem t_ref08_End : SOkM Try.prog false (50, fun args => match S_ref08_End args with | some (o, v) => some (o, v, []) | none => none) := SOkM.flat (N := 96) menv66_ok Try.func50 ann_ref08_End Try.call50 fun args o v h ho => by
  unfold S_ref08_End at h
  split at h
  · rename_i a0
    cases h
    have ho2 := ho
    have this : outB (evFnM Try.prog false menv66 [] [] 96 Ann.no Try.f50 [AV.float a0] []) = some (true, AV.bool (s_ref08_End_0 a0)) := Eq.trans (show outB (evFnM Try.prog false menv66 [] [] 96 Ann.no Try.f50 [AV.float a0] []) = _ from e_ref08_End a0) (by rw [(ob_ref08_End a0)])
    exact ⟨this, rfl⟩
  · cases h
noncomputable def c_ref08_End : SFM := fun args => match S_ref08_End args with | some (o, v) => some (o, v, []) | none => none
theorem c_ref08_End_ok : SOkM Try.prog false (50, c_ref08_End) := t_ref08_End
noncomputable def mss66 : List (FuncId × SFM) := (50, c_ref08_End) :: mss65
noncomputable def menv67 : EnvM := mkEnvM mxs mss66 mws2
theorem mss66_ok : All (SOkM Try.prog false) mss66 := All.cons c_ref08_End_ok mss65_ok
theorem menv67_ok : menv67.Ok Try.prog false := mkEnvM_ok mxs_ok mss66_ok mws2_ok
-- tumble/tumbleref02.Within
theorem ann_ref02_Within : FnOk Try.prog false 0 Try.f46 Ann.no := (fnNo _)
noncomputable def s_ref02_Within_0 (a0 : Nat) (a1 : Nat) (a2 : Nat) : Bool := ((fle (fabs a0) a2) && (fle (fabs a1) a2))
theorem e_ref02_Within (a0 : Nat) (a1 : Nat) (a2 : Nat) : outB (evFnM Try.prog false menv67 [] [] 96 Ann.no Try.f46 [AV.agg [AV.float a0, AV.float a1], AV.float a2] []) = some (true, AV.bool (s_ref02_Within_0 a0 a1 a2)) := by kernel_rfl
noncomputable def S_ref02_Within : List AV → Option (Ob × AV)
  | [AV.agg [AV.float a0, AV.float a1], AV.float a2] => some (Ob.tt, AV.bool (s_ref02_Within_0 a0 a1 a2))
  | _ => none
theorem ob_ref02_Within (a0 : Nat) (a1 : Nat) (a2 : Nat) : true = true := rfl
theorem t_ref02_Within : SOkM Try.prog false (46, fun args => match S_ref02_Within args with | some (o, v) => some (o, v, []) | none => none) := SOkM.flat (N := 96) menv67_ok Try.func46 ann_ref02_Within Try.call46 fun args o v h ho => by
  unfold S_ref02_Within at h
  split at h
  · rename_i a0 a1 a2
    cases h
    have ho2 := ho
    have this : outB (evFnM Try.prog false menv67 [] [] 96 Ann.no Try.f46 [AV.agg [AV.float a0, AV.float a1], AV.float a2] []) = some (true, AV.bool (s_ref02_Within_0 a0 a1 a2)) := Eq.trans (show outB (evFnM Try.prog false menv67 [] [] 96 Ann.no Try.f46 [AV.agg [AV.float a0, AV.float a1], AV.float a2] []) = _ from e_ref02_Within a0 a1 a2) (by rw [(ob_ref02_Within a0 a1 a2)])
    exact ⟨this, rfl⟩
  · cases h
noncomputable def c_ref02_Within : SFM := fun args => match S_ref02_Within args with | some (o, v) => some (o, v, []) | none => none
theorem c_ref02_Within_ok : SOkM Try.prog false (46, c_ref02_Within) := t_ref02_Within
noncomputable def mss67 : List (FuncId × SFM) := (46, c_ref02_Within) :: mss66
noncomputable def menv68 : EnvM := mkEnvM mxs mss67 mws2
theorem mss67_ok : All (SOkM Try.prog false) mss67 := All.cons c_ref02_Within_ok mss66_ok
theorem menv68_ok : menv68.Ok Try.prog false := mkEnvM_ok mxs_ok mss67_ok mws2_ok
-- tumble/tumbleref08.Check
theorem ann_ref08_Check : FnOk Try.prog false 0 Try.f18 Ann.no := (fnNo _)
noncomputable def s_ref08_Check_0 (a0 : Nat) (a1 : Nat) (a2 : Nat) (a3 : Nat) : Int := (bif (((!(s_ref08_End_0 a0)) || (!(s_ref08_End_0 a1))) || (!(s_ref02_Within_0 a2 a3 4787326403894837248))) then (80 : Int) else (0 : Int))
theorem e_ref08_Check (a0 : Nat) (a1 : Nat) (a2 : Nat) (a3 : Nat) : outB (evFnM Try.prog false menv68 [] [] 96 Ann.no Try.f18 [AV.agg [AV.float a0, AV.float a1, AV.float a2, AV.float a3]] []) = some (true, AV.int .i64 (s_ref08_Check_0 a0 a1 a2 a3)) := by kernel_rfl
noncomputable def S_ref08_Check : List AV → Option (Ob × AV)
  | [AV.agg [AV.float a0, AV.float a1, AV.float a2, AV.float a3]] => some (Ob.tt, AV.int .i64 (s_ref08_Check_0 a0 a1 a2 a3))
  | _ => none
theorem ob_ref08_Check (a0 : Nat) (a1 : Nat) (a2 : Nat) (a3 : Nat) : true = true := rfl
theorem t_ref08_Check : SOkM Try.prog false (18, fun args => match S_ref08_Check args with | some (o, v) => some (o, v, []) | none => none) := SOkM.flat (N := 96) menv68_ok Try.func18 ann_ref08_Check Try.call18 fun args o v h ho => by
  unfold S_ref08_Check at h
  split at h
  · rename_i a0 a1 a2 a3
    cases h
    have ho2 := ho
    have this : outB (evFnM Try.prog false menv68 [] [] 96 Ann.no Try.f18 [AV.agg [AV.float a0, AV.float a1, AV.float a2, AV.float a3]] []) = some (true, AV.int .i64 (s_ref08_Check_0 a0 a1 a2 a3)) := Eq.trans (show outB (evFnM Try.prog false menv68 [] [] 96 Ann.no Try.f18 [AV.agg [AV.float a0, AV.float a1, AV.float a2, AV.float a3]] []) = _ from e_ref08_Check a0 a1 a2 a3) (by rw [(ob_ref08_Check a0 a1 a2 a3)])
    exact ⟨this, rfl⟩
  · cases h
noncomputable def c_ref08_Check : SFM := fun args => match S_ref08_Check args with | some (o, v) => some (o, v, []) | none => none
theorem c_ref08_Check_ok : SOkM Try.prog false (18, c_ref08_Check) := t_ref08_Check
noncomputable def mss68 : List (FuncId × SFM) := (18, c_ref08_Check) :: mss67
noncomputable def menv69 : EnvM := mkEnvM mxs mss68 mws2
theorem mss68_ok : All (SOkM Try.prog false) mss68 := All.cons c_ref08_Check_ok mss67_ok
theorem menv69_ok : menv69.Ok Try.prog false := mkEnvM_ok mxs_ok mss68_ok mws2_ok
-- tumble/tumbleref02.Vec
theorem ann_ref02_Vec : FnOk Try.prog false 0 Try.f41 Ann.no := (fnNo _)
noncomputable def s_ref02_Vec_0 (a0 : Nat) (a1 : Nat) : Nat := a0
noncomputable def s_ref02_Vec_1 (a0 : Nat) (a1 : Nat) : Nat := a1
theorem e_ref02_Vec (a0 : Nat) (a1 : Nat) : outB (evFnM Try.prog false menv69 [] [] 96 Ann.no Try.f41 [AV.float a0, AV.float a1] []) = some (true, AV.agg [AV.float (s_ref02_Vec_0 a0 a1), AV.float (s_ref02_Vec_1 a0 a1)]) := by kernel_rfl
noncomputable def S_ref02_Vec : List AV → Option (Ob × AV)
  | [AV.float a0, AV.float a1] => some (Ob.tt, AV.agg [AV.float (s_ref02_Vec_0 a0 a1), AV.float (s_ref02_Vec_1 a0 a1)])
  | _ => none
theorem ob_ref02_Vec (a0 : Nat) (a1 : Nat) : true = true := rfl
theorem t_ref02_Vec : SOkM Try.prog false (41, fun args => match S_ref02_Vec args with | some (o, v) => some (o, v, []) | none => none) := SOkM.flat (N := 96) menv69_ok Try.func41 ann_ref02_Vec Try.call41 fun args o v h ho => by
  unfold S_ref02_Vec at h
  split at h
  · rename_i a0 a1
    cases h
    have ho2 := ho
    have this : outB (evFnM Try.prog false menv69 [] [] 96 Ann.no Try.f41 [AV.float a0, AV.float a1] []) = some (true, AV.agg [AV.float (s_ref02_Vec_0 a0 a1), AV.float (s_ref02_Vec_1 a0 a1)]) := Eq.trans (show outB (evFnM Try.prog false menv69 [] [] 96 Ann.no Try.f41 [AV.float a0, AV.float a1] []) = _ from e_ref02_Vec a0 a1) (by rw [(ob_ref02_Vec a0 a1)])
    exact ⟨this, rfl⟩
  · cases h
noncomputable def c_ref02_Vec : SFM := fun args => match S_ref02_Vec args with | some (o, v) => some (o, v, []) | none => none
theorem c_ref02_Vec_ok : SOkM Try.prog false (41, c_ref02_Vec) := t_ref02_Vec
noncomputable def mss69 : List (FuncId × SFM) := (41, c_ref02_Vec) :: mss68
noncomputable def menv70 : EnvM := mkEnvM mxs mss69 mws2
theorem mss69_ok : All (SOkM Try.prog false) mss69 := All.cons c_ref02_Vec_ok mss68_ok
theorem menv70_ok : menv70.Ok Try.prog false := mkEnvM_ok mxs_ok mss69_ok mws2_ok
-- tumble/tumbleref02.Sub
theorem ann_ref02_Sub : FnOk Try.prog false 0 Try.f43 Ann.no := (fnNo _)
noncomputable def s_ref02_Sub_0 (a0 : Nat) (a1 : Nat) (a2 : Nat) (a3 : Nat) : Nat := (s_ref02_Vec_0 (fsub a0 a2) (fsub a1 a3))
noncomputable def s_ref02_Sub_1 (a0 : Nat) (a1 : Nat) (a2 : Nat) (a3 : Nat) : Nat := (s_ref02_Vec_1 (fsub a0 a2) (fsub a1 a3))
theorem e_ref02_Sub (a0 : Nat) (a1 : Nat) (a2 : Nat) (a3 : Nat) : outB (evFnM Try.prog false menv70 [] [] 96 Ann.no Try.f43 [AV.agg [AV.float a0, AV.float a1], AV.agg [AV.float a2, AV.float a3]] []) = some (true, AV.agg [AV.float (s_ref02_Sub_0 a0 a1 a2 a3), AV.float (s_ref02_Sub_1 a0 a1 a2 a3)]) := by kernel_rfl
noncomputable def S_ref02_Sub : List AV → Option (Ob × AV)
  | [AV.agg [AV.float a0, AV.float a1], AV.agg [AV.float a2, AV.float a3]] => some (Ob.tt, AV.agg [AV.float (s_ref02_Sub_0 a0 a1 a2 a3), AV.float (s_ref02_Sub_1 a0 a1 a2 a3)])
  | _ => none
theorem ob_ref02_Sub (a0 : Nat) (a1 : Nat) (a2 : Nat) (a3 : Nat) : true = true := rfl
theorem t_ref02_Sub : SOkM Try.prog false (43, fun args => match S_ref02_Sub args with | some (o, v) => some (o, v, []) | none => none) := SOkM.flat (N := 96) menv70_ok Try.func43 ann_ref02_Sub Try.call43 fun args o v h ho => by
  unfold S_ref02_Sub at h
  split at h
  · rename_i a0 a1 a2 a3
    cases h
    have ho2 := ho
    have this : outB (evFnM Try.prog false menv70 [] [] 96 Ann.no Try.f43 [AV.agg [AV.float a0, AV.float a1], AV.agg [AV.float a2, AV.float a3]] []) = some (true, AV.agg [AV.float (s_ref02_Sub_0 a0 a1 a2 a3), AV.float (s_ref02_Sub_1 a0 a1 a2 a3)]) := Eq.trans (show outB (evFnM Try.prog false menv70 [] [] 96 Ann.no Try.f43 [AV.agg [AV.float a0, AV.float a1], AV.agg [AV.float a2, AV.float a3]] []) = _ from e_ref02_Sub a0 a1 a2 a3) (by rw [(ob_ref02_Sub a0 a1 a2 a3)])
    exact ⟨this, rfl⟩
  · cases h
noncomputable def c_ref02_Sub : SFM := fun args => match S_ref02_Sub args with | some (o, v) => some (o, v, []) | none => none
theorem c_ref02_Sub_ok : SOkM Try.prog false (43, c_ref02_Sub) := t_ref02_Sub
noncomputable def mss70 : List (FuncId × SFM) := (43, c_ref02_Sub) :: mss69
noncomputable def menv71 : EnvM := mkEnvM mxs mss70 mws2
theorem mss70_ok : All (SOkM Try.prog false) mss70 := All.cons c_ref02_Sub_ok mss69_ok
theorem menv71_ok : menv71.Ok Try.prog false := mkEnvM_ok mxs_ok mss70_ok mws2_ok
-- tumble/tumbleref02.Dot
theorem ann_ref02_Dot : FnOk Try.prog false 0 Try.f69 Ann.no := (fnNo _)
noncomputable def s_ref02_Dot_0 (a0 : Nat) (a1 : Nat) (a2 : Nat) (a3 : Nat) : Nat := (fadd (fmul a0 a2) (fmul a1 a3))
theorem e_ref02_Dot (a0 : Nat) (a1 : Nat) (a2 : Nat) (a3 : Nat) : outB (evFnM Try.prog false menv71 [] [] 96 Ann.no Try.f69 [AV.agg [AV.float a0, AV.float a1], AV.agg [AV.float a2, AV.float a3]] []) = some (true, AV.float (s_ref02_Dot_0 a0 a1 a2 a3)) := by kernel_rfl
noncomputable def S_ref02_Dot : List AV → Option (Ob × AV)
  | [AV.agg [AV.float a0, AV.float a1], AV.agg [AV.float a2, AV.float a3]] => some (Ob.tt, AV.float (s_ref02_Dot_0 a0 a1 a2 a3))
  | _ => none
theorem ob_ref02_Dot (a0 : Nat) (a1 : Nat) (a2 : Nat) (a3 : Nat) : true = true := rfl
theorem t_ref02_Dot : SOkM Try.prog false (69, fun args => match S_ref02_Dot args with | some (o, v) => some (o, v, []) | none => none) := SOkM.flat (N := 96) menv71_ok Try.func69 ann_ref02_Dot Try.call69 fun args o v h ho => by
  unfold S_ref02_Dot at h
  split at h
  · rename_i a0 a1 a2 a3
    cases h
    have ho2 := ho
    have this : outB (evFnM Try.prog false menv71 [] [] 96 Ann.no Try.f69 [AV.agg [AV.float a0, AV.float a1], AV.agg [AV.float a2, AV.float a3]] []) = some (true, AV.float (s_ref02_Dot_0 a0 a1 a2 a3)) := Eq.trans (show outB (evFnM Try.prog false menv71 [] [] 96 Ann.no Try.f69 [AV.agg [AV.float a0, AV.float a1], AV.agg [AV.float a2, AV.float a3]] []) = _ from e_ref02_Dot a0 a1 a2 a3) (by rw [(ob_ref02_Dot a0 a1 a2 a3)])
    exact ⟨this, rfl⟩
  · cases h
noncomputable def c_ref02_Dot : SFM := fun args => match S_ref02_Dot args with | some (o, v) => some (o, v, []) | none => none
theorem c_ref02_Dot_ok : SOkM Try.prog false (69, c_ref02_Dot) := t_ref02_Dot
noncomputable def mss71 : List (FuncId × SFM) := (69, c_ref02_Dot) :: mss70
noncomputable def menv72 : EnvM := mkEnvM mxs mss71 mws2
theorem mss71_ok : All (SOkM Try.prog false) mss71 := All.cons c_ref02_Dot_ok mss70_ok
theorem menv72_ok : menv72.Ok Try.prog false := mkEnvM_ok mxs_ok mss71_ok mws2_ok
-- tumble/tumbleref02.Square
theorem ann_ref02_Square : FnOk Try.prog false 0 Try.f42 Ann.no := (fnNo _)
noncomputable def s_ref02_Square_0 (a0 : Nat) (a1 : Nat) : Nat := (s_ref02_Dot_0 a0 a1 a0 a1)
theorem e_ref02_Square (a0 : Nat) (a1 : Nat) : outB (evFnM Try.prog false menv72 [] [] 96 Ann.no Try.f42 [AV.agg [AV.float a0, AV.float a1]] []) = some (true, AV.float (s_ref02_Square_0 a0 a1)) := by kernel_rfl
noncomputable def S_ref02_Square : List AV → Option (Ob × AV)
  | [AV.agg [AV.float a0, AV.float a1]] => some (Ob.tt, AV.float (s_ref02_Square_0 a0 a1))
  | _ => none
theorem ob_ref02_Square (a0 : Nat) (a1 : Nat) : true = true := rfl
theorem t_ref02_Square : SOkM Try.prog false (42, fun args => match S_ref02_Square args with | some (o, v) => some (o, v, []) | none => none) := SOkM.flat (N := 96) menv72_ok Try.func42 ann_ref02_Square Try.call42 fun args o v h ho => by
  unfold S_ref02_Square at h
  split at h
  · rename_i a0 a1
    cases h
    have ho2 := ho
    have this : outB (evFnM Try.prog false menv72 [] [] 96 Ann.no Try.f42 [AV.agg [AV.float a0, AV.float a1]] []) = some (true, AV.float (s_ref02_Square_0 a0 a1)) := Eq.trans (show outB (evFnM Try.prog false menv72 [] [] 96 Ann.no Try.f42 [AV.agg [AV.float a0, AV.float a1]] []) = _ from e_ref02_Square a0 a1) (by rw [(ob_ref02_Square a0 a1)])
    exact ⟨this, rfl⟩
  · cases h
noncomputable def c_ref02_Square : SFM := fun args => match S_ref02_Square args with | some (o, v) => some (o, v, []) | none => none
theorem c_ref02_Square_ok : SOkM Try.prog false (42, c_ref02_Square) := t_ref02_Square
noncomputable def mss72 : List (FuncId × SFM) := (42, c_ref02_Square) :: mss71
noncomputable def menv73 : EnvM := mkEnvM mxs mss72 mws2
theorem mss72_ok : All (SOkM Try.prog false) mss72 := All.cons c_ref02_Square_ok mss71_ok
theorem menv73_ok : menv73.Ok Try.prog false := mkEnvM_ok mxs_ok mss72_ok mws2_ok
-- tumble/tumbleref08.told
theorem ann_ref08_told : FnOk Try.prog false 0 Try.f44 Ann.no := (fnNo _)
noncomputable def s_ref08_told_0 (a0 : Nat) (a1 : Nat) (a2 : Nat) (a3 : Nat) : Nat := (bif (!(ieq (s_ref08_Check_0 a0 a1 a2 a3) (0 : Int))) then 0 else a0)
noncomputable def s_ref08_told_1 (a0 : Nat) (a1 : Nat) (a2 : Nat) (a3 : Nat) : Nat := (bif (!(ieq (s_ref08_Check_0 a0 a1 a2 a3) (0 : Int))) then 0 else a1)
noncomputable def s_ref08_told_2 (a0 : Nat) (a1 : Nat) (a2 : Nat) (a3 : Nat) : Nat := (bif (!(ieq (s_ref08_Check_0 a0 a1 a2 a3) (0 : Int))) then 0 else a2)
noncomputable def s_ref08_told_3 (a0 : Nat) (a1 : Nat) (a2 : Nat) (a3 : Nat) : Nat := (bif (!(ieq (s_ref08_Check_0 a0 a1 a2 a3) (0 : Int))) then 0 else a3)
noncomputable def s_ref08_told_4 (a0 : Nat) (a1 : Nat) (a2 : Nat) (a3 : Nat) : Int := (bif (!(ieq (s_ref08_Check_0 a0 a1 a2 a3) (0 : Int))) then (s_ref08_Check_0 a0 a1 a2 a3) else (0 : Int))
theorem e_ref08_told (a0 : Nat) (a1 : Nat) (a2 : Nat) (a3 : Nat) : outB (evFnM Try.prog false menv73 [] [] 96 Ann.no Try.f44 [AV.agg [AV.float a0, AV.float a1, AV.float a2, AV.float a3]] []) = some (true, AV.tup [AV.agg [AV.float (s_ref08_told_0 a0 a1 a2 a3), AV.float (s_ref08_told_1 a0 a1 a2 a3), AV.float (s_ref08_told_2 a0 a1 a2 a3), AV.float (s_ref08_told_3 a0 a1 a2 a3)], AV.int .i64 (s_ref08_told_4 a0 a1 a2 a3)]) := by kernel_rfl
noncomputable def S_ref08_told : List AV → Option (Ob × AV)
  | [AV.agg [AV.float a0, AV.float a1, AV.float a2, AV.float a3]] => some (Ob.tt, AV.tup [AV.agg [AV.float (s_ref08_told_0 a0 a1 a2 a3), AV.float (s_ref08_told_1 a0 a1 a2 a3), AV.float (s_ref08_told_2 a0 a1 a2 a3), AV.float (s_ref08_told_3 a0 a1 a2 a3)], AV.int .i64 (s_ref08_told_4 a0 a1 a2 a3)])
  | _ => none
theorem ob_ref08_told (a0 : Nat) (a1 : Nat) (a2 : Nat) (a3 : Nat) : true = true := rfl
theorem t_ref08_told : SOkM Try.prog false (44, fun args => match S_ref08_told args with | some (o, v) => some (o, v, []) | none => none) := SOkM.flat (N := 96) menv73_ok Try.func44 ann_ref08_told Try.call44 fun args o v h ho => by
  unfold S_ref08_told at h
  split at h
  · rename_i a0 a1 a2 a3
    cases h
    have ho2 := ho
    have this : outB (evFnM Try.prog false menv73 [] [] 96 Ann.no Try.f44 [AV.agg [AV.float a0, AV.float a1, AV.float a2, AV.float a3]] []) = some (true, AV.tup [AV.agg [AV.float (s_ref08_told_0 a0 a1 a2 a3), AV.float (s_ref08_told_1 a0 a1 a2 a3), AV.float (s_ref08_told_2 a0 a1 a2 a3), AV.float (s_ref08_told_3 a0 a1 a2 a3)], AV.int .i64 (s_ref08_told_4 a0 a1 a2 a3)]) := Eq.trans (show outB (evFnM Try.prog false menv73 [] [] 96 Ann.no Try.f44 [AV.agg [AV.float a0, AV.float a1, AV.float a2, AV.float a3]] []) = _ from e_ref08_told a0 a1 a2 a3) (by rw [(ob_ref08_told a0 a1 a2 a3)])
    exact ⟨this, rfl⟩
  · cases h
noncomputable def c_ref08_told : SFM := fun args => match S_ref08_told args with | some (o, v) => some (o, v, []) | none => none
theorem c_ref08_told_ok : SOkM Try.prog false (44, c_ref08_told) := t_ref08_told
noncomputable def mss73 : List (FuncId × SFM) := (44, c_ref08_told) :: mss72
noncomputable def menv74 : EnvM := mkEnvM mxs mss73 mws2
theorem mss73_ok : All (SOkM Try.prog false) mss73 := All.cons c_ref08_told_ok mss72_ok
theorem menv74_ok : menv74.Ok Try.prog false := mkEnvM_ok mxs_ok mss73_ok mws2_ok
-- tumble/tumbleref08.Join
-- a loop of tumble/tumbleref08.Join
structure V_ref08_Join_L0 where
  v0 : Int
def tpl_ref08_Join_L0 : List AV := [AV.nul, AV.top, AV.nul, AV.top, AV.nul, AV.top, AV.top, AV.top, AV.top, AV.top, AV.top, AV.top, AV.top, AV.top, AV.top, AV.top, AV.top, AV.top, AV.top, AV.top, AV.top, AV.top, AV.top, AV.top, AV.top, AV.top, AV.top, AV.top, AV.top, AV.top, AV.top, AV.top, AV.top, AV.top, AV.top, AV.top, AV.top, AV.top, AV.top, AV.top, AV.top, AV.top, AV.top, AV.top, AV.top, AV.top, AV.top, AV.top, AV.top, AV.top, AV.top, AV.top, AV.top, AV.top, AV.top, AV.top, AV.top, AV.top, AV.top, AV.top, AV.top, AV.top, AV.top, AV.top, AV.top, AV.top, AV.top, AV.top, AV.top, AV.top, AV.top, AV.top, AV.top, AV.top, AV.top, AV.top, AV.top, AV.top, AV.top, AV.top, AV.top, AV.top, AV.top, AV.top, AV.top, AV.top, AV.top, AV.top, AV.top, AV.top, AV.top, AV.top, AV.top, AV.top, AV.top, AV.top, AV.top, AV.top, AV.top, AV.top, AV.top, AV.top, AV.top, AV.top, AV.top, AV.top, AV.top, AV.top, AV.top, AV.top, AV.top, AV.top, AV.top, AV.top, AV.top, AV.top, AV.top, AV.top, AV.top, AV.top, AV.top, AV.top, AV.top, AV.top, AV.top, AV.top, AV.top, AV.top, AV.top, AV.top, AV.top, AV.top, AV.top, AV.top, AV.top, AV.top, AV.top, AV.top, AV.top, AV.top, AV.top, AV.top, AV.top, AV.top, AV.top, AV.top, AV.top, AV.top]
def cts_ref08_Join_L0 : List CT := [CT.keep]
def phs_ref08_Join_L0 : List Src := []
def T_ref08_Join_L0 (c0 : Nat) (c1 : (Nat → Nat)) (c2 : (Nat → Nat)) (c3 : (Nat → Nat)) (c4 : (Nat → Nat)) (x : V_ref08_Join_L0) (F0 : Nat → List AV) : List AV × Heap := ([AV.view c0 4 F0, AV.top, AV.ptr (some ⟨0, 0, .lit 0⟩), AV.top, AV.int .i64 x.v0, AV.top, AV.top, AV.top, AV.top, AV.top, AV.top, AV.top, AV.top, AV.top, AV.top, AV.top, AV.top, AV.top, AV.top, AV.top, AV.top, AV.top, AV.top, AV.top, AV.top, AV.top, AV.top, AV.top, AV.top, AV.top, AV.top, AV.top, AV.top, AV.top, AV.top, AV.top, AV.top, AV.top, AV.top, AV.top, AV.top, AV.top, AV.top, AV.top, AV.top, AV.top, AV.top, AV.top, AV.top, AV.top, AV.top, AV.top, AV.top, AV.top, AV.top, AV.top, AV.top, AV.top, AV.top, AV.top, AV.top, AV.top, AV.top, AV.top, AV.top, AV.top, AV.top, AV.top, AV.top, AV.top, AV.top, AV.top, AV.top, AV.top, AV.top, AV.top, AV.top, AV.top, AV.top, AV.top, AV.top, AV.top, AV.top, AV.top, AV.top, AV.top, AV.top, AV.top, AV.top, AV.top, AV.top, AV.top, AV.top, AV.top, AV.top, AV.top, AV.top, AV.top, AV.top, AV.top, AV.top, AV.top, AV.top, AV.top, AV.top, AV.top, AV.top, AV.top, AV.top, AV.top, AV.top, AV.top, AV.top, AV.top, AV.top, AV.top, AV.top, AV.top, AV.top, AV.top, AV.top, AV.top, AV.top, AV.top, AV.top, AV.top, AV.top, AV.top, AV.top, AV.top, AV.top, AV.top, AV.top, AV.top, AV.top, AV.top, AV.top, AV.top, AV.top, AV.top, AV.top, AV.top, AV.top, AV.top, AV.top, AV.top, AV.top, AV.top], [⟨.flat [AV.float 0, AV.float 0, AV.float 0, AV.float 0], 28, 0⟩])
def sh_ref08_Join_L0 (c0 : Nat) (c1 : (Nat → Nat)) (c2 : (Nat → Nat)) (c3 : (Nat → Nat)) (c4 : (Nat → Nat)) (x : V_ref08_Join_L0) : List AV × Heap := T_ref08_Join_L0 c0 c1 c2 c3 c4 x (fun (j0 : Nat) => [AV.float (c1 j0), AV.float (c2 j0), AV.float (c3 j0), AV.float (c4 j0)])
noncomputable def step_ref08_Join_L0 (c0 : Nat) (c1 : (Nat → Nat)) (c2 : (Nat → Nat)) (c3 : (Nat → Nat)) (c4 : (Nat → Nat)) (x : V_ref08_Join_L0) : V_ref08_Join_L0 := V_ref08_Join_L0.mk (IntKind.wrap .i64 (x.v0 + (1 : Int)))
noncomputable def go_ref08_Join_L0 (c0 : Nat) (c1 : (Nat → Nat)) (c2 : (Nat → Nat)) (c3 : (Nat → Nat)) (c4 : (Nat → Nat)) (x : V_ref08_Join_L0) : Bool := (bif (bif (!(ilt x.v0 (Int.ofNat c0))) then false else (!(ieq (s_ref08_Check_0 (c1 (Int.toNat x.v0)) (c2 (Int.toNat x.v0)) (c3 (Int.toNat x.v0)) (c4 (Int.toNat x.v0))) (0 : Int)))) then false else (bif (!(ilt x.v0 (Int.ofNat c0))) then false else true))
noncomputable def ok_ref08_Join_L0 (c0 : Nat) (c1 : (Nat → Nat)) (c2 : (Nat → Nat)) (c3 : (Nat → Nat)) (c4 : (Nat → Nat)) (x : V_ref08_Join_L0) : Bool := (mrgB (bif (!(ilt x.v0 (Int.ofNat c0))) then false else (!(ieq (s_ref08_Check_0 (c1 (Int.toNat x.v0)) (c2 (Int.toNat x.v0)) (c3 (Int.toNat x.v0)) (c4 (Int.toNat x.v0))) (0 : Int)))) ((ile (0 : Int) x.v0) && (Nat.blt (Int.toNat x.v0) c0)) (mrgB (!(ilt x.v0 (Int.ofNat c0))) true ((ile (0 : Int) x.v0) && (Nat.blt (Int.toNat x.v0) c0))))
noncomputable def L_ref08_Join_L0 (c0 : Nat) (c1 : (Nat → Nat)) (c2 : (Nat → Nat)) (c3 : (Nat → Nat)) (c4 : (Nat → Nat)) (x : V_ref08_Join_L0) : V_ref08_Join_L0 := lastL (ok_ref08_Join_L0 c0 c1 c2 c3 c4) (go_ref08_Join_L0 c0 c1 c2 c3 c4) (step_ref08_Join_L0 c0 c1 c2 c3 c4) x
noncomputable def E_ref08_Join_L0 (c0 : Nat) (c1 : (Nat → Nat)) (c2 : (Nat → Nat)) (c3 : (Nat → Nat)) (c4 : (Nat → Nat)) (x : V_ref08_Join_L0) : Bool := endsL (ok_ref08_Join_L0 c0 c1 c2 c3 c4) (go_ref08_Join_L0 c0 c1 c2 c3 c4) (step_ref08_Join_L0 c0 c1 c2 c3 c4) x
theorem all_ref08_Join_L0 (c0 : Nat) (c1 : (Nat → Nat)) (c2 : (Nat → Nat)) (c3 : (Nat → Nat)) (c4 : (Nat → Nat)) (x : V_ref08_Join_L0) : rnd Try.prog false menv74 [] [] 96 Ann.no (subC [1, 1, 0, 1, 0, 0] (codeOf Try.f11)) 0 [⟨some 0, 0, 0, []⟩] tpl_ref08_Join_L0 cts_ref08_Join_L0 [false, true, false, true, true, true, true, true, true, true, true, true, true, true, true, true, true, true, true, true, true, true, true, true, true, true, true, true, true, true, true, true, true, true, true, true, true, true, true, true, true, true, true, true, true, true, true, true, true, true, true, true, true, true, true, true, true, true, true, true, true, true, true, true, true, true, true, true, true, true, true, true, true, true, true, true, true, true, true, true, true, true, true, true, true, true, true, true, true, true, true, true, true, true, true, true, true, true, true, true, true, true, true, true, true, true, true, true, true, true, true, true, true, true, true, true, true, true, true, true, true, true, true, true, true, true, true, true, true, true, true, true, true, true, true, true, true, true, true, true, true, true, true, true, true, true, true, true] [true] (sh_ref08_Join_L0 c0 c1 c2 c3 c4 x) = (true, true, go_ref08_Join_L0 c0 c1 c2 c3 c4 x, ok_ref08_Join_L0 c0 c1 c2 c3 c4 x, true, sh_ref08_Join_L0 c0 c1 c2 c3 c4 (step_ref08_Join_L0 c0 c1 c2 c3 c4 x), true) := by kernel_rfl
noncomputable def fam_ref08_Join_L0 (c0 : Nat) (c1 : (Nat → Nat)) (c2 : (Nat → Nat)) (c3 : (Nat → Nat)) (c4 : (Nat → Nat)) : Fam Try.prog false menv74 [] [] 96 0 Ann.no (subC [1, 1, 0, 1, 0, 0] (codeOf Try.f11)) V_ref08_Join_L0 where
  sh := sh_ref08_Join_L0 c0 c1 c2 c3 c4
  ok := ok_ref08_Join_L0 c0 c1 c2 c3 c4
  go := go_ref08_Join_L0 c0 c1 c2 c3 c4
  step := step_ref08_Join_L0 c0 c1 c2 c3 c4
  chg := [false, true, false, true, true, true, true, true, true, true, true, true, true, true, true, true, true, true, true, true, true, true, true, true, true, true, true, true, true, true, true, true, true, true, true, true, true, true, true, true, true, true, true, true, true, true, true, true, true, true, true, true, true, true, true, true, true, true, true, true, true, true, true, true, true, true, true, true, true, true, true, true, true, true, true, true, true, true, true, true, true, true, true, true, true, true, true, true, true, true, true, true, true, true, true, true, true, true, true, true, true, true, true, true, true, true, true, true, true, true, true, true, true, true, true, true, true, true, true, true, true, true, true, true, true, true, true, true, true, true, true, true, true, true, true, true, true, true, true, true, true, true, true, true, true, true, true, true]
  chgH := [true]
  tpl := tpl_ref08_Join_L0
  cts := cts_ref08_Join_L0
  keep := 0
  srcs := [⟨some 0, 0, 0, []⟩]
  ann := (annNo (subC [1, 1, 0, 1, 0, 0] (codeOf Try.f11)))
  le := by kernel_rfl
  kept := by kernel_rfl
  keptB := by kernel_rfl
  all := all_ref08_Join_L0 c0 c1 c2 c3 c4
  len := fun x => by kernel_rfl
  head := fun x y => by kernel_rfl
  con := fun x y => by kernel_rfl
  conH := fun x y => by kernel_rfl
noncomputable def F_ref08_Join_L0 : St → Option Ch := fun s => cond (Nat.beq s.tm.length 148 && Nat.beq s.H.length 1) (tkCons (alL tpl_ref08_Join_L0 s.tm) fun a0 t0 => tkView 4 a0 fun s0 f0 => tkTops 1 t0 fun t1 => tkCons t1 fun a2 t2 => tkPtr 0 0 0 a2 <| tkTops 1 t2 fun t3 => tkCons t3 fun a4 t4 => tkI .i64 a4 fun s5 => tkTops 143 t4 fun t5 => tkNil t5 <| tkCons (alH cts_ref08_Join_L0 (s.H ++ List.map phan phs_ref08_Join_L0)) fun b6 t6 => tkFlat 28 0 b6 fun m6 => tkCons m6 fun a7 t7 => tkFL 0 a7 <| tkCons t7 fun a8 t8 => tkFL 0 a8 <| tkCons t8 fun a9 t9 => tkFL 0 a9 <| tkCons t9 fun a10 t10 => tkFL 0 a10 <| tkNil t10 <| tkNil t6 <| Fam.out (fam_ref08_Join_L0 s0 (fun (i : Nat) => flO (atL (f0 i) 0)) (fun (i : Nat) => flO (atL (f0 i) 1)) (fun (i : Nat) => flO (atL (f0 i) 2)) (fun (i : Nat) => flO (atL (f0 i) 3))) s (allB fun (i : Nat) => isNrm [Ck.f, Ck.f, Ck.f, Ck.f] (f0 i)) (V_ref08_Join_L0.mk s5)) none
theorem F_ref08_Join_L0_ok : ∀ s ch, F_ref08_Join_L0 s = some ch → AllI s ch ∧ LoopSpec Try.prog false 0 (subC [1, 1, 0, 1, 0, 0] (codeOf Try.f11)) s (sel ch) := by
  intro s ch h
  unfold F_ref08_Join_L0 at h
  obtain ⟨hl, h0⟩ := cond_some h rfl
  clear h
  obtain ⟨hl, hb⟩ := and_beq2 hl
  obtain ⟨a0, t0, e0, h1⟩ := tkCons_some h0
  obtain ⟨s0, f0, rfl, h2⟩ := tkView_some h1
  obtain ⟨t1, rfl, h3⟩ := tkTops_some h2
  obtain ⟨a2, t2, rfl, h4⟩ := tkCons_some h3
  obtain ⟨rfl, h5⟩ := tkPtr_some h4
  obtain ⟨t3, rfl, h6⟩ := tkTops_some h5
  obtain ⟨a4, t4, rfl, h7⟩ := tkCons_some h6
  obtain ⟨s5, rfl, h8⟩ := tkI_some h7
  obtain ⟨t5, rfl, h9⟩ := tkTops_some h8
  obtain ⟨rfl, h10⟩ := tkNil_some h9
  obtain ⟨b6, t6, eH, h11⟩ := tkCons_some h10
  obtain ⟨m6, rfl, h12⟩ := tkFlat_some h11
  obtain ⟨a7, t7, rfl, h13⟩ := tkCons_some h12
  obtain ⟨rfl, h14⟩ := tkFL_some h13
  obtain ⟨a8, t8, rfl, h15⟩ := tkCons_some h14
  obtain ⟨rfl, h16⟩ := tkFL_some h15
  obtain ⟨a9, t9, rfl, h17⟩ := tkCons_some h16
  obtain ⟨rfl, h18⟩ := tkFL_some h17
  obtain ⟨a10, t10, rfl, h19⟩ := tkCons_some h18
  obtain ⟨rfl, h20⟩ := tkFL_some h19
  obtain ⟨rfl, h21⟩ := tkNil_some h20
  obtain ⟨rfl, h22⟩ := tkNil_some h21
  refine Fam.spec menv74_ok (fam_ref08_Join_L0 s0 (fun (i : Nat) => flO (atL (f0 i) 0)) (fun (i : Nat) => flO (atL (f0 i) 1)) (fun (i : Nat) => flO (atL (f0 i) 2)) (fun (i : Nat) => flO (atL (f0 i) 3))) (phs := phs_ref08_Join_L0) (hl.trans (by kernel_rfl)) (hb.trans (by kernel_rfl)) ?_ ?_ h22
  · rw [← hdr_alH cts_ref08_Join_L0 (s.H ++ List.map phan phs_ref08_Join_L0), eH]; kernel_rfl
  · intro hq
    have hq0 := hq
    have n0 := nrm_fun hq0
    show sh_ref08_Join_L0 s0 (fun (i : Nat) => flO (atL (f0 i) 0)) (fun (i : Nat) => flO (atL (f0 i) 1)) (fun (i : Nat) => flO (atL (f0 i) 2)) (fun (i : Nat) => flO (atL (f0 i) 3)) (V_ref08_Join_L0.mk s5) = (alL tpl_ref08_Join_L0 s.tm, alH cts_ref08_Join_L0 (s.H ++ List.map phan phs_ref08_Join_L0))
    rw [e0, eH]
    refine Eq.trans (show sh_ref08_Join_L0 s0 (fun (i : Nat) => flO (atL (f0 i) 0)) (fun (i : Nat) => flO (atL (f0 i) 1)) (fun (i : Nat) => flO (atL (f0 i) 2)) (fun (i : Nat) => flO (atL (f0 i) 3)) (V_ref08_Join_L0.mk s5) = T_ref08_Join_L0 s0 (fun (i : Nat) => flO (atL (f0 i) 0)) (fun (i : Nat) => flO (atL (f0 i) 1)) (fun (i : Nat) => flO (atL (f0 i) 2)) (fun (i : Nat) => flO (atL (f0 i) 3)) (V_ref08_Join_L0.mk s5) (fun (i : Nat) => mkN [Ck.f, Ck.f, Ck.f, Ck.f] (f0 i) 0) by kernel_rfl) ?_
    rw [n0]
    kernel_rfl
-- a loop of tumble/tumbleref08.Join
structure V_ref08_Join_L1 where
  v0 : Nat
  v1 : Nat
  v2 : Int
  v3 : Nat
def tpl_ref08_Join_L1 : List AV := [AV.nul, AV.top, AV.nul, AV.top, AV.top, AV.nul, AV.nul, AV.nul, AV.nul, AV.top, AV.top, AV.top, AV.top, AV.top, AV.top, AV.top, AV.top, AV.top, AV.top, AV.top, AV.top, AV.top, AV.top, AV.top, AV.top, AV.top, AV.top, AV.top, AV.top, AV.top, AV.top, AV.top, AV.top, AV.top, AV.top, AV.top, AV.top, AV.top, AV.top, AV.top, AV.top, AV.top, AV.top, AV.top, AV.top, AV.top, AV.top, AV.top, AV.top, AV.top, AV.top, AV.top, AV.top, AV.top, AV.top, AV.top, AV.top, AV.top, AV.top, AV.top, AV.top, AV.top, AV.top, AV.top, AV.top, AV.top, AV.top, AV.top, AV.top, AV.top, AV.top, AV.top, AV.top, AV.top, AV.top, AV.top, AV.top, AV.top, AV.top, AV.top, AV.top, AV.top, AV.top, AV.top, AV.top, AV.top, AV.top, AV.top, AV.top, AV.top, AV.top, AV.top, AV.top, AV.top, AV.top, AV.top, AV.top, AV.top, AV.top, AV.top, AV.top, AV.top, AV.top, AV.top, AV.top, AV.top, AV.top, AV.top, AV.top, AV.top, AV.top, AV.top, AV.top, AV.top, AV.top, AV.top, AV.top, AV.top, AV.top, AV.top, AV.top, AV.top, AV.top, AV.top, AV.top, AV.top, AV.top, AV.top, AV.top, AV.top, AV.top, AV.top, AV.top, AV.top, AV.top, AV.top, AV.top, AV.top, AV.top, AV.top, AV.top, AV.top, AV.top, AV.top, AV.top, AV.top, AV.top, AV.top]
def cts_ref08_Join_L1 : List CT := [CT.keep, CT.keep]
def phs_ref08_Join_L1 : List Src := []
def T_ref08_Join_L1 (c0 : Nat) (c1 : (Nat → Nat)) (c2 : (Nat → Nat)) (c3 : (Nat → Nat)) (c4 : (Nat → Nat)) (c5 : Nat) (c6 : Nat) (c7 : Nat) (x : V_ref08_Join_L1) (F0 : Nat → List AV) : List AV × Heap := ([AV.view c0 4 F0, AV.top, AV.ptr (some ⟨0, 0, .lit 0⟩), AV.top, AV.top, AV.ptr (some ⟨1, 0, .lit 0⟩), AV.float x.v0, AV.float x.v1, AV.int .i64 x.v2, AV.top, AV.top, AV.top, AV.top, AV.top, AV.top, AV.top, AV.top, AV.top, AV.top, AV.top, AV.top, AV.top, AV.top, AV.top, AV.top, AV.top, AV.top, AV.top, AV.top, AV.top, AV.top, AV.top, AV.top, AV.top, AV.top, AV.top, AV.top, AV.top, AV.top, AV.top, AV.top, AV.top, AV.top, AV.top, AV.top, AV.top, AV.top, AV.top, AV.top, AV.top, AV.top, AV.top, AV.top, AV.top, AV.top, AV.top, AV.top, AV.top, AV.top, AV.top, AV.top, AV.top, AV.top, AV.top, AV.top, AV.top, AV.top, AV.top, AV.top, AV.top, AV.top, AV.top, AV.top, AV.top, AV.top, AV.top, AV.top, AV.top, AV.top, AV.top, AV.top, AV.top, AV.top, AV.top, AV.top, AV.top, AV.top, AV.top, AV.top, AV.top, AV.top, AV.top, AV.top, AV.top, AV.top, AV.top, AV.top, AV.top, AV.top, AV.top, AV.top, AV.top, AV.top, AV.top, AV.top, AV.top, AV.top, AV.top, AV.top, AV.top, AV.top, AV.top, AV.top, AV.top, AV.top, AV.top, AV.top, AV.top, AV.top, AV.top, AV.top, AV.top, AV.top, AV.top, AV.top, AV.top, AV.top, AV.top, AV.top, AV.top, AV.top, AV.top, AV.top, AV.top, AV.top, AV.top, AV.top, AV.top, AV.top, AV.top, AV.top, AV.top, AV.top, AV.top, AV.top, AV.top, AV.top, AV.top], [⟨.flat [AV.float 0, AV.float 0, AV.float 0, AV.float 0], 28, 0⟩, ⟨.flat [AV.float x.v3, AV.float c5, AV.float c6, AV.float c7], 28, 0⟩])
def sh_ref08_Join_L1 (c0 : Nat) (c1 : (Nat → Nat)) (c2 : (Nat → Nat)) (c3 : (Nat → Nat)) (c4 : (Nat → Nat)) (c5 : Nat) (c6 : Nat) (c7 : Nat) (x : V_ref08_Join_L1) : List AV × Heap := T_ref08_Join_L1 c0 c1 c2 c3 c4 c5 c6 c7 x (fun (j0 : Nat) => [AV.float (c1 j0), AV.float (c2 j0), AV.float (c3 j0), AV.float (c4 j0)])
noncomputable def step_ref08_Join_L1 (c0 : Nat) (c1 : (Nat → Nat)) (c3 : (Nat → Nat)) (c4 : (Nat → Nat)) (x : V_ref08_Join_L1) : V_ref08_Join_L1 := V_ref08_Join_L1.mk (fadd x.v0 (fmul (c1 (Int.toNat x.v2)) (c3 (Int.toNat x.v2)))) (fadd x.v1 (fmul (c1 (Int.toNat x.v2)) (c4 (Int.toNat x.v2)))) (IntKind.wrap .i64 (x.v2 + (1 : Int))) (fadd x.v3 (c1 (Int.toNat x.v2)))
noncomputable def go_ref08_Join_L1 (c0 : Nat) (c1 : (Nat → Nat)) (c3 : (Nat → Nat)) (c4 : (Nat → Nat)) (x : V_ref08_Join_L1) : Bool := (bif (!(ilt x.v2 (Int.ofNat c0))) then false else true)
noncomputable def ok_ref08_Join_L1 (c0 : Nat) (c1 : (Nat → Nat)) (c3 : (Nat → Nat)) (c4 : (Nat → Nat)) (x : V_ref08_Join_L1) : Bool := (mrgB (!(ilt x.v2 (Int.ofNat c0))) true (((ile (0 : Int) x.v2) && (Nat.blt (Int.toNat x.v2) c0)) && (((ile (0 : Int) x.v2) && (Nat.blt (Int.toNat x.v2) c0)) && (((ile (0 : Int) x.v2) && (Nat.blt (Int.toNat x.v2) c0)) && (((ile (0 : Int) x.v2) && (Nat.blt (Int.toNat x.v2) c0)) && ((ile (0 : Int) x.v2) && (Nat.blt (Int.toNat x.v2) c0)))))))
noncomputable def L_ref08_Join_L1 (c0 : Nat) (c1 : (Nat → Nat)) (c3 : (Nat → Nat)) (c4 : (Nat → Nat)) (x : V_ref08_Join_L1) : V_ref08_Join_L1 := lastL (ok_ref08_Join_L1 c0 c1 c3 c4) (go_ref08_Join_L1 c0 c1 c3 c4) (step_ref08_Join_L1 c0 c1 c3 c4) x
noncomputable def E_ref08_Join_L1 (c0 : Nat) (c1 : (Nat → Nat)) (c3 : (Nat → Nat)) (c4 : (Nat → Nat)) (x : V_ref08_Join_L1) : Bool := endsL (ok_ref08_Join_L1 c0 c1 c3 c4) (go_ref08_Join_L1 c0 c1 c3 c4) (step_ref08_Join_L1 c0 c1 c3 c4) x
theorem all_ref08_Join_L1 (c0 : Nat) (c1 : (Nat → Nat)) (c2 : (Nat → Nat)) (c3 : (Nat → Nat)) (c4 : (Nat → Nat)) (c5 : Nat) (c6 : Nat) (c7 : Nat) (x : V_ref08_Join_L1) : rnd Try.prog false menv74 [] [] 96 Ann.no (subC [1, 1, 1, 1, 1, 1, 1, 1, 0, 1, 0, 0] (codeOf Try.f11)) 0 [⟨some 0, 0, 0, []⟩, ⟨some 1, 0, 0, []⟩] tpl_ref08_Join_L1 cts_ref08_Join_L1 [false, true, false, true, true, false, true, true, true, true, true, true, true, true, true, true, true, true, true, true, true, true, true, true, true, true, true, true, true, true, true, true, true, true, true, true, true, true, true, true, true, true, true, true, true, true, true, true, true, true, true, true, true, true, true, true, true, true, true, true, true, true, true, true, true, true, true, true, true, true, true, true, true, true, true, true, true, true, true, true, true, true, true, true, true, true, true, true, true, true, true, true, true, true, true, true, true, true, true, true, true, true, true, true, true, true, true, true, true, true, true, true, true, true, true, true, true, true, true, true, true, true, true, true, true, true, true, true, true, true, true, true, true, true, true, true, true, true, true, true, true, true, true, true, true, true, true, true] [false, true] (sh_ref08_Join_L1 c0 c1 c2 c3 c4 c5 c6 c7 x) = (true, true, go_ref08_Join_L1 c0 c1 c3 c4 x, ok_ref08_Join_L1 c0 c1 c3 c4 x, true, sh_ref08_Join_L1 c0 c1 c2 c3 c4 c5 c6 c7 (step_ref08_Join_L1 c0 c1 c3 c4 x), true) := by kernel_rfl
noncomputable def fam_ref08_Join_L1 (c0 : Nat) (c1 : (Nat → Nat)) (c2 : (Nat → Nat)) (c3 : (Nat → Nat)) (c4 : (Nat → Nat)) (c5 : Nat) (c6 : Nat) (c7 : Nat) : Fam Try.prog false menv74 [] [] 96 0 Ann.no (subC [1, 1, 1, 1, 1, 1, 1, 1, 0, 1, 0, 0] (codeOf Try.f11)) V_ref08_Join_L1 where
  sh := sh_ref08_Join_L1 c0 c1 c2 c3 c4 c5 c6 c7
  ok := ok_ref08_Join_L1 c0 c1 c3 c4
  go := go_ref08_Join_L1 c0 c1 c3 c4
  step := step_ref08_Join_L1 c0 c1 c3 c4
  chg := [false, true, false, true, true, false, true, true, true, true, true, true, true, true, true, true, true, true, true, true, true, true, true, true, true, true, true, true, true, true, true, true, true, true, true, true, true, true, true, true, true, true, true, true, true, true, true, true, true, true, true, true, true, true, true, true, true, true, true, true, true, true, true, true, true, true, true, true, true, true, true, true, true, true, true, true, true, true, true, true, true, true, true, true, true, true, true, true, true, true, true, true, true, true, true, true, true, true, true, true, true, true, true, true, true, true, true, true, true, true, true, true, true, true, true, true, true, true, true, true, true, true, true, true, true, true, true, true, true, true, true, true, true, true, true, true, true, true, true, true, true, true, true, true, true, true, true, true]
  chgH := [false, true]
  tpl := tpl_ref08_Join_L1
  cts := cts_ref08_Join_L1
  keep := 0
  srcs := [⟨some 0, 0, 0, []⟩, ⟨some 1, 0, 0, []⟩]
  ann := (annNo (subC [1, 1, 1, 1, 1, 1, 1, 1, 0, 1, 0, 0] (codeOf Try.f11)))
  le := by kernel_rfl
  kept := by kernel_rfl
  keptB := by kernel_rfl
  all := all_ref08_Join_L1 c0 c1 c2 c3 c4 c5 c6 c7
  len := fun x => by kernel_rfl
  head := fun x y => by kernel_rfl
  con := fun x y => by kernel_rfl
  conH := fun x y => by kernel_rfl
noncomputable def F_ref08_Join_L1 : St → Option Ch := fun s => cond (Nat.beq s.tm.length 148 && Nat.beq s.H.length 2) (tkCons (alL tpl_ref08_Join_L1 s.tm) fun a0 t0 => tkView 4 a0 fun s0 f0 => tkTops 1 t0 fun t1 => tkCons t1 fun a2 t2 => tkPtr 0 0 0 a2 <| tkTops 2 t2 fun t3 => tkCons t3 fun a4 t4 => tkPtr 1 0 0 a4 <| tkCons t4 fun a5 t5 => tkF a5 fun s5 => tkCons t5 fun a6 t6 => tkF a6 fun s6 => tkCons t6 fun a7 t7 => tkI .i64 a7 fun s7 => tkTops 139 t7 fun t8 => tkNil t8 <| tkCons (alH cts_ref08_Join_L1 (s.H ++ List.map phan phs_ref08_Join_L1)) fun b9 t9 => tkFlat 28 0 b9 fun m9 => tkCons m9 fun a10 t10 => tkFL 0 a10 <| tkCons t10 fun a11 t11 => tkFL 0 a11 <| tkCons t11 fun a12 t12 => tkFL 0 a12 <| tkCons t12 fun a13 t13 => tkFL 0 a13 <| tkNil t13 <| tkCons t9 fun b14 t14 => tkFlat 28 0 b14 fun m14 => tkCons m14 fun a15 t15 => tkF a15 fun s12 => tkCons t15 fun a16 t16 => tkF a16 fun s13 => tkCons t16 fun a17 t17 => tkF a17 fun s14 => tkCons t17 fun a18 t18 => tkF a18 fun s15 => tkNil t18 <| tkNil t14 <| Fam.out (fam_ref08_Join_L1 s0 (fun (i : Nat) => flO (atL (f0 i) 0)) (fun (i : Nat) => flO (atL (f0 i) 1)) (fun (i : Nat) => flO (atL (f0 i) 2)) (fun (i : Nat) => flO (atL (f0 i) 3)) s13 s14 s15) s (allB fun (i : Nat) => isNrm [Ck.f, Ck.f, Ck.f, Ck.f] (f0 i)) (V_ref08_Join_L1.mk s5 s6 s7 s12)) none
theorem F_ref08_Join_L1_ok : ∀ s ch, F_ref08_Join_L1 s = some ch → AllI s ch ∧ LoopSpec Try.prog false 0 (subC [1, 1, 1, 1, 1, 1, 1, 1, 0, 1, 0, 0] (codeOf Try.f11)) s (sel ch) := by
  intro s ch h
  unfold F_ref08_Join_L1 at h
  obtain ⟨hl, h0⟩ := cond_some h rfl
  clear h
  obtain ⟨hl, hb⟩ := and_beq2 hl
  obtain ⟨a0, t0, e0, h1⟩ := tkCons_some h0
  obtain ⟨s0, f0, rfl, h2⟩ := tkView_some h1
  obtain ⟨t1, rfl, h3⟩ := tkTops_some h2
  obtain ⟨a2, t2, rfl, h4⟩ := tkCons_some h3
  obtain ⟨rfl, h5⟩ := tkPtr_some h4
  obtain ⟨t3, rfl, h6⟩ := tkTops_some h5
  obtain ⟨a4, t4, rfl, h7⟩ := tkCons_some h6
  obtain ⟨rfl, h8⟩ := tkPtr_some h7
  obtain ⟨a5, t5, rfl, h9⟩ := tkCons_some h8
  obtain ⟨s5, rfl, h10⟩ := tkF_some h9
  obtain ⟨a6, t6, rfl, h11⟩ := tkCons_some h10
  obtain ⟨s6, rfl, h12⟩ := tkF_some h11
  obtain ⟨a7, t7, rfl, h13⟩ := tkCons_some h12
  obtain ⟨s7, rfl, h14⟩ := tkI_some h13
  obtain ⟨t8, rfl, h15⟩ := tkTops_some h14
  obtain ⟨rfl, h16⟩ := tkNil_some h15
  obtain ⟨b9, t9, eH, h17⟩ := tkCons_some h16
  obtain ⟨m9, rfl, h18⟩ := tkFlat_some h17
  obtain ⟨a10, t10, rfl, h19⟩ := tkCons_some h18
  obtain ⟨rfl, h20⟩ := tkFL_some h19
  obtain ⟨a11, t11, rfl, h21⟩ := tkCons_some h20
  obtain ⟨rfl, h22⟩ := tkFL_some h21
  obtain ⟨a12, t12, rfl, h23⟩ := tkCons_some h22
  obtain ⟨rfl, h24⟩ := tkFL_some h23
  obtain ⟨a13, t13, rfl, h25⟩ := tkCons_some h24
  obtain ⟨rfl, h26⟩ := tkFL_some h25
  obtain ⟨rfl, h27⟩ := tkNil_some h26
  obtain ⟨b14, t14, rfl, h28⟩ := tkCons_some h27
  obtain ⟨m14, rfl, h29⟩ := tkFlat_some h28
  obtain ⟨a15, t15, rfl, h30⟩ := tkCons_some h29
  obtain ⟨s12, rfl, h31⟩ := tkF_some h30
  obtain ⟨a16, t16, rfl, h32⟩ := tkCons_some h31
  obtain ⟨s13, rfl, h33⟩ := tkF_some h32
  obtain ⟨a17, t17, rfl, h34⟩ := tkCons_some h33
  obtain ⟨s14, rfl, h35⟩ := tkF_some h34
  obtain ⟨a18, t18, rfl, h36⟩ := tkCons_some h35
  obtain ⟨s15, rfl, h37⟩ := tkF_some h36
  obtain ⟨rfl, h38⟩ := tkNil_some h37
  obtain ⟨rfl, h39⟩ := tkNil_some h38
  refine Fam.spec menv74_ok (fam_ref08_Join_L1 s0 (fun (i : Nat) => flO (atL (f0 i) 0)) (fun (i : Nat) => flO (atL (f0 i) 1)) (fun (i : Nat) => flO (atL (f0 i) 2)) (fun (i : Nat) => flO (atL (f0 i) 3)) s13 s14 s15) (phs := phs_ref08_Join_L1) (hl.trans (by kernel_rfl)) (hb.trans (by kernel_rfl)) ?_ ?_ h39
  · rw [← hdr_alH cts_ref08_Join_L1 (s.H ++ List.map phan phs_ref08_Join_L1), eH]; kernel_rfl
  · intro hq
    have hq0 := hq
    have n0 := nrm_fun hq0
    show sh_ref08_Join_L1 s0 (fun (i : Nat) => flO (atL (f0 i) 0)) (fun (i : Nat) => flO (atL (f0 i) 1)) (fun (i : Nat) => flO (atL (f0 i) 2)) (fun (i : Nat) => flO (atL (f0 i) 3)) s13 s14 s15 (V_ref08_Join_L1.mk s5 s6 s7 s12) = (alL tpl_ref08_Join_L1 s.tm, alH cts_ref08_Join_L1 (s.H ++ List.map phan phs_ref08_Join_L1))
    rw [e0, eH]
    refine Eq.trans (show sh_ref08_Join_L1 s0 (fun (i : Nat) => flO (atL (f0 i) 0)) (fun (i : Nat) => flO (atL (f0 i) 1)) (fun (i : Nat) => flO (atL (f0 i) 2)) (fun (i : Nat) => flO (atL (f0 i) 3)) s13 s14 s15 (V_ref08_Join_L1.mk s5 s6 s7 s12) = T_ref08_Join_L1 s0 (fun (i : Nat) => flO (atL (f0 i) 0)) (fun (i : Nat) => flO (atL (f0 i) 1)) (fun (i : Nat) => flO (atL (f0 i) 2)) (fun (i : Nat) => flO (atL (f0 i) 3)) s13 s14 s15 (V_ref08_Join_L1.mk s5 s6 s7 s12) (fun (i : Nat) => mkN [Ck.f, Ck.f, Ck.f, Ck.f] (f0 i) 0) by kernel_rfl) ?_
    rw [n0]
    kernel_rfl
-- a loop of tumble/tumbleref08.Join
structure V_ref08_Join_L2 where
  v0 : Int
  v1 : Nat
def tpl_ref08_Join_L2 : List AV := [AV.nul, AV.top, AV.nul, AV.top, AV.top, AV.nul, AV.top, AV.top, AV.top, AV.nul, AV.top, AV.top, AV.top, AV.top, AV.top, AV.top, AV.top, AV.top, AV.top, AV.top, AV.top, AV.top, AV.top, AV.top, AV.top, AV.top, AV.top, AV.top, AV.top, AV.top, AV.top, AV.top, AV.top, AV.top, AV.top, AV.top, AV.top, AV.top, AV.top, AV.top, AV.top, AV.top, AV.top, AV.top, AV.top, AV.top, AV.top, AV.top, AV.top, AV.top, AV.top, AV.top, AV.top, AV.top, AV.top, AV.top, AV.top, AV.top, AV.top, AV.top, AV.top, AV.top, AV.top, AV.top, AV.top, AV.top, AV.top, AV.top, AV.top, AV.top, AV.top, AV.top, AV.top, AV.top, AV.top, AV.top, AV.top, AV.top, AV.top, AV.top, AV.top, AV.top, AV.top, AV.top, AV.top, AV.top, AV.top, AV.top, AV.top, AV.top, AV.top, AV.top, AV.top, AV.top, AV.top, AV.top, AV.top, AV.top, AV.top, AV.top, AV.top, AV.top, AV.top, AV.top, AV.top, AV.top, AV.top, AV.top, AV.top, AV.top, AV.top, AV.top, AV.top, AV.top, AV.top, AV.top, AV.top, AV.top, AV.top, AV.top, AV.top, AV.top, AV.top, AV.top, AV.top, AV.top, AV.top, AV.top, AV.top, AV.top, AV.top, AV.top, AV.top, AV.top, AV.top, AV.top, AV.top, AV.top, AV.top, AV.top, AV.top, AV.top, AV.top, AV.top, AV.top, AV.top, AV.top, AV.top]
def cts_ref08_Join_L2 : List CT := [CT.keep, CT.keep]
def phs_ref08_Join_L2 : List Src := []
def T_ref08_Join_L2 (c0 : Nat) (c1 : (Nat → Nat)) (c2 : (Nat → Nat)) (c3 : (Nat → Nat)) (c4 : (Nat → Nat)) (c5 : Nat) (c6 : Nat) (c7 : Nat) (x : V_ref08_Join_L2) (F0 : Nat → List AV) : List AV × Heap := ([AV.view c0 4 F0, AV.top, AV.ptr (some ⟨0, 0, .lit 0⟩), AV.top, AV.top, AV.ptr (some ⟨1, 0, .lit 0⟩), AV.top, AV.top, AV.top, AV.int .i64 x.v0, AV.top, AV.top, AV.top, AV.top, AV.top, AV.top, AV.top, AV.top, AV.top, AV.top, AV.top, AV.top, AV.top, AV.top, AV.top, AV.top, AV.top, AV.top, AV.top, AV.top, AV.top, AV.top, AV.top, AV.top, AV.top, AV.top, AV.top, AV.top, AV.top, AV.top, AV.top, AV.top, AV.top, AV.top, AV.top, AV.top, AV.top, AV.top, AV.top, AV.top, AV.top, AV.top, AV.top, AV.top, AV.top, AV.top, AV.top, AV.top, AV.top, AV.top, AV.top, AV.top, AV.top, AV.top, AV.top, AV.top, AV.top, AV.top, AV.top, AV.top, AV.top, AV.top, AV.top, AV.top, AV.top, AV.top, AV.top, AV.top, AV.top, AV.top, AV.top, AV.top, AV.top, AV.top, AV.top, AV.top, AV.top, AV.top, AV.top, AV.top, AV.top, AV.top, AV.top, AV.top, AV.top, AV.top, AV.top, AV.top, AV.top, AV.top, AV.top, AV.top, AV.top, AV.top, AV.top, AV.top, AV.top, AV.top, AV.top, AV.top, AV.top, AV.top, AV.top, AV.top, AV.top, AV.top, AV.top, AV.top, AV.top, AV.top, AV.top, AV.top, AV.top, AV.top, AV.top, AV.top, AV.top, AV.top, AV.top, AV.top, AV.top, AV.top, AV.top, AV.top, AV.top, AV.top, AV.top, AV.top, AV.top, AV.top, AV.top, AV.top, AV.top, AV.top, AV.top, AV.top, AV.top, AV.top], [⟨.flat [AV.float 0, AV.float 0, AV.float 0, AV.float 0], 28, 0⟩, ⟨.flat [AV.float c5, AV.float x.v1, AV.float c6, AV.float c7], 28, 0⟩])
def sh_ref08_Join_L2 (c0 : Nat) (c1 : (Nat → Nat)) (c2 : (Nat → Nat)) (c3 : (Nat → Nat)) (c4 : (Nat → Nat)) (c5 : Nat) (c6 : Nat) (c7 : Nat) (x : V_ref08_Join_L2) : List AV × Heap := T_ref08_Join_L2 c0 c1 c2 c3 c4 c5 c6 c7 x (fun (j0 : Nat) => [AV.float (c1 j0), AV.float (c2 j0), AV.float (c3 j0), AV.float (c4 j0)])
noncomputable def step_ref08_Join_L2 (c0 : Nat) (c1 : (Nat → Nat)) (c2 : (Nat → Nat)) (c3 : (Nat → Nat)) (c4 : (Nat → Nat)) (c6 : Nat) (c7 : Nat) (x : V_ref08_Join_L2) : V_ref08_Join_L2 := V_ref08_Join_L2.mk (IntKind.wrap .i64 (x.v0 + (1 : Int))) (let x0 : Nat := (c4 (Int.toNat x.v0)); let x1 : Nat := (c3 (Int.toNat x.v0)); let x2 : Nat := (fadd (c2 (Int.toNat x.v0)) (fmul (c1 (Int.toNat x.v0)) (s_ref02_Square_0 (s_ref02_Sub_0 x1 x0 c6 c7) (s_ref02_Sub_1 x1 x0 c6 c7)))); (bif (ieq x.v0 (0 : Int)) then x2 else (fadd x.v1 x2)))
noncomputable def go_ref08_Join_L2 (c0 : Nat) (c1 : (Nat → Nat)) (c2 : (Nat → Nat)) (c3 : (Nat → Nat)) (c4 : (Nat → Nat)) (c6 : Nat) (c7 : Nat) (x : V_ref08_Join_L2) : Bool := (bif (!(ilt x.v0 (Int.ofNat c0))) then false else true)
noncomputable def ok_ref08_Join_L2 (c0 : Nat) (c1 : (Nat → Nat)) (c2 : (Nat → Nat)) (c3 : (Nat → Nat)) (c4 : (Nat → Nat)) (c6 : Nat) (c7 : Nat) (x : V_ref08_Join_L2) : Bool := let x0 : Bool := ((ile (0 : Int) x.v0) && (Nat.blt (Int.toNat x.v0) c0)); let x1 : Bool := (x0 && (x0 && x0)); (mrgB (!(ilt x.v0 (Int.ofNat c0))) true (mrgB (ieq x.v0 (0 : Int)) x1 x1))
noncomputable def L_ref08_Join_L2 (c0 : Nat) (c1 : (Nat → Nat)) (c2 : (Nat → Nat)) (c3 : (Nat → Nat)) (c4 : (Nat → Nat)) (c6 : Nat) (c7 : Nat) (x : V_ref08_Join_L2) : V_ref08_Join_L2 := lastL (ok_ref08_Join_L2 c0 c1 c2 c3 c4 c6 c7) (go_ref08_Join_L2 c0 c1 c2 c3 c4 c6 c7) (step_ref08_Join_L2 c0 c1 c2 c3 c4 c6 c7) x
noncomputable def E_ref08_Join_L2 (c0 : Nat) (c1 : (Nat → Nat)) (c2 : (Nat → Nat)) (c3 : (Nat → Nat)) (c4 : (Nat → Nat)) (c6 : Nat) (c7 : Nat) (x : V_ref08_Join_L2) : Bool := endsL (ok_ref08_Join_L2 c0 c1 c2 c3 c4 c6 c7) (go_ref08_Join_L2 c0 c1 c2 c3 c4 c6 c7) (step_ref08_Join_L2 c0 c1 c2 c3 c4 c6 c7) x
theorem all_ref08_Join_L2 (c0 : Nat) (c1 : (Nat → Nat)) (c2 : (Nat → Nat)) (c3 : (Nat → Nat)) (c4 : (Nat → Nat)) (c5 : Nat) (c6 : Nat) (c7 : Nat) (x : V_ref08_Join_L2) : rnd Try.prog false menv74 [] [] 96 Ann.no (subC [1, 1, 1, 1, 1, 1, 1, 1, 1, 1, 1, 0, 1, 0, 0] (codeOf Try.f11)) 0 [⟨some 0, 0, 0, []⟩, ⟨some 1, 0, 0, []⟩] tpl_ref08_Join_L2 cts_ref08_Join_L2 [false, true, false, true, true, false, true, true, true, true, true, true, true, true, true, true, true, true, true, true, true, true, true, true, true, true, true, true, true, true, true, true, true, true, true, true, true, true, true, true, true, true, true, true, true, true, true, true, true, true, true, true, true, true, true, true, true, true, true, true, true, true, true, true, true, true, true, true, true, true, true, true, true, true, true, true, true, true, true, true, true, true, true, true, true, true, true, true, true, true, true, true, true, true, true, true, true, true, true, true, true, true, true, true, true, true, true, true, true, true, true, true, true, true, true, true, true, true, true, true, true, true, true, true, true, true, true, true, true, true, true, true, true, true, true, true, true, true, true, true, true, true, true, true, true, true, true, true] [false, true] (sh_ref08_Join_L2 c0 c1 c2 c3 c4 c5 c6 c7 x) = (true, true, go_ref08_Join_L2 c0 c1 c2 c3 c4 c6 c7 x, ok_ref08_Join_L2 c0 c1 c2 c3 c4 c6 c7 x, true, sh_ref08_Join_L2 c0 c1 c2 c3 c4 c5 c6 c7 (step_ref08_Join_L2 c0 c1 c2 c3 c4 c6 c7 x), true) := by kernel_rfl
noncomputable def fam_ref08_Join_L2 (c0 : Nat) (c1 : (Nat → Nat)) (c2 : (Nat → Nat)) (c3 : (Nat → Nat)) (c4 : (Nat → Nat)) (c5 : Nat) (c6 : Nat) (c7 : Nat) : Fam Try.prog false menv74 [] [] 96 0 Ann.no (subC [1, 1, 1, 1, 1, 1, 1, 1, 1, 1, 1, 0, 1, 0, 0] (codeOf Try.f11)) V_ref08_Join_L2 where
  sh := sh_ref08_Join_L2 c0 c1 c2 c3 c4 c5 c6 c7
  ok := ok_ref08_Join_L2 c0 c1 c2 c3 c4 c6 c7
  go := go_ref08_Join_L2 c0 c1 c2 c3 c4 c6 c7
  step := step_ref08_Join_L2 c0 c1 c2 c3 c4 c6 c7
  chg := [false, true, false, true, true, false, true, true, true, true, true, true, true, true, true, true, true, true, true, true, true, true, true, true, true, true, true, true, true, true, true, true, true, true, true, true, true, true, true, true, true, true, true, true, true, true, true, true, true, true, true, true, true, true, true, true, true, true, true, true, true, true, true, true, true, true, true, true, true, true, true, true, true, true, true, true, true, true, true, true, true, true, true, true, true, true, true, true, true, true, true, true, true, true, true, true, true, true, true, true, true, true, true, true, true, true, true, true, true, true, true, true, true, true, true, true, true, true, true, true, true, true, true, true, true, true, true, true, true, true, true, true, true, true, true, true, true, true, true, true, true, true, true, true, true, true, true, true]
  chgH := [false, true]
  tpl := tpl_ref08_Join_L2
  cts := cts_ref08_Join_L2
  keep := 0
  srcs := [⟨some 0, 0, 0, []⟩, ⟨some 1, 0, 0, []⟩]
  ann := (annNo (subC [1, 1, 1, 1, 1, 1, 1, 1, 1, 1, 1, 0, 1, 0, 0] (codeOf Try.f11)))
  le := by kernel_rfl
  kept := by kernel_rfl
  keptB := by kernel_rfl
  all := all_ref08_Join_L2 c0 c1 c2 c3 c4 c5 c6 c7
  len := fun x => by kernel_rfl
  head := fun x y => by kernel_rfl
  con := fun x y => by kernel_rfl
  conH := fun x y => by kernel_rfl
noncomputable def F_ref08_Join_L2 : St → Option Ch := fun s => cond (Nat.beq s.tm.length 148 && Nat.beq s.H.length 2) (tkCons (alL tpl_ref08_Join_L2 s.tm) fun a0 t0 => tkView 4 a0 fun s0 f0 => tkTops 1 t0 fun t1 => tkCons t1 fun a2 t2 => tkPtr 0 0 0 a2 <| tkTops 2 t2 fun t3 => tkCons t3 fun a4 t4 => tkPtr 1 0 0 a4 <| tkTops 3 t4 fun t5 => tkCons t5 fun a6 t6 => tkI .i64 a6 fun s5 => tkTops 138 t6 fun t7 => tkNil t7 <| tkCons (alH cts_ref08_Join_L2 (s.H ++ List.map phan phs_ref08_Join_L2)) fun b8 t8 => tkFlat 28 0 b8 fun m8 => tkCons m8 fun a9 t9 => tkFL 0 a9 <| tkCons t9 fun a10 t10 => tkFL 0 a10 <| tkCons t10 fun a11 t11 => tkFL 0 a11 <| tkCons t11 fun a12 t12 => tkFL 0 a12 <| tkNil t12 <| tkCons t8 fun b13 t13 => tkFlat 28 0 b13 fun m13 => tkCons m13 fun a14 t14 => tkF a14 fun s10 => tkCons t14 fun a15 t15 => tkF a15 fun s11 => tkCons t15 fun a16 t16 => tkF a16 fun s12 => tkCons t16 fun a17 t17 => tkF a17 fun s13 => tkNil t17 <| tkNil t13 <| Fam.out (fam_ref08_Join_L2 s0 (fun (i : Nat) => flO (atL (f0 i) 0)) (fun (i : Nat) => flO (atL (f0 i) 1)) (fun (i : Nat) => flO (atL (f0 i) 2)) (fun (i : Nat) => flO (atL (f0 i) 3)) s10 s12 s13) s (allB fun (i : Nat) => isNrm [Ck.f, Ck.f, Ck.f, Ck.f] (f0 i)) (V_ref08_Join_L2.mk s5 s11)) none
theorem F_ref08_Join_L2_ok : ∀ s ch, F_ref08_Join_L2 s = some ch → AllI s ch ∧ LoopSpec Try.prog false 0 (subC [1, 1, 1, 1, 1, 1, 1, 1, 1, 1, 1, 0, 1, 0, 0] (codeOf Try.f11)) s (sel ch) := by
  intro s ch h
  unfold F_ref08_Join_L2 at h
  obtain ⟨hl, h0⟩ := cond_some h rfl
  clear h
  obtain ⟨hl, hb⟩ := and_beq2 hl
  obtain ⟨a0, t0, e0, h1⟩ := tkCons_some h0
  obtain ⟨s0, f0, rfl, h2⟩ := tkView_some h1
  obtain ⟨t1, rfl, h3⟩ := tkTops_some h2
  obtain ⟨a2, t2, rfl, h4⟩ := tkCons_some h3
  obtain ⟨rfl, h5⟩ := tkPtr_some h4
  obtain ⟨t3, rfl, h6⟩ := tkTops_some h5
  obtain ⟨a4, t4, rfl, h7⟩ := tkCons_some h6
  obtain ⟨rfl, h8⟩ := tkPtr_some h7
  obtain ⟨t5, rfl, h9⟩ := tkTops_some h8
  obtain ⟨a6, t6, rfl, h10⟩ := tkCons_some h9
  obtain ⟨s5, rfl, h11⟩ := tkI_some h10
  obtain ⟨t7, rfl, h12⟩ := tkTops_some h11
  obtain ⟨rfl, h13⟩ := tkNil_some h12
  obtain ⟨b8, t8, eH, h14⟩ := tkCons_some h13
  obtain ⟨m8, rfl, h15⟩ := tkFlat_some h14
  obtain ⟨a9, t9, rfl, h16⟩ := tkCons_some h15
  obtain ⟨rfl, h17⟩ := tkFL_some h16
  obtain ⟨a10, t10, rfl, h18⟩ := tkCons_some h17
  obtain ⟨rfl, h19⟩ := tkFL_some h18
  obtain ⟨a11, t11, rfl, h20⟩ := tkCons_some h19
  obtain ⟨rfl, h21⟩ := tkFL_some h20
  obtain ⟨a12, t12, rfl, h22⟩ := tkCons_some h21
  obtain ⟨rfl, h23⟩ := tkFL_some h22
  obtain ⟨rfl, h24⟩ := tkNil_some h23
  obtain ⟨b13, t13, rfl, h25⟩ := tkCons_some h24
  obtain ⟨m13, rfl, h26⟩ := tkFlat_some h25
  obtain ⟨a14, t14, rfl, h27⟩ := tkCons_some h26
  obtain ⟨s10, rfl, h28⟩ := tkF_some h27
  obtain ⟨a15, t15, rfl, h29⟩ := tkCons_some h28
  obtain ⟨s11, rfl, h30⟩ := tkF_some h29
  obtain ⟨a16, t16, rfl, h31⟩ := tkCons_some h30
  obtain ⟨s12, rfl, h32⟩ := tkF_some h31
  obtain ⟨a17, t17, rfl, h33⟩ := tkCons_some h32
  obtain ⟨s13, rfl, h34⟩ := tkF_some h33
  obtain ⟨rfl, h35⟩ := tkNil_some h34
  obtain ⟨rfl, h36⟩ := tkNil_some h35
  refine Fam.spec menv74_ok (fam_ref08_Join_L2 s0 (fun (i : Nat) => flO (atL (f0 i) 0)) (fun (i : Nat) => flO (atL (f0 i) 1)) (fun (i : Nat) => flO (atL (f0 i) 2)) (fun (i : Nat) => flO (atL (f0 i) 3)) s10 s12 s13) (phs := phs_ref08_Join_L2) (hl.trans (by kernel_rfl)) (hb.trans (by kernel_rfl)) ?_ ?_ h36
  · rw [← hdr_alH cts_ref08_Join_L2 (s.H ++ List.map phan phs_ref08_Join_L2), eH]; kernel_rfl
  · intro hq
    have hq0 := hq
    have n0 := nrm_fun hq0
    show sh_ref08_Join_L2 s0 (fun (i : Nat) => flO (atL (f0 i) 0)) (fun (i : Nat) => flO (atL (f0 i) 1)) (fun (i : Nat) => flO (atL (f0 i) 2)) (fun (i : Nat) => flO (atL (f0 i) 3)) s10 s12 s13 (V_ref08_Join_L2.mk s5 s11) = (alL tpl_ref08_Join_L2 s.tm, alH cts_ref08_Join_L2 (s.H ++ List.map phan phs_ref08_Join_L2))
    rw [e0, eH]
    refine Eq.trans (show sh_ref08_Join_L2 s0 (fun (i : Nat) => flO (atL (f0 i) 0)) (fun (i : Nat) => flO (atL (f0 i) 1)) (fun (i : Nat) => flO (atL (f0 i) 2)) (fun (i : Nat) => flO (atL (f0 i) 3)) s10 s12 s13 (V_ref08_Join_L2.mk s5 s11) = T_ref08_Join_L2 s0 (fun (i : Nat) => flO (atL (f0 i) 0)) (fun (i : Nat) => flO (atL (f0 i) 1)) (fun (i : Nat) => flO (atL (f0 i) 2)) (fun (i : Nat) => flO (atL (f0 i) 3)) s10 s12 s13 (V_ref08_Join_L2.mk s5 s11) (fun (i : Nat) => mkN [Ck.f, Ck.f, Ck.f, Ck.f] (f0 i) 0) by kernel_rfl) ?_
    rw [n0]
    kernel_rfl
theorem ann_ref08_Join : FnOk Try.prog false 0 Try.f11 (Ann.two Ann.no (Ann.two Ann.no (Ann.two (Ann.two Ann.no (Ann.one (Ann.loop F_ref08_Join_L0))) (Ann.two Ann.no (Ann.two Ann.no (Ann.two Ann.no (Ann.two Ann.no (Ann.two Ann.no (Ann.two (Ann.two Ann.no (Ann.one (Ann.loop F_ref08_Join_L1))) (Ann.two Ann.no (Ann.two Ann.no (Ann.two (Ann.two Ann.no (Ann.one (Ann.loop F_ref08_Join_L2))) Ann.no)))))))))))) := (fnOk_of (c := codeOf Try.f11) (by kernel_rfl) (annSeq (a := (subC [0] (codeOf Try.f11))) (b := (subC [1] (codeOf Try.f11))) (by kernel_rfl) (annNo (subC [0] (codeOf Try.f11))) (annSeq (a := (subC [1, 0] (codeOf Try.f11))) (b := (subC [1, 1] (codeOf Try.f11))) (by kernel_rfl) (annNo (subC [1, 0] (codeOf Try.f11))) (annSeq (a := (subC [1, 1, 0] (codeOf Try.f11))) (b := (subC [1, 1, 1] (codeOf Try.f11))) (by kernel_rfl) (annSeq (a := (subC [1, 1, 0, 0] (codeOf Try.f11))) (b := (subC [1, 1, 0, 1] (codeOf Try.f11))) (by kernel_rfl) (annNo (subC [1, 1, 0, 0] (codeOf Try.f11))) (annBlock (a := (subC [1, 1, 0, 1, 0] (codeOf Try.f11))) (i := 0) (by kernel_rfl) (annLoop (a := (subC [1, 1, 0, 1, 0, 0] (codeOf Try.f11))) (by kernel_rfl) F_ref08_Join_L0_ok))) (annSeq (a := (subC [1, 1, 1, 0] (codeOf Try.f11))) (b := (subC [1, 1, 1, 1] (codeOf Try.f11))) (by kernel_rfl) (annNo (subC [1, 1, 1, 0] (codeOf Try.f11))) (annSeq (a := (subC [1, 1, 1, 1, 0] (codeOf Try.f11))) (b := (subC [1, 1, 1, 1, 1] (codeOf Try.f11))) (by kernel_rfl) (annNo (subC [1, 1, 1, 1, 0] (codeOf Try.f11))) (annSeq (a := (subC [1, 1, 1, 1, 1, 0] (codeOf Try.f11))) (b := (subC [1, 1, 1, 1, 1, 1] (codeOf Try.f11))) (by kernel_rfl) (annNo (subC [1, 1, 1, 1, 1, 0] (codeOf Try.f11))) (annSeq (a := (subC [1, 1, 1, 1, 1, 1, 0] (codeOf Try.f11))) (b := (subC [1, 1, 1, 1, 1, 1, 1] (codeOf Try.f11))) (by kernel_rfl) (annNo (subC [1, 1, 1, 1, 1, 1, 0] (codeOf Try.f11))) (annSeq (a := (subC [1, 1, 1, 1, 1, 1, 1, 0] (codeOf Try.f11))) (b := (subC [1, 1, 1, 1, 1, 1, 1, 1] (codeOf Try.f11))) (by kernel_rfl) (annNo (subC [1, 1, 1, 1, 1, 1, 1, 0] (codeOf Try.f11))) (annSeq (a := (subC [1, 1, 1, 1, 1, 1, 1, 1, 0] (codeOf Try.f11))) (b := (subC [1, 1, 1, 1, 1, 1, 1, 1, 1] (codeOf Try.f11))) (by kernel_rfl) (annSeq (a := (subC [1, 1, 1, 1, 1, 1, 1, 1, 0, 0] (codeOf Try.f11))) (b := (subC [1, 1, 1, 1, 1, 1, 1, 1, 0, 1] (codeOf Try.f11))) (by kernel_rfl) (annNo (subC [1, 1, 1, 1, 1, 1, 1, 1, 0, 0] (codeOf Try.f11))) (annBlock (a := (subC [1, 1, 1, 1, 1, 1, 1, 1, 0, 1, 0] (codeOf Try.f11))) (i := 2) (by kernel_rfl) (annLoop (a := (subC [1, 1, 1, 1, 1, 1, 1, 1, 0, 1, 0, 0] (codeOf Try.f11))) (by kernel_rfl) F_ref08_Join_L1_ok))) (annSeq (a := (subC [1, 1, 1, 1, 1, 1, 1, 1, 1, 0] (codeOf Try.f11))) (b := (subC [1, 1, 1, 1, 1, 1, 1, 1, 1, 1] (codeOf Try.f11))) (by kernel_rfl) (annNo (subC [1, 1, 1, 1, 1, 1, 1, 1, 1, 0] (codeOf Try.f11))) (annSeq (a := (subC [1, 1, 1, 1, 1, 1, 1, 1, 1, 1, 0] (codeOf Try.f11))) (b := (subC [1, 1, 1, 1, 1, 1, 1, 1, 1, 1, 1] (codeOf Try.f11))) (by kernel_rfl) (annNo (subC [1, 1, 1, 1, 1, 1, 1, 1, 1, 1, 0] (codeOf Try.f11))) (annSeq (a := (subC [1, 1, 1, 1, 1, 1, 1, 1, 1, 1, 1, 0] (codeOf Try.f11))) (b := (subC [1, 1, 1, 1, 1, 1, 1, 1, 1, 1, 1, 1] (codeOf Try.f11))) (by kernel_rfl) (annSeq (a := (subC [1, 1, 1, 1, 1, 1, 1, 1, 1, 1, 1, 0, 0] (codeOf Try.f11))) (b := (subC [1, 1, 1, 1, 1, 1, 1, 1, 1, 1, 1, 0, 1] (codeOf Try.f11))) (by kernel_rfl) (annNo (subC [1, 1, 1, 1, 1, 1, 1, 1, 1, 1, 1, 0, 0] (codeOf Try.f11))) (annBlock (a := (subC [1, 1, 1, 1, 1, 1, 1, 1, 1, 1, 1, 0, 1, 0] (codeOf Try.f11))) (i := 4) (by kernel_rfl) (annLoop (a := (subC [1, 1, 1, 1, 1, 1, 1, 1, 1, 1, 1, 0, 1, 0, 0] (codeOf Try.f11))) (by kernel_rfl) F_ref08_Join_L2_ok))) (annNo (subC [1, 1, 1, 1, 1, 1, 1, 1, 1, 1, 1, 1] (codeOf Try.f11))))))))))))))))
noncomputable def s_ref08_Join_0 (a0n : Nat) (a0_0 : Nat → Nat) (a0_1 : Nat → Nat) (a0_2 : Nat → Nat) (a0_3 : Nat → Nat) : Nat := let x0 : V_ref08_Join_L1 := (L_ref08_Join_L1 a0n a0_0 a0_2 a0_3 (V_ref08_Join_L1.mk (fmul (a0_0 0) (a0_2 0)) (fmul (a0_0 0) (a0_3 0)) (1 : Int) (a0_0 0))); let x1 : Nat := (x0.v3); let x2 : Nat := (fdiv (x0.v1) x1); let x3 : Nat := (fdiv (x0.v0) x1); let x4 : Nat := (s_ref02_Vec_1 x3 x2); let x5 : Nat := (s_ref02_Vec_0 x3 x2); let x6 : Int := ((L_ref08_Join_L0 a0n a0_0 a0_1 a0_2 a0_3 (V_ref08_Join_L0.mk (0 : Int))).v0); let x7 : Nat := (Int.toNat x6); (bif (ilt (16384 : Int) (Int.ofNat a0n)) then 0 else (bif (bif (!(ilt x6 (Int.ofNat a0n))) then false else (!(ieq (s_ref08_Check_0 (a0_0 x7) (a0_1 x7) (a0_2 x7) (a0_3 x7)) (0 : Int)))) then 0 else (bif (ieq (Int.ofNat a0n) (0 : Int)) then 0 else (bif (ieq (Int.ofNat a0n) (1 : Int)) then (a0_0 0) else (bif (feq x1 0) then 0 else (s_ref08_told_0 x1 ((L_ref08_Join_L2 a0n a0_0 a0_1 a0_2 a0_3 x5 x4 (V_ref08_Join_L2.mk (0 : Int) (a0_1 0))).v1) x5 x4))))))
noncomputable def s_ref08_Join_1 (a0n : Nat) (a0_0 : Nat → Nat) (a0_1 : Nat → Nat) (a0_2 : Nat → Nat) (a0_3 : Nat → Nat) : Nat := let x0 : V_ref08_Join_L1 := (L_ref08_Join_L1 a0n a0_0 a0_2 a0_3 (V_ref08_Join_L1.mk (fmul (a0_0 0) (a0_2 0)) (fmul (a0_0 0) (a0_3 0)) (1 : Int) (a0_0 0))); let x1 : Nat := (x0.v3); let x2 : Nat := (fdiv (x0.v1) x1); let x3 : Nat := (fdiv (x0.v0) x1); let x4 : Nat := (s_ref02_Vec_1 x3 x2); let x5 : Nat := (s_ref02_Vec_0 x3 x2); let x6 : Int := ((L_ref08_Join_L0 a0n a0_0 a0_1 a0_2 a0_3 (V_ref08_Join_L0.mk (0 : Int))).v0); let x7 : Nat := (Int.toNat x6); (bif (ilt (16384 : Int) (Int.ofNat a0n)) then 0 else (bif (bif (!(ilt x6 (Int.ofNat a0n))) then false else (!(ieq (s_ref08_Check_0 (a0_0 x7) (a0_1 x7) (a0_2 x7) (a0_3 x7)) (0 : Int)))) then 0 else (bif (ieq (Int.ofNat a0n) (0 : Int)) then 0 else (bif (ieq (Int.ofNat a0n) (1 : Int)) then (a0_1 0) else (bif (feq x1 0) then 0 else (s_ref08_told_1 x1 ((L_ref08_Join_L2 a0n a0_0 a0_1 a0_2 a0_3 x5 x4 (V_ref08_Join_L2.mk (0 : Int) (a0_1 0))).v1) x5 x4))))))
noncomputable def s_ref08_Join_2 (a0n : Nat) (a0_0 : Nat → Nat) (a0_1 : Nat → Nat) (a0_2 : Nat → Nat) (a0_3 : Nat → Nat) : Nat := let x0 : V_ref08_Join_L1 := (L_ref08_Join_L1 a0n a0_0 a0_2 a0_3 (V_ref08_Join_L1.mk (fmul (a0_0 0) (a0_2 0)) (fmul (a0_0 0) (a0_3 0)) (1 : Int) (a0_0 0))); let x1 : Nat := (x0.v3); let x2 : Nat := (fdiv (x0.v1) x1); let x3 : Nat := (fdiv (x0.v0) x1); let x4 : Nat := (s_ref02_Vec_1 x3 x2); let x5 : Nat := (s_ref02_Vec_0 x3 x2); let x6 : Int := ((L_ref08_Join_L0 a0n a0_0 a0_1 a0_2 a0_3 (V_ref08_Join_L0.mk (0 : Int))).v0); let x7 : Nat := (Int.toNat x6); (bif (ilt (16384 : Int) (Int.ofNat a0n)) then 0 else (bif (bif (!(ilt x6 (Int.ofNat a0n))) then false else (!(ieq (s_ref08_Check_0 (a0_0 x7) (a0_1 x7) (a0_2 x7) (a0_3 x7)) (0 : Int)))) then 0 else (bif (ieq (Int.ofNat a0n) (0 : Int)) then 0 else (bif (ieq (Int.ofNat a0n) (1 : Int)) then (a0_2 0) else (bif (feq x1 0) then 0 else (s_ref08_told_2 x1 ((L_ref08_Join_L2 a0n a0_0 a0_1 a0_2 a0_3 x5 x4 (V_ref08_Join_L2.mk (0 : Int) (a0_1 0))).v1) x5 x4))))))
noncomputable def s_ref08_Join_3 (a0n : Nat) (a0_0 : Nat → Nat) (a0_1 : Nat → Nat) (a0_2 : Nat → Nat) (a0_3 : Nat → Nat) : Nat := let x0 : V_ref08_Join_L1 := (L_ref08_Join_L1 a0n a0_0 a0_2 a0_3 (V_ref08_Join_L1.mk (fmul (a0_0 0) (a0_2 0)) (fmul (a0_0 0) (a0_3 0)) (1 : Int) (a0_0 0))); let x1 : Nat := (x0.v3); let x2 : Nat := (fdiv (x0.v1) x1); let x3 : Nat := (fdiv (x0.v0) x1); let x4 : Nat := (s_ref02_Vec_1 x3 x2); let x5 : Nat := (s_ref02_Vec_0 x3 x2); let x6 : Int := ((L_ref08_Join_L0 a0n a0_0 a0_1 a0_2 a0_3 (V_ref08_Join_L0.mk (0 : Int))).v0); let x7 : Nat := (Int.toNat x6); (bif (ilt (16384 : Int) (Int.ofNat a0n)) then 0 else (bif (bif (!(ilt x6 (Int.ofNat a0n))) then false else (!(ieq (s_ref08_Check_0 (a0_0 x7) (a0_1 x7) (a0_2 x7) (a0_3 x7)) (0 : Int)))) then 0 else (bif (ieq (Int.ofNat a0n) (0 : Int)) then 0 else (bif (ieq (Int.ofNat a0n) (1 : Int)) then (a0_3 0) else (bif (feq x1 0) then 0 else (s_ref08_told_3 x1 ((L_ref08_Join_L2 a0n a0_0 a0_1 a0_2 a0_3 x5 x4 (V_ref08_Join_L2.mk (0 : Int) (a0_1 0))).v1) x5 x4))))))
noncomputable def s_ref08_Join_4 (a0n : Nat) (a0_0 : Nat → Nat) (a0_1 : Nat → Nat) (a0_2 : Nat → Nat) (a0_3 : Nat → Nat) : Int := let x0 : V_ref08_Join_L1 := (L_ref08_Join_L1 a0n a0_0 a0_2 a0_3 (V_ref08_Join_L1.mk (fmul (a0_0 0) (a0_2 0)) (fmul (a0_0 0) (a0_3 0)) (1 : Int) (a0_0 0))); let x1 : Nat := (x0.v3); let x2 : Nat := (fdiv (x0.v1) x1); let x3 : Nat := (fdiv (x0.v0) x1); let x4 : Nat := (s_ref02_Vec_1 x3 x2); let x5 : Nat := (s_ref02_Vec_0 x3 x2); let x6 : Int := ((L_ref08_Join_L0 a0n a0_0 a0_1 a0_2 a0_3 (V_ref08_Join_L0.mk (0 : Int))).v0); let x7 : Nat := (Int.toNat x6); (bif (ilt (16384 : Int) (Int.ofNat a0n)) then (4 : Int) else (bif (bif (!(ilt x6 (Int.ofNat a0n))) then false else (!(ieq (s_ref08_Check_0 (a0_0 x7) (a0_1 x7) (a0_2 x7) (a0_3 x7)) (0 : Int)))) then (80 : Int) else (bif (ieq (Int.ofNat a0n) (0 : Int)) then (0 : Int) else (bif (ieq (Int.ofNat a0n) (1 : Int)) then (0 : Int) else (bif (feq x1 0) then (0 : Int) else (s_ref08_told_4 x1 ((L_ref08_Join_L2 a0n a0_0 a0_1 a0_2 a0_3 x5 x4 (V_ref08_Join_L2.mk (0 : Int) (a0_1 0))).v1) x5 x4))))))
theorem e_ref08_Join (a0n : Nat) (a0_0 : Nat → Nat) (a0_1 : Nat → Nat) (a0_2 : Nat → Nat) (a0_3 : Nat → Nat) : outB (evFnM Try.prog false menv74 [] [] 96 (Ann.two Ann.no (Ann.two Ann.no (Ann.two (Ann.two Ann.no (Ann.one (Ann.loop F_ref08_Join_L0))) (Ann.two Ann.no (Ann.two Ann.no (Ann.two Ann.no (Ann.two Ann.no (Ann.two Ann.no (Ann.two (Ann.two Ann.no (Ann.one (Ann.loop F_ref08_Join_L1))) (Ann.two Ann.no (Ann.two Ann.no (Ann.two (Ann.two Ann.no (Ann.one (Ann.loop F_ref08_Join_L2))) Ann.no)))))))))))) Try.f11 [AV.view a0n 4 (fun (i0 : Nat) => [AV.float (a0_0 i0), AV.float (a0_1 i0), AV.float (a0_2 i0), AV.float (a0_3 i0)])] []) = some ((let x0 : Nat := (fmul (a0_0 0) (a0_3 0)); let x1 : Nat := (fmul (a0_0 0) (a0_2 0)); let x2 : V_ref08_Join_L1 := (L_ref08_Join_L1 a0n a0_0 a0_2 a0_3 (V_ref08_Join_L1.mk x1 x0 (1 : Int) (a0_0 0))); let x3 : Nat := (x2.v3); let x4 : Nat := (fdiv (x2.v1) x3); let x5 : Nat := (fdiv (x2.v0) x3); let x6 : Bool := ((allB fun _ => true) && (E_ref08_Join_L0 a0n a0_0 a0_1 a0_2 a0_3 (V_ref08_Join_L0.mk (0 : Int)))); let x7 : Bool := ((Nat.blt 0 a0n) && x6); let x8 : Bool := (x7 && ((allB fun _ => true) && (E_ref08_Join_L1 a0n a0_0 a0_2 a0_3 (V_ref08_Join_L1.mk x1 x0 (1 : Int) (a0_0 0))))); let x9 : Int := ((L_ref08_Join_L0 a0n a0_0 a0_1 a0_2 a0_3 (V_ref08_Join_L0.mk (0 : Int))).v0); let x10 : Nat := (Int.toNat x9); (mrgB (ilt (16384 : Int) (Int.ofNat a0n)) true (mrgB (bif (!(ilt x9 (Int.ofNat a0n))) then false else (!(ieq (s_ref08_Check_0 (a0_0 x10) (a0_1 x10) (a0_2 x10) (a0_3 x10)) (0 : Int)))) x6 (mrgB (ieq (Int.ofNat a0n) (0 : Int)) x6 (mrgB (ieq (Int.ofNat a0n) (1 : Int)) x7 (mrgB (feq x3 0) x8 (x8 && ((allB fun _ => true) && (E_ref08_Join_L2 a0n a0_0 a0_1 a0_2 a0_3 (s_ref02_Vec_0 x5 x4) (s_ref02_Vec_1 x5 x4) (V_ref08_Join_L2.mk (0 : Int) (a0_1 0))))))))))), AV.tup [AV.agg [AV.float (s_ref08_Join_0 a0n a0_0 a0_1 a0_2 a0_3), AV.float (s_ref08_Join_1 a0n a0_0 a0_1 a0_2 a0_3), AV.float (s_ref08_Join_2 a0n a0_0 a0_1 a0_2 a0_3), AV.float (s_ref08_Join_3 a0n a0_0 a0_1 a0_2 a0_3)], AV.int .i64 (s_ref08_Join_4 a0n a0_0 a0_1 a0_2 a0_3)]) := by kernel_rfl
noncomputable def o_ref08_Join (a0n : Nat) (a0_0 : Nat → Nat) (a0_1 : Nat → Nat) (a0_2 : Nat → Nat) (a0_3 : Nat → Nat) : Bool := let x0 : Nat := (fmul (a0_0 0) (a0_3 0)); let x1 : Nat := (fmul (a0_0 0) (a0_2 0)); let x2 : V_ref08_Join_L1 := (L_ref08_Join_L1 a0n a0_0 a0_2 a0_3 (V_ref08_Join_L1.mk x1 x0 (1 : Int) (a0_0 0))); let x3 : Nat := (x2.v3); let x4 : Nat := (fdiv (x2.v1) x3); let x5 : Nat := (fdiv (x2.v0) x3); let x6 : Bool := (E_ref08_Join_L0 a0n a0_0 a0_1 a0_2 a0_3 (V_ref08_Join_L0.mk (0 : Int))); let x7 : Bool := ((Nat.blt 0 a0n) && x6); let x8 : Bool := (x7 && (E_ref08_Join_L1 a0n a0_0 a0_2 a0_3 (V_ref08_Join_L1.mk x1 x0 (1 : Int) (a0_0 0)))); let x9 : Int := ((L_ref08_Join_L0 a0n a0_0 a0_1 a0_2 a0_3 (V_ref08_Join_L0.mk (0 : Int))).v0); let x10 : Nat := (Int.toNat x9); (mrgB (ilt (16384 : Int) (Int.ofNat a0n)) true (mrgB (bif (!(ilt x9 (Int.ofNat a0n))) then false else (!(ieq (s_ref08_Check_0 (a0_0 x10) (a0_1 x10) (a0_2 x10) (a0_3 x10)) (0 : Int)))) x6 (mrgB (ieq (Int.ofNat a0n) (0 : Int)) x6 (mrgB (ieq (Int.ofNat a0n) (1 : Int)) x7 (mrgB (feq x3 0) x8 (x8 && (E_ref08_Join_L2 a0n a0_0 a0_1 a0_2 a0_3 (s_ref02_Vec_0 x5 x4) (s_ref02_Vec_1 x5 x4) (V_ref08_Join_L2.mk (0 : Int) (a0_1 0)))))))))
noncomputable def S_ref08_Join : List AV → Option (Ob × AV)
  | [AV.view a0n 4 a0f] => some (Ob.both (Ob.bit (allB fun (i : Nat) => isNrm [Ck.f, Ck.f, Ck.f, Ck.f] (a0f i))) (Ob.bit (o_ref08_Join a0n (fun (i0 : Nat) => (flO (atL (a0f i0) 0))) (fun (i0 : Nat) => (flO (atL (a0f i0) 1))) (fun (i0 : Nat) => (flO (atL (a0f i0) 2))) (fun (i0 : Nat) => (flO (atL (a0f i0) 3))))), AV.tup [AV.agg [AV.float (s_ref08_Join_0 a0n (fun (i0 : Nat) => (flO (atL (a0f i0) 0))) (fun (i0 : Nat) => (flO (atL (a0f i0) 1))) (fun (i0 : Nat) => (flO (atL (a0f i0) 2))) (fun (i0 : Nat) => (flO (atL (a0f i0) 3)))), AV.float (s_ref08_Join_1 a0n (fun (i0 : Nat) => (flO (atL (a0f i0) 0))) (fun (i0 : Nat) => (flO (atL (a0f i0) 1))) (fun (i0 : Nat) => (flO (atL (a0f i0) 2))) (fun (i0 : Nat) => (flO (atL (a0f i0) 3)))), AV.float (s_ref08_Join_2 a0n (fun (i0 : Nat) => (flO (atL (a0f i0) 0))) (fun (i0 : Nat) => (flO (atL (a0f i0) 1))) (fun (i0 : Nat) => (flO (atL (a0f i0) 2))) (fun (i0 : Nat) => (flO (atL (a0f i0) 3)))), AV.float (s_ref08_Join_3 a0n (fun (i0 : Nat) => (flO (atL (a0f i0) 0))) (fun (i0 : Nat) => (flO (atL (a0f i0) 1))) (fun (i0 : Nat) => (flO (atL (a0f i0) 2))) (fun (i0 : Nat) => (flO (atL (a0f i0) 3))))], AV.int .i64 (s_ref08_Join_4 a0n (fun (i0 : Nat) => (flO (atL (a0f i0) 0))) (fun (i0 : Nat) => (flO (atL (a0f i0) 1))) (fun (i0 : Nat) => (flO (atL (a0f i0) 2))) (fun (i0 : Nat) => (flO (atL (a0f i0) 3))))])
  | _ => none
theorem ob_ref08_Join (a0n : Nat) (a0_0 : Nat → Nat) (a0_1 : Nat → Nat) (a0_2 : Nat → Nat) (a0_3 : Nat → Nat) (ho : o_ref08_Join a0n a0_0 a0_1 a0_2 a0_3 = true) : (let x0 : Nat := (fmul (a0_0 0) (a0_3 0)); let x1 : Nat := (fmul (a0_0 0) (a0_2 0)); let x2 : V_ref08_Join_L1 := (L_ref08_Join_L1 a0n a0_0 a0_2 a0_3 (V_ref08_Join_L1.mk x1 x0 (1 : Int) (a0_0 0))); let x3 : Nat := (x2.v3); let x4 : Nat := (fdiv (x2.v1) x3); let x5 : Nat := (fdiv (x2.v0) x3); let x6 : Bool := ((allB fun _ => true) && (E_ref08_Join_L0 a0n a0_0 a0_1 a0_2 a0_3 (V_ref08_Join_L0.mk (0 : Int)))); let x7 : Bool := ((Nat.blt 0 a0n) && x6); let x8 : Bool := (x7 && ((allB fun _ => true) && (E_ref08_Join_L1 a0n a0_0 a0_2 a0_3 (V_ref08_Join_L1.mk x1 x0 (1 : Int) (a0_0 0))))); let x9 : Int := ((L_ref08_Join_L0 a0n a0_0 a0_1 a0_2 a0_3 (V_ref08_Join_L0.mk (0 : Int))).v0); let x10 : Nat := (Int.toNat x9); (mrgB (ilt (16384 : Int) (Int.ofNat a0n)) true (mrgB (bif (!(ilt x9 (Int.ofNat a0n))) then false else (!(ieq (s_ref08_Check_0 (a0_0 x10) (a0_1 x10) (a0_2 x10) (a0_3 x10)) (0 : Int)))) x6 (mrgB (ieq (Int.ofNat a0n) (0 : Int)) x6 (mrgB (ieq (Int.ofNat a0n) (1 : Int)) x7 (mrgB (feq x3 0) x8 (x8 && ((allB fun _ => true) && (E_ref08_Join_L2 a0n a0_0 a0_1 a0_2 a0_3 (s_ref02_Vec_0 x5 x4) (s_ref02_Vec_1 x5 x4) (V_ref08_Join_L2.mk (0 : Int) (a0_1 0))))))))))) = true := by
  unfold o_ref08_Join at ho
  simp only [allB_true, eqT_self, mrgB_self, Bool.true_and, Bool.and_true] at ho ⊢
  exact ho
theorem t_ref08_Join : SOkM Try.prog false (11, fun args => match S_ref08_Join args with | some (o, v) => some (o, v, []) | none => none) := SOkM.flat (N := 96) menv74_ok Try.func11 ann_ref08_Join Try.call11 fun args o v h ho => by
  unfold S_ref08_Join at h
  split at h
  · rename_i a0n a0f
    cases h
    rw [Ob.both_ok, Bool.and_eq_true] at ho
    obtain ⟨hn, ho2⟩ := ho
    have n0 := hn
    simp only [Ob.ok] at n0
    replace n0 := nrm_fun n0
    have this : outB (evFnM Try.prog false menv74 [] [] 96 (Ann.two Ann.no (Ann.two Ann.no (Ann.two (Ann.two Ann.no (Ann.one (Ann.loop F_ref08_Join_L0))) (Ann.two Ann.no (Ann.two Ann.no (Ann.two Ann.no (Ann.two Ann.no (Ann.two Ann.no (Ann.two (Ann.two Ann.no (Ann.one (Ann.loop F_ref08_Join_L1))) (Ann.two Ann.no (Ann.two Ann.no (Ann.two (Ann.two Ann.no (Ann.one (Ann.loop F_ref08_Join_L2))) Ann.no)))))))))))) Try.f11 [AV.view a0n 4 (fun (i : Nat) => mkN [Ck.f, Ck.f, Ck.f, Ck.f] (a0f i) 0)] []) = some (true, AV.tup [AV.agg [AV.float (s_ref08_Join_0 a0n (fun (i0 : Nat) => (flO (atL (a0f i0) 0))) (fun (i0 : Nat) => (flO (atL (a0f i0) 1))) (fun (i0 : Nat) => (flO (atL (a0f i0) 2))) (fun (i0 : Nat) => (flO (atL (a0f i0) 3)))), AV.float (s_ref08_Join_1 a0n (fun (i0 : Nat) => (flO (atL (a0f i0) 0))) (fun (i0 : Nat) => (flO (atL (a0f i0) 1))) (fun (i0 : Nat) => (flO (atL (a0f i0) 2))) (fun (i0 : Nat) => (flO (atL (a0f i0) 3)))), AV.float (s_ref08_Join_2 a0n (fun (i0 : Nat) => (flO (atL (a0f i0) 0))) (fun (i0 : Nat) => (flO (atL (a0f i0) 1))) (fun (i0 : Nat) => (flO (atL (a0f i0) 2))) (fun (i0 : Nat) => (flO (atL (a0f i0) 3)))), AV.float (s_ref08_Join_3 a0n (fun (i0 : Nat) => (flO (atL (a0f i0) 0))) (fun (i0 : Nat) => (flO (atL (a0f i0) 1))) (fun (i0 : Nat) => (flO (atL (a0f i0) 2))) (fun (i0 : Nat) => (flO (atL (a0f i0) 3))))], AV.int .i64 (s_ref08_Join_4 a0n (fun (i0 : Nat) => (flO (atL (a0f i0) 0))) (fun (i0 : Nat) => (flO (atL (a0f i0) 1))) (fun (i0 : Nat) => (flO (atL (a0f i0) 2))) (fun (i0 : Nat) => (flO (atL (a0f i0) 3))))]) := Eq.trans (show outB (evFnM Try.prog false menv74 [] [] 96 (Ann.two Ann.no (Ann.two Ann.no (Ann.two (Ann.two Ann.no (Ann.one (Ann.loop F_ref08_Join_L0))) (Ann.two Ann.no (Ann.two Ann.no (Ann.two Ann.no (Ann.two Ann.no (Ann.two Ann.no (Ann.two (Ann.two Ann.no (Ann.one (Ann.loop F_ref08_Join_L1))) (Ann.two Ann.no (Ann.two Ann.no (Ann.two (Ann.two Ann.no (Ann.one (Ann.loop F_ref08_Join_L2))) Ann.no)))))))))))) Try.f11 [AV.view a0n 4 (fun (i : Nat) => mkN [Ck.f, Ck.f, Ck.f, Ck.f] (a0f i) 0)] []) = _ from e_ref08_Join a0n (fun (i0 : Nat) => (flO (atL (a0f i0) 0))) (fun (i0 : Nat) => (flO (atL (a0f i0) 1))) (fun (i0 : Nat) => (flO (atL (a0f i0) 2))) (fun (i0 : Nat) => (flO (atL (a0f i0) 3)))) (by rw [(ob_ref08_Join a0n (fun (i0 : Nat) => (flO (atL (a0f i0) 0))) (fun (i0 : Nat) => (flO (atL (a0f i0) 1))) (fun (i0 : Nat) => (flO (atL (a0f i0) 2))) (fun (i0 : Nat) => (flO (atL (a0f i0) 3))) ho2)])
    rw [n0] at this
    exact ⟨this, rfl⟩
  · cases h
noncomputable def c_ref08_Join : SFM := fun args => match S_ref08_Join args with | some (o, v) => some (o, v, []) | none => none
theorem c_ref08_Join_ok : SOkM Try.prog false (11, c_ref08_Join) := t_ref08_Join
noncomputable def mss74 : List (FuncId × SFM) := (11, c_ref08_Join) :: mss73
noncomputable def menv75 : EnvM := mkEnvM mxs mss74 mws2
theorem mss74_ok : All (SOkM Try.prog false) mss74 := All.cons c_ref08_Join_ok mss73_ok
theorem menv75_ok : menv75.Ok Try.prog false := mkEnvM_ok mxs_ok mss74_ok mws2_ok
end Go.Proofs.Ytbkogihigehjlaa
