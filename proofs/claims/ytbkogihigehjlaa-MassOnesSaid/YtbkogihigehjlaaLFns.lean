/- The contracts of the functions that these laws reach, loops too, printed by a program of this work: each says what the Go function gives, up to which NaN. -/
import Derived.Test.YtbkogihigehjlaaProg
import Derived.KernelRfl
import Derived.Test.YtbkogihigehjlaaLExact
set_option linter.unusedVariables false
set_option linter.unusedSimpArgs false
set_option maxRecDepth 100000
set_option maxHeartbeats 4000000
namespace Go.Proofs.Ytbkogihigehjlaa
open Go.Lst
open Go.Sim (fadd fsub fmul fdiv fneg feq flt fle fsqrt cn nanb fabs fcps fsame feq_self cps_cn fabs_cn)
def xxs : List (FuncId × XFM) := [(82, xFM true .sqrt), (62, xFM true .frombits), (63, xFM true .tobits)]
def xenv : EnvM := mkEnvM xxs [] []
theorem xxs_ok : All (XOkM Try.prog true) xxs := All.cons (xM_ok (ex := true) (f := 82) .sqrt fun args w => run_callFunc_extern Try.func82 (by kernel_rfl) (by kernel_rfl) (by kernel_rfl) (by kernel_rfl) args w)
  (All.cons (xM_ok (ex := true) (f := 62) .frombits fun args w => run_callFunc_extern Try.func62 (by kernel_rfl) (by kernel_rfl) (by kernel_rfl) (by kernel_rfl) args w)
  (All.cons (xM_ok (ex := true) (f := 63) .tobits fun args w => run_callFunc_extern Try.func63 (by kernel_rfl) (by kernel_rfl) (by kernel_rfl) (by kernel_rfl) args w)
  (All.nil)))
theorem xenv_ok : xenv.Ok Try.prog true := mkEnvM_ok xxs_ok All.nil All.nil
def mxs : List (FuncId × XFM) := [(82, xFM false .sqrt), (62, xFM false .frombits), (63, xFM false .tobits)]
theorem mxs_ok : All (XOkM Try.prog false) mxs := All.cons (xM_ok (ex := false) (f := 82) .sqrt fun args w => run_callFunc_extern Try.func82 (by kernel_rfl) (by kernel_rfl) (by kernel_rfl) (by kernel_rfl) args w)
  (All.cons (xM_ok (ex := false) (f := 62) .frombits fun args w => run_callFunc_extern Try.func62 (by kernel_rfl) (by kernel_rfl) (by kernel_rfl) (by kernel_rfl) args w)
  (All.cons (xM_ok (ex := false) (f := 63) .tobits fun args w => run_callFunc_extern Try.func63 (by kernel_rfl) (by kernel_rfl) (by kernel_rfl) (by kernel_rfl) args w)
  (All.nil)))
def mss0 : List (FuncId × SFM) := []
def mws0 : List (FuncId × WFM) := []
def menv0 : EnvM := mkEnvM mxs mss0 mws0
theorem mss0_ok : All (SOkM Try.prog false) mss0 := All.nil
theorem mws0_ok : All (WOkM Try.prog false) mws0 := All.nil
theorem menv0_ok : menv0.Ok Try.prog false := mkEnvM_ok mxs_ok mss0_ok mws0_ok
-- math.Abs
noncomputable def S_math_Abs : List AV → Option AV
  | [AV.float a] => some (AV.float (fabs a))
  | _ => none
theorem t_math_Abs : SOkM Try.prog false (27, pureS S_math_Abs) := exact1 (N := 96) (A := .no) (lits := []) (fk := []) xenv_ok Try.func27 (fnNo _) Try.call27 (fun a v => v = .float (fabs a)) (fun args v h => by
    unfold S_math_Abs at h
    split at h
    · cases h; exact ⟨_, rfl, rfl⟩
    · cases h) fun b v hb h => ⟨.float (absV b), (show outB (evFnM Try.prog true xenv [] [] 96 .no Try.f27 [.float b] []) = some (absOb b, .float (absV b)) by kernel_rfl).trans (by rw [abs_ob]), rfl, fun μ x hx => by subst h; exact toFloat hx (by rw [abs_val hb]; exact (fabs_cn b).symm)⟩
noncomputable def c_math_Abs : SFM := pureS S_math_Abs
theorem c_math_Abs_ok : SOkM Try.prog false (27, c_math_Abs) := t_math_Abs
noncomputable def mss1 : List (FuncId × SFM) := (27, c_math_Abs) :: mss0
noncomputable def menv1 : EnvM := mkEnvM mxs mss1 mws0
theorem mss1_ok : All (SOkM Try.prog false) mss1 := All.cons c_math_Abs_ok mss0_ok
theorem menv1_ok : menv1.Ok Try.prog false := mkEnvM_ok mxs_ok mss1_ok mws0_ok
-- tumble/tumblelaw08.alive
noncomputable def mss2 : List (FuncId × SFM) := mss1
theorem mss2_ok : All (SOkM Try.prog false) mss2 := mss1_ok
noncomputable def mws1 : List (FuncId × WFM) := (24, (inlWM Try.prog false menv1 [] [] 96 .no Try.f24 100000)) :: mws0
noncomputable def menv2 : EnvM := mkEnvM mxs mss2 mws1
theorem mws1_ok : All (WOkM Try.prog false) mws1 := All.cons (WOkM.inl menv1_ok Try.func24 (fnNo _) Try.call24) mws0_ok
theorem menv2_ok : menv2.Ok Try.prog false := mkEnvM_ok mxs_ok mss2_ok mws1_ok
noncomputable def mws2 : List (FuncId × WFM) := (77, (inlWM Try.prog false menv2 [8, 17, 33, 53] [] 96 .no Try.f77 100000)) :: mws1
noncomputable def menv3 : EnvM := mkEnvM mxs mss2 mws2
theorem mws2_ok : All (WOkM Try.prog false) mws2 := All.cons (WOkM.inl menv2_ok Try.func77 (fnNo _) Try.call77) mws1_ok
theorem menv3_ok : menv3.Ok Try.prog false := mkEnvM_ok mxs_ok mss2_ok mws2_ok
noncomputable def mss3 : List (FuncId × SFM) := (58, (inlSM Try.prog false menv3 [] [] 96 .no Try.f58)) :: mss2
noncomputable def menv4 : EnvM := mkEnvM mxs mss3 mws2
theorem mss3_ok : All (SOkM Try.prog false) mss3 := All.cons (SOkM.inl menv3_ok Try.func58 (fnNo _) Try.call58) mss2_ok
theorem menv4_ok : menv4.Ok Try.prog false := mkEnvM_ok mxs_ok mss3_ok mws2_ok
noncomputable def mss4 : List (FuncId × SFM) := (22, (inlSM Try.prog false menv4 [] [] 96 .no Try.f22)) :: mss3
noncomputable def menv5 : EnvM := mkEnvM mxs mss4 mws2
theorem mss4_ok : All (SOkM Try.prog false) mss4 := All.cons (SOkM.inl menv4_ok Try.func22 (fnNo _) Try.call22) mss3_ok
theorem menv5_ok : menv5.Ok Try.prog false := mkEnvM_ok mxs_ok mss4_ok mws2_ok
noncomputable def mss5 : List (FuncId × SFM) := (52, (inlSM Try.prog false menv5 [7, 11, 16] [] 96 .no Try.f52)) :: mss4
noncomputable def menv6 : EnvM := mkEnvM mxs mss5 mws2
theorem mss5_ok : All (SOkM Try.prog false) mss5 := All.cons (SOkM.inl menv5_ok Try.func52 (fnNo _) Try.call52) mss4_ok
theorem menv6_ok : menv6.Ok Try.prog false := mkEnvM_ok mxs_ok mss5_ok mws2_ok
noncomputable def mss6 : List (FuncId × SFM) := (56, (inlSM Try.prog false menv6 [] [] 96 .no Try.f56)) :: mss5
noncomputable def menv7 : EnvM := mkEnvM mxs mss6 mws2
theorem mss6_ok : All (SOkM Try.prog false) mss6 := All.cons (SOkM.inl menv6_ok Try.func56 (fnNo _) Try.call56) mss5_ok
theorem menv7_ok : menv7.Ok Try.prog false := mkEnvM_ok mxs_ok mss6_ok mws2_ok
noncomputable def mss7 : List (FuncId × SFM) := (53, (inlSM Try.prog false menv7 [] [] 96 .no Try.f53)) :: mss6
noncomputable def menv8 : EnvM := mkEnvM mxs mss7 mws2
theorem mss7_ok : All (SOkM Try.prog false) mss7 := All.cons (SOkM.inl menv7_ok Try.func53 (fnNo _) Try.call53) mss6_ok
theorem menv8_ok : menv8.Ok Try.prog false := mkEnvM_ok mxs_ok mss7_ok mws2_ok
noncomputable def mss8 : List (FuncId × SFM) := (76, (inlSM Try.prog false menv8 [] [] 96 .no Try.f76)) :: mss7
noncomputable def menv9 : EnvM := mkEnvM mxs mss8 mws2
theorem mss8_ok : All (SOkM Try.prog false) mss8 := All.cons (SOkM.inl menv8_ok Try.func76 (fnNo _) Try.call76) mss7_ok
theorem menv9_ok : menv9.Ok Try.prog false := mkEnvM_ok mxs_ok mss8_ok mws2_ok
noncomputable def mss9 : List (FuncId × SFM) := (68, (inlSM Try.prog false menv9 [] [] 96 .no Try.f68)) :: mss8
noncomputable def menv10 : EnvM := mkEnvM mxs mss9 mws2
theorem mss9_ok : All (SOkM Try.prog false) mss9 := All.cons (SOkM.inl menv9_ok Try.func68 (fnNo _) Try.call68) mss8_ok
theorem menv10_ok : menv10.Ok Try.prog false := mkEnvM_ok mxs_ok mss9_ok mws2_ok
noncomputable def mss10 : List (FuncId × SFM) := (71, (inlSM Try.prog false menv10 [] [] 96 .no Try.f71)) :: mss9
noncomputable def menv11 : EnvM := mkEnvM mxs mss10 mws2
theorem mss10_ok : All (SOkM Try.prog false) mss10 := All.cons (SOkM.inl menv10_ok Try.func71 (fnNo _) Try.call71) mss9_ok
theorem menv11_ok : menv11.Ok Try.prog false := mkEnvM_ok mxs_ok mss10_ok mws2_ok
noncomputable def mss11 : List (FuncId × SFM) := (54, (inlSM Try.prog false menv11 [] [] 96 .no Try.f54)) :: mss10
noncomputable def menv12 : EnvM := mkEnvM mxs mss11 mws2
theorem mss11_ok : All (SOkM Try.prog false) mss11 := All.cons (SOkM.inl menv11_ok Try.func54 (fnNo _) Try.call54) mss10_ok
theorem menv12_ok : menv12.Ok Try.prog false := mkEnvM_ok mxs_ok mss11_ok mws2_ok
noncomputable def mss12 : List (FuncId × SFM) := (55, (inlSM Try.prog false menv12 [] [] 96 .no Try.f55)) :: mss11
noncomputable def menv13 : EnvM := mkEnvM mxs mss12 mws2
theorem mss12_ok : All (SOkM Try.prog false) mss12 := All.cons (SOkM.inl menv12_ok Try.func55 (fnNo _) Try.call55) mss11_ok
theorem menv13_ok : menv13.Ok Try.prog false := mkEnvM_ok mxs_ok mss12_ok mws2_ok
noncomputable def mss13 : List (FuncId × SFM) := (20, (inlSM Try.prog false menv13 [11, 15, 19, 28, 32, 48] [] 96 .no Try.f20)) :: mss12
noncomputable def menv14 : EnvM := mkEnvM mxs mss13 mws2
theorem mss13_ok : All (SOkM Try.prog false) mss13 := All.cons (SOkM.inl menv13_ok Try.func20 (fnNo _) Try.call20) mss12_ok
theorem menv14_ok : menv14.Ok Try.prog false := mkEnvM_ok mxs_ok mss13_ok mws2_ok
noncomputable def mss14 : List (FuncId × SFM) := (109, (inlSM Try.prog false menv14 [] [] 96 .no Try.f109)) :: mss13
noncomputable def menv15 : EnvM := mkEnvM mxs mss14 mws2
theorem mss14_ok : All (SOkM Try.prog false) mss14 := All.cons (SOkM.inl menv14_ok Try.func109 (fnNo _) Try.call109) mss13_ok
theorem menv15_ok : menv15.Ok Try.prog false := mkEnvM_ok mxs_ok mss14_ok mws2_ok
noncomputable def mss15 : List (FuncId × SFM) := (103, (inlSM Try.prog false menv15 [] [] 96 .no Try.f103)) :: mss14
noncomputable def menv16 : EnvM := mkEnvM mxs mss15 mws2
theorem mss15_ok : All (SOkM Try.prog false) mss15 := All.cons (SOkM.inl menv15_ok Try.func103 (fnNo _) Try.call103) mss14_ok
theorem menv16_ok : menv16.Ok Try.prog false := mkEnvM_ok mxs_ok mss15_ok mws2_ok
noncomputable def mss16 : List (FuncId × SFM) := (100, (inlSM Try.prog false menv16 [12] [] 96 .no Try.f100)) :: mss15
noncomputable def menv17 : EnvM := mkEnvM mxs mss16 mws2
theorem mss16_ok : All (SOkM Try.prog false) mss16 := All.cons (SOkM.inl menv16_ok Try.func100 (fnNo _) Try.call100) mss15_ok
theorem menv17_ok : menv17.Ok Try.prog false := mkEnvM_ok mxs_ok mss16_ok mws2_ok
noncomputable def mss17 : List (FuncId × SFM) := (64, (inlSM Try.prog false menv17 [12, 17] [] 96 .no Try.f64)) :: mss16
noncomputable def menv18 : EnvM := mkEnvM mxs mss17 mws2
theorem mss17_ok : All (SOkM Try.prog false) mss17 := All.cons (SOkM.inl menv17_ok Try.func64 (fnNo _) Try.call64) mss16_ok
theorem menv18_ok : menv18.Ok Try.prog false := mkEnvM_ok mxs_ok mss17_ok mws2_ok
noncomputable def mss18 : List (FuncId × SFM) := (30, (inlSM Try.prog false menv18 [] [] 96 .no Try.f30)) :: mss17
noncomputable def menv19 : EnvM := mkEnvM mxs mss18 mws2
theorem mss18_ok : All (SOkM Try.prog false) mss18 := All.cons (SOkM.inl menv18_ok Try.func30 (fnNo _) Try.call30) mss17_ok
theorem menv19_ok : menv19.Ok Try.prog false := mkEnvM_ok mxs_ok mss18_ok mws2_ok
noncomputable def mss19 : List (FuncId × SFM) := (72, (inlSM Try.prog false menv19 [] [] 96 .no Try.f72)) :: mss18
noncomputable def menv20 : EnvM := mkEnvM mxs mss19 mws2
theorem mss19_ok : All (SOkM Try.prog false) mss19 := All.cons (SOkM.inl menv19_ok Try.func72 (fnNo _) Try.call72) mss18_ok
theorem menv20_ok : menv20.Ok Try.prog false := mkEnvM_ok mxs_ok mss19_ok mws2_ok
noncomputable def mss20 : List (FuncId × SFM) := (32, (inlSM Try.prog false menv20 [] [] 96 .no Try.f32)) :: mss19
noncomputable def menv21 : EnvM := mkEnvM mxs mss20 mws2
theorem mss20_ok : All (SOkM Try.prog false) mss20 := All.cons (SOkM.inl menv20_ok Try.func32 (fnNo _) Try.call32) mss19_ok
theorem menv21_ok : menv21.Ok Try.prog false := mkEnvM_ok mxs_ok mss20_ok mws2_ok
noncomputable def mss21 : List (FuncId × SFM) := (57, (inlSM Try.prog false menv21 [13, 42] [] 96 .no Try.f57)) :: mss20
noncomputable def menv22 : EnvM := mkEnvM mxs mss21 mws2
theorem mss21_ok : All (SOkM Try.prog false) mss21 := All.cons (SOkM.inl menv21_ok Try.func57 (fnNo _) Try.call57) mss20_ok
theorem menv22_ok : menv22.Ok Try.prog false := mkEnvM_ok mxs_ok mss21_ok mws2_ok
noncomputable def mss22 : List (FuncId × SFM) := (21, (inlSM Try.prog false menv22 [10, 19] [] 96 .no Try.f21)) :: mss21
noncomputable def menv23 : EnvM := mkEnvM mxs mss22 mws2
theorem mss22_ok : All (SOkM Try.prog false) mss22 := All.cons (SOkM.inl menv22_ok Try.func21 (fnNo _) Try.call21) mss21_ok
theorem menv23_ok : menv23.Ok Try.prog false := mkEnvM_ok mxs_ok mss22_ok mws2_ok
noncomputable def mss23 : List (FuncId × SFM) := (75, (inlSM Try.prog false menv23 [10, 20] [] 96 .no Try.f75)) :: mss22
noncomputable def menv24 : EnvM := mkEnvM mxs mss23 mws2
theorem mss23_ok : All (SOkM Try.prog false) mss23 := All.cons (SOkM.inl menv23_ok Try.func75 (fnNo _) Try.call75) mss22_ok
theorem menv24_ok : menv24.Ok Try.prog false := mkEnvM_ok mxs_ok mss23_ok mws2_ok
noncomputable def mss24 : List (FuncId × SFM) := (67, (inlSM Try.prog false menv24 [8, 16] [] 96 .no Try.f67)) :: mss23
noncomputable def menv25 : EnvM := mkEnvM mxs mss24 mws2
theorem mss24_ok : All (SOkM Try.prog false) mss24 := All.cons (SOkM.inl menv24_ok Try.func67 (fnNo _) Try.call67) mss23_ok
theorem menv25_ok : menv25.Ok Try.prog false := mkEnvM_ok mxs_ok mss24_ok mws2_ok
noncomputable def mss25 : List (FuncId × SFM) := (61, (inlSM Try.prog false menv25 [20, 30, 40] [] 96 .no Try.f61)) :: mss24
noncomputable def menv26 : EnvM := mkEnvM mxs mss25 mws2
theorem mss25_ok : All (SOkM Try.prog false) mss25 := All.cons (SOkM.inl menv25_ok Try.func61 (fnNo _) Try.call61) mss24_ok
theorem menv26_ok : menv26.Ok Try.prog false := mkEnvM_ok mxs_ok mss25_ok mws2_ok
noncomputable def mss26 : List (FuncId × SFM) := (70, (inlSM Try.prog false menv26 [] [] 96 .no Try.f70)) :: mss25
noncomputable def menv27 : EnvM := mkEnvM mxs mss26 mws2
theorem mss26_ok : All (SOkM Try.prog false) mss26 := All.cons (SOkM.inl menv26_ok Try.func70 (fnNo _) Try.call70) mss25_ok
theorem menv27_ok : menv27.Ok Try.prog false := mkEnvM_ok mxs_ok mss26_ok mws2_ok
noncomputable def mss27 : List (FuncId × SFM) := (49, (inlSM Try.prog false menv27 [] [] 96 .no Try.f49)) :: mss26
noncomputable def menv28 : EnvM := mkEnvM mxs mss27 mws2
theorem mss27_ok : All (SOkM Try.prog false) mss27 := All.cons (SOkM.inl menv27_ok Try.func49 (fnNo _) Try.call49) mss26_ok
theorem menv28_ok : menv28.Ok Try.prog false := mkEnvM_ok mxs_ok mss27_ok mws2_ok
noncomputable def mss28 : List (FuncId × SFM) := (17, (inlSM Try.prog false menv28 [18] [] 96 .no Try.f17)) :: mss27
noncomputable def menv29 : EnvM := mkEnvM mxs mss28 mws2
theorem mss28_ok : All (SOkM Try.prog false) mss28 := All.cons (SOkM.inl menv28_ok Try.func17 (fnNo _) Try.call17) mss27_ok
theorem menv29_ok : menv29.Ok Try.prog false := mkEnvM_ok mxs_ok mss28_ok mws2_ok
noncomputable def mss29 : List (FuncId × SFM) := (40, (inlSM Try.prog false menv29 [8] [] 96 .no Try.f40)) :: mss28
noncomputable def menv30 : EnvM := mkEnvM mxs mss29 mws2
theorem mss29_ok : All (SOkM Try.prog false) mss29 := All.cons (SOkM.inl menv29_ok Try.func40 (fnNo _) Try.call40) mss28_ok
theorem menv30_ok : menv30.Ok Try.prog false := mkEnvM_ok mxs_ok mss29_ok mws2_ok
noncomputable def mss30 : List (FuncId × SFM) := (73, (inlSM Try.prog false menv30 [] [] 96 .no Try.f73)) :: mss29
noncomputable def menv31 : EnvM := mkEnvM mxs mss30 mws2
theorem mss30_ok : All (SOkM Try.prog false) mss30 := All.cons (SOkM.inl menv30_ok Try.func73 (fnNo _) Try.call73) mss29_ok
theorem menv31_ok : menv31.Ok Try.prog false := mkEnvM_ok mxs_ok mss30_ok mws2_ok
noncomputable def mss31 : List (FuncId × SFM) := (59, (inlSM Try.prog false menv31 [] [] 96 .no Try.f59)) :: mss30
noncomputable def menv32 : EnvM := mkEnvM mxs mss31 mws2
theorem mss31_ok : All (SOkM Try.prog false) mss31 := All.cons (SOkM.inl menv31_ok Try.func59 (fnNo _) Try.call59) mss30_ok
theorem menv32_ok : menv32.Ok Try.prog false := mkEnvM_ok mxs_ok mss31_ok mws2_ok
noncomputable def mss32 : List (FuncId × SFM) := (23, (inlSM Try.prog false menv32 [12, 21, 32, 37, 43] [] 96 .no Try.f23)) :: mss31
noncomputable def menv33 : EnvM := mkEnvM mxs mss32 mws2
theorem mss32_ok : All (SOkM Try.prog false) mss32 := All.cons (SOkM.inl menv32_ok Try.func23 (fnNo _) Try.call23) mss31_ok
theorem menv33_ok : menv33.Ok Try.prog false := mkEnvM_ok mxs_ok mss32_ok mws2_ok
noncomputable def mss33 : List (FuncId × SFM) := (28, (inlSM Try.prog false menv33 [] [] 96 .no Try.f28)) :: mss32
noncomputable def menv34 : EnvM := mkEnvM mxs mss33 mws2
theorem mss33_ok : All (SOkM Try.prog false) mss33 := All.cons (SOkM.inl menv33_ok Try.func28 (fnNo _) Try.call28) mss32_ok
theorem menv34_ok : menv34.Ok Try.prog false := mkEnvM_ok mxs_ok mss33_ok mws2_ok
noncomputable def mss34 : List (FuncId × SFM) := (35, (inlSM Try.prog false menv34 [] [] 96 .no Try.f35)) :: mss33
noncomputable def menv35 : EnvM := mkEnvM mxs mss34 mws2
theorem mss34_ok : All (SOkM Try.prog false) mss34 := All.cons (SOkM.inl menv34_ok Try.func35 (fnNo _) Try.call35) mss33_ok
theorem menv35_ok : menv35.Ok Try.prog false := mkEnvM_ok mxs_ok mss34_ok mws2_ok
noncomputable def mss35 : List (FuncId × SFM) := (36, (inlSM Try.prog false menv35 [] [] 96 .no Try.f36)) :: mss34
noncomputable def menv36 : EnvM := mkEnvM mxs mss35 mws2
theorem mss35_ok : All (SOkM Try.prog false) mss35 := All.cons (SOkM.inl menv35_ok Try.func36 (fnNo _) Try.call36) mss34_ok
theorem menv36_ok : menv36.Ok Try.prog false := mkEnvM_ok mxs_ok mss35_ok mws2_ok
noncomputable def mss36 : List (FuncId × SFM) := (37, (inlSM Try.prog false menv36 [] [] 96 .no Try.f37)) :: mss35
noncomputable def menv37 : EnvM := mkEnvM mxs mss36 mws2
theorem mss36_ok : All (SOkM Try.prog false) mss36 := All.cons (SOkM.inl menv36_ok Try.func37 (fnNo _) Try.call37) mss35_ok
theorem menv37_ok : menv37.Ok Try.prog false := mkEnvM_ok mxs_ok mss36_ok mws2_ok
noncomputable def mss37 : List (FuncId × SFM) := (39, (inlSM Try.prog false menv37 [] [] 96 .no Try.f39)) :: mss36
noncomputable def menv38 : EnvM := mkEnvM mxs mss37 mws2
theorem mss37_ok : All (SOkM Try.prog false) mss37 := All.cons (SOkM.inl menv37_ok Try.func39 (fnNo _) Try.call39) mss36_ok
theorem menv38_ok : menv38.Ok Try.prog false := mkEnvM_ok mxs_ok mss37_ok mws2_ok
noncomputable def mss38 : List (FuncId × SFM) := (38, (inlSM Try.prog false menv38 [] [] 96 .no Try.f38)) :: mss37
noncomputable def menv39 : EnvM := mkEnvM mxs mss38 mws2
theorem mss38_ok : All (SOkM Try.prog false) mss38 := All.cons (SOkM.inl menv38_ok Try.func38 (fnNo _) Try.call38) mss37_ok
theorem menv39_ok : menv39.Ok Try.prog false := mkEnvM_ok mxs_ok mss38_ok mws2_ok
noncomputable def mss39 : List (FuncId × SFM) := (34, (inlSM Try.prog false menv39 [14] [] 96 .no Try.f34)) :: mss38
noncomputable def menv40 : EnvM := mkEnvM mxs mss39 mws2
theorem mss39_ok : All (SOkM Try.prog false) mss39 := All.cons (SOkM.inl menv39_ok Try.func34 (fnNo _) Try.call34) mss38_ok
theorem menv40_ok : menv40.Ok Try.prog false := mkEnvM_ok mxs_ok mss39_ok mws2_ok
noncomputable def mss40 : List (FuncId × SFM) := (10, (inlSM Try.prog false menv40 [14, 19, 25, 31, 34, 42] [] 96 .no Try.f10)) :: mss39
noncomputable def menv41 : EnvM := mkEnvM mxs mss40 mws2
theorem mss40_ok : All (SOkM Try.prog false) mss40 := All.cons (SOkM.inl menv40_ok Try.func10 (fnNo _) Try.call10) mss39_ok
theorem menv41_ok : menv41.Ok Try.prog false := mkEnvM_ok mxs_ok mss40_ok mws2_ok
noncomputable def mss41 : List (FuncId × SFM) := (13, (inlSM Try.prog false menv41 [10, 14] [] 96 .no Try.f13)) :: mss40
noncomputable def menv42 : EnvM := mkEnvM mxs mss41 mws2
theorem mss41_ok : All (SOkM Try.prog false) mss41 := All.cons (SOkM.inl menv41_ok Try.func13 (fnNo _) Try.call13) mss40_ok
theorem menv42_ok : menv42.Ok Try.prog false := mkEnvM_ok mxs_ok mss41_ok mws2_ok
noncomputable def mss42 : List (FuncId × SFM) := (47, (inlSM Try.prog false menv42 [7] [] 96 .no Try.f47)) :: mss41
noncomputable def menv43 : EnvM := mkEnvM mxs mss42 mws2
theorem mss42_ok : All (SOkM Try.prog false) mss42 := All.cons (SOkM.inl menv42_ok Try.func47 (fnNo _) Try.call47) mss41_ok
theorem menv43_ok : menv43.Ok Try.prog false := mkEnvM_ok mxs_ok mss42_ok mws2_ok
noncomputable def mss43 : List (FuncId × SFM) := (15, (inlSM Try.prog false menv43 [9] [] 96 .no Try.f15)) :: mss42
noncomputable def menv44 : EnvM := mkEnvM mxs mss43 mws2
theorem mss43_ok : All (SOkM Try.prog false) mss43 := All.cons (SOkM.inl menv43_ok Try.func15 (fnNo _) Try.call15) mss42_ok
theorem menv44_ok : menv44.Ok Try.prog false := mkEnvM_ok mxs_ok mss43_ok mws2_ok
noncomputable def mss44 : List (FuncId × SFM) := (33, (inlSM Try.prog false menv44 [5] [] 96 .no Try.f33)) :: mss43
noncomputable def menv45 : EnvM := mkEnvM mxs mss44 mws2
theorem mss44_ok : All (SOkM Try.prog false) mss44 := All.cons (SOkM.inl menv44_ok Try.func33 (fnNo _) Try.call33) mss43_ok
theorem menv45_ok : menv45.Ok Try.prog false := mkEnvM_ok mxs_ok mss44_ok mws2_ok
theorem ann_law08_alive : FnOk Try.prog false 0 Try.f9 Ann.no := (fnNo _)
noncomputable def s_law08_alive_0 : Bool := true
theorem e_law08_alive : outB (evFnM Try.prog false menv45 [] [] 96 Ann.no Try.f9 [] []) = some (true, AV.bool (s_law08_alive_0)) := by kernel_rfl
noncomputable def S_law08_alive : List AV → Option (Ob × AV)
  | [] => some (Ob.tt, AV.bool (s_law08_alive_0))
  | _ => none
theorem ob_law08_alive : true = true := rfl
theorem t_law08_alive : SOkM Try.prog false (9, fun args => match S_law08_alive args with | some (o, v) => some (o, v, []) | none => none) := SOkM.flat (N := 96) menv45_ok Try.func9 ann_law08_alive Try.call9 fun args o v h ho => by
  unfold S_law08_alive at h
  split at h
  · skip
    cases h
    have ho2 := ho
    have this : outB (evFnM Try.prog false menv45 [] [] 96 Ann.no Try.f9 [] []) = some (true, AV.bool (s_law08_alive_0)) := Eq.trans (show outB (evFnM Try.prog false menv45 [] [] 96 Ann.no Try.f9 [] []) = _ from e_law08_alive) (by rw [(ob_law08_alive)])
    exact ⟨this, rfl⟩
  · cases h
noncomputable def c_law08_alive : SFM := fun args => match S_law08_alive args with | some (o, v) => some (o, v, []) | none => none
theorem c_law08_alive_ok : SOkM Try.prog false (9, c_law08_alive) := t_law08_alive
noncomputable def mss45 : List (FuncId × SFM) := (9, c_law08_alive) :: mss44
noncomputable def menv46 : EnvM := mkEnvM mxs mss45 mws2
theorem mss45_ok : All (SOkM Try.prog false) mss45 := All.cons c_law08_alive_ok mss44_ok
theorem menv46_ok : menv46.Ok Try.prog false := mkEnvM_ok mxs_ok mss45_ok mws2_ok
-- tumble/num.Finite[float64]
theorem ann_num_Finite_float64_ : FnOk Try.prog false 0 Try.f70 Ann.no := (fnNo _)
noncomputable def s_num_Finite_float64__0 (a0 : Nat) : Bool := (feq (fsub a0 a0) 0)
theorem e_num_Finite_float64_ (a0 : Nat) : outB (evFnM Try.prog false menv46 [] [] 96 Ann.no Try.f70 [AV.float a0] []) = some (true, AV.bool (s_num_Finite_float64__0 a0)) := by kernel_rfl
noncomputable def S_num_Finite_float64_ : List AV → Option (Ob × AV)
  | [AV.float a0] => some (Ob.tt, AV.bool (s_num_Finite_float64__0 a0))
  | _ => none
theorem ob_num_Finite_float64_ (a0 : Nat) : true = true := rfl
theorem t_num_Finite_float64_ : SOkM Try.prog false (70, fun args => match S_num_Finite_float64_ args with | some (o, v) => some (o, v, []) | none => none) := SOkM.flat (N := 96) menv46_ok Try.func70 ann_num_Finite_float64_ Try.call70 fun args o v h ho => by
  unfold S_num_Finite_float64_ at h
  split at h
  · rename_i a0
    cases h
    have ho2 := ho
    have this : outB (evFnM Try.prog false menv46 [] [] 96 Ann.no Try.f70 [AV.float a0] []) = some (true, AV.bool (s_num_Finite_float64__0 a0)) := Eq.trans (show outB (evFnM Try.prog false menv46 [] [] 96 Ann.no Try.f70 [AV.float a0] []) = _ from e_num_Finite_float64_ a0) (by rw [(ob_num_Finite_float64_ a0)])
    exact ⟨this, rfl⟩
  · cases h
noncomputable def c_num_Finite_float64_ : SFM := fun args => match S_num_Finite_float64_ args with | some (o, v) => some (o, v, []) | none => none
theorem c_num_Finite_float64__ok : SOkM Try.prog false (70, c_num_Finite_float64_) := t_num_Finite_float64_
noncomputable def mss46 : List (FuncId × SFM) := (70, c_num_Finite_float64_) :: mss45
noncomputable def menv47 : EnvM := mkEnvM mxs mss46 mws2
theorem mss46_ok : All (SOkM Try.prog false) mss46 := All.cons c_num_Finite_float64__ok mss45_ok
theorem menv47_ok : menv47.Ok Try.prog false := mkEnvM_ok mxs_ok mss46_ok mws2_ok
-- tumble/mass.weight
theorem ann_mass_weight : FnOk Try.prog false 0 Try.f49 Ann.no := (fnNo _)
noncomputable def s_mass_weight_0 (a0 : Nat) : Bool := ((s_num_Finite_float64__0 a0) && (fle 0 a0))
theorem e_mass_weight (a0 : Nat) : outB (evFnM Try.prog false menv47 [] [] 96 Ann.no Try.f49 [AV.float a0] []) = some (true, AV.bool (s_mass_weight_0 a0)) := by kernel_rfl
noncomputable def S_mass_weight : List AV → Option (Ob × AV)
  | [AV.float a0] => some (Ob.tt, AV.bool (s_mass_weight_0 a0))
  | _ => none
theorem ob_mass_weight (a0 : Nat) : true = true := rfl
theorem t_mass_weight : SOkM Try.prog false (49, fun args => match S_mass_weight args with | some (o, v) => some (o, v, []) | none => none) := SOkM.flat (N := 96) menv47_ok Try.func49 ann_mass_weight Try.call49 fun args o v h ho => by
  unfold S_mass_weight at h
  split at h
  · rename_i a0
    cases h
    have ho2 := ho
    have this : outB (evFnM Try.prog false menv47 [] [] 96 Ann.no Try.f49 [AV.float a0] []) = some (true, AV.bool (s_mass_weight_0 a0)) := Eq.trans (show outB (evFnM Try.prog false menv47 [] [] 96 Ann.no Try.f49 [AV.float a0] []) = _ from e_mass_weight a0) (by rw [(ob_mass_weight a0)])
    exact ⟨this, rfl⟩
  · cases h
noncomputable def c_mass_weight : SFM := fun args => match S_mass_weight args with | some (o, v) => some (o, v, []) | none => none
theorem c_mass_weight_ok : SOkM Try.prog false (49, c_mass_weight) := t_mass_weight
noncomputable def mss47 : List (FuncId × SFM) := (49, c_mass_weight) :: mss46
noncomputable def menv48 : EnvM := mkEnvM mxs mss47 mws2
theorem mss47_ok : All (SOkM Try.prog false) mss47 := All.cons c_mass_weight_ok mss46_ok
theorem menv48_ok : menv48.Ok Try.prog false := mkEnvM_ok mxs_ok mss47_ok mws2_ok
-- tumble/num.Within[float64]
theorem ann_num_Within_float64_ : FnOk Try.prog false 0 Try.f58 Ann.no := (fnNo _)
noncomputable def s_num_Within_float64__0 (a0 : Nat) (a1 : Nat) : Bool := ((fle (fneg a1) a0) && (fle a0 a1))
theorem e_num_Within_float64_ (a0 : Nat) (a1 : Nat) : outB (evFnM Try.prog false menv48 [] [] 96 Ann.no Try.f58 [AV.float a0, AV.float a1] []) = some (true, AV.bool (s_num_Within_float64__0 a0 a1)) := by kernel_rfl
noncomputable def S_num_Within_float64_ : List AV → Option (Ob × AV)
  | [AV.float a0, AV.float a1] => some (Ob.tt, AV.bool (s_num_Within_float64__0 a0 a1))
  | _ => none
theorem ob_num_Within_float64_ (a0 : Nat) (a1 : Nat) : true = true := rfl
theorem t_num_Within_float64_ : SOkM Try.prog false (58, fun args => match S_num_Within_float64_ args with | some (o, v) => some (o, v, []) | none => none) := SOkM.flat (N := 96) menv48_ok Try.func58 ann_num_Within_float64_ Try.call58 fun args o v h ho => by
  unfold S_num_Within_float64_ at h
  split at h
  · rename_i a0 a1
    cases h
    have ho2 := ho
    have this : outB (evFnM Try.prog false menv48 [] [] 96 Ann.no Try.f58 [AV.float a0, AV.float a1] []) = some (true, AV.bool (s_num_Within_float64__0 a0 a1)) := Eq.trans (show outB (evFnM Try.prog false menv48 [] [] 96 Ann.no Try.f58 [AV.float a0, AV.float a1] []) = _ from e_num_Within_float64_ a0 a1) (by rw [(ob_num_Within_float64_ a0 a1)])
    exact ⟨this, rfl⟩
  · cases h
noncomputable def c_num_Within_float64_ : SFM := fun args => match S_num_Within_float64_ args with | some (o, v) => some (o, v, []) | none => none
theorem c_num_Within_float64__ok : SOkM Try.prog false (58, c_num_Within_float64_) := t_num_Within_float64_
noncomputable def mss48 : List (FuncId × SFM) := (58, c_num_Within_float64_) :: mss47
noncomputable def menv49 : EnvM := mkEnvM mxs mss48 mws2
theorem mss48_ok : All (SOkM Try.prog false) mss48 := All.cons c_num_Within_float64__ok mss47_ok
theorem menv49_ok : menv49.Ok Try.prog false := mkEnvM_ok mxs_ok mss48_ok mws2_ok
-- tumble/vec.Within
theorem ann_vec_Within : FnOk Try.prog false 0 Try.f22 Ann.no := (fnNo _)
noncomputable def s_vec_Within_0 (a0 : Nat) (a1 : Nat) (a2 : Nat) : Bool := ((s_num_Within_float64__0 a0 a2) && (s_num_Within_float64__0 a1 a2))
theorem e_vec_Within (a0 : Nat) (a1 : Nat) (a2 : Nat) : outB (evFnM Try.prog false menv49 [] [] 96 Ann.no Try.f22 [AV.agg [AV.float a0, AV.float a1], AV.float a2] []) = some (true, AV.bool (s_vec_Within_0 a0 a1 a2)) := by kernel_rfl
noncomputable def S_vec_Within : List AV → Option (Ob × AV)
  | [AV.agg [AV.float a0, AV.float a1], AV.float a2] => some (Ob.tt, AV.bool (s_vec_Within_0 a0 a1 a2))
  | _ => none
theorem ob_vec_Within (a0 : Nat) (a1 : Nat) (a2 : Nat) : true = true := rfl
theorem t_vec_Within : SOkM Try.prog false (22, fun args => match S_vec_Within args with | some (o, v) => some (o, v, []) | none => none) := SOkM.flat (N := 96) menv49_ok Try.func22 ann_vec_Within Try.call22 fun args o v h ho => by
  unfold S_vec_Within at h
  split at h
  · rename_i a0 a1 a2
    cases h
    have ho2 := ho
    have this : outB (evFnM Try.prog false menv49 [] [] 96 Ann.no Try.f22 [AV.agg [AV.float a0, AV.float a1], AV.float a2] []) = some (true, AV.bool (s_vec_Within_0 a0 a1 a2)) := Eq.trans (show outB (evFnM Try.prog false menv49 [] [] 96 Ann.no Try.f22 [AV.agg [AV.float a0, AV.float a1], AV.float a2] []) = _ from e_vec_Within a0 a1 a2) (by rw [(ob_vec_Within a0 a1 a2)])
    exact ⟨this, rfl⟩
  · cases h
noncomputable def c_vec_Within : SFM := fun args => match S_vec_Within args with | some (o, v) => some (o, v, []) | none => none
theorem c_vec_Within_ok : SOkM Try.prog false (22, c_vec_Within) := t_vec_Within
noncomputable def mss49 : List (FuncId × SFM) := (22, c_vec_Within) :: mss48
noncomputable def menv50 : EnvM := mkEnvM mxs mss49 mws2
theorem mss49_ok : All (SOkM Try.prog false) mss49 := All.cons c_vec_Within_ok mss48_ok
theorem menv50_ok : menv50.Ok Try.prog false := mkEnvM_ok mxs_ok mss49_ok mws2_ok
-- tumble/mass.Check
theorem ann_mass_Check : FnOk Try.prog false 0 Try.f17 Ann.no := (fnNo _)
noncomputable def s_mass_Check_0 (a0 : Nat) (a1 : Nat) (a2 : Nat) (a3 : Nat) : Int := (bif (((!(s_mass_weight_0 a0)) || (!(s_mass_weight_0 a1))) || (!(s_vec_Within_0 a2 a3 4787326403894837248))) then (80 : Int) else (0 : Int))
theorem e_mass_Check (a0 : Nat) (a1 : Nat) (a2 : Nat) (a3 : Nat) : outB (evFnM Try.prog false menv50 [] [] 96 Ann.no Try.f17 [AV.agg [AV.float a0, AV.float a1, AV.float a2, AV.float a3]] []) = some (true, AV.int .i64 (s_mass_Check_0 a0 a1 a2 a3)) := by kernel_rfl
noncomputable def S_mass_Check : List AV → Option (Ob × AV)
  | [AV.agg [AV.float a0, AV.float a1, AV.float a2, AV.float a3]] => some (Ob.tt, AV.int .i64 (s_mass_Check_0 a0 a1 a2 a3))
  | _ => none
theorem ob_mass_Check (a0 : Nat) (a1 : Nat) (a2 : Nat) (a3 : Nat) : true = true := rfl
theorem t_mass_Check : SOkM Try.prog false (17, fun args => match S_mass_Check args with | some (o, v) => some (o, v, []) | none => none) := SOkM.flat (N := 96) menv50_ok Try.func17 ann_mass_Check Try.call17 fun args o v h ho => by
  unfold S_mass_Check at h
  split at h
  · rename_i a0 a1 a2 a3
    cases h
    have ho2 := ho
    have this : outB (evFnM Try.prog false menv50 [] [] 96 Ann.no Try.f17 [AV.agg [AV.float a0, AV.float a1, AV.float a2, AV.float a3]] []) = some (true, AV.int .i64 (s_mass_Check_0 a0 a1 a2 a3)) := Eq.trans (show outB (evFnM Try.prog false menv50 [] [] 96 Ann.no Try.f17 [AV.agg [AV.float a0, AV.float a1, AV.float a2, AV.float a3]] []) = _ from e_mass_Check a0 a1 a2 a3) (by rw [(ob_mass_Check a0 a1 a2 a3)])
    exact ⟨this, rfl⟩
  · cases h
noncomputable def c_mass_Check : SFM := fun args => match S_mass_Check args with | some (o, v) => some (o, v, []) | none => none
theorem c_mass_Check_ok : SOkM Try.prog false (17, c_mass_Check) := t_mass_Check
noncomputable def mss50 : List (FuncId × SFM) := (17, c_mass_Check) :: mss49
noncomputable def menv51 : EnvM := mkEnvM mxs mss50 mws2
theorem mss50_ok : All (SOkM Try.prog false) mss50 := All.cons c_mass_Check_ok mss49_ok
theorem menv51_ok : menv51.Ok Try.prog false := mkEnvM_ok mxs_ok mss50_ok mws2_ok
-- tumble/vec.Sub
theorem ann_vec_Sub : FnOk Try.prog false 0 Try.f56 Ann.no := (fnNo _)
noncomputable def s_vec_Sub_0 (a0 : Nat) (a1 : Nat) (a2 : Nat) (a3 : Nat) : Nat := (fsub a0 a2)
noncomputable def s_vec_Sub_1 (a0 : Nat) (a1 : Nat) (a2 : Nat) (a3 : Nat) : Nat := (fsub a1 a3)
theorem e_vec_Sub (a0 : Nat) (a1 : Nat) (a2 : Nat) (a3 : Nat) : outB (evFnM Try.prog false menv51 [] [] 96 Ann.no Try.f56 [AV.agg [AV.float a0, AV.float a1], AV.agg [AV.float a2, AV.float a3]] []) = some (true, AV.agg [AV.float (s_vec_Sub_0 a0 a1 a2 a3), AV.float (s_vec_Sub_1 a0 a1 a2 a3)]) := by kernel_rfl
noncomputable def S_vec_Sub : List AV → Option (Ob × AV)
  | [AV.agg [AV.float a0, AV.float a1], AV.agg [AV.float a2, AV.float a3]] => some (Ob.tt, AV.agg [AV.float (s_vec_Sub_0 a0 a1 a2 a3), AV.float (s_vec_Sub_1 a0 a1 a2 a3)])
  | _ => none
theorem ob_vec_Sub (a0 : Nat) (a1 : Nat) (a2 : Nat) (a3 : Nat) : true = true := rfl
theorem t_vec_Sub : SOkM Try.prog false (56, fun args => match S_vec_Sub args with | some (o, v) => some (o, v, []) | none => none) := SOkM.flat (N := 96) menv51_ok Try.func56 ann_vec_Sub Try.call56 fun args o v h ho => by
  unfold S_vec_Sub at h
  split at h
  · rename_i a0 a1 a2 a3
    cases h
    have ho2 := ho
    have this : outB (evFnM Try.prog false menv51 [] [] 96 Ann.no Try.f56 [AV.agg [AV.float a0, AV.float a1], AV.agg [AV.float a2, AV.float a3]] []) = some (true, AV.agg [AV.float (s_vec_Sub_0 a0 a1 a2 a3), AV.float (s_vec_Sub_1 a0 a1 a2 a3)]) := Eq.trans (show outB (evFnM Try.prog false menv51 [] [] 96 Ann.no Try.f56 [AV.agg [AV.float a0, AV.float a1], AV.agg [AV.float a2, AV.float a3]] []) = _ from e_vec_Sub a0 a1 a2 a3) (by rw [(ob_vec_Sub a0 a1 a2 a3)])
    exact ⟨this, rfl⟩
  · cases h
noncomputable def c_vec_Sub : SFM := fun args => match S_vec_Sub args with | some (o, v) => some (o, v, []) | none => none
theorem c_vec_Sub_ok : SOkM Try.prog false (56, c_vec_Sub) := t_vec_Sub
noncomputable def mss51 : List (FuncId × SFM) := (56, c_vec_Sub) :: mss50
noncomputable def menv52 : EnvM := mkEnvM mxs mss51 mws2
theorem mss51_ok : All (SOkM Try.prog false) mss51 := All.cons c_vec_Sub_ok mss50_ok
theorem menv52_ok : menv52.Ok Try.prog false := mkEnvM_ok mxs_ok mss51_ok mws2_ok
-- tumble/vec.Dot
theorem ann_vec_Dot : FnOk Try.prog false 0 Try.f76 Ann.no := (fnNo _)
noncomputable def s_vec_Dot_0 (a0 : Nat) (a1 : Nat) (a2 : Nat) (a3 : Nat) : Nat := (fadd (fmul a0 a2) (fmul a1 a3))
theorem e_vec_Dot (a0 : Nat) (a1 : Nat) (a2 : Nat) (a3 : Nat) : outB (evFnM Try.prog false menv52 [] [] 96 Ann.no Try.f76 [AV.agg [AV.float a0, AV.float a1], AV.agg [AV.float a2, AV.float a3]] []) = some (true, AV.float (s_vec_Dot_0 a0 a1 a2 a3)) := by kernel_rfl
noncomputable def S_vec_Dot : List AV → Option (Ob × AV)
  | [AV.agg [AV.float a0, AV.float a1], AV.agg [AV.float a2, AV.float a3]] => some (Ob.tt, AV.float (s_vec_Dot_0 a0 a1 a2 a3))
  | _ => none
theorem ob_vec_Dot (a0 : Nat) (a1 : Nat) (a2 : Nat) (a3 : Nat) : true = true := rfl
theorem t_vec_Dot : SOkM Try.prog false (76, fun args => match S_vec_Dot args with | some (o, v) => some (o, v, []) | none => none) := SOkM.flat (N := 96) menv52_ok Try.func76 ann_vec_Dot Try.call76 fun args o v h ho => by
  unfold S_vec_Dot at h
  split at h
  · rename_i a0 a1 a2 a3
    cases h
    have ho2 := ho
    have this : outB (evFnM Try.prog false menv52 [] [] 96 Ann.no Try.f76 [AV.agg [AV.float a0, AV.float a1], AV.agg [AV.float a2, AV.float a3]] []) = some (true, AV.float (s_vec_Dot_0 a0 a1 a2 a3)) := Eq.trans (show outB (evFnM Try.prog false menv52 [] [] 96 Ann.no Try.f76 [AV.agg [AV.float a0, AV.float a1], AV.agg [AV.float a2, AV.float a3]] []) = _ from e_vec_Dot a0 a1 a2 a3) (by rw [(ob_vec_Dot a0 a1 a2 a3)])
    exact ⟨this, rfl⟩
  · cases h
noncomputable def c_vec_Dot : SFM := fun args => match S_vec_Dot args with | some (o, v) => some (o, v, []) | none => none
theorem c_vec_Dot_ok : SOkM Try.prog false (76, c_vec_Dot) := t_vec_Dot
noncomputable def mss52 : List (FuncId × SFM) := (76, c_vec_Dot) :: mss51
noncomputable def menv53 : EnvM := mkEnvM mxs mss52 mws2
theorem mss52_ok : All (SOkM Try.prog false) mss52 := All.cons c_vec_Dot_ok mss51_ok
theorem menv53_ok : menv53.Ok Try.prog false := mkEnvM_ok mxs_ok mss52_ok mws2_ok
-- tumble/vec.Square
theorem ann_vec_Square : FnOk Try.prog false 0 Try.f68 Ann.no := (fnNo _)
noncomputable def s_vec_Square_0 (a0 : Nat) (a1 : Nat) : Nat := (s_vec_Dot_0 a0 a1 a0 a1)
theorem e_vec_Square (a0 : Nat) (a1 : Nat) : outB (evFnM Try.prog false menv53 [] [] 96 Ann.no Try.f68 [AV.agg [AV.float a0, AV.float a1]] []) = some (true, AV.float (s_vec_Square_0 a0 a1)) := by kernel_rfl
noncomputable def S_vec_Square : List AV → Option (Ob × AV)
  | [AV.agg [AV.float a0, AV.float a1]] => some (Ob.tt, AV.float (s_vec_Square_0 a0 a1))
  | _ => none
theorem ob_vec_Square (a0 : Nat) (a1 : Nat) : true = true := rfl
theorem t_vec_Square : SOkM Try.prog false (68, fun args => match S_vec_Square args with | some (o, v) => some (o, v, []) | none => none) := SOkM.flat (N := 96) menv53_ok Try.func68 ann_vec_Square Try.call68 fun args o v h ho => by
  unfold S_vec_Square at h
  split at h
  · rename_i a0 a1
    cases h
    have ho2 := ho
    have this : outB (evFnM Try.prog false menv53 [] [] 96 Ann.no Try.f68 [AV.agg [AV.float a0, AV.float a1]] []) = some (true, AV.float (s_vec_Square_0 a0 a1)) := Eq.trans (show outB (evFnM Try.prog false menv53 [] [] 96 Ann.no Try.f68 [AV.agg [AV.float a0, AV.float a1]] []) = _ from e_vec_Square a0 a1) (by rw [(ob_vec_Square a0 a1)])
    exact ⟨this, rfl⟩
  · cases h
noncomputable def c_vec_Square : SFM := fun args => match S_vec_Square args with | some (o, v) => some (o, v, []) | none => none
theorem c_vec_Square_ok : SOkM Try.prog false (68, c_vec_Square) := t_vec_Square
noncomputable def mss53 : List (FuncId × SFM) := (68, c_vec_Square) :: mss52
noncomputable def menv54 : EnvM := mkEnvM mxs mss53 mws2
theorem mss53_ok : All (SOkM Try.prog false) mss53 := All.cons c_vec_Square_ok mss52_ok
theorem menv54_ok : menv54.Ok Try.prog false := mkEnvM_ok mxs_ok mss53_ok mws2_ok
-- tumble/mass.about
theorem ann_mass_about : FnOk Try.prog false 0 Try.f39 Ann.no := (fnNo _)
noncomputable def s_mass_about_0 (a0 : Nat) (a1 : Nat) (a2 : Nat) (a3 : Nat) (a4 : Nat) (a5 : Nat) : Nat := (fadd a1 (fmul a0 (s_vec_Square_0 (s_vec_Sub_0 a4 a5 a2 a3) (s_vec_Sub_1 a4 a5 a2 a3))))
theorem e_mass_about (a0 : Nat) (a1 : Nat) (a2 : Nat) (a3 : Nat) (a4 : Nat) (a5 : Nat) : outB (evFnM Try.prog false menv54 [] [] 96 Ann.no Try.f39 [AV.agg [AV.float a0, AV.float a1, AV.float a2, AV.float a3], AV.agg [AV.float a4, AV.float a5]] []) = some (true, AV.float (s_mass_about_0 a0 a1 a2 a3 a4 a5)) := by kernel_rfl
noncomputable def S_mass_about : List AV → Option (Ob × AV)
  | [AV.agg [AV.float a0, AV.float a1, AV.float a2, AV.float a3], AV.agg [AV.float a4, AV.float a5]] => some (Ob.tt, AV.float (s_mass_about_0 a0 a1 a2 a3 a4 a5))
  | _ => none
theorem ob_mass_about (a0 : Nat) (a1 : Nat) (a2 : Nat) (a3 : Nat) (a4 : Nat) (a5 : Nat) : true = true := rfl
theorem t_mass_about : SOkM Try.prog false (39, fun args => match S_mass_about args with | some (o, v) => some (o, v, []) | none => none) := SOkM.flat (N := 96) menv54_ok Try.func39 ann_mass_about Try.call39 fun args o v h ho => by
  unfold S_mass_about at h
  split at h
  · rename_i a0 a1 a2 a3 a4 a5
    cases h
    have ho2 := ho
    have this : outB (evFnM Try.prog false menv54 [] [] 96 Ann.no Try.f39 [AV.agg [AV.float a0, AV.float a1, AV.float a2, AV.float a3], AV.agg [AV.float a4, AV.float a5]] []) = some (true, AV.float (s_mass_about_0 a0 a1 a2 a3 a4 a5)) := Eq.trans (show outB (evFnM Try.prog false menv54 [] [] 96 Ann.no Try.f39 [AV.agg [AV.float a0, AV.float a1, AV.float a2, AV.float a3], AV.agg [AV.float a4, AV.float a5]] []) = _ from e_mass_about a0 a1 a2 a3 a4 a5) (by rw [(ob_mass_about a0 a1 a2 a3 a4 a5)])
    exact ⟨this, rfl⟩
  · cases h
noncomputable def c_mass_about : SFM := fun args => match S_mass_about args with | some (o, v) => some (o, v, []) | none => none
theorem c_mass_about_ok : SOkM Try.prog false (39, c_mass_about) := t_mass_about
noncomputable def mss54 : List (FuncId × SFM) := (39, c_mass_about) :: mss53
noncomputable def menv55 : EnvM := mkEnvM mxs mss54 mws2
theorem mss54_ok : All (SOkM Try.prog false) mss54 := All.cons c_mass_about_ok mss53_ok
theorem menv55_ok : menv55.Ok Try.prog false := mkEnvM_ok mxs_ok mss54_ok mws2_ok
-- tumble/mass.About
theorem ann_mass_About : FnOk Try.prog false 0 Try.f13 Ann.no := (fnNo _)
noncomputable def s_mass_About_0 (a0 : Nat) (a1 : Nat) (a2 : Nat) (a3 : Nat) (a4 : Nat) (a5 : Nat) : Nat := (bif (!(ieq (s_mass_Check_0 a0 a1 a2 a3) (0 : Int))) then 0 else (bif (!(s_vec_Within_0 a4 a5 4787326403894837248)) then 0 else (s_mass_about_0 a0 a1 a2 a3 a4 a5)))
noncomputable def s_mass_About_1 (a0 : Nat) (a1 : Nat) (a2 : Nat) (a3 : Nat) (a4 : Nat) (a5 : Nat) : Int := (bif (!(ieq (s_mass_Check_0 a0 a1 a2 a3) (0 : Int))) then (s_mass_Check_0 a0 a1 a2 a3) else (bif (!(s_vec_Within_0 a4 a5 4787326403894837248)) then (5 : Int) else (0 : Int)))
theorem e_mass_About (a0 : Nat) (a1 : Nat) (a2 : Nat) (a3 : Nat) (a4 : Nat) (a5 : Nat) : outB (evFnM Try.prog false menv55 [] [] 96 Ann.no Try.f13 [AV.agg [AV.float a0, AV.float a1, AV.float a2, AV.float a3], AV.agg [AV.float a4, AV.float a5]] []) = some (true, AV.tup [AV.float (s_mass_About_0 a0 a1 a2 a3 a4 a5), AV.int .i64 (s_mass_About_1 a0 a1 a2 a3 a4 a5)]) := by kernel_rfl
noncomputable def S_mass_About : List AV → Option (Ob × AV)
  | [AV.agg [AV.float a0, AV.float a1, AV.float a2, AV.float a3], AV.agg [AV.float a4, AV.float a5]] => some (Ob.tt, AV.tup [AV.float (s_mass_About_0 a0 a1 a2 a3 a4 a5), AV.int .i64 (s_mass_About_1 a0 a1 a2 a3 a4 a5)])
  | _ => none
theorem ob_mass_About (a0 : Nat) (a1 : Nat) (a2 : Nat) (a3 : Nat) (a4 : Nat) (a5 : Nat) : true = true := rfl
theorem t_mass_About : SOkM Try.prog false (13, fun args => match S_mass_About args with | some (o, v) => some (o, v, []) | none => none) := SOkM.flat (N := 96) menv55_ok Try.func13 ann_mass_About Try.call13 fun args o v h ho => by
  unfold S_mass_About at h
  split at h
  · rename_i a0 a1 a2 a3 a4 a5
    cases h
    have ho2 := ho
    have this : outB (evFnM Try.prog false menv55 [] [] 96 Ann.no Try.f13 [AV.agg [AV.float a0, AV.float a1, AV.float a2, AV.float a3], AV.agg [AV.float a4, AV.float a5]] []) = some (true, AV.tup [AV.float (s_mass_About_0 a0 a1 a2 a3 a4 a5), AV.int .i64 (s_mass_About_1 a0 a1 a2 a3 a4 a5)]) := Eq.trans (show outB (evFnM Try.prog false menv55 [] [] 96 Ann.no Try.f13 [AV.agg [AV.float a0, AV.float a1, AV.float a2, AV.float a3], AV.agg [AV.float a4, AV.float a5]] []) = _ from e_mass_About a0 a1 a2 a3 a4 a5) (by rw [(ob_mass_About a0 a1 a2 a3 a4 a5)])
    exact ⟨this, rfl⟩
  · cases h
noncomputable def c_mass_About : SFM := fun args => match S_mass_About args with | some (o, v) => some (o, v, []) | none => none
theorem c_mass_About_ok : SOkM Try.prog false (13, c_mass_About) := t_mass_About
noncomputable def mss55 : List (FuncId × SFM) := (13, c_mass_About) :: mss54
noncomputable def menv56 : EnvM := mkEnvM mxs mss55 mws2
theorem mss55_ok : All (SOkM Try.prog false) mss55 := All.cons c_mass_About_ok mss54_ok
theorem menv56_ok : menv56.Ok Try.prog false := mkEnvM_ok mxs_ok mss55_ok mws2_ok
-- tumble/tumbleref08.End
theorem ann_ref08_End : FnOk Try.prog false 0 Try.f50 Ann.no := (fnNo _)
noncomputable def s_ref08_End_0 (a0 : Nat) : Bool := ((fle 0 a0) && (feq (fsub a0 a0) 0))
theorem e_ref08_End (a0 : Nat) : outB (evFnM Try.prog false menv56 [] [] 96 Ann.no Try.f50 [AV.float a0] []) = some (true, AV.bool (s_ref08_End_0 a0)) := by kernel_rfl
noncomputable def S_ref08_End : List AV → Option (Ob × AV)
  | [AV.float a0] => some (Ob.tt, AV.bool (s_ref08_End_0 a0))
  | _ => none
theorem ob_ref08_End (a0 : Nat) : true = true := rfl
theorem t_ref08_End : SOkM Try.prog false (50, fun args => match S_ref08_End args with | some (o, v) => some (o, v, []) | none => none) := SOkM.flat (N := 96) menv56_ok Try.func50 ann_ref08_End Try.call50 fun args o v h ho => by
  unfold S_ref08_End at h
  split at h
  · rename_i a0
    cases h
    have ho2 := ho
    have this : outB (evFnM Try.prog false menv56 [] [] 96 Ann.no Try.f50 [AV.float a0] []) = some (true, AV.bool (s_ref08_End_0 a0)) := Eq.trans (show outB (evFnM Try.prog false menv56 [] [] 96 Ann.no Try.f50 [AV.float a0] []) = _ from e_ref08_End a0) (by rw [(ob_ref08_End a0)])
    exact ⟨this, rfl⟩
  · cases h
noncomputable def c_ref08_End : SFM := fun args => match S_ref08_End args with | some (o, v) => some (o, v, []) | none => none
theorem c_ref08_End_ok : SOkM Try.prog false (50, c_ref08_End) := t_ref08_End
noncomputable def mss56 : List (FuncId × SFM) := (50, c_ref08_End) :: mss55
noncomputable def menv57 : EnvM := mkEnvM mxs mss56 mws2
theorem mss56_ok : All (SOkM Try.prog false) mss56 := All.cons c_ref08_End_ok mss55_ok
theorem menv57_ok : menv57.Ok Try.prog false := mkEnvM_ok mxs_ok mss56_ok mws2_ok
-- tumble/tumbleref02.Within
theorem ann_ref02_Within : FnOk Try.prog false 0 Try.f46 Ann.no := (fnNo _)
noncomputable def s_ref02_Within_0 (a0 : Nat) (a1 : Nat) (a2 : Nat) : Bool := ((fle (fabs a0) a2) && (fle (fabs a1) a2))
theorem e_ref02_Within (a0 : Nat) (a1 : Nat) (a2 : Nat) : outB (evFnM Try.prog false menv57 [] [] 96 Ann.no Try.f46 [AV.agg [AV.float a0, AV.float a1], AV.float a2] []) = some (true, AV.bool (s_ref02_Within_0 a0 a1 a2)) := by kernel_rfl
noncomputable def S_ref02_Within : List AV → Option (Ob × AV)
  | [AV.agg [AV.float a0, AV.float a1], AV.float a2] => some (Ob.tt, AV.bool (s_ref02_Within_0 a0 a1 a2))
  | _ => none
theorem ob_ref02_Within (a0 : Nat) (a1 : Nat) (a2 : Nat) : true = true := rfl
theorem t_ref02_Within : SOkM Try.prog false (46, fun args => match S_ref02_Within args with | some (o, v) => some (o, v, []) | none => none) := SOkM.flat (N := 96) menv57_ok Try.func46 ann_ref02_Within Try.call46 fun args o v h ho => by
  unfold S_ref02_Within at h
  split at h
  · rename_i a0 a1 a2
    cases h
    have ho2 := ho
    have this : outB (evFnM Try.prog false menv57 [] [] 96 Ann.no Try.f46 [AV.agg [AV.float a0, AV.float a1], AV.float a2] []) = some (true, AV.bool (s_ref02_Within_0 a0 a1 a2)) := Eq.trans (show outB (evFnM Try.prog false menv57 [] [] 96 Ann.no Try.f46 [AV.agg [AV.float a0, AV.float a1], AV.float a2] []) = _ from e_ref02_Within a0 a1 a2) (by rw [(ob_ref02_Within a0 a1 a2)])
    exact ⟨this, rfl⟩
  · cases h
noncomputable def c_ref02_Within : SFM := fun args => match S_ref02_Within args with | some (o, v) => some (o, v, []) | none => none
theorem c_ref02_Within_ok : SOkM Try.prog false (46, c_ref02_Within) := t_ref02_Within
noncomputable def mss57 : List (FuncId × SFM) := (46, c_ref02_Within) :: mss56
noncomputable def menv58 : EnvM := mkEnvM mxs mss57 mws2
theorem mss57_ok : All (SOkM Try.prog false) mss57 := All.cons c_ref02_Within_ok mss56_ok
theorem menv58_ok : menv58.Ok Try.prog false := mkEnvM_ok mxs_ok mss57_ok mws2_ok
-- tumble/tumbleref08.Check
theorem ann_ref08_Check : FnOk Try.prog false 0 Try.f18 Ann.no := (fnNo _)
noncomputable def s_ref08_Check_0 (a0 : Nat) (a1 : Nat) (a2 : Nat) (a3 : Nat) : Int := (bif (((!(s_ref08_End_0 a0)) || (!(s_ref08_End_0 a1))) || (!(s_ref02_Within_0 a2 a3 4787326403894837248))) then (80 : Int) else (0 : Int))
theorem e_ref08_Check (a0 : Nat) (a1 : Nat) (a2 : Nat) (a3 : Nat) : outB (evFnM Try.prog false menv58 [] [] 96 Ann.no Try.f18 [AV.agg [AV.float a0, AV.float a1, AV.float a2, AV.float a3]] []) = some (true, AV.int .i64 (s_ref08_Check_0 a0 a1 a2 a3)) := by kernel_rfl
noncomputable def S_ref08_Check : List AV → Option (Ob × AV)
  | [AV.agg [AV.float a0, AV.float a1, AV.float a2, AV.float a3]] => some (Ob.tt, AV.int .i64 (s_ref08_Check_0 a0 a1 a2 a3))
  | _ => none
theorem ob_ref08_Check (a0 : Nat) (a1 : Nat) (a2 : Nat) (a3 : Nat) : true = true := rfl
theorem t_ref08_Check : SOkM Try.prog false (18, fun args => match S_ref08_Check args with | some (o, v) => some (o, v, []) | none => none) := SOkM.flat (N := 96) menv58_ok Try.func18 ann_ref08_Check Try.call18 fun args o v h ho => by
  unfold S_ref08_Check at h
  split at h
  · rename_i a0 a1 a2 a3
    cases h
    have ho2 := ho
    have this : outB (evFnM Try.prog false menv58 [] [] 96 Ann.no Try.f18 [AV.agg [AV.float a0, AV.float a1, AV.float a2, AV.float a3]] []) = some (true, AV.int .i64 (s_ref08_Check_0 a0 a1 a2 a3)) := Eq.trans (show outB (evFnM Try.prog false menv58 [] [] 96 Ann.no Try.f18 [AV.agg [AV.float a0, AV.float a1, AV.float a2, AV.float a3]] []) = _ from e_ref08_Check a0 a1 a2 a3) (by rw [(ob_ref08_Check a0 a1 a2 a3)])
    exact ⟨this, rfl⟩
  · cases h
noncomputable def c_ref08_Check : SFM := fun args => match S_ref08_Check args with | some (o, v) => some (o, v, []) | none => none
theorem c_ref08_Check_ok : SOkM Try.prog false (18, c_ref08_Check) := t_ref08_Check
noncomputable def mss58 : List (FuncId × SFM) := (18, c_ref08_Check) :: mss57
noncomputable def menv59 : EnvM := mkEnvM mxs mss58 mws2
theorem mss58_ok : All (SOkM Try.prog false) mss58 := All.cons c_ref08_Check_ok mss57_ok
theorem menv59_ok : menv59.Ok Try.prog false := mkEnvM_ok mxs_ok mss58_ok mws2_ok
-- tumble/tumbleref02.Vec
theorem ann_ref02_Vec : FnOk Try.prog false 0 Try.f41 Ann.no := (fnNo _)
noncomputable def s_ref02_Vec_0 (a0 : Nat) (a1 : Nat) : Nat := a0
noncomputable def s_ref02_Vec_1 (a0 : Nat) (a1 : Nat) : Nat := a1
theorem e_ref02_Vec (a0 : Nat) (a1 : Nat) : outB (evFnM Try.prog false menv59 [] [] 96 Ann.no Try.f41 [AV.float a0, AV.float a1] []) = some (true, AV.agg [AV.float (s_ref02_Vec_0 a0 a1), AV.float (s_ref02_Vec_1 a0 a1)]) := by kernel_rfl
noncomputable def S_ref02_Vec : List AV → Option (Ob × AV)
  | [AV.float a0, AV.float a1] => some (Ob.tt, AV.agg [AV.float (s_ref02_Vec_0 a0 a1), AV.float (s_ref02_Vec_1 a0 a1)])
  | _ => none
theorem ob_ref02_Vec (a0 : Nat) (a1 : Nat) : true = true := rfl
theorem t_ref02_Vec : SOkM Try.prog false (41, fun args => match S_ref02_Vec args with | some (o, v) => some (o, v, []) | none => none) := SOkM.flat (N := 96) menv59_ok Try.func41 ann_ref02_Vec Try.call41 fun args o v h ho => by
  unfold S_ref02_Vec at h
  split at h
  · rename_i a0 a1
    cases h
    have ho2 := ho
    have this : outB (evFnM Try.prog false menv59 [] [] 96 Ann.no Try.f41 [AV.float a0, AV.float a1] []) = some (true, AV.agg [AV.float (s_ref02_Vec_0 a0 a1), AV.float (s_ref02_Vec_1 a0 a1)]) := Eq.trans (show outB (evFnM Try.prog false menv59 [] [] 96 Ann.no Try.f41 [AV.float a0, AV.float a1] []) = _ from e_ref02_Vec a0 a1) (by rw [(ob_ref02_Vec a0 a1)])
    exact ⟨this, rfl⟩
  · cases h
noncomputable def c_ref02_Vec : SFM := fun args => match S_ref02_Vec args with | some (o, v) => some (o, v, []) | none => none
theorem c_ref02_Vec_ok : SOkM Try.prog false (41, c_ref02_Vec) := t_ref02_Vec
noncomputable def mss59 : List (FuncId × SFM) := (41, c_ref02_Vec) :: mss58
noncomputable def menv60 : EnvM := mkEnvM mxs mss59 mws2
theorem mss59_ok : All (SOkM Try.prog false) mss59 := All.cons c_ref02_Vec_ok mss58_ok
theorem menv60_ok : menv60.Ok Try.prog false := mkEnvM_ok mxs_ok mss59_ok mws2_ok
-- tumble/tumbleref02.Sub
theorem ann_ref02_Sub : FnOk Try.prog false 0 Try.f43 Ann.no := (fnNo _)
noncomputable def s_ref02_Sub_0 (a0 : Nat) (a1 : Nat) (a2 : Nat) (a3 : Nat) : Nat := (s_ref02_Vec_0 (fsub a0 a2) (fsub a1 a3))
noncomputable def s_ref02_Sub_1 (a0 : Nat) (a1 : Nat) (a2 : Nat) (a3 : Nat) : Nat := (s_ref02_Vec_1 (fsub a0 a2) (fsub a1 a3))
theorem e_ref02_Sub (a0 : Nat) (a1 : Nat) (a2 : Nat) (a3 : Nat) : outB (evFnM Try.prog false menv60 [] [] 96 Ann.no Try.f43 [AV.agg [AV.float a0, AV.float a1], AV.agg [AV.float a2, AV.float a3]] []) = some (true, AV.agg [AV.float (s_ref02_Sub_0 a0 a1 a2 a3), AV.float (s_ref02_Sub_1 a0 a1 a2 a3)]) := by kernel_rfl
noncomputable def S_ref02_Sub : List AV → Option (Ob × AV)
  | [AV.agg [AV.float a0, AV.float a1], AV.agg [AV.float a2, AV.float a3]] => some (Ob.tt, AV.agg [AV.float (s_ref02_Sub_0 a0 a1 a2 a3), AV.float (s_ref02_Sub_1 a0 a1 a2 a3)])
  | _ => none
theorem ob_ref02_Sub (a0 : Nat) (a1 : Nat) (a2 : Nat) (a3 : Nat) : true = true := rfl
theorem t_ref02_Sub : SOkM Try.prog false (43, fun args => match S_ref02_Sub args with | some (o, v) => some (o, v, []) | none => none) := SOkM.flat (N := 96) menv60_ok Try.func43 ann_ref02_Sub Try.call43 fun args o v h ho => by
  unfold S_ref02_Sub at h
  split at h
  · rename_i a0 a1 a2 a3
    cases h
    have ho2 := ho
    have this : outB (evFnM Try.prog false menv60 [] [] 96 Ann.no Try.f43 [AV.agg [AV.float a0, AV.float a1], AV.agg [AV.float a2, AV.float a3]] []) = some (true, AV.agg [AV.float (s_ref02_Sub_0 a0 a1 a2 a3), AV.float (s_ref02_Sub_1 a0 a1 a2 a3)]) := Eq.trans (show outB (evFnM Try.prog false menv60 [] [] 96 Ann.no Try.f43 [AV.agg [AV.float a0, AV.float a1], AV.agg [AV.float a2, AV.float a3]] []) = _ from e_ref02_Sub a0 a1 a2 a3) (by rw [(ob_ref02_Sub a0 a1 a2 a3)])
    exact ⟨this, rfl⟩
  · cases h
noncomputable def c_ref02_Sub : SFM := fun args => match S_ref02_Sub args with | some (o, v) => some (o, v, []) | none => none
theorem c_ref02_Sub_ok : SOkM Try.prog false (43, c_ref02_Sub) := t_ref02_Sub
noncomputable def mss60 : List (FuncId × SFM) := (43, c_ref02_Sub) :: mss59
noncomputable def menv61 : EnvM := mkEnvM mxs mss60 mws2
theorem mss60_ok : All (SOkM Try.prog false) mss60 := All.cons c_ref02_Sub_ok mss59_ok
theorem menv61_ok : menv61.Ok Try.prog false := mkEnvM_ok mxs_ok mss60_ok mws2_ok
-- tumble/tumbleref02.Dot
theorem ann_ref02_Dot : FnOk Try.prog false 0 Try.f69 Ann.no := (fnNo _)
noncomputable def s_ref02_Dot_0 (a0 : Nat) (a1 : Nat) (a2 : Nat) (a3 : Nat) : Nat := (fadd (fmul a0 a2) (fmul a1 a3))
theorem e_ref02_Dot (a0 : Nat) (a1 : Nat) (a2 : Nat) (a3 : Nat) : outB (evFnM Try.prog false menv61 [] [] 96 Ann.no Try.f69 [AV.agg [AV.float a0, AV.float a1], AV.agg [AV.float a2, AV.float a3]] []) = some (true, AV.float (s_ref02_Dot_0 a0 a1 a2 a3)) := by kernel_rfl
noncomputable def S_ref02_Dot : List AV → Option (Ob × AV)
  | [AV.agg [AV.float a0, AV.float a1], AV.agg [AV.float a2, AV.float a3]] => some (Ob.tt, AV.float (s_ref02_Dot_0 a0 a1 a2 a3))
  | _ => none
theorem ob_ref02_Dot (a0 : Nat) (a1 : Nat) (a2 : Nat) (a3 : Nat) : true = true := rfl
theorem t_ref02_Dot : SOkM Try.prog false (69, fun args => match S_ref02_Dot args with | some (o, v) => some (o, v, []) | none => none) := SOkM.flat (N := 96) menv61_ok Try.func69 ann_ref02_Dot Try.call69 fun args o v h ho => by
  unfold S_ref02_Dot at h
  split at h
  · rename_i a0 a1 a2 a3
    cases h
    have ho2 := ho
    have this : outB (evFnM Try.prog false menv61 [] [] 96 Ann.no Try.f69 [AV.agg [AV.float a0, AV.float a1], AV.agg [AV.float a2, AV.float a3]] []) = some (true, AV.float (s_ref02_Dot_0 a0 a1 a2 a3)) := Eq.trans (show outB (evFnM Try.prog false menv61 [] [] 96 Ann.no Try.f69 [AV.agg [AV.float a0, AV.float a1], AV.agg [AV.float a2, AV.float a3]] []) = _ from e_ref02_Dot a0 a1 a2 a3) (by rw [(ob_ref02_Dot a0 a1 a2 a3)])
    exact ⟨this, rfl⟩
  · cases h
noncomputable def c_ref02_Dot : SFM := fun args => match S_ref02_Dot args with | some (o, v) => some (o, v, []) | none => none
theorem c_ref02_Dot_ok : SOkM Try.prog false (69, c_ref02_Dot) := t_ref02_Dot
noncomputable def mss61 : List (FuncId × SFM) := (69, c_ref02_Dot) :: mss60
noncomputable def menv62 : EnvM := mkEnvM mxs mss61 mws2
theorem mss61_ok : All (SOkM Try.prog false) mss61 := All.cons c_ref02_Dot_ok mss60_ok
theorem menv62_ok : menv62.Ok Try.prog false := mkEnvM_ok mxs_ok mss61_ok mws2_ok
-- tumble/tumbleref02.Square
theorem ann_ref02_Square : FnOk Try.prog false 0 Try.f42 Ann.no := (fnNo _)
noncomputable def s_ref02_Square_0 (a0 : Nat) (a1 : Nat) : Nat := (s_ref02_Dot_0 a0 a1 a0 a1)
theorem e_ref02_Square (a0 : Nat) (a1 : Nat) : outB (evFnM Try.prog false menv62 [] [] 96 Ann.no Try.f42 [AV.agg [AV.float a0, AV.float a1]] []) = some (true, AV.float (s_ref02_Square_0 a0 a1)) := by kernel_rfl
noncomputable def S_ref02_Square : List AV → Option (Ob × AV)
  | [AV.agg [AV.float a0, AV.float a1]] => some (Ob.tt, AV.float (s_ref02_Square_0 a0 a1))
  | _ => none
theorem ob_ref02_Square (a0 : Nat) (a1 : Nat) : true = true := rfl
theorem t_ref02_Square : SOkM Try.prog false (42, fun args => match S_ref02_Square args with | some (o, v) => some (o, v, []) | none => none) := SOkM.flat (N := 96) menv62_ok Try.func42 ann_ref02_Square Try.call42 fun args o v h ho => by
  unfold S_ref02_Square at h
  split at h
  · rename_i a0 a1
    cases h
    have ho2 := ho
    have this : outB (evFnM Try.prog false menv62 [] [] 96 Ann.no Try.f42 [AV.agg [AV.float a0, AV.float a1]] []) = some (true, AV.float (s_ref02_Square_0 a0 a1)) := Eq.trans (show outB (evFnM Try.prog false menv62 [] [] 96 Ann.no Try.f42 [AV.agg [AV.float a0, AV.float a1]] []) = _ from e_ref02_Square a0 a1) (by rw [(ob_ref02_Square a0 a1)])
    exact ⟨this, rfl⟩
  · cases h
noncomputable def c_ref02_Square : SFM := fun args => match S_ref02_Square args with | some (o, v) => some (o, v, []) | none => none
theorem c_ref02_Square_ok : SOkM Try.prog false (42, c_ref02_Square) := t_ref02_Square
noncomputable def mss62 : List (FuncId × SFM) := (42, c_ref02_Square) :: mss61
noncomputable def menv63 : EnvM := mkEnvM mxs mss62 mws2
theorem mss62_ok : All (SOkM Try.prog false) mss62 := All.cons c_ref02_Square_ok mss61_ok
theorem menv63_ok : menv63.Ok Try.prog false := mkEnvM_ok mxs_ok mss62_ok mws2_ok
-- tumble/tumbleref08.About
theorem ann_ref08_About : FnOk Try.prog false 0 Try.f14 Ann.no := (fnNo _)
noncomputable def s_ref08_About_0 (a0 : Nat) (a1 : Nat) (a2 : Nat) (a3 : Nat) (a4 : Nat) (a5 : Nat) : Nat := (bif (!(ieq (s_ref08_Check_0 a0 a1 a2 a3) (0 : Int))) then 0 else (bif (!(s_ref02_Within_0 a4 a5 4787326403894837248)) then 0 else (fadd a1 (fmul a0 (s_ref02_Square_0 (s_ref02_Sub_0 a4 a5 a2 a3) (s_ref02_Sub_1 a4 a5 a2 a3))))))
noncomputable def s_ref08_About_1 (a0 : Nat) (a1 : Nat) (a2 : Nat) (a3 : Nat) (a4 : Nat) (a5 : Nat) : Int := (bif (!(ieq (s_ref08_Check_0 a0 a1 a2 a3) (0 : Int))) then (80 : Int) else (bif (!(s_ref02_Within_0 a4 a5 4787326403894837248)) then (5 : Int) else (0 : Int)))
theorem e_ref08_About (a0 : Nat) (a1 : Nat) (a2 : Nat) (a3 : Nat) (a4 : Nat) (a5 : Nat) : outB (evFnM Try.prog false menv63 [] [] 96 Ann.no Try.f14 [AV.agg [AV.float a0, AV.float a1, AV.float a2, AV.float a3], AV.agg [AV.float a4, AV.float a5]] []) = some (true, AV.tup [AV.float (s_ref08_About_0 a0 a1 a2 a3 a4 a5), AV.int .i64 (s_ref08_About_1 a0 a1 a2 a3 a4 a5)]) := by kernel_rfl
noncomputable def S_ref08_About : List AV → Option (Ob × AV)
  | [AV.agg [AV.float a0, AV.float a1, AV.float a2, AV.float a3], AV.agg [AV.float a4, AV.float a5]] => some (Ob.tt, AV.tup [AV.float (s_ref08_About_0 a0 a1 a2 a3 a4 a5), AV.int .i64 (s_ref08_About_1 a0 a1 a2 a3 a4 a5)])
  | _ => none
theorem ob_ref08_About (a0 : Nat) (a1 : Nat) (a2 : Nat) (a3 : Nat) (a4 : Nat) (a5 : Nat) : true = true := rfl
theorem t_ref08_About : SOkM Try.prog false (14, fun args => match S_ref08_About args with | some (o, v) => some (o, v, []) | none => none) := SOkM.flat (N := 96) menv63_ok Try.func14 ann_ref08_About Try.call14 fun args o v h ho => by
  unfold S_ref08_About at h
  split at h
  · rename_i a0 a1 a2 a3 a4 a5
    cases h
    have ho2 := ho
    have this : outB (evFnM Try.prog false menv63 [] [] 96 Ann.no Try.f14 [AV.agg [AV.float a0, AV.float a1, AV.float a2, AV.float a3], AV.agg [AV.float a4, AV.float a5]] []) = some (true, AV.tup [AV.float (s_ref08_About_0 a0 a1 a2 a3 a4 a5), AV.int .i64 (s_ref08_About_1 a0 a1 a2 a3 a4 a5)]) := Eq.trans (show outB (evFnM Try.prog false menv63 [] [] 96 Ann.no Try.f14 [AV.agg [AV.float a0, AV.float a1, AV.float a2, AV.float a3], AV.agg [AV.float a4, AV.float a5]] []) = _ from e_ref08_About a0 a1 a2 a3 a4 a5) (by rw [(ob_ref08_About a0 a1 a2 a3 a4 a5)])
    exact ⟨this, rfl⟩
  · cases h
noncomputable def c_ref08_About : SFM := fun args => match S_ref08_About args with | some (o, v) => some (o, v, []) | none => none
theorem c_ref08_About_ok : SOkM Try.prog false (14, c_ref08_About) := t_ref08_About
noncomputable def mss63 : List (FuncId × SFM) := (14, c_ref08_About) :: mss62
noncomputable def menv64 : EnvM := mkEnvM mxs mss63 mws2
theorem mss63_ok : All (SOkM Try.prog false) mss63 := All.cons c_ref08_About_ok mss62_ok
theorem menv64_ok : menv64.Ok Try.prog false := mkEnvM_ok mxs_ok mss63_ok mws2_ok
-- tumble/mass.over
theorem ann_mass_over : FnOk Try.prog false 0 Try.f47 Ann.no := (fnNo _)
noncomputable def s_mass_over_0 (a0 : Nat) : Nat := (bif (s_num_Finite_float64__0 (fdiv 4607182418800017408 a0)) then (fdiv 4607182418800017408 a0) else 0)
theorem e_mass_over (a0 : Nat) : outB (evFnM Try.prog false menv64 [] [] 96 Ann.no Try.f47 [AV.float a0] []) = some (true, AV.float (s_mass_over_0 a0)) := by kernel_rfl
noncomputable def S_mass_over : List AV → Option (Ob × AV)
  | [AV.float a0] => some (Ob.tt, AV.float (s_mass_over_0 a0))
  | _ => none
theorem ob_mass_over (a0 : Nat) : true = true := rfl
theorem t_mass_over : SOkM Try.prog false (47, fun args => match S_mass_over args with | some (o, v) => some (o, v, []) | none => none) := SOkM.flat (N := 96) menv64_ok Try.func47 ann_mass_over Try.call47 fun args o v h ho => by
  unfold S_mass_over at h
  split at h
  · rename_i a0
    cases h
    have ho2 := ho
    have this : outB (evFnM Try.prog false menv64 [] [] 96 Ann.no Try.f47 [AV.float a0] []) = some (true, AV.float (s_mass_over_0 a0)) := Eq.trans (show outB (evFnM Try.prog false menv64 [] [] 96 Ann.no Try.f47 [AV.float a0] []) = _ from e_mass_over a0) (by rw [(ob_mass_over a0)])
    exact ⟨this, rfl⟩
  · cases h
noncomputable def c_mass_over : SFM := fun args => match S_mass_over args with | some (o, v) => some (o, v, []) | none => none
theorem c_mass_over_ok : SOkM Try.prog false (47, c_mass_over) := t_mass_over
noncomputable def mss64 : List (FuncId × SFM) := (47, c_mass_over) :: mss63
noncomputable def menv65 : EnvM := mkEnvM mxs mss64 mws2
theorem mss64_ok : All (SOkM Try.prog false) mss64 := All.cons c_mass_over_ok mss63_ok
theorem menv65_ok : menv65.Ok Try.prog false := mkEnvM_ok mxs_ok mss64_ok mws2_ok
-- tumble/mass.Still
theorem ann_mass_Still : FnOk Try.prog false 0 Try.f15 Ann.no := (fnNo _)
noncomputable def s_mass_Still_0 (a0 : Nat) (a1 : Nat) (a2 : Nat) (a3 : Nat) : Nat := (bif (!(ieq (s_mass_Check_0 a0 a1 a2 a3) (0 : Int))) then 0 else (s_mass_over_0 a0))
noncomputable def s_mass_Still_1 (a0 : Nat) (a1 : Nat) (a2 : Nat) (a3 : Nat) : Nat := (bif (!(ieq (s_mass_Check_0 a0 a1 a2 a3) (0 : Int))) then 0 else (s_mass_over_0 a1))
noncomputable def s_mass_Still_2 (a0 : Nat) (a1 : Nat) (a2 : Nat) (a3 : Nat) : Int := (bif (!(ieq (s_mass_Check_0 a0 a1 a2 a3) (0 : Int))) then (s_mass_Check_0 a0 a1 a2 a3) else (0 : Int))
theorem e_mass_Still (a0 : Nat) (a1 : Nat) (a2 : Nat) (a3 : Nat) : outB (evFnM Try.prog false menv65 [] [] 96 Ann.no Try.f15 [AV.agg [AV.float a0, AV.float a1, AV.float a2, AV.float a3]] []) = some (true, AV.tup [AV.float (s_mass_Still_0 a0 a1 a2 a3), AV.float (s_mass_Still_1 a0 a1 a2 a3), AV.int .i64 (s_mass_Still_2 a0 a1 a2 a3)]) := by kernel_rfl
noncomputable def S_mass_Still : List AV → Option (Ob × AV)
  | [AV.agg [AV.float a0, AV.float a1, AV.float a2, AV.float a3]] => some (Ob.tt, AV.tup [AV.float (s_mass_Still_0 a0 a1 a2 a3), AV.float (s_mass_Still_1 a0 a1 a2 a3), AV.int .i64 (s_mass_Still_2 a0 a1 a2 a3)])
  | _ => none
theorem ob_mass_Still (a0 : Nat) (a1 : Nat) (a2 : Nat) (a3 : Nat) : true = true := rfl
theorem t_mass_Still : SOkM Try.prog false (15, fun args => match S_mass_Still args with | some (o, v) => some (o, v, []) | none => none) := SOkM.flat (N := 96) menv65_ok Try.func15 ann_mass_Still Try.call15 fun args o v h ho => by
  unfold S_mass_Still at h
  split at h
  · rename_i a0 a1 a2 a3
    cases h
    have ho2 := ho
    have this : outB (evFnM Try.prog false menv65 [] [] 96 Ann.no Try.f15 [AV.agg [AV.float a0, AV.float a1, AV.float a2, AV.float a3]] []) = some (true, AV.tup [AV.float (s_mass_Still_0 a0 a1 a2 a3), AV.float (s_mass_Still_1 a0 a1 a2 a3), AV.int .i64 (s_mass_Still_2 a0 a1 a2 a3)]) := Eq.trans (show outB (evFnM Try.prog false menv65 [] [] 96 Ann.no Try.f15 [AV.agg [AV.float a0, AV.float a1, AV.float a2, AV.float a3]] []) = _ from e_mass_Still a0 a1 a2 a3) (by rw [(ob_mass_Still a0 a1 a2 a3)])
    exact ⟨this, rfl⟩
  · cases h
noncomputable def c_mass_Still : SFM := fun args => match S_mass_Still args with | some (o, v) => some (o, v, []) | none => none
theorem c_mass_Still_ok : SOkM Try.prog false (15, c_mass_Still) := t_mass_Still
noncomputable def mss65 : List (FuncId × SFM) := (15, c_mass_Still) :: mss64
noncomputable def menv66 : EnvM := mkEnvM mxs mss65 mws2
theorem mss65_ok : All (SOkM Try.prog false) mss65 := All.cons c_mass_Still_ok mss64_ok
theorem menv66_ok : menv66.Ok Try.prog false := mkEnvM_ok mxs_ok mss65_ok mws2_ok
-- tumble/tumbleref08.over
theorem ann_ref08_over : FnOk Try.prog false 0 Try.f48 Ann.no := (fnNo _)
noncomputable def s_ref08_over_0 (a0 : Nat) : Nat := (bif (!(feq (fsub (fdiv 4607182418800017408 a0) (fdiv 4607182418800017408 a0)) 0)) then 0 else (fdiv 4607182418800017408 a0))
theorem e_ref08_over (a0 : Nat) : outB (evFnM Try.prog false menv66 [] [] 96 Ann.no Try.f48 [AV.float a0] []) = some (true, AV.float (s_ref08_over_0 a0)) := by kernel_rfl
noncomputable def S_ref08_over : List AV → Option (Ob × AV)
  | [AV.float a0] => some (Ob.tt, AV.float (s_ref08_over_0 a0))
  | _ => none
theorem ob_ref08_over (a0 : Nat) : true = true := rfl
theorem t_ref08_over : SOkM Try.prog false (48, fun args => match S_ref08_over args with | some (o, v) => some (o, v, []) | none => none) := SOkM.flat (N := 96) menv66_ok Try.func48 ann_ref08_over Try.call48 fun args o v h ho => by
  unfold S_ref08_over at h
  split at h
  · rename_i a0
    cases h
    have ho2 := ho
    have this : outB (evFnM Try.prog false menv66 [] [] 96 Ann.no Try.f48 [AV.float a0] []) = some (true, AV.float (s_ref08_over_0 a0)) := Eq.trans (show outB (evFnM Try.prog false menv66 [] [] 96 Ann.no Try.f48 [AV.float a0] []) = _ from e_ref08_over a0) (by rw [(ob_ref08_over a0)])
    exact ⟨this, rfl⟩
  · cases h
noncomputable def c_ref08_over : SFM := fun args => match S_ref08_over args with | some (o, v) => some (o, v, []) | none => none
theorem c_ref08_over_ok : SOkM Try.prog false (48, c_ref08_over) := t_ref08_over
noncomputable def mss66 : List (FuncId × SFM) := (48, c_ref08_over) :: mss65
noncomputable def menv67 : EnvM := mkEnvM mxs mss66 mws2
theorem mss66_ok : All (SOkM Try.prog false) mss66 := All.cons c_ref08_over_ok mss65_ok
theorem menv67_ok : menv67.Ok Try.prog false := mkEnvM_ok mxs_ok mss66_ok mws2_ok
-- tumble/tumbleref08.Still
theorem ann_ref08_Still : FnOk Try.prog false 0 Try.f16 Ann.no := (fnNo _)
noncomputable def s_ref08_Still_0 (a0 : Nat) (a1 : Nat) (a2 : Nat) (a3 : Nat) : Nat := (bif (!(ieq (s_ref08_Check_0 a0 a1 a2 a3) (0 : Int))) then 0 else (s_ref08_over_0 a0))
noncomputable def s_ref08_Still_1 (a0 : Nat) (a1 : Nat) (a2 : Nat) (a3 : Nat) : Nat := (bif (!(ieq (s_ref08_Check_0 a0 a1 a2 a3) (0 : Int))) then 0 else (s_ref08_over_0 a1))
noncomputable def s_ref08_Still_2 (a0 : Nat) (a1 : Nat) (a2 : Nat) (a3 : Nat) : Int := (bif (!(ieq (s_ref08_Check_0 a0 a1 a2 a3) (0 : Int))) then (80 : Int) else (0 : Int))
theorem e_ref08_Still (a0 : Nat) (a1 : Nat) (a2 : Nat) (a3 : Nat) : outB (evFnM Try.prog false menv67 [] [] 96 Ann.no Try.f16 [AV.agg [AV.float a0, AV.float a1, AV.float a2, AV.float a3]] []) = some (true, AV.tup [AV.float (s_ref08_Still_0 a0 a1 a2 a3), AV.float (s_ref08_Still_1 a0 a1 a2 a3), AV.int .i64 (s_ref08_Still_2 a0 a1 a2 a3)]) := by kernel_rfl
noncomputable def S_ref08_Still : List AV → Option (Ob × AV)
  | [AV.agg [AV.float a0, AV.float a1, AV.float a2, AV.float a3]] => some (Ob.tt, AV.tup [AV.float (s_ref08_Still_0 a0 a1 a2 a3), AV.float (s_ref08_Still_1 a0 a1 a2 a3), AV.int .i64 (s_ref08_Still_2 a0 a1 a2 a3)])
  | _ => none
theorem ob_ref08_Still (a0 : Nat) (a1 : Nat) (a2 : Nat) (a3 : Nat) : true = true := rfl
theorem t_ref08_Still : SOkM Try.prog false (16, fun args => match S_ref08_Still args with | some (o, v) => some (o, v, []) | none => none) := SOkM.flat (N := 96) menv67_ok Try.func16 ann_ref08_Still Try.call16 fun args o v h ho => by
  unfold S_ref08_Still at h
  split at h
  · rename_i a0 a1 a2 a3
    cases h
    have ho2 := ho
    have this : outB (evFnM Try.prog false menv67 [] [] 96 Ann.no Try.f16 [AV.agg [AV.float a0, AV.float a1, AV.float a2, AV.float a3]] []) = some (true, AV.tup [AV.float (s_ref08_Still_0 a0 a1 a2 a3), AV.float (s_ref08_Still_1 a0 a1 a2 a3), AV.int .i64 (s_ref08_Still_2 a0 a1 a2 a3)]) := Eq.trans (show outB (evFnM Try.prog false menv67 [] [] 96 Ann.no Try.f16 [AV.agg [AV.float a0, AV.float a1, AV.float a2, AV.float a3]] []) = _ from e_ref08_Still a0 a1 a2 a3) (by rw [(ob_ref08_Still a0 a1 a2 a3)])
    exact ⟨this, rfl⟩
  · cases h
noncomputable def c_ref08_Still : SFM := fun args => match S_ref08_Still args with | some (o, v) => some (o, v, []) | none => none
theorem c_ref08_Still_ok : SOkM Try.prog false (16, c_ref08_Still) := t_ref08_Still
noncomputable def mss67 : List (FuncId × SFM) := (16, c_ref08_Still) :: mss66
noncomputable def menv68 : EnvM := mkEnvM mxs mss67 mws2
theorem mss67_ok : All (SOkM Try.prog false) mss67 := All.cons c_ref08_Still_ok mss66_ok
theorem menv68_ok : menv68.Ok Try.prog false := mkEnvM_ok mxs_ok mss67_ok mws2_ok
-- tumble/tumbleref02.Bits
theorem ann_ref02_Bits : FnOk Try.prog false 0 Try.f51 Ann.no := (fnNo _)
noncomputable def s_ref02_Bits_0 (a0 : Nat) : Int := (bif (!(feq a0 a0)) then (9221120237041090561 : Int) else (Int.ofNat a0))
theorem e_ref02_Bits (a0 : Nat) : outB (evFnM Try.prog false menv68 [] [] 96 Ann.no Try.f51 [AV.float a0] []) = some ((mrgB (!(feq a0 a0)) true (!(nanb a0))), AV.int .u64 (s_ref02_Bits_0 a0)) := by kernel_rfl
noncomputable def S_ref02_Bits : List AV → Option (Ob × AV)
  | [AV.float a0] => some (Ob.tt, AV.int .u64 (s_ref02_Bits_0 a0))
  | _ => none
theorem ob_ref02_Bits (a0 : Nat) : (mrgB (!(feq a0 a0)) true (!(nanb a0))) = true := by show ((mrgB (!(feq a0 a0)) true (!(nanb a0)))) = true; (try simp only [feq_self]) <;> (generalize (nanb a0) = q0; cases q0 <;> rfl)
theorem t_ref02_Bits : SOkM Try.prog false (51, fun args => match S_ref02_Bits args with | some (o, v) => some (o, v, []) | none => none) := SOkM.flat (N := 96) menv68_ok Try.func51 ann_ref02_Bits Try.call51 fun args o v h ho => by
  unfold S_ref02_Bits at h
  split at h
  · rename_i a0
    cases h
    have ho2 := ho
    have this : outB (evFnM Try.prog false menv68 [] [] 96 Ann.no Try.f51 [AV.float a0] []) = some (true, AV.int .u64 (s_ref02_Bits_0 a0)) := Eq.trans (show outB (evFnM Try.prog false menv68 [] [] 96 Ann.no Try.f51 [AV.float a0] []) = _ from e_ref02_Bits a0) (by rw [(ob_ref02_Bits a0)])
    exact ⟨this, rfl⟩
  · cases h
noncomputable def c_ref02_Bits : SFM := fun args => match S_ref02_Bits args with | some (o, v) => some (o, v, []) | none => none
theorem c_ref02_Bits_ok : SOkM Try.prog false (51, c_ref02_Bits) := t_ref02_Bits
noncomputable def mss68 : List (FuncId × SFM) := (51, c_ref02_Bits) :: mss67
noncomputable def menv69 : EnvM := mkEnvM mxs mss68 mws2
theorem mss68_ok : All (SOkM Try.prog false) mss68 := All.cons c_ref02_Bits_ok mss67_ok
theorem menv69_ok : menv69.Ok Try.prog false := mkEnvM_ok mxs_ok mss68_ok mws2_ok
-- tumble/tumbleref02.Is
theorem ann_ref02_Is : FnOk Try.prog false 0 Try.f19 Ann.no := (fnNo _)
noncomputable def s_ref02_Is_0 (a0 : Nat) (a1 : Nat) : Bool := (ieq (s_ref02_Bits_0 a0) (s_ref02_Bits_0 a1))
theorem e_ref02_Is (a0 : Nat) (a1 : Nat) : outB (evFnM Try.prog false menv69 [] [] 96 Ann.no Try.f19 [AV.float a0, AV.float a1] []) = some (true, AV.bool (s_ref02_Is_0 a0 a1)) := by kernel_rfl
noncomputable def S_ref02_Is : List AV → Option (Ob × AV)
  | [AV.float a0, AV.float a1] => some (Ob.tt, AV.bool (s_ref02_Is_0 a0 a1))
  | _ => none
theorem ob_ref02_Is (a0 : Nat) (a1 : Nat) : true = true := rfl
theorem t_ref02_Is : SOkM Try.prog false (19, fun args => match S_ref02_Is args with | some (o, v) => some (o, v, []) | none => none) := SOkM.flat (N := 96) menv69_ok Try.func19 ann_ref02_Is Try.call19 fun args o v h ho => by
  unfold S_ref02_Is at h
  split at h
  · rename_i a0 a1
    cases h
    have ho2 := ho
    have this : outB (evFnM Try.prog false menv69 [] [] 96 Ann.no Try.f19 [AV.float a0, AV.float a1] []) = some (true, AV.bool (s_ref02_Is_0 a0 a1)) := Eq.trans (show outB (evFnM Try.prog false menv69 [] [] 96 Ann.no Try.f19 [AV.float a0, AV.float a1] []) = _ from e_ref02_Is a0 a1) (by rw [(ob_ref02_Is a0 a1)])
    exact ⟨this, rfl⟩
  · cases h
noncomputable def c_ref02_Is : SFM := fun args => match S_ref02_Is args with | some (o, v) => some (o, v, []) | none => none
theorem c_ref02_Is_ok : SOkM Try.prog false (19, c_ref02_Is) := t_ref02_Is
noncomputable def mss69 : List (FuncId × SFM) := (19, c_ref02_Is) :: mss68
noncomputable def menv70 : EnvM := mkEnvM mxs mss69 mws2
theorem mss69_ok : All (SOkM Try.prog false) mss69 := All.cons c_ref02_Is_ok mss68_ok
theorem menv70_ok : menv70.Ok Try.prog false := mkEnvM_ok mxs_ok mss69_ok mws2_ok
-- tumble/tumblelaw08.MassOnes
theorem ann_law08_MassOnes : FnOk Try.prog false 0 Try.f4 Ann.no := (fnNo _)
noncomputable def T_law08_MassOnes (a0_0 : Nat) (a0_1 : Nat) (a0_2 : Nat) (a0_3 : Nat) (a1_0 : Nat) (a1_1 : Nat) : Bool := (bif (!(s_law08_alive_0)) then false else (((((((s_law08_alive_0) && (ieq (s_mass_Check_0 a0_0 a0_1 a0_2 a0_3) (s_ref08_Check_0 a0_0 a0_1 a0_2 a0_3))) && (s_ref02_Is_0 (s_mass_About_0 a0_0 a0_1 a0_2 a0_3 a1_0 a1_1) (s_ref08_About_0 a0_0 a0_1 a0_2 a0_3 a1_0 a1_1))) && (ieq (s_mass_About_1 a0_0 a0_1 a0_2 a0_3 a1_0 a1_1) (s_ref08_About_1 a0_0 a0_1 a0_2 a0_3 a1_0 a1_1))) && (s_ref02_Is_0 (s_mass_Still_0 a0_0 a0_1 a0_2 a0_3) (s_ref08_Still_0 a0_0 a0_1 a0_2 a0_3))) && (s_ref02_Is_0 (s_mass_Still_1 a0_0 a0_1 a0_2 a0_3) (s_ref08_Still_1 a0_0 a0_1 a0_2 a0_3))) && (ieq (s_mass_Still_2 a0_0 a0_1 a0_2 a0_3) (s_ref08_Still_2 a0_0 a0_1 a0_2 a0_3))))
noncomputable def O_law08_MassOnes (a0_0 : Nat) (a0_1 : Nat) (a0_2 : Nat) (a0_3 : Nat) (a1_0 : Nat) (a1_1 : Nat) : Bool := true
theorem tree_law08_MassOnes (a0_0 : Nat) (a0_1 : Nat) (a0_2 : Nat) (a0_3 : Nat) (a1_0 : Nat) (a1_1 : Nat) : outB (evFnM Try.prog false menv70 [] [] 96 Ann.no Try.f4 [AV.agg [.float a0_0, .float a0_1, .float a0_2, .float a0_3], AV.agg [.float a1_0, .float a1_1]] []) = some (O_law08_MassOnes a0_0 a0_1 a0_2 a0_3 a1_0 a1_1, AV.bool (T_law08_MassOnes a0_0 a0_1 a0_2 a0_3 a1_0 a1_1)) := by kernel_rfl

end Go.Proofs.Ytbkogihigehjlaa
