/- The contracts of the functions that these laws reach, loops too, printed by a program of this work: each says what the Go function gives, up to which NaN. -/
import Derived.Test.YtbkogihigehjlaaProg
import Derived.KernelRfl
import Derived.Test.YtbkogihigehjlaaLExact
set_option linter.unusedVariables false
set_option linter.unusedSimpArgs false
set_option maxRecDepth 100000
set_option maxHeartbeats 4000000
noncomputable section
namespace Go.Proofs.Ytbkogihigehjlaa
open Go.Lst
open Go.Sim (fadd fsub fmul fdiv fneg feq flt fle fsqrt cn nanb fabs fcps fsame feq_self cps_cn fabs_cn)
def fL (f : Nat → List AV) (k i : Nat) : Nat := flO (atL (f i) k)
def iL (f : Nat → List AV) (k i : Nat) : Int := inO (atL (f i) k)
def tpA : Nat → List AV → List AV
  | 0, l => l
  | n + 1, l => AV.top :: tpA n l
def tpB : Nat → List Bool → List Bool
  | 0, l => l
  | n + 1, l => true :: tpB n l
def xxs : List (FuncId × XFM) := [(82, xFM true .sqrt), (62, xFM true .frombits), (63, xFM true .tobits)]
def xenv : EnvM := mkEnvM xxs [] []
theorem xxs_ok : All (XOkM Try.prog true) xxs := All.cons (xM_ok (ex := true) (f := 82) .sqrt fun args w => run_callFunc_extern Try.func82 (by kernel_rfl) (by kernel_rfl) (by kernel_rfl) (by kernel_rfl) args w)
  (All.cons (xM_ok (ex := true) (f := 62) .frombits fun args w => run_callFunc_extern Try.func62 (by kernel_rfl) (by kernel_rfl) (by kernel_rfl) (by kernel_rfl) args w)
  (All.cons (xM_ok (ex := true) (f := 63) .tobits fun args w => run_callFunc_extern Try.func63 (by kernel_rfl) (by kernel_rfl) (by kernel_rfl) (by kernel_rfl) args w)
  (All.nil)))
theorem xenv_ok : xenv.Ok Try.prog true := mkEnvM_ok xxs_ok All.nil All.nil
def mxs : List (FuncId × XFM) := [(82, xFM false .sqrt), (62, xFM false .frombits), (63, xFM false .tobits)]
theorem mxs_ok : All (XOkM Try.prog false) mxs := All.cons (xM_ok (ex := false) (f := 82) .sqrt fun args w => run_callFunc_extern Try.func82 (by kernel_rfl) (by kernel_rfl) (by kernel_rfl) (by kernel_rfl) args w)
  (All.cons (xM_ok (ex := false) (f := 62) .frombits fun args w => run_callFunc_extern Try.func62 (by kernel_rfl) (by kernel_rfl) (by kernel_rfl) (by kernel_rfl) args w)
  (All.cons (xM_ok (ex := false) (f := 63) .tobits fun args w => run_callFunc_extern Try.func63 (by kernel_rfl) (by kernel_rfl) (by kernel_rfl) (by kernel_rfl) args w)
  (All.nil)))
def mss0 : List (FuncId × SFM) := []
def mws0 : List (FuncId × WFM) := []
def menv0 : EnvM := mkEnvM mxs mss0 mws0
theorem mss0_ok : All (SOkM Try.prog false) mss0 := All.nil
theorem mws0_ok : All (WOkM Try.prog false) mws0 := All.nil
theorem menv0_ok : menv0.Ok Try.prog false := mkEnvM_ok mxs_ok mss0_ok mws0_ok
-- math.Abs
def S_math_Abs : List AV → Option AV
  | [AV.float a] => some (AV.float (fabs a))
  | _ => none
theorem t_math_Abs : SOkM Try.prog false (27, pureS S_math_Abs) := exact1 (N := 96) (A := .no) (lits := []) (fk := []) xenv_ok Try.func27 (fnNo _) Try.call27 (fun a v => v = .float (fabs a)) (fun args v h => by
    unfold S_math_Abs at h
    split at h
    · cases h; exact ⟨_, rfl, rfl⟩
    · cases h) fun b v hb h => ⟨.float (absV b), (show outB (evFnM Try.prog true xenv [] [] 96 .no Try.f27 [.float b] []) = some (absOb b, .float (absV b)) by kernel_rfl).trans (by rw [abs_ob]), rfl, fun μ x hx => by subst h; exact toFloat hx (by rw [abs_val hb]; exact (fabs_cn b).symm)⟩
def c_math_Abs : SFM := pureS S_math_Abs
theorem c_math_Abs_ok : SOkM Try.prog false (27, c_math_Abs) := t_math_Abs
def mss1 : List (FuncId × SFM) := (27, c_math_Abs) :: mss0
def menv1 : EnvM := mkEnvM mxs mss1 mws0
theorem mss1_ok : All (SOkM Try.prog false) mss1 := All.cons c_math_Abs_ok mss0_ok
theorem menv1_ok : menv1.Ok Try.prog false := mkEnvM_ok mxs_ok mss1_ok mws0_ok
-- tumble/tumblelaw08.alive
def mss2 : List (FuncId × SFM) := mss1
theorem mss2_ok : All (SOkM Try.prog false) mss2 := mss1_ok
def mws1 : List (FuncId × WFM) := (24, (inlWM Try.prog false menv1 [] [] 96 .no Try.f24 100000)) :: mws0
def menv2 : EnvM := mkEnvM mxs mss2 mws1
theorem mws1_ok : All (WOkM Try.prog false) mws1 := All.cons (WOkM.inl menv1_ok Try.func24 (fnNo _) Try.call24) mws0_ok
theorem menv2_ok : menv2.Ok Try.prog false := mkEnvM_ok mxs_ok mss2_ok mws1_ok
def mws2 : List (FuncId × WFM) := (77, (inlWM Try.prog false menv2 [8, 17, 33, 53] [] 96 .no Try.f77 100000)) :: mws1
def menv3 : EnvM := mkEnvM mxs mss2 mws2
theorem mws2_ok : All (WOkM Try.prog false) mws2 := All.cons (WOkM.inl menv2_ok Try.func77 (fnNo _) Try.call77) mws1_ok
theorem menv3_ok : menv3.Ok Try.prog false := mkEnvM_ok mxs_ok mss2_ok mws2_ok
def mss3 : List (FuncId × SFM) := (58, (inlSM Try.prog false menv3 [] [] 96 .no Try.f58)) :: mss2
def menv4 : EnvM := mkEnvM mxs mss3 mws2
theorem mss3_ok : All (SOkM Try.prog false) mss3 := All.cons (SOkM.inl menv3_ok Try.func58 (fnNo _) Try.call58) mss2_ok
theorem menv4_ok : menv4.Ok Try.prog false := mkEnvM_ok mxs_ok mss3_ok mws2_ok
def mss4 : List (FuncId × SFM) := (22, (inlSM Try.prog false menv4 [] [] 96 .no Try.f22)) :: mss3
def menv5 : EnvM := mkEnvM mxs mss4 mws2
theorem mss4_ok : All (SOkM Try.prog false) mss4 := All.cons (SOkM.inl menv4_ok Try.func22 (fnNo _) Try.call22) mss3_ok
theorem menv5_ok : menv5.Ok Try.prog false := mkEnvM_ok mxs_ok mss4_ok mws2_ok
def mss5 : List (FuncId × SFM) := (52, (inlSM Try.prog false menv5 [7, 11, 16] [] 96 .no Try.f52)) :: mss4
def menv6 : EnvM := mkEnvM mxs mss5 mws2
theorem mss5_ok : All (SOkM Try.prog false) mss5 := All.cons (SOkM.inl menv5_ok Try.func52 (fnNo _) Try.call52) mss4_ok
theorem menv6_ok : menv6.Ok Try.prog false := mkEnvM_ok mxs_ok mss5_ok mws2_ok
def mss6 : List (FuncId × SFM) := (56, (inlSM Try.prog false menv6 [] [] 96 .no Try.f56)) :: mss5
def menv7 : EnvM := mkEnvM mxs mss6 mws2
theorem mss6_ok : All (SOkM Try.prog false) mss6 := All.cons (SOkM.inl menv6_ok Try.func56 (fnNo _) Try.call56) mss5_ok
theorem menv7_ok : menv7.Ok Try.prog false := mkEnvM_ok mxs_ok mss6_ok mws2_ok
def mss7 : List (FuncId × SFM) := (53, (inlSM Try.prog false menv7 [] [] 96 .no Try.f53)) :: mss6
def menv8 : EnvM := mkEnvM mxs mss7 mws2
theorem mss7_ok : All (SOkM Try.prog false) mss7 := All.cons (SOkM.inl menv7_ok Try.func53 (fnNo _) Try.call53) mss6_ok
theorem menv8_ok : menv8.Ok Try.prog false := mkEnvM_ok mxs_ok mss7_ok mws2_ok
def mss8 : List (FuncId × SFM) := (76, (inlSM Try.prog false menv8 [] [] 96 .no Try.f76)) :: mss7
def menv9 : EnvM := mkEnvM mxs mss8 mws2
theorem mss8_ok : All (SOkM Try.prog false) mss8 := All.cons (SOkM.inl menv8_ok Try.func76 (fnNo _) Try.call76) mss7_ok
theorem menv9_ok : menv9.Ok Try.prog false := mkEnvM_ok mxs_ok mss8_ok mws2_ok
def mss9 : List (FuncId × SFM) := (68, (inlSM Try.prog false menv9 [] [] 96 .no Try.f68)) :: mss8
def menv10 : EnvM := mkEnvM mxs mss9 mws2
theorem mss9_ok : All (SOkM Try.prog false) mss9 := All.cons (SOkM.inl menv9_ok Try.func68 (fnNo _) Try.call68) mss8_ok
theorem menv10_ok : menv10.Ok Try.prog false := mkEnvM_ok mxs_ok mss9_ok mws2_ok
def mss10 : List (FuncId × SFM) := (71, (inlSM Try.prog false menv10 [] [] 96 .no Try.f71)) :: mss9
def menv11 : EnvM := mkEnvM mxs mss10 mws2
theorem mss10_ok : All (SOkM Try.prog false) mss10 := All.cons (SOkM.inl menv10_ok Try.func71 (fnNo _) Try.call71) mss9_ok
theorem menv11_ok : menv11.Ok Try.prog false := mkEnvM_ok mxs_ok mss10_ok mws2_ok
def mss11 : List (FuncId × SFM) := (54, (inlSM Try.prog false menv11 [] [] 96 .no Try.f54)) :: mss10
def menv12 : EnvM := mkEnvM mxs mss11 mws2
theorem mss11_ok : All (SOkM Try.prog false) mss11 := All.cons (SOkM.inl menv11_ok Try.func54 (fnNo _) Try.call54) mss10_ok
theorem menv12_ok : menv12.Ok Try.prog false := mkEnvM_ok mxs_ok mss11_ok mws2_ok
def mss12 : List (FuncId × SFM) := (55, (inlSM Try.prog false menv12 [] [] 96 .no Try.f55)) :: mss11
def menv13 : EnvM := mkEnvM mxs mss12 mws2
theorem mss12_ok : All (SOkM Try.prog false) mss12 := All.cons (SOkM.inl menv12_ok Try.func55 (fnNo _) Try.call55) mss11_ok
theorem menv13_ok : menv13.Ok Try.prog false := mkEnvM_ok mxs_ok mss12_ok mws2_ok
def mss13 : List (FuncId × SFM) := (20, (inlSM Try.prog false menv13 [11, 15, 19, 28, 32, 48] [] 96 .no Try.f20)) :: mss12
def menv14 : EnvM := mkEnvM mxs mss13 mws2
theorem mss13_ok : All (SOkM Try.prog false) mss13 := All.cons (SOkM.inl menv13_ok Try.func20 (fnNo _) Try.call20) mss12_ok
theorem menv14_ok : menv14.Ok Try.prog false := mkEnvM_ok mxs_ok mss13_ok mws2_ok
def mss14 : List (FuncId × SFM) := (109, (inlSM Try.prog false menv14 [] [] 96 .no Try.f109)) :: mss13
def menv15 : EnvM := mkEnvM mxs mss14 mws2
theorem mss14_ok : All (SOkM Try.prog false) mss14 := All.cons (SOkM.inl menv14_ok Try.func109 (fnNo _) Try.call109) mss13_ok
theorem menv15_ok : menv15.Ok Try.prog false := mkEnvM_ok mxs_ok mss14_ok mws2_ok
def mss15 : List (FuncId × SFM) := (103, (inlSM Try.prog false menv15 [] [] 96 .no Try.f103)) :: mss14
def menv16 : EnvM := mkEnvM mxs mss15 mws2
theorem mss15_ok : All (SOkM Try.prog false) mss15 := All.cons (SOkM.inl menv15_ok Try.func103 (fnNo _) Try.call103) mss14_ok
theorem menv16_ok : menv16.Ok Try.prog false := mkEnvM_ok mxs_ok mss15_ok mws2_ok
def mss16 : List (FuncId × SFM) := (100, (inlSM Try.prog false menv16 [12] [] 96 .no Try.f100)) :: mss15
def menv17 : EnvM := mkEnvM mxs mss16 mws2
theorem mss16_ok : All (SOkM Try.prog false) mss16 := All.cons (SOkM.inl menv16_ok Try.func100 (fnNo _) Try.call100) mss15_ok
theorem menv17_ok : menv17.Ok Try.prog false := mkEnvM_ok mxs_ok mss16_ok mws2_ok
def mss17 : List (FuncId × SFM) := (64, (inlSM Try.prog false menv17 [12, 17] [] 96 .no Try.f64)) :: mss16
def menv18 : EnvM := mkEnvM mxs mss17 mws2
theorem mss17_ok : All (SOkM Try.prog false) mss17 := All.cons (SOkM.inl menv17_ok Try.func64 (fnNo _) Try.call64) mss16_ok
theorem menv18_ok : menv18.Ok Try.prog false := mkEnvM_ok mxs_ok mss17_ok mws2_ok
def mss18 : List (FuncId × SFM) := (30, (inlSM Try.prog false menv18 [] [] 96 .no Try.f30)) :: mss17
def menv19 : EnvM := mkEnvM mxs mss18 mws2
theorem mss18_ok : All (SOkM Try.prog false) mss18 := All.cons (SOkM.inl menv18_ok Try.func30 (fnNo _) Try.call30) mss17_ok
theorem menv19_ok : menv19.Ok Try.prog false := mkEnvM_ok mxs_ok mss18_ok mws2_ok
def mss19 : List (FuncId × SFM) := (72, (inlSM Try.prog false menv19 [] [] 96 .no Try.f72)) :: mss18
def menv20 : EnvM := mkEnvM mxs mss19 mws2
theorem mss19_ok : All (SOkM Try.prog false) mss19 := All.cons (SOkM.inl menv19_ok Try.func72 (fnNo _) Try.call72) mss18_ok
theorem menv20_ok : menv20.Ok Try.prog false := mkEnvM_ok mxs_ok mss19_ok mws2_ok
def mss20 : List (FuncId × SFM) := (32, (inlSM Try.prog false menv20 [] [] 96 .no Try.f32)) :: mss19
def menv21 : EnvM := mkEnvM mxs mss20 mws2
theorem mss20_ok : All (SOkM Try.prog false) mss20 := All.cons (SOkM.inl menv20_ok Try.func32 (fnNo _) Try.call32) mss19_ok
theorem menv21_ok : menv21.Ok Try.prog false := mkEnvM_ok mxs_ok mss20_ok mws2_ok
def mss21 : List (FuncId × SFM) := (57, (inlSM Try.prog false menv21 [13, 42] [] 96 .no Try.f57)) :: mss20
def menv22 : EnvM := mkEnvM mxs mss21 mws2
theorem mss21_ok : All (SOkM Try.prog false) mss21 := All.cons (SOkM.inl menv21_ok Try.func57 (fnNo _) Try.call57) mss20_ok
theorem menv22_ok : menv22.Ok Try.prog false := mkEnvM_ok mxs_ok mss21_ok mws2_ok
def mss22 : List (FuncId × SFM) := (21, (inlSM Try.prog false menv22 [10, 19] [] 96 .no Try.f21)) :: mss21
def menv23 : EnvM := mkEnvM mxs mss22 mws2
theorem mss22_ok : All (SOkM Try.prog false) mss22 := All.cons (SOkM.inl menv22_ok Try.func21 (fnNo _) Try.call21) mss21_ok
theorem menv23_ok : menv23.Ok Try.prog false := mkEnvM_ok mxs_ok mss22_ok mws2_ok
def mss23 : List (FuncId × SFM) := (75, (inlSM Try.prog false menv23 [10, 20] [] 96 .no Try.f75)) :: mss22
def menv24 : EnvM := mkEnvM mxs mss23 mws2
theorem mss23_ok : All (SOkM Try.prog false) mss23 := All.cons (SOkM.inl menv23_ok Try.func75 (fnNo _) Try.call75) mss22_ok
theorem menv24_ok : menv24.Ok Try.prog false := mkEnvM_ok mxs_ok mss23_ok mws2_ok
def mss24 : List (FuncId × SFM) := (67, (inlSM Try.prog false menv24 [8, 16] [] 96 .no Try.f67)) :: mss23
def menv25 : EnvM := mkEnvM mxs mss24 mws2
theorem mss24_ok : All (SOkM Try.prog false) mss24 := All.cons (SOkM.inl menv24_ok Try.func67 (fnNo _) Try.call67) mss23_ok
theorem menv25_ok : menv25.Ok Try.prog false := mkEnvM_ok mxs_ok mss24_ok mws2_ok
def mss25 : List (FuncId × SFM) := (61, (inlSM Try.prog false menv25 [20, 30, 40] [] 96 .no Try.f61)) :: mss24
def menv26 : EnvM := mkEnvM mxs mss25 mws2
theorem mss25_ok : All (SOkM Try.prog false) mss25 := All.cons (SOkM.inl menv25_ok Try.func61 (fnNo _) Try.call61) mss24_ok
theorem menv26_ok : menv26.Ok Try.prog false := mkEnvM_ok mxs_ok mss25_ok mws2_ok
def mss26 : List (FuncId × SFM) := (70, (inlSM Try.prog false menv26 [] [] 96 .no Try.f70)) :: mss25
def menv27 : EnvM := mkEnvM mxs mss26 mws2
theorem mss26_ok : All (SOkM Try.prog false) mss26 := All.cons (SOkM.inl menv26_ok Try.func70 (fnNo _) Try.call70) mss25_ok
theorem menv27_ok : menv27.Ok Try.prog false := mkEnvM_ok mxs_ok mss26_ok mws2_ok
def mss27 : List (FuncId × SFM) := (49, (inlSM Try.prog false menv27 [] [] 96 .no Try.f49)) :: mss26
def menv28 : EnvM := mkEnvM mxs mss27 mws2
theorem mss27_ok : All (SOkM Try.prog false) mss27 := All.cons (SOkM.inl menv27_ok Try.func49 (fnNo _) Try.call49) mss26_ok
theorem menv28_ok : menv28.Ok Try.prog false := mkEnvM_ok mxs_ok mss27_ok mws2_ok
def mss28 : List (FuncId × SFM) := (17, (inlSM Try.prog false menv28 [18] [] 96 .no Try.f17)) :: mss27
def menv29 : EnvM := mkEnvM mxs mss28 mws2
theorem mss28_ok : All (SOkM Try.prog false) mss28 := All.cons (SOkM.inl menv28_ok Try.func17 (fnNo _) Try.call17) mss27_ok
theorem menv29_ok : menv29.Ok Try.prog false := mkEnvM_ok mxs_ok mss28_ok mws2_ok
def mss29 : List (FuncId × SFM) := (40, (inlSM Try.prog false menv29 [8] [] 96 .no Try.f40)) :: mss28
def menv30 : EnvM := mkEnvM mxs mss29 mws2
theorem mss29_ok : All (SOkM Try.prog false) mss29 := All.cons (SOkM.inl menv29_ok Try.func40 (fnNo _) Try.call40) mss28_ok
theorem menv30_ok : menv30.Ok Try.prog false := mkEnvM_ok mxs_ok mss29_ok mws2_ok
def mss30 : List (FuncId × SFM) := (73, (inlSM Try.prog false menv30 [] [] 96 .no Try.f73)) :: mss29
def menv31 : EnvM := mkEnvM mxs mss30 mws2
theorem mss30_ok : All (SOkM Try.prog false) mss30 := All.cons (SOkM.inl menv30_ok Try.func73 (fnNo _) Try.call73) mss29_ok
theorem menv31_ok : menv31.Ok Try.prog false := mkEnvM_ok mxs_ok mss30_ok mws2_ok
def mss31 : List (FuncId × SFM) := (59, (inlSM Try.prog false menv31 [] [] 96 .no Try.f59)) :: mss30
def menv32 : EnvM := mkEnvM mxs mss31 mws2
theorem mss31_ok : All (SOkM Try.prog false) mss31 := All.cons (SOkM.inl menv31_ok Try.func59 (fnNo _) Try.call59) mss30_ok
theorem menv32_ok : menv32.Ok Try.prog false := mkEnvM_ok mxs_ok mss31_ok mws2_ok
def mss32 : List (FuncId × SFM) := (23, (inlSM Try.prog false menv32 [12, 21, 32, 37, 43] [] 96 .no Try.f23)) :: mss31
def menv33 : EnvM := mkEnvM mxs mss32 mws2
theorem mss32_ok : All (SOkM Try.prog false) mss32 := All.cons (SOkM.inl menv32_ok Try.func23 (fnNo _) Try.call23) mss31_ok
theorem menv33_ok : menv33.Ok Try.prog false := mkEnvM_ok mxs_ok mss32_ok mws2_ok
def mss33 : List (FuncId × SFM) := (28, (inlSM Try.prog false menv33 [] [] 96 .no Try.f28)) :: mss32
def menv34 : EnvM := mkEnvM mxs mss33 mws2
theorem mss33_ok : All (SOkM Try.prog false) mss33 := All.cons (SOkM.inl menv33_ok Try.func28 (fnNo _) Try.call28) mss32_ok
theorem menv34_ok : menv34.Ok Try.prog false := mkEnvM_ok mxs_ok mss33_ok mws2_ok
def mss34 : List (FuncId × SFM) := (35, (inlSM Try.prog false menv34 [] [] 96 .no Try.f35)) :: mss33
def menv35 : EnvM := mkEnvM mxs mss34 mws2
theorem mss34_ok : All (SOkM Try.prog false) mss34 := All.cons (SOkM.inl menv34_ok Try.func35 (fnNo _) Try.call35) mss33_ok
theorem menv35_ok : menv35.Ok Try.prog false := mkEnvM_ok mxs_ok mss34_ok mws2_ok
def mss35 : List (FuncId × SFM) := (36, (inlSM Try.prog false menv35 [] [] 96 .no Try.f36)) :: mss34
def menv36 : EnvM := mkEnvM mxs mss35 mws2
theorem mss35_ok : All (SOkM Try.prog false) mss35 := All.cons (SOkM.inl menv35_ok Try.func36 (fnNo _) Try.call36) mss34_ok
theorem menv36_ok : menv36.Ok Try.prog false := mkEnvM_ok mxs_ok mss35_ok mws2_ok
def mss36 : List (FuncId × SFM) := (37, (inlSM Try.prog false menv36 [] [] 96 .no Try.f37)) :: mss35
def menv37 : EnvM := mkEnvM mxs mss36 mws2
theorem mss36_ok : All (SOkM Try.prog false) mss36 := All.cons (SOkM.inl menv36_ok Try.func37 (fnNo _) Try.call37) mss35_ok
theorem menv37_ok : menv37.Ok Try.prog false := mkEnvM_ok mxs_ok mss36_ok mws2_ok
def mss37 : List (FuncId × SFM) := (39, (inlSM Try.prog false menv37 [] [] 96 .no Try.f39)) :: mss36
def menv38 : EnvM := mkEnvM mxs mss37 mws2
theorem mss37_ok : All (SOkM Try.prog false) mss37 := All.cons (SOkM.inl menv37_ok Try.func39 (fnNo _) Try.call39) mss36_ok
theorem menv38_ok : menv38.Ok Try.prog false := mkEnvM_ok mxs_ok mss37_ok mws2_ok
def mss38 : List (FuncId × SFM) := (38, (inlSM Try.prog false menv38 [] [] 96 .no Try.f38)) :: mss37
def menv39 : EnvM := mkEnvM mxs mss38 mws2
theorem mss38_ok : All (SOkM Try.prog false) mss38 := All.cons (SOkM.inl menv38_ok Try.func38 (fnNo _) Try.call38) mss37_ok
theorem menv39_ok : menv39.Ok Try.prog false := mkEnvM_ok mxs_ok mss38_ok mws2_ok
def mss39 : List (FuncId × SFM) := (34, (inlSM Try.prog false menv39 [14] [] 96 .no Try.f34)) :: mss38
def menv40 : EnvM := mkEnvM mxs mss39 mws2
theorem mss39_ok : All (SOkM Try.prog false) mss39 := All.cons (SOkM.inl menv39_ok Try.func34 (fnNo _) Try.call34) mss38_ok
theorem menv40_ok : menv40.Ok Try.prog false := mkEnvM_ok mxs_ok mss39_ok mws2_ok
def mss40 : List (FuncId × SFM) := (10, (inlSM Try.prog false menv40 [14, 19, 25, 31, 34, 42] [] 96 .no Try.f10)) :: mss39
def menv41 : EnvM := mkEnvM mxs mss40 mws2
theorem mss40_ok : All (SOkM Try.prog false) mss40 := All.cons (SOkM.inl menv40_ok Try.func10 (fnNo _) Try.call10) mss39_ok
theorem menv41_ok : menv41.Ok Try.prog false := mkEnvM_ok mxs_ok mss40_ok mws2_ok
def mss41 : List (FuncId × SFM) := (13, (inlSM Try.prog false menv41 [10, 14] [] 96 .no Try.f13)) :: mss40
def menv42 : EnvM := mkEnvM mxs mss41 mws2
theorem mss41_ok : All (SOkM Try.prog false) mss41 := All.cons (SOkM.inl menv41_ok Try.func13 (fnNo _) Try.call13) mss40_ok
theorem menv42_ok : menv42.Ok Try.prog false := mkEnvM_ok mxs_ok mss41_ok mws2_ok
def mss42 : List (FuncId × SFM) := (47, (inlSM Try.prog false menv42 [7] [] 96 .no Try.f47)) :: mss41
def menv43 : EnvM := mkEnvM mxs mss42 mws2
theorem mss42_ok : All (SOkM Try.prog false) mss42 := All.cons (SOkM.inl menv42_ok Try.func47 (fnNo _) Try.call47) mss41_ok
theorem menv43_ok : menv43.Ok Try.prog false := mkEnvM_ok mxs_ok mss42_ok mws2_ok
def mss43 : List (FuncId × SFM) := (15, (inlSM Try.prog false menv43 [9] [] 96 .no Try.f15)) :: mss42
def menv44 : EnvM := mkEnvM mxs mss43 mws2
theorem mss43_ok : All (SOkM Try.prog false) mss43 := All.cons (SOkM.inl menv43_ok Try.func15 (fnNo _) Try.call15) mss42_ok
theorem menv44_ok : menv44.Ok Try.prog false := mkEnvM_ok mxs_ok mss43_ok mws2_ok
def mss44 : List (FuncId × SFM) := (33, (inlSM Try.prog false menv44 [5] [] 96 .no Try.f33)) :: mss43
def menv45 : EnvM := mkEnvM mxs mss44 mws2
theorem mss44_ok : All (SOkM Try.prog false) mss44 := All.cons (SOkM.inl menv44_ok Try.func33 (fnNo _) Try.call33) mss43_ok
theorem menv45_ok : menv45.Ok Try.prog false := mkEnvM_ok mxs_ok mss44_ok mws2_ok
theorem ann_law08_alive : FnOk Try.prog false 0 Try.f9 Ann.no := (fnNo _)
def s_law08_alive_0 : Bool := true
theorem e_law08_alive : outB (evFnM Try.prog false menv45 [] [] 96 Ann.no Try.f9 [] []) = some (true, AV.bool (s_law08_alive_0)) := by kernel_rfl
def S_law08_alive : List AV → Option (Ob × AV)
  | [] => some (Ob.tt, AV.bool (s_law08_alive_0))
  | _ => none
theorem t_law08_alive : SOkM Try.prog false (9, fun args => match S_law08_alive args with | some (o, v) => some (o, v, []) | none => none) := SOkM.flat (N := 96) menv45_ok Try.func9 ann_law08_alive Try.call9 fun args o v h ho => by
  unfold S_law08_alive at h
  split at h
  · skip
    cases h
    have ho2 := ho
    have this := show outB (evFnM Try.prog false menv45 [] [] 96 Ann.no Try.f9 [] []) = _ from e_law08_alive
    exact ⟨this, rfl⟩
  · cases h
def c_law08_alive : SFM := fun args => match S_law08_alive args with | some (o, v) => some (o, v, []) | none => none
theorem c_law08_alive_ok : SOkM Try.prog false (9, c_law08_alive) := t_law08_alive
def mss45 : List (FuncId × SFM) := (9, c_law08_alive) :: mss44
def menv46 : EnvM := mkEnvM mxs mss45 mws2
theorem mss45_ok : All (SOkM Try.prog false) mss45 := All.cons c_law08_alive_ok mss44_ok
theorem menv46_ok : menv46.Ok Try.prog false := mkEnvM_ok mxs_ok mss45_ok mws2_ok
-- tumble/num.Finite[float64]
theorem ann_num_Finite_float64_ : FnOk Try.prog false 0 Try.f70 Ann.no := (fnNo _)
def s_num_Finite_float64__0 (e : Nat) : Bool := (feq (fsub e e) 0)
theorem e_num_Finite_float64_ (e : Nat) : outB (evFnM Try.prog false menv46 [] [] 96 Ann.no Try.f70 [AV.float e] []) = some (true, AV.bool (s_num_Finite_float64__0 e)) := by kernel_rfl
def S_num_Finite_float64_ : List AV → Option (Ob × AV)
  | [AV.float e] => some (Ob.tt, AV.bool (s_num_Finite_float64__0 e))
  | _ => none
theorem t_num_Finite_float64_ : SOkM Try.prog false (70, fun args => match S_num_Finite_float64_ args with | some (o, v) => some (o, v, []) | none => none) := SOkM.flat (N := 96) menv46_ok Try.func70 ann_num_Finite_float64_ Try.call70 fun args o v h ho => by
  unfold S_num_Finite_float64_ at h
  split at h
  · rename_i e
    cases h
    have ho2 := ho
    have this := show outB (evFnM Try.prog false menv46 [] [] 96 Ann.no Try.f70 [AV.float e] []) = _ from e_num_Finite_float64_ e
    exact ⟨this, rfl⟩
  · cases h
def c_num_Finite_float64_ : SFM := fun args => match S_num_Finite_float64_ args with | some (o, v) => some (o, v, []) | none => none
theorem c_num_Finite_float64__ok : SOkM Try.prog false (70, c_num_Finite_float64_) := t_num_Finite_float64_
def mss46 : List (FuncId × SFM) := (70, c_num_Finite_float64_) :: mss45
def menv47 : EnvM := mkEnvM mxs mss46 mws2
theorem mss46_ok : All (SOkM Try.prog false) mss46 := All.cons c_num_Finite_float64__ok mss45_ok
theorem menv47_ok : menv47.Ok Try.prog false := mkEnvM_ok mxs_ok mss46_ok mws2_ok
-- tumble/mass.weight
theorem ann_mass_weight : FnOk Try.prog false 0 Try.f49 Ann.no := (fnNo _)
def s_mass_weight_0 (e : Nat) : Bool := ((s_num_Finite_float64__0 e) && (fle 0 e))
theorem e_mass_weight (e : Nat) : outB (evFnM Try.prog false menv47 [] [] 96 Ann.no Try.f49 [AV.float e] []) = some (true, AV.bool (s_mass_weight_0 e)) := by kernel_rfl
def S_mass_weight : List AV → Option (Ob × AV)
  | [AV.float e] => some (Ob.tt, AV.bool (s_mass_weight_0 e))
  | _ => none
theorem t_mass_weight : SOkM Try.prog false (49, fun args => match S_mass_weight args with | some (o, v) => some (o, v, []) | none => none) := SOkM.flat (N := 96) menv47_ok Try.func49 ann_mass_weight Try.call49 fun args o v h ho => by
  unfold S_mass_weight at h
  split at h
  · rename_i e
    cases h
    have ho2 := ho
    have this := show outB (evFnM Try.prog false menv47 [] [] 96 Ann.no Try.f49 [AV.float e] []) = _ from e_mass_weight e
    exact ⟨this, rfl⟩
  · cases h
def c_mass_weight : SFM := fun args => match S_mass_weight args with | some (o, v) => some (o, v, []) | none => none
theorem c_mass_weight_ok : SOkM Try.prog false (49, c_mass_weight) := t_mass_weight
def mss47 : List (FuncId × SFM) := (49, c_mass_weight) :: mss46
def menv48 : EnvM := mkEnvM mxs mss47 mws2
theorem mss47_ok : All (SOkM Try.prog false) mss47 := All.cons c_mass_weight_ok mss46_ok
theorem menv48_ok : menv48.Ok Try.prog false := mkEnvM_ok mxs_ok mss47_ok mws2_ok
-- tumble/num.Within[float64]
theorem ann_num_Within_float64_ : FnOk Try.prog false 0 Try.f58 Ann.no := (fnNo _)
def s_num_Within_float64__0 (e g : Nat) : Bool := ((fle (fneg g) e) && (fle e g))
theorem e_num_Within_float64_ (e g : Nat) : outB (evFnM Try.prog false menv48 [] [] 96 Ann.no Try.f58 [AV.float e, AV.float g] []) = some (true, AV.bool (s_num_Within_float64__0 e g)) := by kernel_rfl
def S_num_Within_float64_ : List AV → Option (Ob × AV)
  | [AV.float e, AV.float g] => some (Ob.tt, AV.bool (s_num_Within_float64__0 e g))
  | _ => none
theorem t_num_Within_float64_ : SOkM Try.prog false (58, fun args => match S_num_Within_float64_ args with | some (o, v) => some (o, v, []) | none => none) := SOkM.flat (N := 96) menv48_ok Try.func58 ann_num_Within_float64_ Try.call58 fun args o v h ho => by
  unfold S_num_Within_float64_ at h
  split at h
  · rename_i e g
    cases h
    have ho2 := ho
    have this := show outB (evFnM Try.prog false menv48 [] [] 96 Ann.no Try.f58 [AV.float e, AV.float g] []) = _ from e_num_Within_float64_ e g
    exact ⟨this, rfl⟩
  · cases h
def c_num_Within_float64_ : SFM := fun args => match S_num_Within_float64_ args with | some (o, v) => some (o, v, []) | none => none
theorem c_num_Within_float64__ok : SOkM Try.prog false (58, c_num_Within_float64_) := t_num_Within_float64_
def mss48 : List (FuncId × SFM) := (58, c_num_Within_float64_) :: mss47
def menv49 : EnvM := mkEnvM mxs mss48 mws2
theorem mss48_ok : All (SOkM Try.prog false) mss48 := All.cons c_num_Within_float64__ok mss47_ok
theorem menv49_ok : menv49.Ok Try.prog false := mkEnvM_ok mxs_ok mss48_ok mws2_ok
-- tumble/vec.Within
theorem ann_vec_Within : FnOk Try.prog false 0 Try.f22 Ann.no := (fnNo _)
def s_vec_Within_0 (e g m : Nat) : Bool := ((s_num_Within_float64__0 e m) && (s_num_Within_float64__0 g m))
theorem e_vec_Within (e g m : Nat) : outB (evFnM Try.prog false menv49 [] [] 96 Ann.no Try.f22 [AV.agg [AV.float e, AV.float g], AV.float m] []) = some (true, AV.bool (s_vec_Within_0 e g m)) := by kernel_rfl
def S_vec_Within : List AV → Option (Ob × AV)
  | [AV.agg [AV.float e, AV.float g], AV.float m] => some (Ob.tt, AV.bool (s_vec_Within_0 e g m))
  | _ => none
theorem t_vec_Within : SOkM Try.prog false (22, fun args => match S_vec_Within args with | some (o, v) => some (o, v, []) | none => none) := SOkM.flat (N := 96) menv49_ok Try.func22 ann_vec_Within Try.call22 fun args o v h ho => by
  unfold S_vec_Within at h
  split at h
  · rename_i e g m
    cases h
    have ho2 := ho
    have this := show outB (evFnM Try.prog false menv49 [] [] 96 Ann.no Try.f22 [AV.agg [AV.float e, AV.float g], AV.float m] []) = _ from e_vec_Within e g m
    exact ⟨this, rfl⟩
  · cases h
def c_vec_Within : SFM := fun args => match S_vec_Within args with | some (o, v) => some (o, v, []) | none => none
theorem c_vec_Within_ok : SOkM Try.prog false (22, c_vec_Within) := t_vec_Within
def mss49 : List (FuncId × SFM) := (22, c_vec_Within) :: mss48
def menv50 : EnvM := mkEnvM mxs mss49 mws2
theorem mss49_ok : All (SOkM Try.prog false) mss49 := All.cons c_vec_Within_ok mss48_ok
theorem menv50_ok : menv50.Ok Try.prog false := mkEnvM_ok mxs_ok mss49_ok mws2_ok
-- tumble/mass.Check
theorem ann_mass_Check : FnOk Try.prog false 0 Try.f17 Ann.no := (fnNo _)
def s_mass_Check_0 (e g m q : Nat) : Int := (bif (((!(s_mass_weight_0 e)) || (!(s_mass_weight_0 g))) || (!(s_vec_Within_0 m q 4787326403894837248))) then (80 : Int) else (0 : Int))
theorem e_mass_Check (e g m q : Nat) : outB (evFnM Try.prog false menv50 [] [] 96 Ann.no Try.f17 [AV.agg [AV.float e, AV.float g, AV.float m, AV.float q]] []) = some (true, AV.int .i64 (s_mass_Check_0 e g m q)) := by kernel_rfl
def S_mass_Check : List AV → Option (Ob × AV)
  | [AV.agg [AV.float e, AV.float g, AV.float m, AV.float q]] => some (Ob.tt, AV.int .i64 (s_mass_Check_0 e g m q))
  | _ => none
theorem t_mass_Check : SOkM Try.prog false (17, fun args => match S_mass_Check args with | some (o, v) => some (o, v, []) | none => none) := SOkM.flat (N := 96) menv50_ok Try.func17 ann_mass_Check Try.call17 fun args o v h ho => by
  unfold S_mass_Check at h
  split at h
  · rename_i e g m q
    cases h
    have ho2 := ho
    have this := show outB (evFnM Try.prog false menv50 [] [] 96 Ann.no Try.f17 [AV.agg [AV.float e, AV.float g, AV.float m, AV.float q]] []) = _ from e_mass_Check e g m q
    exact ⟨this, rfl⟩
  · cases h
def c_mass_Check : SFM := fun args => match S_mass_Check args with | some (o, v) => some (o, v, []) | none => none
theorem c_mass_Check_ok : SOkM Try.prog false (17, c_mass_Check) := t_mass_Check
def mss50 : List (FuncId × SFM) := (17, c_mass_Check) :: mss49
def menv51 : EnvM := mkEnvM mxs mss50 mws2
theorem mss50_ok : All (SOkM Try.prog false) mss50 := All.cons c_mass_Check_ok mss49_ok
theorem menv51_ok : menv51.Ok Try.prog false := mkEnvM_ok mxs_ok mss50_ok mws2_ok
-- tumble/mass.Join$1
theorem ann_mass_Join_1 : FnOk Try.prog false 0 Try.f35 Ann.no := (fnNo _)
def s_mass_Join_1_0 (e g m q : Nat) : Nat := e
theorem e_mass_Join_1 (e g m q : Nat) : outB (evFnM Try.prog false menv51 [] [] 96 Ann.no Try.f35 [AV.agg [AV.float e, AV.float g, AV.float m, AV.float q]] []) = some (true, AV.float (s_mass_Join_1_0 e g m q)) := by kernel_rfl
def S_mass_Join_1 : List AV → Option (Ob × AV)
  | [AV.agg [AV.float e, AV.float g, AV.float m, AV.float q]] => some (Ob.tt, AV.float (s_mass_Join_1_0 e g m q))
  | _ => none
theorem t_mass_Join_1 : SOkM Try.prog false (35, fun args => match S_mass_Join_1 args with | some (o, v) => some (o, v, []) | none => none) := SOkM.flat (N := 96) menv51_ok Try.func35 ann_mass_Join_1 Try.call35 fun args o v h ho => by
  unfold S_mass_Join_1 at h
  split at h
  · rename_i e g m q
    cases h
    have ho2 := ho
    have this := show outB (evFnM Try.prog false menv51 [] [] 96 Ann.no Try.f35 [AV.agg [AV.float e, AV.float g, AV.float m, AV.float q]] []) = _ from e_mass_Join_1 e g m q
    exact ⟨this, rfl⟩
  · cases h
def c_mass_Join_1 : SFM := fun args => match S_mass_Join_1 args with | some (o, v) => some (o, v, []) | none => none
theorem c_mass_Join_1_ok : SOkM Try.prog false (35, c_mass_Join_1) := t_mass_Join_1
def mss51 : List (FuncId × SFM) := (35, c_mass_Join_1) :: mss50
def menv52 : EnvM := mkEnvM mxs mss51 mws2
theorem mss51_ok : All (SOkM Try.prog false) mss51 := All.cons c_mass_Join_1_ok mss50_ok
theorem menv52_ok : menv52.Ok Try.prog false := mkEnvM_ok mxs_ok mss51_ok mws2_ok
-- tumble/num.Sum
-- a loop of tumble/num.Sum
structure V_num_Sum_L0 where
  v0 : Nat
  v1 : Int
def tpl_num_Sum_L0 : List AV := (AV.top :: AV.top :: AV.top :: AV.nul :: tpA 9 (AV.nul :: AV.nul :: AV.nul :: tpA 8 ([])))
def cts_num_Sum_L0 : List CT := []
def phs_num_Sum_L0 : List Src := []
def T_num_Sum_L0 (j : Nat) (l : Nat → Nat) (k : Int) (x : V_num_Sum_L0) (F0 : Nat → List AV) : List AV × Heap := ((AV.top :: AV.top :: AV.top :: AV.float x.v0 :: tpA 9 (AV.view j 1 F0 :: AV.int .i64 k :: AV.int .i64 x.v1 :: tpA 8 ([]))), [])
def sh_num_Sum_L0 (j : Nat) (l : Nat → Nat) (k : Int) (x : V_num_Sum_L0) : List AV × Heap := T_num_Sum_L0 j l k x (fun j0 => [AV.float (l j0)])
def step_num_Sum_L0 (j : Nat) (l : Nat → Nat) (k : Int) (x : V_num_Sum_L0) : V_num_Sum_L0 := V_num_Sum_L0.mk (fadd x.v0 (l (Int.toNat x.v1))) (IntKind.wrap .i64 (x.v1 + (1 : Int)))
def go_num_Sum_L0 (j : Nat) (l : Nat → Nat) (k : Int) (x : V_num_Sum_L0) : Bool := (bif (!(ilt x.v1 k)) then false else true)
def ok_num_Sum_L0 (j : Nat) (l : Nat → Nat) (k : Int) (x : V_num_Sum_L0) : Bool := (mrgB (!(ilt x.v1 k)) true ((ile (0 : Int) x.v1) && (Nat.blt (Int.toNat x.v1) j)))
def L_num_Sum_L0 (j : Nat) (l : Nat → Nat) (k : Int) (x : V_num_Sum_L0) : V_num_Sum_L0 := lastL (ok_num_Sum_L0 j l k) (go_num_Sum_L0 j l k) (step_num_Sum_L0 j l k) x
def E_num_Sum_L0 (j : Nat) (l : Nat → Nat) (k : Int) (x : V_num_Sum_L0) : Bool := endsL (ok_num_Sum_L0 j l k) (go_num_Sum_L0 j l k) (step_num_Sum_L0 j l k) x
theorem all_num_Sum_L0 (j : Nat) (l : Nat → Nat) (k : Int) (x : V_num_Sum_L0) : rnd Try.prog false menv52 [] [] 96 Ann.no (subC [1, 1, 1, 0, 1, 0, 0] (codeOf Try.f67)) 0 [] tpl_num_Sum_L0 cts_num_Sum_L0 (tpB 13 (false :: false :: tpB 9 ([]))) [] (sh_num_Sum_L0 j l k x) = (true, true, go_num_Sum_L0 j l k x, ok_num_Sum_L0 j l k x, true, sh_num_Sum_L0 j l k (step_num_Sum_L0 j l k x), true) := by kernel_rfl
def fam_num_Sum_L0 (j : Nat) (l : Nat → Nat) (k : Int) : Fam Try.prog false menv52 [] [] 96 0 Ann.no (subC [1, 1, 1, 0, 1, 0, 0] (codeOf Try.f67)) V_num_Sum_L0 where
  sh := sh_num_Sum_L0 j l k
  ok := ok_num_Sum_L0 j l k
  go := go_num_Sum_L0 j l k
  step := step_num_Sum_L0 j l k
  chg := (tpB 13 (false :: false :: tpB 9 ([])))
  chgH := []
  tpl := tpl_num_Sum_L0
  cts := cts_num_Sum_L0
  keep := 0
  srcs := []
  ann := (annNo (subC [1, 1, 1, 0, 1, 0, 0] (codeOf Try.f67)))
  le := by kernel_rfl
  kept := by kernel_rfl
  keptB := by kernel_rfl
  all := all_num_Sum_L0 j l k
  len := fun x => by kernel_rfl
  head := fun x y => by kernel_rfl
  con := fun x y => by kernel_rfl
  conH := fun x y => by kernel_rfl
def F_num_Sum_L0 : St → Option Ch := fun s => cond (Nat.beq s.tm.length 24 && Nat.beq s.H.length 0) (tkTops 3 (alL tpl_num_Sum_L0 s.tm) fun t0 => tkCons t0 fun g t1 => tkF g fun s0 => tkTops 9 t1 fun t2 => tkCons t2 fun q t3 => tkView 1 q fun s1 f0 => tkCons t3 fun E t4 => tkI .i64 E fun s3 => tkCons t4 fun D t5 => tkI .i64 D fun s4 => tkTops 8 t5 fun t6 => tkNil t6 <| tkNil (alH cts_num_Sum_L0 (s.H ++ List.map phan phs_num_Sum_L0)) <| Fam.out (fam_num_Sum_L0 s1 (fL f0 0) s3) s (allB fun i => isNrm [Ck.f] (f0 i)) (V_num_Sum_L0.mk s0 s4)) none
theorem F_num_Sum_L0_ok : ∀ s ch, F_num_Sum_L0 s = some ch → AllI s ch ∧ LoopSpec Try.prog false 0 (subC [1, 1, 1, 0, 1, 0, 0] (codeOf Try.f67)) s (sel ch) := by
  intro s ch h
  unfold F_num_Sum_L0 at h
  obtain ⟨hl, h0⟩ := cond_some h rfl
  clear h
  obtain ⟨hl, hb⟩ := and_beq2 hl
  obtain ⟨t0, e0, h1⟩ := tkTops_some h0
  obtain ⟨g, t1, rfl, h2⟩ := tkCons_some h1
  obtain ⟨s0, rfl, h3⟩ := tkF_some h2
  obtain ⟨t2, rfl, h4⟩ := tkTops_some h3
  obtain ⟨q, t3, rfl, h5⟩ := tkCons_some h4
  obtain ⟨s1, f0, rfl, h6⟩ := tkView_some h5
  obtain ⟨E, t4, rfl, h7⟩ := tkCons_some h6
  obtain ⟨s3, rfl, h8⟩ := tkI_some h7
  obtain ⟨D, t5, rfl, h9⟩ := tkCons_some h8
  obtain ⟨s4, rfl, h10⟩ := tkI_some h9
  obtain ⟨t6, rfl, h11⟩ := tkTops_some h10
  obtain ⟨rfl, h12⟩ := tkNil_some h11
  obtain ⟨eH, h13⟩ := tkNil_some h12
  refine Fam.spec menv52_ok (fam_num_Sum_L0 s1 (fL f0 0) s3) (phs := phs_num_Sum_L0) (hl.trans (by kernel_rfl)) (hb.trans (by kernel_rfl)) ?_ ?_ h13
  · rw [← hdr_alH cts_num_Sum_L0 (s.H ++ List.map phan phs_num_Sum_L0), eH]; kernel_rfl
  · intro hq
    have hq0 := hq
    have n0 := nrm_fun hq0
    show sh_num_Sum_L0 s1 (fL f0 0) s3 (V_num_Sum_L0.mk s0 s4) = (alL tpl_num_Sum_L0 s.tm, alH cts_num_Sum_L0 (s.H ++ List.map phan phs_num_Sum_L0))
    rw [e0, eH]
    refine Eq.trans (show sh_num_Sum_L0 s1 (fL f0 0) s3 (V_num_Sum_L0.mk s0 s4) = T_num_Sum_L0 s1 (fL f0 0) s3 (V_num_Sum_L0.mk s0 s4) (fun i => mkN [Ck.f] (f0 i) 0) by kernel_rfl) ?_
    rw [n0]
    kernel_rfl
theorem ann_num_Sum : FnOk Try.prog false 0 Try.f67 (Ann.two Ann.no (Ann.two Ann.no (Ann.two Ann.no (Ann.two (Ann.two Ann.no (Ann.one (Ann.loop F_num_Sum_L0))) Ann.no)))) := (fnOk_of (c := codeOf Try.f67) (by kernel_rfl) (annSeq (a := (subC [0] (codeOf Try.f67))) (b := (subC [1] (codeOf Try.f67))) (by kernel_rfl) (annNo (subC [0] (codeOf Try.f67))) (annSeq (a := (subC [1, 0] (codeOf Try.f67))) (b := (subC [1, 1] (codeOf Try.f67))) (by kernel_rfl) (annNo (subC [1, 0] (codeOf Try.f67))) (annSeq (a := (subC [1, 1, 0] (codeOf Try.f67))) (b := (subC [1, 1, 1] (codeOf Try.f67))) (by kernel_rfl) (annNo (subC [1, 1, 0] (codeOf Try.f67))) (annSeq (a := (subC [1, 1, 1, 0] (codeOf Try.f67))) (b := (subC [1, 1, 1, 1] (codeOf Try.f67))) (by kernel_rfl) (annSeq (a := (subC [1, 1, 1, 0, 0] (codeOf Try.f67))) (b := (subC [1, 1, 1, 0, 1] (codeOf Try.f67))) (by kernel_rfl) (annNo (subC [1, 1, 1, 0, 0] (codeOf Try.f67))) (annBlock (a := (subC [1, 1, 1, 0, 1, 0] (codeOf Try.f67))) (i := 0) (by kernel_rfl) (annLoop (a := (subC [1, 1, 1, 0, 1, 0, 0] (codeOf Try.f67))) (by kernel_rfl) F_num_Sum_L0_ok))) (annNo (subC [1, 1, 1, 1] (codeOf Try.f67))))))))
def s_num_Sum_0 (d : Nat) (t : Nat → Nat) : Nat := (bif (ieq (Int.ofNat d) (0 : Int)) then 0 else ((L_num_Sum_L0 (d - 1) (fun j0 => (t (1 + j0))) (Int.ofNat (d - 1)) (V_num_Sum_L0.mk (t 0) (0 : Int))).v0))
def q_num_Sum (d : Nat) (t : Nat → Nat) : Bool := (mrgB (ieq (Int.ofNat d) (0 : Int)) true ((((Nat.ble 1 d) && (Nat.ble d d)) && (Nat.blt 0 d)) && ((allB fun _ => true) && (E_num_Sum_L0 (d - 1) (fun j0 => (t (1 + j0))) (Int.ofNat (d - 1)) (V_num_Sum_L0.mk (t 0) (0 : Int))))))
theorem e_num_Sum (d : Nat) (t : Nat → Nat) : outB (evFnM Try.prog false menv52 [] [] 96 (Ann.two Ann.no (Ann.two Ann.no (Ann.two Ann.no (Ann.two (Ann.two Ann.no (Ann.one (Ann.loop F_num_Sum_L0))) Ann.no)))) Try.f67 [AV.view d 1 (fun i0 => [AV.float (t i0)])] []) = some (q_num_Sum d t, AV.float (s_num_Sum_0 d t)) := by kernel_rfl
def o_num_Sum (d : Nat) (t : Nat → Nat) : Bool := (mrgB (ieq (Int.ofNat d) (0 : Int)) true ((((Nat.ble 1 d) && (Nat.ble d d)) && (Nat.blt 0 d)) && (E_num_Sum_L0 (d - 1) (fun j0 => (t (1 + j0))) (Int.ofNat (d - 1)) (V_num_Sum_L0.mk (t 0) (0 : Int)))))
def S_num_Sum : List AV → Option (Ob × AV)
  | [AV.view d 1 C] => some (Ob.both (Ob.bit (allB fun i => isNrm [Ck.f] (C i))) (Ob.bit (o_num_Sum d (fL C 0))), AV.float (s_num_Sum_0 d (fL C 0)))
  | _ => none
theorem ob_num_Sum (d : Nat) (t : Nat → Nat) (ho : o_num_Sum d t = true) : q_num_Sum d t = true := by
  unfold q_num_Sum
  unfold o_num_Sum at ho
  simp only [allB_true, eqT_self, mrgB_self, Bool.true_and, Bool.and_true] at ho ⊢
  exact ho
theorem t_num_Sum : SOkM Try.prog false (67, fun args => match S_num_Sum args with | some (o, v) => some (o, v, []) | none => none) := SOkM.flat (N := 96) menv52_ok Try.func67 ann_num_Sum Try.call67 fun args o v h ho => by
  unfold S_num_Sum at h
  split at h
  · rename_i d C
    cases h
    rw [Ob.both_ok, Bool.and_eq_true] at ho
    obtain ⟨hn, ho2⟩ := ho
    have n0 := hn
    simp only [Ob.ok] at n0
    replace n0 := nrm_fun n0
    have this := show outB (evFnM Try.prog false menv52 [] [] 96 (Ann.two Ann.no (Ann.two Ann.no (Ann.two Ann.no (Ann.two (Ann.two Ann.no (Ann.one (Ann.loop F_num_Sum_L0))) Ann.no)))) Try.f67 [AV.view d 1 (fun i => mkN [Ck.f] (C i) 0)] []) = _ from e_num_Sum d (fL C 0)
    rw [(ob_num_Sum d (fL C 0) ho2)] at this
    rw [n0] at this
    exact ⟨this, rfl⟩
  · cases h
def c_num_Sum : SFM := fun args => match S_num_Sum args with | some (o, v) => some (o, v, []) | none => none
theorem c_num_Sum_ok : SOkM Try.prog false (67, c_num_Sum) := t_num_Sum
def mss52 : List (FuncId × SFM) := (67, c_num_Sum) :: mss51
def menv53 : EnvM := mkEnvM mxs mss52 mws2
theorem mss52_ok : All (SOkM Try.prog false) mss52 := All.cons c_num_Sum_ok mss51_ok
theorem menv53_ok : menv53.Ok Try.prog false := mkEnvM_ok mxs_ok mss52_ok mws2_ok
-- tumble/mass.sum
-- a loop of tumble/mass.sum
structure V_mass_sum_L0 where
  v0 : Int
  v1 : (Nat → Nat)
def tpl_mass_sum_L0 : List AV := (AV.top :: AV.nul :: AV.top :: AV.top :: AV.top :: AV.nul :: AV.top :: AV.top :: AV.top :: AV.top :: AV.top :: AV.nul :: AV.nul :: AV.nul :: tpA 13 ([]))
def cts_mass_sum_L0 : List CT := [CT.keep]
def phs_mass_sum_L0 : List Src := []
def T_mass_sum_L0 (j : Nat) (l k n p : Nat → Nat) (r : Int) (x : V_mass_sum_L0) (F0 F1 : Nat → List AV) : List AV × Heap := ((AV.top :: AV.func 35 [] [] :: AV.top :: AV.top :: AV.top :: AV.lst 0 0 1 j j :: AV.top :: AV.top :: AV.top :: AV.top :: AV.top :: AV.view j 4 F0 :: AV.int .i64 r :: AV.int .i64 x.v0 :: tpA 13 ([])), [⟨.sym j 1 F1, 24, 0⟩])
def sh_mass_sum_L0 (j : Nat) (l k n p : Nat → Nat) (r : Int) (x : V_mass_sum_L0) : List AV × Heap := T_mass_sum_L0 j l k n p r x (fun j0 => [AV.float (l j0), AV.float (k j0), AV.float (n j0), AV.float (p j0)]) (fun j0 => [AV.float (x.v1 j0)])
def step_mass_sum_L0 (j : Nat) (l k n p : Nat → Nat) (r : Int) (x : V_mass_sum_L0) : V_mass_sum_L0 := V_mass_sum_L0.mk (IntKind.wrap .i64 (x.v0 + (1 : Int))) (fun j0 => (bif (Nat.beq j0 (Int.toNat x.v0)) then (s_mass_Join_1_0 (l (Int.toNat x.v0)) (k (Int.toNat x.v0)) (n (Int.toNat x.v0)) (p (Int.toNat x.v0))) else (x.v1 j0)))
def go_mass_sum_L0 (j : Nat) (l k n p : Nat → Nat) (r : Int) (x : V_mass_sum_L0) : Bool := (bif (!(ilt x.v0 r)) then false else true)
def ok_mass_sum_L0 (j : Nat) (l k n p : Nat → Nat) (r : Int) (x : V_mass_sum_L0) : Bool := (mrgB (!(ilt x.v0 r)) true ((Nat.blt (Int.toNat x.v0) j) && (((ile (0 : Int) x.v0) && (Nat.blt (Int.toNat x.v0) j)) && ((ile (0 : Int) x.v0) && (Nat.blt (Int.toNat x.v0) j)))))
def L_mass_sum_L0 (j : Nat) (l k n p : Nat → Nat) (r : Int) (x : V_mass_sum_L0) : V_mass_sum_L0 := lastL (ok_mass_sum_L0 j l k n p r) (go_mass_sum_L0 j l k n p r) (step_mass_sum_L0 j l k n p r) x
def E_mass_sum_L0 (j : Nat) (l k n p : Nat → Nat) (r : Int) (x : V_mass_sum_L0) : Bool := endsL (ok_mass_sum_L0 j l k n p r) (go_mass_sum_L0 j l k n p r) (step_mass_sum_L0 j l k n p r) x
theorem all_mass_sum_L0 (j : Nat) (l k n p : Nat → Nat) (r : Int) (x : V_mass_sum_L0) : rnd Try.prog false menv53 [] [] 96 Ann.no (subC [1, 1, 0, 1, 0, 0] (codeOf Try.f34)) 0 [⟨some 0, 0, 0, []⟩] tpl_mass_sum_L0 cts_mass_sum_L0 (true :: false :: true :: true :: true :: false :: true :: true :: true :: true :: true :: false :: false :: tpB 14 ([])) [true] (sh_mass_sum_L0 j l k n p r x) = (true, true, go_mass_sum_L0 j l k n p r x, ok_mass_sum_L0 j l k n p r x, true, sh_mass_sum_L0 j l k n p r (step_mass_sum_L0 j l k n p r x), true) := by kernel_rfl
def fam_mass_sum_L0 (j : Nat) (l k n p : Nat → Nat) (r : Int) : Fam Try.prog false menv53 [] [] 96 0 Ann.no (subC [1, 1, 0, 1, 0, 0] (codeOf Try.f34)) V_mass_sum_L0 where
  sh := sh_mass_sum_L0 j l k n p r
  ok := ok_mass_sum_L0 j l k n p r
  go := go_mass_sum_L0 j l k n p r
  step := step_mass_sum_L0 j l k n p r
  chg := (true :: false :: true :: true :: true :: false :: true :: true :: true :: true :: true :: false :: false :: tpB 14 ([]))
  chgH := [true]
  tpl := tpl_mass_sum_L0
  cts := cts_mass_sum_L0
  keep := 0
  srcs := [⟨some 0, 0, 0, []⟩]
  ann := (annNo (subC [1, 1, 0, 1, 0, 0] (codeOf Try.f34)))
  le := by kernel_rfl
  kept := by kernel_rfl
  keptB := by kernel_rfl
  all := all_mass_sum_L0 j l k n p r
  len := fun x => by kernel_rfl
  head := fun x y => by kernel_rfl
  con := fun x y => by kernel_rfl
  conH := fun x y => by kernel_rfl
def F_mass_sum_L0 : St → Option Ch := fun s => cond (Nat.beq s.tm.length 27 && Nat.beq s.H.length 1) (tkTops 1 (alL tpl_mass_sum_L0 s.tm) fun t0 => tkCons t0 fun g t1 => tkFunc 35 g fun l2 l3 => tkNil l2 <| tkNil l3 <| tkTops 3 t1 fun t4 => tkCons t4 fun D t5 => tkLst 0 0 1 D fun s0 s1 => tkTops 5 t5 fun t6 => tkCons t6 fun J t7 => tkView 4 J fun s2 f0 => tkCons t7 fun M t8 => tkI .i64 M fun s7 => tkCons t8 fun L t9 => tkI .i64 L fun s8 => tkTops 13 t9 fun t10 => tkNil t10 <| tkCons (alH cts_mass_sum_L0 (s.H ++ List.map phan phs_mass_sum_L0)) fun b11 t11 => tkSym 24 0 1 b11 fun s9 f1 => tkNil t11 <| Fam.out (fam_mass_sum_L0 s0 (fL f0 0) (fL f0 1) (fL f0 2) (fL f0 3) s7) s (((((allB fun i => isNrm [Ck.f, Ck.f, Ck.f, Ck.f] (f0 i)) && (allB fun i => isNrm [Ck.f] (f1 i))) && (eqT s1 s0)) && (eqT s2 s0)) && (eqT s9 s0)) (V_mass_sum_L0.mk s8 (fL f1 0))) none
theorem F_mass_sum_L0_ok : ∀ s ch, F_mass_sum_L0 s = some ch → AllI s ch ∧ LoopSpec Try.prog false 0 (subC [1, 1, 0, 1, 0, 0] (codeOf Try.f34)) s (sel ch) := by
  intro s ch h
  unfold F_mass_sum_L0 at h
  obtain ⟨hl, h0⟩ := cond_some h rfl
  clear h
  obtain ⟨hl, hb⟩ := and_beq2 hl
  obtain ⟨t0, e0, h1⟩ := tkTops_some h0
  obtain ⟨g, t1, rfl, h2⟩ := tkCons_some h1
  obtain ⟨l2, l3, rfl, h3⟩ := tkFunc_some h2
  obtain ⟨rfl, h4⟩ := tkNil_some h3
  obtain ⟨rfl, h5⟩ := tkNil_some h4
  obtain ⟨t4, rfl, h6⟩ := tkTops_some h5
  obtain ⟨D, t5, rfl, h7⟩ := tkCons_some h6
  obtain ⟨s0, s1, rfl, h8⟩ := tkLst_some h7
  obtain ⟨t6, rfl, h9⟩ := tkTops_some h8
  obtain ⟨J, t7, rfl, h10⟩ := tkCons_some h9
  obtain ⟨s2, f0, rfl, h11⟩ := tkView_some h10
  obtain ⟨M, t8, rfl, h12⟩ := tkCons_some h11
  obtain ⟨s7, rfl, h13⟩ := tkI_some h12
  obtain ⟨L, t9, rfl, h14⟩ := tkCons_some h13
  obtain ⟨s8, rfl, h15⟩ := tkI_some h14
  obtain ⟨t10, rfl, h16⟩ := tkTops_some h15
  obtain ⟨rfl, h17⟩ := tkNil_some h16
  obtain ⟨b11, t11, eH, h18⟩ := tkCons_some h17
  obtain ⟨s9, f1, rfl, h19⟩ := tkSym_some h18
  obtain ⟨rfl, h20⟩ := tkNil_some h19
  refine Fam.spec menv53_ok (fam_mass_sum_L0 s0 (fL f0 0) (fL f0 1) (fL f0 2) (fL f0 3) s7) (phs := phs_mass_sum_L0) (hl.trans (by kernel_rfl)) (hb.trans (by kernel_rfl)) ?_ ?_ h20
  · rw [← hdr_alH cts_mass_sum_L0 (s.H ++ List.map phan phs_mass_sum_L0), eH]; kernel_rfl
  · intro hq
    simp only [Bool.and_eq_true] at hq
    obtain ⟨⟨⟨⟨hq0, hq1⟩, hq2⟩, hq3⟩, hq4⟩ := hq
    have n0 := nrm_fun hq0
    have n1 := nrm_fun hq1
    have hx := eqT_eq hq2; subst s1
    have hx := eqT_eq hq3; subst s2
    have hx := eqT_eq hq4; subst s9
    show sh_mass_sum_L0 s0 (fL f0 0) (fL f0 1) (fL f0 2) (fL f0 3) s7 (V_mass_sum_L0.mk s8 (fL f1 0)) = (alL tpl_mass_sum_L0 s.tm, alH cts_mass_sum_L0 (s.H ++ List.map phan phs_mass_sum_L0))
    rw [e0, eH]
    refine Eq.trans (show sh_mass_sum_L0 s0 (fL f0 0) (fL f0 1) (fL f0 2) (fL f0 3) s7 (V_mass_sum_L0.mk s8 (fL f1 0)) = T_mass_sum_L0 s0 (fL f0 0) (fL f0 1) (fL f0 2) (fL f0 3) s7 (V_mass_sum_L0.mk s8 (fL f1 0)) (fun i => mkN [Ck.f, Ck.f, Ck.f, Ck.f] (f0 i) 0) (fun i => mkN [Ck.f] (f1 i) 0) by kernel_rfl) ?_
    rw [n0, n1]
    kernel_rfl
theorem ann_mass_sum : FnOk Try.prog false 0 Try.f34 (Ann.two Ann.no (Ann.two Ann.no (Ann.two (Ann.two Ann.no (Ann.one (Ann.loop F_mass_sum_L0))) Ann.no))) := (fnOk_of (c := codeOf Try.f34) (by kernel_rfl) (annSeq (a := (subC [0] (codeOf Try.f34))) (b := (subC [1] (codeOf Try.f34))) (by kernel_rfl) (annNo (subC [0] (codeOf Try.f34))) (annSeq (a := (subC [1, 0] (codeOf Try.f34))) (b := (subC [1, 1] (codeOf Try.f34))) (by kernel_rfl) (annNo (subC [1, 0] (codeOf Try.f34))) (annSeq (a := (subC [1, 1, 0] (codeOf Try.f34))) (b := (subC [1, 1, 1] (codeOf Try.f34))) (by kernel_rfl) (annSeq (a := (subC [1, 1, 0, 0] (codeOf Try.f34))) (b := (subC [1, 1, 0, 1] (codeOf Try.f34))) (by kernel_rfl) (annNo (subC [1, 1, 0, 0] (codeOf Try.f34))) (annBlock (a := (subC [1, 1, 0, 1, 0] (codeOf Try.f34))) (i := 0) (by kernel_rfl) (annLoop (a := (subC [1, 1, 0, 1, 0, 0] (codeOf Try.f34))) (by kernel_rfl) F_mass_sum_L0_ok))) (annNo (subC [1, 1, 1] (codeOf Try.f34)))))))
def s_mass_sum_0 (d : Nat) (t u z B : Nat → Nat) : Nat := (s_num_Sum_0 d ((L_mass_sum_L0 d t u z B (Int.ofNat d) (V_mass_sum_L0.mk (0 : Int) (fun j0 => 0))).v1))
def q_mass_sum (d : Nat) (t u z B : Nat → Nat) : Bool := (((Nat.ble d d) && ((allB fun _ => true) && (o_num_Sum d ((L_mass_sum_L0 d t u z B (Int.ofNat d) (V_mass_sum_L0.mk (0 : Int) (fun j0 => 0))).v1)))) && (((ile (Int.ofNat d) (Int.ofNat d)) && ((ile ((8 : Int) * (Int.ofNat d)) (281474976710656 : Int)) && (ile (Int.ofNat d) (9223372036854775807 : Int)))) && ((((((allB fun _ => true) && (allB fun _ => true)) && (eqT d d)) && (eqT d d)) && (eqT d d)) && (E_mass_sum_L0 d t u z B (Int.ofNat d) (V_mass_sum_L0.mk (0 : Int) (fun j0 => 0))))))
theorem e_mass_sum (d : Nat) (t u z B : Nat → Nat) : outB (evFnM Try.prog false menv53 [] [] 96 (Ann.two Ann.no (Ann.two Ann.no (Ann.two (Ann.two Ann.no (Ann.one (Ann.loop F_mass_sum_L0))) Ann.no))) Try.f34 [AV.view d 4 (fun i0 => [AV.float (t i0), AV.float (u i0), AV.float (z i0), AV.float (B i0)]), AV.func 35 [] []] []) = some (q_mass_sum d t u z B, AV.float (s_mass_sum_0 d t u z B)) := by kernel_rfl
def o_mass_sum (d : Nat) (t u z B : Nat → Nat) : Bool := (((Nat.ble d d) && (o_num_Sum d ((L_mass_sum_L0 d t u z B (Int.ofNat d) (V_mass_sum_L0.mk (0 : Int) (fun j0 => 0))).v1))) && (((ile (Int.ofNat d) (Int.ofNat d)) && ((ile ((8 : Int) * (Int.ofNat d)) (281474976710656 : Int)) && (ile (Int.ofNat d) (9223372036854775807 : Int)))) && (E_mass_sum_L0 d t u z B (Int.ofNat d) (V_mass_sum_L0.mk (0 : Int) (fun j0 => 0)))))
def S_mass_sum : List AV → Option (Ob × AV)
  | [AV.view d 4 C, AV.func 35 [] []] => some (Ob.both (Ob.bit (allB fun i => isNrm [Ck.f, Ck.f, Ck.f, Ck.f] (C i))) (Ob.bit (o_mass_sum d (fL C 0) (fL C 1) (fL C 2) (fL C 3))), AV.float (s_mass_sum_0 d (fL C 0) (fL C 1) (fL C 2) (fL C 3)))
  | _ => none
theorem ob_mass_sum (d : Nat) (t u z B : Nat → Nat) (ho : o_mass_sum d t u z B = true) : q_mass_sum d t u z B = true := by
  unfold q_mass_sum
  unfold o_mass_sum at ho
  simp only [allB_true, eqT_self, mrgB_self, Bool.true_and, Bool.and_true] at ho ⊢
  exact ho
theorem t_mass_sum : SOkM Try.prog false (34, fun args => match S_mass_sum args with | some (o, v) => some (o, v, []) | none => none) := SOkM.flat (N := 96) menv53_ok Try.func34 ann_mass_sum Try.call34 fun args o v h ho => by
  unfold S_mass_sum at h
  split at h
  · rename_i d C
    cases h
    rw [Ob.both_ok, Bool.and_eq_true] at ho
    obtain ⟨hn, ho2⟩ := ho
    have n0 := hn
    simp only [Ob.ok] at n0
    replace n0 := nrm_fun n0
    have this := show outB (evFnM Try.prog false menv53 [] [] 96 (Ann.two Ann.no (Ann.two Ann.no (Ann.two (Ann.two Ann.no (Ann.one (Ann.loop F_mass_sum_L0))) Ann.no))) Try.f34 [AV.view d 4 (fun i => mkN [Ck.f, Ck.f, Ck.f, Ck.f] (C i) 0), AV.func 35 [] []] []) = _ from e_mass_sum d (fL C 0) (fL C 1) (fL C 2) (fL C 3)
    rw [(ob_mass_sum d (fL C 0) (fL C 1) (fL C 2) (fL C 3) ho2)] at this
    rw [n0] at this
    exact ⟨this, rfl⟩
  · cases h
def c_mass_sum : SFM := fun args => match S_mass_sum args with | some (o, v) => some (o, v, []) | none => none
theorem c_mass_sum_ok : SOkM Try.prog false (34, c_mass_sum) := t_mass_sum
def mss53 : List (FuncId × SFM) := (34, c_mass_sum) :: mss52
def menv54 : EnvM := mkEnvM mxs mss53 mws2
theorem mss53_ok : All (SOkM Try.prog false) mss53 := All.cons c_mass_sum_ok mss52_ok
theorem menv54_ok : menv54.Ok Try.prog false := mkEnvM_ok mxs_ok mss53_ok mws2_ok
-- tumble/mass.Join$2
theorem ann_mass_Join_2 : FnOk Try.prog false 0 Try.f36 Ann.no := (fnNo _)
def s_mass_Join_2_0 (e g m q : Nat) : Nat := (fmul e m)
theorem e_mass_Join_2 (e g m q : Nat) : outB (evFnM Try.prog false menv54 [] [] 96 Ann.no Try.f36 [AV.agg [AV.float e, AV.float g, AV.float m, AV.float q]] []) = some (true, AV.float (s_mass_Join_2_0 e g m q)) := by kernel_rfl
def S_mass_Join_2 : List AV → Option (Ob × AV)
  | [AV.agg [AV.float e, AV.float g, AV.float m, AV.float q]] => some (Ob.tt, AV.float (s_mass_Join_2_0 e g m q))
  | _ => none
theorem t_mass_Join_2 : SOkM Try.prog false (36, fun args => match S_mass_Join_2 args with | some (o, v) => some (o, v, []) | none => none) := SOkM.flat (N := 96) menv54_ok Try.func36 ann_mass_Join_2 Try.call36 fun args o v h ho => by
  unfold S_mass_Join_2 at h
  split at h
  · rename_i e g m q
    cases h
    have ho2 := ho
    have this := show outB (evFnM Try.prog false menv54 [] [] 96 Ann.no Try.f36 [AV.agg [AV.float e, AV.float g, AV.float m, AV.float q]] []) = _ from e_mass_Join_2 e g m q
    exact ⟨this, rfl⟩
  · cases h
def c_mass_Join_2 : SFM := fun args => match S_mass_Join_2 args with | some (o, v) => some (o, v, []) | none => none
theorem c_mass_Join_2_ok : SOkM Try.prog false (36, c_mass_Join_2) := t_mass_Join_2
def mss54 : List (FuncId × SFM) := (36, c_mass_Join_2) :: mss53
def menv55 : EnvM := mkEnvM mxs mss54 mws2
theorem mss54_ok : All (SOkM Try.prog false) mss54 := All.cons c_mass_Join_2_ok mss53_ok
theorem menv55_ok : menv55.Ok Try.prog false := mkEnvM_ok mxs_ok mss54_ok mws2_ok
-- tumble/mass.sum
-- a loop of tumble/mass.sum
structure V_mass_sum_v1_L0 where
  v0 : Int
  v1 : (Nat → Nat)
def tpl_mass_sum_v1_L0 : List AV := (AV.top :: AV.nul :: AV.top :: AV.top :: AV.top :: AV.nul :: AV.top :: AV.top :: AV.top :: AV.top :: AV.top :: AV.nul :: AV.nul :: AV.nul :: tpA 13 ([]))
def cts_mass_sum_v1_L0 : List CT := [CT.keep]
def phs_mass_sum_v1_L0 : List Src := []
def T_mass_sum_v1_L0 (j : Nat) (l k n p : Nat → Nat) (r : Int) (x : V_mass_sum_v1_L0) (F0 F1 : Nat → List AV) : List AV × Heap := ((AV.top :: AV.func 36 [] [] :: AV.top :: AV.top :: AV.top :: AV.lst 0 0 1 j j :: AV.top :: AV.top :: AV.top :: AV.top :: AV.top :: AV.view j 4 F0 :: AV.int .i64 r :: AV.int .i64 x.v0 :: tpA 13 ([])), [⟨.sym j 1 F1, 24, 0⟩])
def sh_mass_sum_v1_L0 (j : Nat) (l k n p : Nat → Nat) (r : Int) (x : V_mass_sum_v1_L0) : List AV × Heap := T_mass_sum_v1_L0 j l k n p r x (fun j0 => [AV.float (l j0), AV.float (k j0), AV.float (n j0), AV.float (p j0)]) (fun j0 => [AV.float (x.v1 j0)])
def step_mass_sum_v1_L0 (j : Nat) (l k n p : Nat → Nat) (r : Int) (x : V_mass_sum_v1_L0) : V_mass_sum_v1_L0 := V_mass_sum_v1_L0.mk (IntKind.wrap .i64 (x.v0 + (1 : Int))) (fun j0 => (bif (Nat.beq j0 (Int.toNat x.v0)) then (s_mass_Join_2_0 (l (Int.toNat x.v0)) (k (Int.toNat x.v0)) (n (Int.toNat x.v0)) (p (Int.toNat x.v0))) else (x.v1 j0)))
def go_mass_sum_v1_L0 (j : Nat) (l k n p : Nat → Nat) (r : Int) (x : V_mass_sum_v1_L0) : Bool := (bif (!(ilt x.v0 r)) then false else true)
def ok_mass_sum_v1_L0 (j : Nat) (l k n p : Nat → Nat) (r : Int) (x : V_mass_sum_v1_L0) : Bool := (mrgB (!(ilt x.v0 r)) true ((Nat.blt (Int.toNat x.v0) j) && (((ile (0 : Int) x.v0) && (Nat.blt (Int.toNat x.v0) j)) && ((ile (0 : Int) x.v0) && (Nat.blt (Int.toNat x.v0) j)))))
def L_mass_sum_v1_L0 (j : Nat) (l k n p : Nat → Nat) (r : Int) (x : V_mass_sum_v1_L0) : V_mass_sum_v1_L0 := lastL (ok_mass_sum_v1_L0 j l k n p r) (go_mass_sum_v1_L0 j l k n p r) (step_mass_sum_v1_L0 j l k n p r) x
def E_mass_sum_v1_L0 (j : Nat) (l k n p : Nat → Nat) (r : Int) (x : V_mass_sum_v1_L0) : Bool := endsL (ok_mass_sum_v1_L0 j l k n p r) (go_mass_sum_v1_L0 j l k n p r) (step_mass_sum_v1_L0 j l k n p r) x
theorem all_mass_sum_v1_L0 (j : Nat) (l k n p : Nat → Nat) (r : Int) (x : V_mass_sum_v1_L0) : rnd Try.prog false menv55 [] [] 96 Ann.no (subC [1, 1, 0, 1, 0, 0] (codeOf Try.f34)) 0 [⟨some 0, 0, 0, []⟩] tpl_mass_sum_v1_L0 cts_mass_sum_v1_L0 (true :: false :: true :: true :: true :: false :: true :: true :: true :: true :: true :: false :: false :: tpB 14 ([])) [true] (sh_mass_sum_v1_L0 j l k n p r x) = (true, true, go_mass_sum_v1_L0 j l k n p r x, ok_mass_sum_v1_L0 j l k n p r x, true, sh_mass_sum_v1_L0 j l k n p r (step_mass_sum_v1_L0 j l k n p r x), true) := by kernel_rfl
def fam_mass_sum_v1_L0 (j : Nat) (l k n p : Nat → Nat) (r : Int) : Fam Try.prog false menv55 [] [] 96 0 Ann.no (subC [1, 1, 0, 1, 0, 0] (codeOf Try.f34)) V_mass_sum_v1_L0 where
  sh := sh_mass_sum_v1_L0 j l k n p r
  ok := ok_mass_sum_v1_L0 j l k n p r
  go := go_mass_sum_v1_L0 j l k n p r
  step := step_mass_sum_v1_L0 j l k n p r
  chg := (true :: false :: true :: true :: true :: false :: true :: true :: true :: true :: true :: false :: false :: tpB 14 ([]))
  chgH := [true]
  tpl := tpl_mass_sum_v1_L0
  cts := cts_mass_sum_v1_L0
  keep := 0
  srcs := [⟨some 0, 0, 0, []⟩]
  ann := (annNo (subC [1, 1, 0, 1, 0, 0] (codeOf Try.f34)))
  le := by kernel_rfl
  kept := by kernel_rfl
  keptB := by kernel_rfl
  all := all_mass_sum_v1_L0 j l k n p r
  len := fun x => by kernel_rfl
  head := fun x y => by kernel_rfl
  con := fun x y => by kernel_rfl
  conH := fun x y => by kernel_rfl
def F_mass_sum_v1_L0 : St → Option Ch := fun s => cond (Nat.beq s.tm.length 27 && Nat.beq s.H.length 1) (tkTops 1 (alL tpl_mass_sum_v1_L0 s.tm) fun t0 => tkCons t0 fun g t1 => tkFunc 36 g fun l2 l3 => tkNil l2 <| tkNil l3 <| tkTops 3 t1 fun t4 => tkCons t4 fun D t5 => tkLst 0 0 1 D fun s0 s1 => tkTops 5 t5 fun t6 => tkCons t6 fun J t7 => tkView 4 J fun s2 f0 => tkCons t7 fun M t8 => tkI .i64 M fun s7 => tkCons t8 fun L t9 => tkI .i64 L fun s8 => tkTops 13 t9 fun t10 => tkNil t10 <| tkCons (alH cts_mass_sum_v1_L0 (s.H ++ List.map phan phs_mass_sum_v1_L0)) fun b11 t11 => tkSym 24 0 1 b11 fun s9 f1 => tkNil t11 <| Fam.out (fam_mass_sum_v1_L0 s0 (fL f0 0) (fL f0 1) (fL f0 2) (fL f0 3) s7) s (((((allB fun i => isNrm [Ck.f, Ck.f, Ck.f, Ck.f] (f0 i)) && (allB fun i => isNrm [Ck.f] (f1 i))) && (eqT s1 s0)) && (eqT s2 s0)) && (eqT s9 s0)) (V_mass_sum_v1_L0.mk s8 (fL f1 0))) none
theorem F_mass_sum_v1_L0_ok : ∀ s ch, F_mass_sum_v1_L0 s = some ch → AllI s ch ∧ LoopSpec Try.prog false 0 (subC [1, 1, 0, 1, 0, 0] (codeOf Try.f34)) s (sel ch) := by
  intro s ch h
  unfold F_mass_sum_v1_L0 at h
  obtain ⟨hl, h0⟩ := cond_some h rfl
  clear h
  obtain ⟨hl, hb⟩ := and_beq2 hl
  obtain ⟨t0, e0, h1⟩ := tkTops_some h0
  obtain ⟨g, t1, rfl, h2⟩ := tkCons_some h1
  obtain ⟨l2, l3, rfl, h3⟩ := tkFunc_some h2
  obtain ⟨rfl, h4⟩ := tkNil_some h3
  obtain ⟨rfl, h5⟩ := tkNil_some h4
  obtain ⟨t4, rfl, h6⟩ := tkTops_some h5
  obtain ⟨D, t5, rfl, h7⟩ := tkCons_some h6
  obtain ⟨s0, s1, rfl, h8⟩ := tkLst_some h7
  obtain ⟨t6, rfl, h9⟩ := tkTops_some h8
  obtain ⟨J, t7, rfl, h10⟩ := tkCons_some h9
  obtain ⟨s2, f0, rfl, h11⟩ := tkView_some h10
  obtain ⟨M, t8, rfl, h12⟩ := tkCons_some h11
  obtain ⟨s7, rfl, h13⟩ := tkI_some h12
  obtain ⟨L, t9, rfl, h14⟩ := tkCons_some h13
  obtain ⟨s8, rfl, h15⟩ := tkI_some h14
  obtain ⟨t10, rfl, h16⟩ := tkTops_some h15
  obtain ⟨rfl, h17⟩ := tkNil_some h16
  obtain ⟨b11, t11, eH, h18⟩ := tkCons_some h17
  obtain ⟨s9, f1, rfl, h19⟩ := tkSym_some h18
  obtain ⟨rfl, h20⟩ := tkNil_some h19
  refine Fam.spec menv55_ok (fam_mass_sum_v1_L0 s0 (fL f0 0) (fL f0 1) (fL f0 2) (fL f0 3) s7) (phs := phs_mass_sum_v1_L0) (hl.trans (by kernel_rfl)) (hb.trans (by kernel_rfl)) ?_ ?_ h20
  · rw [← hdr_alH cts_mass_sum_v1_L0 (s.H ++ List.map phan phs_mass_sum_v1_L0), eH]; kernel_rfl
  · intro hq
    simp only [Bool.and_eq_true] at hq
    obtain ⟨⟨⟨⟨hq0, hq1⟩, hq2⟩, hq3⟩, hq4⟩ := hq
    have n0 := nrm_fun hq0
    have n1 := nrm_fun hq1
    have hx := eqT_eq hq2; subst s1
    have hx := eqT_eq hq3; subst s2
    have hx := eqT_eq hq4; subst s9
    show sh_mass_sum_v1_L0 s0 (fL f0 0) (fL f0 1) (fL f0 2) (fL f0 3) s7 (V_mass_sum_v1_L0.mk s8 (fL f1 0)) = (alL tpl_mass_sum_v1_L0 s.tm, alH cts_mass_sum_v1_L0 (s.H ++ List.map phan phs_mass_sum_v1_L0))
    rw [e0, eH]
    refine Eq.trans (show sh_mass_sum_v1_L0 s0 (fL f0 0) (fL f0 1) (fL f0 2) (fL f0 3) s7 (V_mass_sum_v1_L0.mk s8 (fL f1 0)) = T_mass_sum_v1_L0 s0 (fL f0 0) (fL f0 1) (fL f0 2) (fL f0 3) s7 (V_mass_sum_v1_L0.mk s8 (fL f1 0)) (fun i => mkN [Ck.f, Ck.f, Ck.f, Ck.f] (f0 i) 0) (fun i => mkN [Ck.f] (f1 i) 0) by kernel_rfl) ?_
    rw [n0, n1]
    kernel_rfl
theorem ann_mass_sum_v1 : FnOk Try.prog false 0 Try.f34 (Ann.two Ann.no (Ann.two Ann.no (Ann.two (Ann.two Ann.no (Ann.one (Ann.loop F_mass_sum_v1_L0))) Ann.no))) := (fnOk_of (c := codeOf Try.f34) (by kernel_rfl) (annSeq (a := (subC [0] (codeOf Try.f34))) (b := (subC [1] (codeOf Try.f34))) (by kernel_rfl) (annNo (subC [0] (codeOf Try.f34))) (annSeq (a := (subC [1, 0] (codeOf Try.f34))) (b := (subC [1, 1] (codeOf Try.f34))) (by kernel_rfl) (annNo (subC [1, 0] (codeOf Try.f34))) (annSeq (a := (subC [1, 1, 0] (codeOf Try.f34))) (b := (subC [1, 1, 1] (codeOf Try.f34))) (by kernel_rfl) (annSeq (a := (subC [1, 1, 0, 0] (codeOf Try.f34))) (b := (subC [1, 1, 0, 1] (codeOf Try.f34))) (by kernel_rfl) (annNo (subC [1, 1, 0, 0] (codeOf Try.f34))) (annBlock (a := (subC [1, 1, 0, 1, 0] (codeOf Try.f34))) (i := 0) (by kernel_rfl) (annLoop (a := (subC [1, 1, 0, 1, 0, 0] (codeOf Try.f34))) (by kernel_rfl) F_mass_sum_v1_L0_ok))) (annNo (subC [1, 1, 1] (codeOf Try.f34)))))))
def s_mass_sum_v1_0 (d : Nat) (t u z B : Nat → Nat) : Nat := (s_num_Sum_0 d ((L_mass_sum_v1_L0 d t u z B (Int.ofNat d) (V_mass_sum_v1_L0.mk (0 : Int) (fun j0 => 0))).v1))
def q_mass_sum_v1 (d : Nat) (t u z B : Nat → Nat) : Bool := (((Nat.ble d d) && ((allB fun _ => true) && (o_num_Sum d ((L_mass_sum_v1_L0 d t u z B (Int.ofNat d) (V_mass_sum_v1_L0.mk (0 : Int) (fun j0 => 0))).v1)))) && (((ile (Int.ofNat d) (Int.ofNat d)) && ((ile ((8 : Int) * (Int.ofNat d)) (281474976710656 : Int)) && (ile (Int.ofNat d) (9223372036854775807 : Int)))) && ((((((allB fun _ => true) && (allB fun _ => true)) && (eqT d d)) && (eqT d d)) && (eqT d d)) && (E_mass_sum_v1_L0 d t u z B (Int.ofNat d) (V_mass_sum_v1_L0.mk (0 : Int) (fun j0 => 0))))))
theorem e_mass_sum_v1 (d : Nat) (t u z B : Nat → Nat) : outB (evFnM Try.prog false menv55 [] [] 96 (Ann.two Ann.no (Ann.two Ann.no (Ann.two (Ann.two Ann.no (Ann.one (Ann.loop F_mass_sum_v1_L0))) Ann.no))) Try.f34 [AV.view d 4 (fun i0 => [AV.float (t i0), AV.float (u i0), AV.float (z i0), AV.float (B i0)]), AV.func 36 [] []] []) = some (q_mass_sum_v1 d t u z B, AV.float (s_mass_sum_v1_0 d t u z B)) := by kernel_rfl
def o_mass_sum_v1 (d : Nat) (t u z B : Nat → Nat) : Bool := (((Nat.ble d d) && (o_num_Sum d ((L_mass_sum_v1_L0 d t u z B (Int.ofNat d) (V_mass_sum_v1_L0.mk (0 : Int) (fun j0 => 0))).v1))) && (((ile (Int.ofNat d) (Int.ofNat d)) && ((ile ((8 : Int) * (Int.ofNat d)) (281474976710656 : Int)) && (ile (Int.ofNat d) (9223372036854775807 : Int)))) && (E_mass_sum_v1_L0 d t u z B (Int.ofNat d) (V_mass_sum_v1_L0.mk (0 : Int) (fun j0 => 0)))))
def S_mass_sum_v1 : List AV → Option (Ob × AV)
  | [AV.view d 4 C, AV.func 36 [] []] => some (Ob.both (Ob.bit (allB fun i => isNrm [Ck.f, Ck.f, Ck.f, Ck.f] (C i))) (Ob.bit (o_mass_sum_v1 d (fL C 0) (fL C 1) (fL C 2) (fL C 3))), AV.float (s_mass_sum_v1_0 d (fL C 0) (fL C 1) (fL C 2) (fL C 3)))
  | _ => none
theorem ob_mass_sum_v1 (d : Nat) (t u z B : Nat → Nat) (ho : o_mass_sum_v1 d t u z B = true) : q_mass_sum_v1 d t u z B = true := by
  unfold q_mass_sum_v1
  unfold o_mass_sum_v1 at ho
  simp only [allB_true, eqT_self, mrgB_self, Bool.true_and, Bool.and_true] at ho ⊢
  exact ho
theorem t_mass_sum_v1 : SOkM Try.prog false (34, fun args => match S_mass_sum_v1 args with | some (o, v) => some (o, v, []) | none => none) := SOkM.flat (N := 96) menv55_ok Try.func34 ann_mass_sum_v1 Try.call34 fun args o v h ho => by
  unfold S_mass_sum_v1 at h
  split at h
  · rename_i d C
    cases h
    rw [Ob.both_ok, Bool.and_eq_true] at ho
    obtain ⟨hn, ho2⟩ := ho
    have n0 := hn
    simp only [Ob.ok] at n0
    replace n0 := nrm_fun n0
    have this := show outB (evFnM Try.prog false menv55 [] [] 96 (Ann.two Ann.no (Ann.two Ann.no (Ann.two (Ann.two Ann.no (Ann.one (Ann.loop F_mass_sum_v1_L0))) Ann.no))) Try.f34 [AV.view d 4 (fun i => mkN [Ck.f, Ck.f, Ck.f, Ck.f] (C i) 0), AV.func 36 [] []] []) = _ from e_mass_sum_v1 d (fL C 0) (fL C 1) (fL C 2) (fL C 3)
    rw [(ob_mass_sum_v1 d (fL C 0) (fL C 1) (fL C 2) (fL C 3) ho2)] at this
    rw [n0] at this
    exact ⟨this, rfl⟩
  · cases h
def c_mass_sum_v1 : SFM := altS (fun args => match S_mass_sum_v1 args with | some (o, v) => some (o, v, []) | none => none) (c_mass_sum)
theorem c_mass_sum_v1_ok : SOkM Try.prog false (34, c_mass_sum_v1) := (SOkM.alt t_mass_sum_v1 c_mass_sum_ok)
def mss55 : List (FuncId × SFM) := (34, c_mass_sum_v1) :: mss54
def menv56 : EnvM := mkEnvM mxs mss55 mws2
theorem mss55_ok : All (SOkM Try.prog false) mss55 := All.cons c_mass_sum_v1_ok mss54_ok
theorem menv56_ok : menv56.Ok Try.prog false := mkEnvM_ok mxs_ok mss55_ok mws2_ok
-- tumble/mass.Join$3
theorem ann_mass_Join_3 : FnOk Try.prog false 0 Try.f37 Ann.no := (fnNo _)
def s_mass_Join_3_0 (e g m q : Nat) : Nat := (fmul e q)
theorem e_mass_Join_3 (e g m q : Nat) : outB (evFnM Try.prog false menv56 [] [] 96 Ann.no Try.f37 [AV.agg [AV.float e, AV.float g, AV.float m, AV.float q]] []) = some (true, AV.float (s_mass_Join_3_0 e g m q)) := by kernel_rfl
def S_mass_Join_3 : List AV → Option (Ob × AV)
  | [AV.agg [AV.float e, AV.float g, AV.float m, AV.float q]] => some (Ob.tt, AV.float (s_mass_Join_3_0 e g m q))
  | _ => none
theorem t_mass_Join_3 : SOkM Try.prog false (37, fun args => match S_mass_Join_3 args with | some (o, v) => some (o, v, []) | none => none) := SOkM.flat (N := 96) menv56_ok Try.func37 ann_mass_Join_3 Try.call37 fun args o v h ho => by
  unfold S_mass_Join_3 at h
  split at h
  · rename_i e g m q
    cases h
    have ho2 := ho
    have this := show outB (evFnM Try.prog false menv56 [] [] 96 Ann.no Try.f37 [AV.agg [AV.float e, AV.float g, AV.float m, AV.float q]] []) = _ from e_mass_Join_3 e g m q
    exact ⟨this, rfl⟩
  · cases h
def c_mass_Join_3 : SFM := fun args => match S_mass_Join_3 args with | some (o, v) => some (o, v, []) | none => none
theorem c_mass_Join_3_ok : SOkM Try.prog false (37, c_mass_Join_3) := t_mass_Join_3
def mss56 : List (FuncId × SFM) := (37, c_mass_Join_3) :: mss55
def menv57 : EnvM := mkEnvM mxs mss56 mws2
theorem mss56_ok : All (SOkM Try.prog false) mss56 := All.cons c_mass_Join_3_ok mss55_ok
theorem menv57_ok : menv57.Ok Try.prog false := mkEnvM_ok mxs_ok mss56_ok mws2_ok
-- tumble/mass.sum
-- a loop of tumble/mass.sum
structure V_mass_sum_v2_L0 where
  v0 : Int
  v1 : (Nat → Nat)
def tpl_mass_sum_v2_L0 : List AV := (AV.top :: AV.nul :: AV.top :: AV.top :: AV.top :: AV.nul :: AV.top :: AV.top :: AV.top :: AV.top :: AV.top :: AV.nul :: AV.nul :: AV.nul :: tpA 13 ([]))
def cts_mass_sum_v2_L0 : List CT := [CT.keep]
def phs_mass_sum_v2_L0 : List Src := []
def T_mass_sum_v2_L0 (j : Nat) (l k n p : Nat → Nat) (r : Int) (x : V_mass_sum_v2_L0) (F0 F1 : Nat → List AV) : List AV × Heap := ((AV.top :: AV.func 37 [] [] :: AV.top :: AV.top :: AV.top :: AV.lst 0 0 1 j j :: AV.top :: AV.top :: AV.top :: AV.top :: AV.top :: AV.view j 4 F0 :: AV.int .i64 r :: AV.int .i64 x.v0 :: tpA 13 ([])), [⟨.sym j 1 F1, 24, 0⟩])
def sh_mass_sum_v2_L0 (j : Nat) (l k n p : Nat → Nat) (r : Int) (x : V_mass_sum_v2_L0) : List AV × Heap := T_mass_sum_v2_L0 j l k n p r x (fun j0 => [AV.float (l j0), AV.float (k j0), AV.float (n j0), AV.float (p j0)]) (fun j0 => [AV.float (x.v1 j0)])
def step_mass_sum_v2_L0 (j : Nat) (l k n p : Nat → Nat) (r : Int) (x : V_mass_sum_v2_L0) : V_mass_sum_v2_L0 := V_mass_sum_v2_L0.mk (IntKind.wrap .i64 (x.v0 + (1 : Int))) (fun j0 => (bif (Nat.beq j0 (Int.toNat x.v0)) then (s_mass_Join_3_0 (l (Int.toNat x.v0)) (k (Int.toNat x.v0)) (n (Int.toNat x.v0)) (p (Int.toNat x.v0))) else (x.v1 j0)))
def go_mass_sum_v2_L0 (j : Nat) (l k n p : Nat → Nat) (r : Int) (x : V_mass_sum_v2_L0) : Bool := (bif (!(ilt x.v0 r)) then false else true)
def ok_mass_sum_v2_L0 (j : Nat) (l k n p : Nat → Nat) (r : Int) (x : V_mass_sum_v2_L0) : Bool := (mrgB (!(ilt x.v0 r)) true ((Nat.blt (Int.toNat x.v0) j) && (((ile (0 : Int) x.v0) && (Nat.blt (Int.toNat x.v0) j)) && ((ile (0 : Int) x.v0) && (Nat.blt (Int.toNat x.v0) j)))))
def L_mass_sum_v2_L0 (j : Nat) (l k n p : Nat → Nat) (r : Int) (x : V_mass_sum_v2_L0) : V_mass_sum_v2_L0 := lastL (ok_mass_sum_v2_L0 j l k n p r) (go_mass_sum_v2_L0 j l k n p r) (step_mass_sum_v2_L0 j l k n p r) x
def E_mass_sum_v2_L0 (j : Nat) (l k n p : Nat → Nat) (r : Int) (x : V_mass_sum_v2_L0) : Bool := endsL (ok_mass_sum_v2_L0 j l k n p r) (go_mass_sum_v2_L0 j l k n p r) (step_mass_sum_v2_L0 j l k n p r) x
theorem all_mass_sum_v2_L0 (j : Nat) (l k n p : Nat → Nat) (r : Int) (x : V_mass_sum_v2_L0) : rnd Try.prog false menv57 [] [] 96 Ann.no (subC [1, 1, 0, 1, 0, 0] (codeOf Try.f34)) 0 [⟨some 0, 0, 0, []⟩] tpl_mass_sum_v2_L0 cts_mass_sum_v2_L0 (true :: false :: true :: true :: true :: false :: true :: true :: true :: true :: true :: false :: false :: tpB 14 ([])) [true] (sh_mass_sum_v2_L0 j l k n p r x) = (true, true, go_mass_sum_v2_L0 j l k n p r x, ok_mass_sum_v2_L0 j l k n p r x, true, sh_mass_sum_v2_L0 j l k n p r (step_mass_sum_v2_L0 j l k n p r x), true) := by kernel_rfl
def fam_mass_sum_v2_L0 (j : Nat) (l k n p : Nat → Nat) (r : Int) : Fam Try.prog false menv57 [] [] 96 0 Ann.no (subC [1, 1, 0, 1, 0, 0] (codeOf Try.f34)) V_mass_sum_v2_L0 where
  sh := sh_mass_sum_v2_L0 j l k n p r
  ok := ok_mass_sum_v2_L0 j l k n p r
  go := go_mass_sum_v2_L0 j l k n p r
  step := step_mass_sum_v2_L0 j l k n p r
  chg := (true :: false :: true :: true :: true :: false :: true :: true :: true :: true :: true :: false :: false :: tpB 14 ([]))
  chgH := [true]
  tpl := tpl_mass_sum_v2_L0
  cts := cts_mass_sum_v2_L0
  keep := 0
  srcs := [⟨some 0, 0, 0, []⟩]
  ann := (annNo (subC [1, 1, 0, 1, 0, 0] (codeOf Try.f34)))
  le := by kernel_rfl
  kept := by kernel_rfl
  keptB := by kernel_rfl
  all := all_mass_sum_v2_L0 j l k n p r
  len := fun x => by kernel_rfl
  head := fun x y => by kernel_rfl
  con := fun x y => by kernel_rfl
  conH := fun x y => by kernel_rfl
def F_mass_sum_v2_L0 : St → Option Ch := fun s => cond (Nat.beq s.tm.length 27 && Nat.beq s.H.length 1) (tkTops 1 (alL tpl_mass_sum_v2_L0 s.tm) fun t0 => tkCons t0 fun g t1 => tkFunc 37 g fun l2 l3 => tkNil l2 <| tkNil l3 <| tkTops 3 t1 fun t4 => tkCons t4 fun D t5 => tkLst 0 0 1 D fun s0 s1 => tkTops 5 t5 fun t6 => tkCons t6 fun J t7 => tkView 4 J fun s2 f0 => tkCons t7 fun M t8 => tkI .i64 M fun s7 => tkCons t8 fun L t9 => tkI .i64 L fun s8 => tkTops 13 t9 fun t10 => tkNil t10 <| tkCons (alH cts_mass_sum_v2_L0 (s.H ++ List.map phan phs_mass_sum_v2_L0)) fun b11 t11 => tkSym 24 0 1 b11 fun s9 f1 => tkNil t11 <| Fam.out (fam_mass_sum_v2_L0 s0 (fL f0 0) (fL f0 1) (fL f0 2) (fL f0 3) s7) s (((((allB fun i => isNrm [Ck.f, Ck.f, Ck.f, Ck.f] (f0 i)) && (allB fun i => isNrm [Ck.f] (f1 i))) && (eqT s1 s0)) && (eqT s2 s0)) && (eqT s9 s0)) (V_mass_sum_v2_L0.mk s8 (fL f1 0))) none
theorem F_mass_sum_v2_L0_ok : ∀ s ch, F_mass_sum_v2_L0 s = some ch → AllI s ch ∧ LoopSpec Try.prog false 0 (subC [1, 1, 0, 1, 0, 0] (codeOf Try.f34)) s (sel ch) := by
  intro s ch h
  unfold F_mass_sum_v2_L0 at h
  obtain ⟨hl, h0⟩ := cond_some h rfl
  clear h
  obtain ⟨hl, hb⟩ := and_beq2 hl
  obtain ⟨t0, e0, h1⟩ := tkTops_some h0
  obtain ⟨g, t1, rfl, h2⟩ := tkCons_some h1
  obtain ⟨l2, l3, rfl, h3⟩ := tkFunc_some h2
  obtain ⟨rfl, h4⟩ := tkNil_some h3
  obtain ⟨rfl, h5⟩ := tkNil_some h4
  obtain ⟨t4, rfl, h6⟩ := tkTops_some h5
  obtain ⟨D, t5, rfl, h7⟩ := tkCons_some h6
  obtain ⟨s0, s1, rfl, h8⟩ := tkLst_some h7
  obtain ⟨t6, rfl, h9⟩ := tkTops_some h8
  obtain ⟨J, t7, rfl, h10⟩ := tkCons_some h9
  obtain ⟨s2, f0, rfl, h11⟩ := tkView_some h10
  obtain ⟨M, t8, rfl, h12⟩ := tkCons_some h11
  obtain ⟨s7, rfl, h13⟩ := tkI_some h12
  obtain ⟨L, t9, rfl, h14⟩ := tkCons_some h13
  obtain ⟨s8, rfl, h15⟩ := tkI_some h14
  obtain ⟨t10, rfl, h16⟩ := tkTops_some h15
  obtain ⟨rfl, h17⟩ := tkNil_some h16
  obtain ⟨b11, t11, eH, h18⟩ := tkCons_some h17
  obtain ⟨s9, f1, rfl, h19⟩ := tkSym_some h18
  obtain ⟨rfl, h20⟩ := tkNil_some h19
  refine Fam.spec menv57_ok (fam_mass_sum_v2_L0 s0 (fL f0 0) (fL f0 1) (fL f0 2) (fL f0 3) s7) (phs := phs_mass_sum_v2_L0) (hl.trans (by kernel_rfl)) (hb.trans (by kernel_rfl)) ?_ ?_ h20
  · rw [← hdr_alH cts_mass_sum_v2_L0 (s.H ++ List.map phan phs_mass_sum_v2_L0), eH]; kernel_rfl
  · intro hq
    simp only [Bool.and_eq_true] at hq
    obtain ⟨⟨⟨⟨hq0, hq1⟩, hq2⟩, hq3⟩, hq4⟩ := hq
    have n0 := nrm_fun hq0
    have n1 := nrm_fun hq1
    have hx := eqT_eq hq2; subst s1
    have hx := eqT_eq hq3; subst s2
    have hx := eqT_eq hq4; subst s9
    show sh_mass_sum_v2_L0 s0 (fL f0 0) (fL f0 1) (fL f0 2) (fL f0 3) s7 (V_mass_sum_v2_L0.mk s8 (fL f1 0)) = (alL tpl_mass_sum_v2_L0 s.tm, alH cts_mass_sum_v2_L0 (s.H ++ List.map phan phs_mass_sum_v2_L0))
    rw [e0, eH]
    refine Eq.trans (show sh_mass_sum_v2_L0 s0 (fL f0 0) (fL f0 1) (fL f0 2) (fL f0 3) s7 (V_mass_sum_v2_L0.mk s8 (fL f1 0)) = T_mass_sum_v2_L0 s0 (fL f0 0) (fL f0 1) (fL f0 2) (fL f0 3) s7 (V_mass_sum_v2_L0.mk s8 (fL f1 0)) (fun i => mkN [Ck.f, Ck.f, Ck.f, Ck.f] (f0 i) 0) (fun i => mkN [Ck.f] (f1 i) 0) by kernel_rfl) ?_
    rw [n0, n1]
    kernel_rfl
theorem ann_mass_sum_v2 : FnOk Try.prog false 0 Try.f34 (Ann.two Ann.no (Ann.two Ann.no (Ann.two (Ann.two Ann.no (Ann.one (Ann.loop F_mass_sum_v2_L0))) Ann.no))) := (fnOk_of (c := codeOf Try.f34) (by kernel_rfl) (annSeq (a := (subC [0] (codeOf Try.f34))) (b := (subC [1] (codeOf Try.f34))) (by kernel_rfl) (annNo (subC [0] (codeOf Try.f34))) (annSeq (a := (subC [1, 0] (codeOf Try.f34))) (b := (subC [1, 1] (codeOf Try.f34))) (by kernel_rfl) (annNo (subC [1, 0] (codeOf Try.f34))) (annSeq (a := (subC [1, 1, 0] (codeOf Try.f34))) (b := (subC [1, 1, 1] (codeOf Try.f34))) (by kernel_rfl) (annSeq (a := (subC [1, 1, 0, 0] (codeOf Try.f34))) (b := (subC [1, 1, 0, 1] (codeOf Try.f34))) (by kernel_rfl) (annNo (subC [1, 1, 0, 0] (codeOf Try.f34))) (annBlock (a := (subC [1, 1, 0, 1, 0] (codeOf Try.f34))) (i := 0) (by kernel_rfl) (annLoop (a := (subC [1, 1, 0, 1, 0, 0] (codeOf Try.f34))) (by kernel_rfl) F_mass_sum_v2_L0_ok))) (annNo (subC [1, 1, 1] (codeOf Try.f34)))))))
def s_mass_sum_v2_0 (d : Nat) (t u z B : Nat → Nat) : Nat := (s_num_Sum_0 d ((L_mass_sum_v2_L0 d t u z B (Int.ofNat d) (V_mass_sum_v2_L0.mk (0 : Int) (fun j0 => 0))).v1))
def q_mass_sum_v2 (d : Nat) (t u z B : Nat → Nat) : Bool := (((Nat.ble d d) && ((allB fun _ => true) && (o_num_Sum d ((L_mass_sum_v2_L0 d t u z B (Int.ofNat d) (V_mass_sum_v2_L0.mk (0 : Int) (fun j0 => 0))).v1)))) && (((ile (Int.ofNat d) (Int.ofNat d)) && ((ile ((8 : Int) * (Int.ofNat d)) (281474976710656 : Int)) && (ile (Int.ofNat d) (9223372036854775807 : Int)))) && ((((((allB fun _ => true) && (allB fun _ => true)) && (eqT d d)) && (eqT d d)) && (eqT d d)) && (E_mass_sum_v2_L0 d t u z B (Int.ofNat d) (V_mass_sum_v2_L0.mk (0 : Int) (fun j0 => 0))))))
theorem e_mass_sum_v2 (d : Nat) (t u z B : Nat → Nat) : outB (evFnM Try.prog false menv57 [] [] 96 (Ann.two Ann.no (Ann.two Ann.no (Ann.two (Ann.two Ann.no (Ann.one (Ann.loop F_mass_sum_v2_L0))) Ann.no))) Try.f34 [AV.view d 4 (fun i0 => [AV.float (t i0), AV.float (u i0), AV.float (z i0), AV.float (B i0)]), AV.func 37 [] []] []) = some (q_mass_sum_v2 d t u z B, AV.float (s_mass_sum_v2_0 d t u z B)) := by kernel_rfl
def o_mass_sum_v2 (d : Nat) (t u z B : Nat → Nat) : Bool := (((Nat.ble d d) && (o_num_Sum d ((L_mass_sum_v2_L0 d t u z B (Int.ofNat d) (V_mass_sum_v2_L0.mk (0 : Int) (fun j0 => 0))).v1))) && (((ile (Int.ofNat d) (Int.ofNat d)) && ((ile ((8 : Int) * (Int.ofNat d)) (281474976710656 : Int)) && (ile (Int.ofNat d) (9223372036854775807 : Int)))) && (E_mass_sum_v2_L0 d t u z B (Int.ofNat d) (V_mass_sum_v2_L0.mk (0 : Int) (fun j0 => 0)))))
def S_mass_sum_v2 : List AV → Option (Ob × AV)
  | [AV.view d 4 C, AV.func 37 [] []] => some (Ob.both (Ob.bit (allB fun i => isNrm [Ck.f, Ck.f, Ck.f, Ck.f] (C i))) (Ob.bit (o_mass_sum_v2 d (fL C 0) (fL C 1) (fL C 2) (fL C 3))), AV.float (s_mass_sum_v2_0 d (fL C 0) (fL C 1) (fL C 2) (fL C 3)))
  | _ => none
theorem ob_mass_sum_v2 (d : Nat) (t u z B : Nat → Nat) (ho : o_mass_sum_v2 d t u z B = true) : q_mass_sum_v2 d t u z B = true := by
  unfold q_mass_sum_v2
  unfold o_mass_sum_v2 at ho
  simp only [allB_true, eqT_self, mrgB_self, Bool.true_and, Bool.and_true] at ho ⊢
  exact ho
theorem t_mass_sum_v2 : SOkM Try.prog false (34, fun args => match S_mass_sum_v2 args with | some (o, v) => some (o, v, []) | none => none) := SOkM.flat (N := 96) menv57_ok Try.func34 ann_mass_sum_v2 Try.call34 fun args o v h ho => by
  unfold S_mass_sum_v2 at h
  split at h
  · rename_i d C
    cases h
    rw [Ob.both_ok, Bool.and_eq_true] at ho
    obtain ⟨hn, ho2⟩ := ho
    have n0 := hn
    simp only [Ob.ok] at n0
    replace n0 := nrm_fun n0
    have this := show outB (evFnM Try.prog false menv57 [] [] 96 (Ann.two Ann.no (Ann.two Ann.no (Ann.two (Ann.two Ann.no (Ann.one (Ann.loop F_mass_sum_v2_L0))) Ann.no))) Try.f34 [AV.view d 4 (fun i => mkN [Ck.f, Ck.f, Ck.f, Ck.f] (C i) 0), AV.func 37 [] []] []) = _ from e_mass_sum_v2 d (fL C 0) (fL C 1) (fL C 2) (fL C 3)
    rw [(ob_mass_sum_v2 d (fL C 0) (fL C 1) (fL C 2) (fL C 3) ho2)] at this
    rw [n0] at this
    exact ⟨this, rfl⟩
  · cases h
def c_mass_sum_v2 : SFM := altS (fun args => match S_mass_sum_v2 args with | some (o, v) => some (o, v, []) | none => none) (c_mass_sum_v1)
theorem c_mass_sum_v2_ok : SOkM Try.prog false (34, c_mass_sum_v2) := (SOkM.alt t_mass_sum_v2 c_mass_sum_v1_ok)
def mss57 : List (FuncId × SFM) := (34, c_mass_sum_v2) :: mss56
def menv58 : EnvM := mkEnvM mxs mss57 mws2
theorem mss57_ok : All (SOkM Try.prog false) mss57 := All.cons c_mass_sum_v2_ok mss56_ok
theorem menv58_ok : menv58.Ok Try.prog false := mkEnvM_ok mxs_ok mss57_ok mws2_ok
-- tumble/vec.Sub
theorem ann_vec_Sub : FnOk Try.prog false 0 Try.f56 Ann.no := (fnNo _)
def s_vec_Sub_0 (e g m q : Nat) : Nat := (fsub e m)
def s_vec_Sub_1 (e g m q : Nat) : Nat := (fsub g q)
theorem e_vec_Sub (e g m q : Nat) : outB (evFnM Try.prog false menv58 [] [] 96 Ann.no Try.f56 [AV.agg [AV.float e, AV.float g], AV.agg [AV.float m, AV.float q]] []) = some (true, AV.agg [AV.float (s_vec_Sub_0 e g m q), AV.float (s_vec_Sub_1 e g m q)]) := by kernel_rfl
def S_vec_Sub : List AV → Option (Ob × AV)
  | [AV.agg [AV.float e, AV.float g], AV.agg [AV.float m, AV.float q]] => some (Ob.tt, AV.agg [AV.float (s_vec_Sub_0 e g m q), AV.float (s_vec_Sub_1 e g m q)])
  | _ => none
theorem t_vec_Sub : SOkM Try.prog false (56, fun args => match S_vec_Sub args with | some (o, v) => some (o, v, []) | none => none) := SOkM.flat (N := 96) menv58_ok Try.func56 ann_vec_Sub Try.call56 fun args o v h ho => by
  unfold S_vec_Sub at h
  split at h
  · rename_i e g m q
    cases h
    have ho2 := ho
    have this := show outB (evFnM Try.prog false menv58 [] [] 96 Ann.no Try.f56 [AV.agg [AV.float e, AV.float g], AV.agg [AV.float m, AV.float q]] []) = _ from e_vec_Sub e g m q
    exact ⟨this, rfl⟩
  · cases h
def c_vec_Sub : SFM := fun args => match S_vec_Sub args with | some (o, v) => some (o, v, []) | none => none
theorem c_vec_Sub_ok : SOkM Try.prog false (56, c_vec_Sub) := t_vec_Sub
def mss58 : List (FuncId × SFM) := (56, c_vec_Sub) :: mss57
def menv59 : EnvM := mkEnvM mxs mss58 mws2
theorem mss58_ok : All (SOkM Try.prog false) mss58 := All.cons c_vec_Sub_ok mss57_ok
theorem menv59_ok : menv59.Ok Try.prog false := mkEnvM_ok mxs_ok mss58_ok mws2_ok
-- tumble/vec.Dot
theorem ann_vec_Dot : FnOk Try.prog false 0 Try.f76 Ann.no := (fnNo _)
def s_vec_Dot_0 (e g m q : Nat) : Nat := (fadd (fmul e m) (fmul g q))
theorem e_vec_Dot (e g m q : Nat) : outB (evFnM Try.prog false menv59 [] [] 96 Ann.no Try.f76 [AV.agg [AV.float e, AV.float g], AV.agg [AV.float m, AV.float q]] []) = some (true, AV.float (s_vec_Dot_0 e g m q)) := by kernel_rfl
def S_vec_Dot : List AV → Option (Ob × AV)
  | [AV.agg [AV.float e, AV.float g], AV.agg [AV.float m, AV.float q]] => some (Ob.tt, AV.float (s_vec_Dot_0 e g m q))
  | _ => none
theorem t_vec_Dot : SOkM Try.prog false (76, fun args => match S_vec_Dot args with | some (o, v) => some (o, v, []) | none => none) := SOkM.flat (N := 96) menv59_ok Try.func76 ann_vec_Dot Try.call76 fun args o v h ho => by
  unfold S_vec_Dot at h
  split at h
  · rename_i e g m q
    cases h
    have ho2 := ho
    have this := show outB (evFnM Try.prog false menv59 [] [] 96 Ann.no Try.f76 [AV.agg [AV.float e, AV.float g], AV.agg [AV.float m, AV.float q]] []) = _ from e_vec_Dot e g m q
    exact ⟨this, rfl⟩
  · cases h
def c_vec_Dot : SFM := fun args => match S_vec_Dot args with | some (o, v) => some (o, v, []) | none => none
theorem c_vec_Dot_ok : SOkM Try.prog false (76, c_vec_Dot) := t_vec_Dot
def mss59 : List (FuncId × SFM) := (76, c_vec_Dot) :: mss58
def menv60 : EnvM := mkEnvM mxs mss59 mws2
theorem mss59_ok : All (SOkM Try.prog false) mss59 := All.cons c_vec_Dot_ok mss58_ok
theorem menv60_ok : menv60.Ok Try.prog false := mkEnvM_ok mxs_ok mss59_ok mws2_ok
-- tumble/vec.Square
theorem ann_vec_Square : FnOk Try.prog false 0 Try.f68 Ann.no := (fnNo _)
def s_vec_Square_0 (e g : Nat) : Nat := (s_vec_Dot_0 e g e g)
theorem e_vec_Square (e g : Nat) : outB (evFnM Try.prog false menv60 [] [] 96 Ann.no Try.f68 [AV.agg [AV.float e, AV.float g]] []) = some (true, AV.float (s_vec_Square_0 e g)) := by kernel_rfl
def S_vec_Square : List AV → Option (Ob × AV)
  | [AV.agg [AV.float e, AV.float g]] => some (Ob.tt, AV.float (s_vec_Square_0 e g))
  | _ => none
theorem t_vec_Square : SOkM Try.prog false (68, fun args => match S_vec_Square args with | some (o, v) => some (o, v, []) | none => none) := SOkM.flat (N := 96) menv60_ok Try.func68 ann_vec_Square Try.call68 fun args o v h ho => by
  unfold S_vec_Square at h
  split at h
  · rename_i e g
    cases h
    have ho2 := ho
    have this := show outB (evFnM Try.prog false menv60 [] [] 96 Ann.no Try.f68 [AV.agg [AV.float e, AV.float g]] []) = _ from e_vec_Square e g
    exact ⟨this, rfl⟩
  · cases h
def c_vec_Square : SFM := fun args => match S_vec_Square args with | some (o, v) => some (o, v, []) | none => none
theorem c_vec_Square_ok : SOkM Try.prog false (68, c_vec_Square) := t_vec_Square
def mss60 : List (FuncId × SFM) := (68, c_vec_Square) :: mss59
def menv61 : EnvM := mkEnvM mxs mss60 mws2
theorem mss60_ok : All (SOkM Try.prog false) mss60 := All.cons c_vec_Square_ok mss59_ok
theorem menv61_ok : menv61.Ok Try.prog false := mkEnvM_ok mxs_ok mss60_ok mws2_ok
-- tumble/mass.about
theorem ann_mass_about : FnOk Try.prog false 0 Try.f39 Ann.no := (fnNo _)
def s_mass_about_0 (e g m q E D : Nat) : Nat := (fadd g (fmul e (s_vec_Square_0 (s_vec_Sub_0 E D m q) (s_vec_Sub_1 E D m q))))
theorem e_mass_about (e g m q E D : Nat) : outB (evFnM Try.prog false menv61 [] [] 96 Ann.no Try.f39 [AV.agg [AV.float e, AV.float g, AV.float m, AV.float q], AV.agg [AV.float E, AV.float D]] []) = some (true, AV.float (s_mass_about_0 e g m q E D)) := by kernel_rfl
def S_mass_about : List AV → Option (Ob × AV)
  | [AV.agg [AV.float e, AV.float g, AV.float m, AV.float q], AV.agg [AV.float E, AV.float D]] => some (Ob.tt, AV.float (s_mass_about_0 e g m q E D))
  | _ => none
theorem t_mass_about : SOkM Try.prog false (39, fun args => match S_mass_about args with | some (o, v) => some (o, v, []) | none => none) := SOkM.flat (N := 96) menv61_ok Try.func39 ann_mass_about Try.call39 fun args o v h ho => by
  unfold S_mass_about at h
  split at h
  · rename_i e g m q E D
    cases h
    have ho2 := ho
    have this := show outB (evFnM Try.prog false menv61 [] [] 96 Ann.no Try.f39 [AV.agg [AV.float e, AV.float g, AV.float m, AV.float q], AV.agg [AV.float E, AV.float D]] []) = _ from e_mass_about e g m q E D
    exact ⟨this, rfl⟩
  · cases h
def c_mass_about : SFM := fun args => match S_mass_about args with | some (o, v) => some (o, v, []) | none => none
theorem c_mass_about_ok : SOkM Try.prog false (39, c_mass_about) := t_mass_about
def mss61 : List (FuncId × SFM) := (39, c_mass_about) :: mss60
def menv62 : EnvM := mkEnvM mxs mss61 mws2
theorem mss61_ok : All (SOkM Try.prog false) mss61 := All.cons c_mass_about_ok mss60_ok
theorem menv62_ok : menv62.Ok Try.prog false := mkEnvM_ok mxs_ok mss61_ok mws2_ok
-- tumble/mass.Join$4
theorem ann_mass_Join_4 : FnOk Try.prog false 0 Try.f38 Ann.no := (fnNo _)
def s_mass_Join_4_0 (e g m q E D : Nat) : Nat := (s_mass_about_0 e g m q E D)
theorem e_mass_Join_4 (e g m q E D : Nat) : outB (evFnM Try.prog false menv62 [] [] 96 Ann.no Try.f38 [AV.agg [AV.float e, AV.float g, AV.float m, AV.float q], AV.vptr [AV.float E, AV.float D]] []) = some (true, AV.float (s_mass_Join_4_0 e g m q E D)) := by kernel_rfl
def S_mass_Join_4 : List AV → Option (Ob × AV)
  | [AV.agg [AV.float e, AV.float g, AV.float m, AV.float q], AV.vptr [AV.float E, AV.float D]] => some (Ob.tt, AV.float (s_mass_Join_4_0 e g m q E D))
  | _ => none
theorem t_mass_Join_4 : SOkM Try.prog false (38, fun args => match S_mass_Join_4 args with | some (o, v) => some (o, v, []) | none => none) := SOkM.flat (N := 96) menv62_ok Try.func38 ann_mass_Join_4 Try.call38 fun args o v h ho => by
  unfold S_mass_Join_4 at h
  split at h
  · rename_i e g m q E D
    cases h
    have ho2 := ho
    have this := show outB (evFnM Try.prog false menv62 [] [] 96 Ann.no Try.f38 [AV.agg [AV.float e, AV.float g, AV.float m, AV.float q], AV.vptr [AV.float E, AV.float D]] []) = _ from e_mass_Join_4 e g m q E D
    exact ⟨this, rfl⟩
  · cases h
def c_mass_Join_4 : SFM := fun args => match S_mass_Join_4 args with | some (o, v) => some (o, v, []) | none => none
theorem c_mass_Join_4_ok : SOkM Try.prog false (38, c_mass_Join_4) := t_mass_Join_4
def mss62 : List (FuncId × SFM) := (38, c_mass_Join_4) :: mss61
def menv63 : EnvM := mkEnvM mxs mss62 mws2
theorem mss62_ok : All (SOkM Try.prog false) mss62 := All.cons c_mass_Join_4_ok mss61_ok
theorem menv63_ok : menv63.Ok Try.prog false := mkEnvM_ok mxs_ok mss62_ok mws2_ok
-- tumble/mass.sum
-- a loop of tumble/mass.sum
structure V_mass_sum_v3_L0 where
  v0 : Int
  v1 : (Nat → Nat)
def tpl_mass_sum_v3_L0 : List AV := (AV.top :: AV.nul :: AV.top :: AV.top :: AV.top :: AV.nul :: AV.top :: AV.top :: AV.top :: AV.top :: AV.top :: AV.nul :: AV.nul :: AV.nul :: tpA 13 ([]))
def cts_mass_sum_v3_L0 : List CT := [CT.keep]
def phs_mass_sum_v3_L0 : List Src := []
def T_mass_sum_v3_L0 (j l k : Nat) (n p r G : Nat → Nat) (F : Int) (x : V_mass_sum_v3_L0) (F0 F1 : Nat → List AV) : List AV × Heap := ((AV.top :: AV.func 38 [] [AV.vptr [AV.float j, AV.float l]] :: AV.top :: AV.top :: AV.top :: AV.lst 0 0 1 k k :: AV.top :: AV.top :: AV.top :: AV.top :: AV.top :: AV.view k 4 F0 :: AV.int .i64 F :: AV.int .i64 x.v0 :: tpA 13 ([])), [⟨.sym k 1 F1, 24, 0⟩])
def sh_mass_sum_v3_L0 (j l k : Nat) (n p r G : Nat → Nat) (F : Int) (x : V_mass_sum_v3_L0) : List AV × Heap := T_mass_sum_v3_L0 j l k n p r G F x (fun j0 => [AV.float (n j0), AV.float (p j0), AV.float (r j0), AV.float (G j0)]) (fun j0 => [AV.float (x.v1 j0)])
def step_mass_sum_v3_L0 (j l k : Nat) (n p r G : Nat → Nat) (F : Int) (x : V_mass_sum_v3_L0) : V_mass_sum_v3_L0 := V_mass_sum_v3_L0.mk (IntKind.wrap .i64 (x.v0 + (1 : Int))) (fun j0 => (bif (Nat.beq j0 (Int.toNat x.v0)) then (s_mass_Join_4_0 (n (Int.toNat x.v0)) (p (Int.toNat x.v0)) (r (Int.toNat x.v0)) (G (Int.toNat x.v0)) j l) else (x.v1 j0)))
def go_mass_sum_v3_L0 (j l k : Nat) (n p r G : Nat → Nat) (F : Int) (x : V_mass_sum_v3_L0) : Bool := (bif (!(ilt x.v0 F)) then false else true)
def ok_mass_sum_v3_L0 (j l k : Nat) (n p r G : Nat → Nat) (F : Int) (x : V_mass_sum_v3_L0) : Bool := (mrgB (!(ilt x.v0 F)) true ((Nat.blt (Int.toNat x.v0) k) && (((ile (0 : Int) x.v0) && (Nat.blt (Int.toNat x.v0) k)) && ((ile (0 : Int) x.v0) && (Nat.blt (Int.toNat x.v0) k)))))
def L_mass_sum_v3_L0 (j l k : Nat) (n p r G : Nat → Nat) (F : Int) (x : V_mass_sum_v3_L0) : V_mass_sum_v3_L0 := lastL (ok_mass_sum_v3_L0 j l k n p r G F) (go_mass_sum_v3_L0 j l k n p r G F) (step_mass_sum_v3_L0 j l k n p r G F) x
def E_mass_sum_v3_L0 (j l k : Nat) (n p r G : Nat → Nat) (F : Int) (x : V_mass_sum_v3_L0) : Bool := endsL (ok_mass_sum_v3_L0 j l k n p r G F) (go_mass_sum_v3_L0 j l k n p r G F) (step_mass_sum_v3_L0 j l k n p r G F) x
theorem all_mass_sum_v3_L0 (j l k : Nat) (n p r G : Nat → Nat) (F : Int) (x : V_mass_sum_v3_L0) : rnd Try.prog false menv63 [] [] 96 Ann.no (subC [1, 1, 0, 1, 0, 0] (codeOf Try.f34)) 0 [⟨some 0, 0, 0, []⟩] tpl_mass_sum_v3_L0 cts_mass_sum_v3_L0 (true :: false :: true :: true :: true :: false :: true :: true :: true :: true :: true :: false :: false :: tpB 14 ([])) [true] (sh_mass_sum_v3_L0 j l k n p r G F x) = (true, true, go_mass_sum_v3_L0 j l k n p r G F x, ok_mass_sum_v3_L0 j l k n p r G F x, true, sh_mass_sum_v3_L0 j l k n p r G F (step_mass_sum_v3_L0 j l k n p r G F x), true) := by kernel_rfl
def fam_mass_sum_v3_L0 (j l k : Nat) (n p r G : Nat → Nat) (F : Int) : Fam Try.prog false menv63 [] [] 96 0 Ann.no (subC [1, 1, 0, 1, 0, 0] (codeOf Try.f34)) V_mass_sum_v3_L0 where
  sh := sh_mass_sum_v3_L0 j l k n p r G F
  ok := ok_mass_sum_v3_L0 j l k n p r G F
  go := go_mass_sum_v3_L0 j l k n p r G F
  step := step_mass_sum_v3_L0 j l k n p r G F
  chg := (true :: false :: true :: true :: true :: false :: true :: true :: true :: true :: true :: false :: false :: tpB 14 ([]))
  chgH := [true]
  tpl := tpl_mass_sum_v3_L0
  cts := cts_mass_sum_v3_L0
  keep := 0
  srcs := [⟨some 0, 0, 0, []⟩]
  ann := (annNo (subC [1, 1, 0, 1, 0, 0] (codeOf Try.f34)))
  le := by kernel_rfl
  kept := by kernel_rfl
  keptB := by kernel_rfl
  all := all_mass_sum_v3_L0 j l k n p r G F
  len := fun x => by kernel_rfl
  head := fun x y => by kernel_rfl
  con := fun x y => by kernel_rfl
  conH := fun x y => by kernel_rfl
def F_mass_sum_v3_L0 : St → Option Ch := fun s => cond (Nat.beq s.tm.length 27 && Nat.beq s.H.length 1) (tkTops 1 (alL tpl_mass_sum_v3_L0 s.tm) fun t0 => tkCons t0 fun g t1 => tkFunc 38 g fun l2 l3 => tkNil l2 <| tkCons l3 fun E t4 => tkVptr E fun l5 => tkCons l5 fun K t6 => tkF K fun s0 => tkCons t6 fun J t7 => tkF J fun s1 => tkNil t7 <| tkNil t4 <| tkTops 3 t1 fun t8 => tkCons t8 fun L t9 => tkLst 0 0 1 L fun s2 s3 => tkTops 5 t9 fun t10 => tkCons t10 fun W t11 => tkView 4 W fun s4 f0 => tkCons t11 fun V t12 => tkI .i64 V fun s9 => tkCons t12 fun X t13 => tkI .i64 X fun s10 => tkTops 13 t13 fun t14 => tkNil t14 <| tkCons (alH cts_mass_sum_v3_L0 (s.H ++ List.map phan phs_mass_sum_v3_L0)) fun b15 t15 => tkSym 24 0 1 b15 fun s11 f1 => tkNil t15 <| Fam.out (fam_mass_sum_v3_L0 s0 s1 s2 (fL f0 0) (fL f0 1) (fL f0 2) (fL f0 3) s9) s (((((allB fun i => isNrm [Ck.f, Ck.f, Ck.f, Ck.f] (f0 i)) && (allB fun i => isNrm [Ck.f] (f1 i))) && (eqT s3 s2)) && (eqT s4 s2)) && (eqT s11 s2)) (V_mass_sum_v3_L0.mk s10 (fL f1 0))) none
theorem F_mass_sum_v3_L0_ok : ∀ s ch, F_mass_sum_v3_L0 s = some ch → AllI s ch ∧ LoopSpec Try.prog false 0 (subC [1, 1, 0, 1, 0, 0] (codeOf Try.f34)) s (sel ch) := by
  intro s ch h
  unfold F_mass_sum_v3_L0 at h
  obtain ⟨hl, h0⟩ := cond_some h rfl
  clear h
  obtain ⟨hl, hb⟩ := and_beq2 hl
  obtain ⟨t0, e0, h1⟩ := tkTops_some h0
  obtain ⟨g, t1, rfl, h2⟩ := tkCons_some h1
  obtain ⟨l2, l3, rfl, h3⟩ := tkFunc_some h2
  obtain ⟨rfl, h4⟩ := tkNil_some h3
  obtain ⟨E, t4, rfl, h5⟩ := tkCons_some h4
  obtain ⟨l5, rfl, h6⟩ := tkVptr_some h5
  obtain ⟨K, t6, rfl, h7⟩ := tkCons_some h6
  obtain ⟨s0, rfl, h8⟩ := tkF_some h7
  obtain ⟨J, t7, rfl, h9⟩ := tkCons_some h8
  obtain ⟨s1, rfl, h10⟩ := tkF_some h9
  obtain ⟨rfl, h11⟩ := tkNil_some h10
  obtain ⟨rfl, h12⟩ := tkNil_some h11
  obtain ⟨t8, rfl, h13⟩ := tkTops_some h12
  obtain ⟨L, t9, rfl, h14⟩ := tkCons_some h13
  obtain ⟨s2, s3, rfl, h15⟩ := tkLst_some h14
  obtain ⟨t10, rfl, h16⟩ := tkTops_some h15
  obtain ⟨W, t11, rfl, h17⟩ := tkCons_some h16
  obtain ⟨s4, f0, rfl, h18⟩ := tkView_some h17
  obtain ⟨V, t12, rfl, h19⟩ := tkCons_some h18
  obtain ⟨s9, rfl, h20⟩ := tkI_some h19
  obtain ⟨X, t13, rfl, h21⟩ := tkCons_some h20
  obtain ⟨s10, rfl, h22⟩ := tkI_some h21
  obtain ⟨t14, rfl, h23⟩ := tkTops_some h22
  obtain ⟨rfl, h24⟩ := tkNil_some h23
  obtain ⟨b15, t15, eH, h25⟩ := tkCons_some h24
  obtain ⟨s11, f1, rfl, h26⟩ := tkSym_some h25
  obtain ⟨rfl, h27⟩ := tkNil_some h26
  refine Fam.spec menv63_ok (fam_mass_sum_v3_L0 s0 s1 s2 (fL f0 0) (fL f0 1) (fL f0 2) (fL f0 3) s9) (phs := phs_mass_sum_v3_L0) (hl.trans (by kernel_rfl)) (hb.trans (by kernel_rfl)) ?_ ?_ h27
  · rw [← hdr_alH cts_mass_sum_v3_L0 (s.H ++ List.map phan phs_mass_sum_v3_L0), eH]; kernel_rfl
  · intro hq
    simp only [Bool.and_eq_true] at hq
    obtain ⟨⟨⟨⟨hq0, hq1⟩, hq2⟩, hq3⟩, hq4⟩ := hq
    have n0 := nrm_fun hq0
    have n1 := nrm_fun hq1
    have hx := eqT_eq hq2; subst s3
    have hx := eqT_eq hq3; subst s4
    have hx := eqT_eq hq4; subst s11
    show sh_mass_sum_v3_L0 s0 s1 s2 (fL f0 0) (fL f0 1) (fL f0 2) (fL f0 3) s9 (V_mass_sum_v3_L0.mk s10 (fL f1 0)) = (alL tpl_mass_sum_v3_L0 s.tm, alH cts_mass_sum_v3_L0 (s.H ++ List.map phan phs_mass_sum_v3_L0))
    rw [e0, eH]
    refine Eq.trans (show sh_mass_sum_v3_L0 s0 s1 s2 (fL f0 0) (fL f0 1) (fL f0 2) (fL f0 3) s9 (V_mass_sum_v3_L0.mk s10 (fL f1 0)) = T_mass_sum_v3_L0 s0 s1 s2 (fL f0 0) (fL f0 1) (fL f0 2) (fL f0 3) s9 (V_mass_sum_v3_L0.mk s10 (fL f1 0)) (fun i => mkN [Ck.f, Ck.f, Ck.f, Ck.f] (f0 i) 0) (fun i => mkN [Ck.f] (f1 i) 0) by kernel_rfl) ?_
    rw [n0, n1]
    kernel_rfl
theorem ann_mass_sum_v3 : FnOk Try.prog false 0 Try.f34 (Ann.two Ann.no (Ann.two Ann.no (Ann.two (Ann.two Ann.no (Ann.one (Ann.loop F_mass_sum_v3_L0))) Ann.no))) := (fnOk_of (c := codeOf Try.f34) (by kernel_rfl) (annSeq (a := (subC [0] (codeOf Try.f34))) (b := (subC [1] (codeOf Try.f34))) (by kernel_rfl) (annNo (subC [0] (codeOf Try.f34))) (annSeq (a := (subC [1, 0] (codeOf Try.f34))) (b := (subC [1, 1] (codeOf Try.f34))) (by kernel_rfl) (annNo (subC [1, 0] (codeOf Try.f34))) (annSeq (a := (subC [1, 1, 0] (codeOf Try.f34))) (b := (subC [1, 1, 1] (codeOf Try.f34))) (by kernel_rfl) (annSeq (a := (subC [1, 1, 0, 0] (codeOf Try.f34))) (b := (subC [1, 1, 0, 1] (codeOf Try.f34))) (by kernel_rfl) (annNo (subC [1, 1, 0, 0] (codeOf Try.f34))) (annBlock (a := (subC [1, 1, 0, 1, 0] (codeOf Try.f34))) (i := 0) (by kernel_rfl) (annLoop (a := (subC [1, 1, 0, 1, 0, 0] (codeOf Try.f34))) (by kernel_rfl) F_mass_sum_v3_L0_ok))) (annNo (subC [1, 1, 1] (codeOf Try.f34)))))))
def s_mass_sum_v3_0 (d : Nat) (t u z B : Nat → Nat) (g m : Nat) : Nat := (s_num_Sum_0 d ((L_mass_sum_v3_L0 g m d t u z B (Int.ofNat d) (V_mass_sum_v3_L0.mk (0 : Int) (fun j0 => 0))).v1))
def q_mass_sum_v3 (d : Nat) (t u z B : Nat → Nat) (g m : Nat) : Bool := (((Nat.ble d d) && ((allB fun _ => true) && (o_num_Sum d ((L_mass_sum_v3_L0 g m d t u z B (Int.ofNat d) (V_mass_sum_v3_L0.mk (0 : Int) (fun j0 => 0))).v1)))) && (((ile (Int.ofNat d) (Int.ofNat d)) && ((ile ((8 : Int) * (Int.ofNat d)) (281474976710656 : Int)) && (ile (Int.ofNat d) (9223372036854775807 : Int)))) && ((((((allB fun _ => true) && (allB fun _ => true)) && (eqT d d)) && (eqT d d)) && (eqT d d)) && (E_mass_sum_v3_L0 g m d t u z B (Int.ofNat d) (V_mass_sum_v3_L0.mk (0 : Int) (fun j0 => 0))))))
theorem e_mass_sum_v3 (d : Nat) (t u z B : Nat → Nat) (g m : Nat) : outB (evFnM Try.prog false menv63 [] [] 96 (Ann.two Ann.no (Ann.two Ann.no (Ann.two (Ann.two Ann.no (Ann.one (Ann.loop F_mass_sum_v3_L0))) Ann.no))) Try.f34 [AV.view d 4 (fun i0 => [AV.float (t i0), AV.float (u i0), AV.float (z i0), AV.float (B i0)]), AV.func 38 [] [AV.vptr [AV.float g, AV.float m]]] []) = some (q_mass_sum_v3 d t u z B g m, AV.float (s_mass_sum_v3_0 d t u z B g m)) := by kernel_rfl
def o_mass_sum_v3 (d : Nat) (t u z B : Nat → Nat) (g m : Nat) : Bool := (((Nat.ble d d) && (o_num_Sum d ((L_mass_sum_v3_L0 g m d t u z B (Int.ofNat d) (V_mass_sum_v3_L0.mk (0 : Int) (fun j0 => 0))).v1))) && (((ile (Int.ofNat d) (Int.ofNat d)) && ((ile ((8 : Int) * (Int.ofNat d)) (281474976710656 : Int)) && (ile (Int.ofNat d) (9223372036854775807 : Int)))) && (E_mass_sum_v3_L0 g m d t u z B (Int.ofNat d) (V_mass_sum_v3_L0.mk (0 : Int) (fun j0 => 0)))))
def S_mass_sum_v3 : List AV → Option (Ob × AV)
  | [AV.view d 4 C, AV.func 38 [] [AV.vptr [AV.float g, AV.float m]]] => some (Ob.both (Ob.bit (allB fun i => isNrm [Ck.f, Ck.f, Ck.f, Ck.f] (C i))) (Ob.bit (o_mass_sum_v3 d (fL C 0) (fL C 1) (fL C 2) (fL C 3) g m)), AV.float (s_mass_sum_v3_0 d (fL C 0) (fL C 1) (fL C 2) (fL C 3) g m))
  | _ => none
theorem ob_mass_sum_v3 (d : Nat) (t u z B : Nat → Nat) (g m : Nat) (ho : o_mass_sum_v3 d t u z B g m = true) : q_mass_sum_v3 d t u z B g m = true := by
  unfold q_mass_sum_v3
  unfold o_mass_sum_v3 at ho
  simp only [allB_true, eqT_self, mrgB_self, Bool.true_and, Bool.and_true] at ho ⊢
  exact ho
theorem t_mass_sum_v3 : SOkM Try.prog false (34, fun args => match S_mass_sum_v3 args with | some (o, v) => some (o, v, []) | none => none) := SOkM.flat (N := 96) menv63_ok Try.func34 ann_mass_sum_v3 Try.call34 fun args o v h ho => by
  unfold S_mass_sum_v3 at h
  split at h
  · rename_i d C g m
    cases h
    rw [Ob.both_ok, Bool.and_eq_true] at ho
    obtain ⟨hn, ho2⟩ := ho
    have n0 := hn
    simp only [Ob.ok] at n0
    replace n0 := nrm_fun n0
    have this := show outB (evFnM Try.prog false menv63 [] [] 96 (Ann.two Ann.no (Ann.two Ann.no (Ann.two (Ann.two Ann.no (Ann.one (Ann.loop F_mass_sum_v3_L0))) Ann.no))) Try.f34 [AV.view d 4 (fun i => mkN [Ck.f, Ck.f, Ck.f, Ck.f] (C i) 0), AV.func 38 [] [AV.vptr [AV.float g, AV.float m]]] []) = _ from e_mass_sum_v3 d (fL C 0) (fL C 1) (fL C 2) (fL C 3) g m
    rw [(ob_mass_sum_v3 d (fL C 0) (fL C 1) (fL C 2) (fL C 3) g m ho2)] at this
    rw [n0] at this
    exact ⟨this, rfl⟩
  · cases h
def c_mass_sum_v3 : SFM := altS (fun args => match S_mass_sum_v3 args with | some (o, v) => some (o, v, []) | none => none) (c_mass_sum_v2)
theorem c_mass_sum_v3_ok : SOkM Try.prog false (34, c_mass_sum_v3) := (SOkM.alt t_mass_sum_v3 c_mass_sum_v2_ok)
def mss63 : List (FuncId × SFM) := (34, c_mass_sum_v3) :: mss62
def menv64 : EnvM := mkEnvM mxs mss63 mws2
theorem mss63_ok : All (SOkM Try.prog false) mss63 := All.cons c_mass_sum_v3_ok mss62_ok
theorem menv64_ok : menv64.Ok Try.prog false := mkEnvM_ok mxs_ok mss63_ok mws2_ok
-- tumble/mass.checked
theorem ann_mass_checked : FnOk Try.prog false 0 Try.f40 Ann.no := (fnNo _)
def s_mass_checked_0 (e g m q : Nat) : Nat := (bif (!(ieq (s_mass_Check_0 e g m q) (0 : Int))) then 0 else e)
def s_mass_checked_1 (e g m q : Nat) : Nat := (bif (!(ieq (s_mass_Check_0 e g m q) (0 : Int))) then 0 else g)
def s_mass_checked_2 (e g m q : Nat) : Nat := (bif (!(ieq (s_mass_Check_0 e g m q) (0 : Int))) then 0 else m)
def s_mass_checked_3 (e g m q : Nat) : Nat := (bif (!(ieq (s_mass_Check_0 e g m q) (0 : Int))) then 0 else q)
def s_mass_checked_4 (e g m q : Nat) : Int := (bif (!(ieq (s_mass_Check_0 e g m q) (0 : Int))) then (s_mass_Check_0 e g m q) else (0 : Int))
theorem e_mass_checked (e g m q : Nat) : outB (evFnM Try.prog false menv64 [] [] 96 Ann.no Try.f40 [AV.agg [AV.float e, AV.float g, AV.float m, AV.float q]] []) = some (true, AV.tup [AV.agg [AV.float (s_mass_checked_0 e g m q), AV.float (s_mass_checked_1 e g m q), AV.float (s_mass_checked_2 e g m q), AV.float (s_mass_checked_3 e g m q)], AV.int .i64 (s_mass_checked_4 e g m q)]) := by kernel_rfl
def S_mass_checked : List AV → Option (Ob × AV)
  | [AV.agg [AV.float e, AV.float g, AV.float m, AV.float q]] => some (Ob.tt, AV.tup [AV.agg [AV.float (s_mass_checked_0 e g m q), AV.float (s_mass_checked_1 e g m q), AV.float (s_mass_checked_2 e g m q), AV.float (s_mass_checked_3 e g m q)], AV.int .i64 (s_mass_checked_4 e g m q)])
  | _ => none
theorem t_mass_checked : SOkM Try.prog false (40, fun args => match S_mass_checked args with | some (o, v) => some (o, v, []) | none => none) := SOkM.flat (N := 96) menv64_ok Try.func40 ann_mass_checked Try.call40 fun args o v h ho => by
  unfold S_mass_checked at h
  split at h
  · rename_i e g m q
    cases h
    have ho2 := ho
    have this := show outB (evFnM Try.prog false menv64 [] [] 96 Ann.no Try.f40 [AV.agg [AV.float e, AV.float g, AV.float m, AV.float q]] []) = _ from e_mass_checked e g m q
    exact ⟨this, rfl⟩
  · cases h
def c_mass_checked : SFM := fun args => match S_mass_checked args with | some (o, v) => some (o, v, []) | none => none
theorem c_mass_checked_ok : SOkM Try.prog false (40, c_mass_checked) := t_mass_checked
def mss64 : List (FuncId × SFM) := (40, c_mass_checked) :: mss63
def menv65 : EnvM := mkEnvM mxs mss64 mws2
theorem mss64_ok : All (SOkM Try.prog false) mss64 := All.cons c_mass_checked_ok mss63_ok
theorem menv65_ok : menv65.Ok Try.prog false := mkEnvM_ok mxs_ok mss64_ok mws2_ok
-- tumble/mass.Join
-- a loop of tumble/mass.Join
structure V_mass_Join_L0 where
  v0 : Int
def tpl_mass_Join_L0 : List AV := (AV.nul :: AV.top :: AV.nul :: tpA 13 (AV.nul :: AV.nul :: AV.nul :: tpA 46 ([])))
def cts_mass_Join_L0 : List CT := [CT.keep]
def phs_mass_Join_L0 : List Src := []
def T_mass_Join_L0 (j : Nat) (l k n p : Nat → Nat) (r : Int) (x : V_mass_Join_L0) (F0 F1 : Nat → List AV) : List AV × Heap := ((AV.view j 4 F0 :: AV.top :: AV.ptr (some ⟨0, 0, .lit 0⟩) :: tpA 13 (AV.view j 4 F1 :: AV.int .i64 r :: AV.int .i64 x.v0 :: tpA 46 ([]))), [⟨.flat [AV.float 0, AV.float 0, AV.float 0, AV.float 0], 28, 0⟩])
def sh_mass_Join_L0 (j : Nat) (l k n p : Nat → Nat) (r : Int) (x : V_mass_Join_L0) : List AV × Heap := T_mass_Join_L0 j l k n p r x (fun j0 => [AV.float (l j0), AV.float (k j0), AV.float (n j0), AV.float (p j0)]) (fun j0 => [AV.float (l j0), AV.float (k j0), AV.float (n j0), AV.float (p j0)])
def step_mass_Join_L0 (j : Nat) (l k n p : Nat → Nat) (r : Int) (x : V_mass_Join_L0) : V_mass_Join_L0 := V_mass_Join_L0.mk (IntKind.wrap .i64 (x.v0 + (1 : Int)))
def go_mass_Join_L0 (j : Nat) (l k n p : Nat → Nat) (r : Int) (x : V_mass_Join_L0) : Bool := (bif (bif (!(ilt x.v0 r)) then false else (!(ieq (s_mass_Check_0 (l (Int.toNat x.v0)) (k (Int.toNat x.v0)) (n (Int.toNat x.v0)) (p (Int.toNat x.v0))) (0 : Int)))) then false else (bif (!(ilt x.v0 r)) then false else true))
def ok_mass_Join_L0 (j : Nat) (l k n p : Nat → Nat) (r : Int) (x : V_mass_Join_L0) : Bool := (mrgB (bif (!(ilt x.v0 r)) then false else (!(ieq (s_mass_Check_0 (l (Int.toNat x.v0)) (k (Int.toNat x.v0)) (n (Int.toNat x.v0)) (p (Int.toNat x.v0))) (0 : Int)))) ((ile (0 : Int) x.v0) && (Nat.blt (Int.toNat x.v0) j)) (mrgB (!(ilt x.v0 r)) true ((ile (0 : Int) x.v0) && (Nat.blt (Int.toNat x.v0) j))))
def L_mass_Join_L0 (j : Nat) (l k n p : Nat → Nat) (r : Int) (x : V_mass_Join_L0) : V_mass_Join_L0 := lastL (ok_mass_Join_L0 j l k n p r) (go_mass_Join_L0 j l k n p r) (step_mass_Join_L0 j l k n p r) x
def E_mass_Join_L0 (j : Nat) (l k n p : Nat → Nat) (r : Int) (x : V_mass_Join_L0) : Bool := endsL (ok_mass_Join_L0 j l k n p r) (go_mass_Join_L0 j l k n p r) (step_mass_Join_L0 j l k n p r) x
theorem all_mass_Join_L0 (j : Nat) (l k n p : Nat → Nat) (r : Int) (x : V_mass_Join_L0) : rnd Try.prog false menv65 [] [] 96 Ann.no (subC [1, 1, 0, 1, 0, 0] (codeOf Try.f10)) 0 [⟨some 0, 0, 0, []⟩] tpl_mass_Join_L0 cts_mass_Join_L0 (false :: true :: false :: tpB 13 (false :: false :: tpB 47 ([]))) [true] (sh_mass_Join_L0 j l k n p r x) = (true, true, go_mass_Join_L0 j l k n p r x, ok_mass_Join_L0 j l k n p r x, true, sh_mass_Join_L0 j l k n p r (step_mass_Join_L0 j l k n p r x), true) := by kernel_rfl
def fam_mass_Join_L0 (j : Nat) (l k n p : Nat → Nat) (r : Int) : Fam Try.prog false menv65 [] [] 96 0 Ann.no (subC [1, 1, 0, 1, 0, 0] (codeOf Try.f10)) V_mass_Join_L0 where
  sh := sh_mass_Join_L0 j l k n p r
  ok := ok_mass_Join_L0 j l k n p r
  go := go_mass_Join_L0 j l k n p r
  step := step_mass_Join_L0 j l k n p r
  chg := (false :: true :: false :: tpB 13 (false :: false :: tpB 47 ([])))
  chgH := [true]
  tpl := tpl_mass_Join_L0
  cts := cts_mass_Join_L0
  keep := 0
  srcs := [⟨some 0, 0, 0, []⟩]
  ann := (annNo (subC [1, 1, 0, 1, 0, 0] (codeOf Try.f10)))
  le := by kernel_rfl
  kept := by kernel_rfl
  keptB := by kernel_rfl
  all := all_mass_Join_L0 j l k n p r
  len := fun x => by kernel_rfl
  head := fun x y => by kernel_rfl
  con := fun x y => by kernel_rfl
  conH := fun x y => by kernel_rfl
def F_mass_Join_L0 : St → Option Ch := fun s => cond (Nat.beq s.tm.length 65 && Nat.beq s.H.length 1) (tkCons (alL tpl_mass_Join_L0 s.tm) fun e t0 => tkView 4 e fun s0 f0 => tkTops 1 t0 fun t1 => tkCons t1 fun m t2 => tkPtr 0 0 0 m <| tkTops 13 t2 fun t3 => tkCons t3 fun E t4 => tkView 4 E fun s5 f1 => tkCons t4 fun D t5 => tkI .i64 D fun s10 => tkCons t5 fun K t6 => tkI .i64 K fun s11 => tkTops 46 t6 fun t7 => tkNil t7 <| tkCons (alH cts_mass_Join_L0 (s.H ++ List.map phan phs_mass_Join_L0)) fun b8 t8 => tkFlat 28 0 b8 fun m8 => tkCons m8 fun L t9 => tkFL 0 L <| tkCons t9 fun Y t10 => tkFL 0 Y <| tkCons t10 fun W t11 => tkFL 0 W <| tkCons t11 fun V t12 => tkFL 0 V <| tkNil t12 <| tkNil t8 <| Fam.out (fam_mass_Join_L0 s0 (fL f0 0) (fL f0 1) (fL f0 2) (fL f0 3) s10) s (((allB fun i => isNrm [Ck.f, Ck.f, Ck.f, Ck.f] (f0 i)) && (eqT f1 f0)) && (eqT s5 s0)) (V_mass_Join_L0.mk s11)) none
theorem F_mass_Join_L0_ok : ∀ s ch, F_mass_Join_L0 s = some ch → AllI s ch ∧ LoopSpec Try.prog false 0 (subC [1, 1, 0, 1, 0, 0] (codeOf Try.f10)) s (sel ch) := by
  intro s ch h
  unfold F_mass_Join_L0 at h
  obtain ⟨hl, h0⟩ := cond_some h rfl
  clear h
  obtain ⟨hl, hb⟩ := and_beq2 hl
  obtain ⟨e, t0, e0, h1⟩ := tkCons_some h0
  obtain ⟨s0, f0, rfl, h2⟩ := tkView_some h1
  obtain ⟨t1, rfl, h3⟩ := tkTops_some h2
  obtain ⟨m, t2, rfl, h4⟩ := tkCons_some h3
  obtain ⟨rfl, h5⟩ := tkPtr_some h4
  obtain ⟨t3, rfl, h6⟩ := tkTops_some h5
  obtain ⟨E, t4, rfl, h7⟩ := tkCons_some h6
  obtain ⟨s5, f1, rfl, h8⟩ := tkView_some h7
  obtain ⟨D, t5, rfl, h9⟩ := tkCons_some h8
  obtain ⟨s10, rfl, h10⟩ := tkI_some h9
  obtain ⟨K, t6, rfl, h11⟩ := tkCons_some h10
  obtain ⟨s11, rfl, h12⟩ := tkI_some h11
  obtain ⟨t7, rfl, h13⟩ := tkTops_some h12
  obtain ⟨rfl, h14⟩ := tkNil_some h13
  obtain ⟨b8, t8, eH, h15⟩ := tkCons_some h14
  obtain ⟨m8, rfl, h16⟩ := tkFlat_some h15
  obtain ⟨L, t9, rfl, h17⟩ := tkCons_some h16
  obtain ⟨rfl, h18⟩ := tkFL_some h17
  obtain ⟨Y, t10, rfl, h19⟩ := tkCons_some h18
  obtain ⟨rfl, h20⟩ := tkFL_some h19
  obtain ⟨W, t11, rfl, h21⟩ := tkCons_some h20
  obtain ⟨rfl, h22⟩ := tkFL_some h21
  obtain ⟨V, t12, rfl, h23⟩ := tkCons_some h22
  obtain ⟨rfl, h24⟩ := tkFL_some h23
  obtain ⟨rfl, h25⟩ := tkNil_some h24
  obtain ⟨rfl, h26⟩ := tkNil_some h25
  refine Fam.spec menv65_ok (fam_mass_Join_L0 s0 (fL f0 0) (fL f0 1) (fL f0 2) (fL f0 3) s10) (phs := phs_mass_Join_L0) (hl.trans (by kernel_rfl)) (hb.trans (by kernel_rfl)) ?_ ?_ h26
  · rw [← hdr_alH cts_mass_Join_L0 (s.H ++ List.map phan phs_mass_Join_L0), eH]; kernel_rfl
  · intro hq
    simp only [Bool.and_eq_true] at hq
    obtain ⟨⟨hq0, hq1⟩, hq2⟩ := hq
    have n0 := nrm_fun hq0
    have hx := eqT_eq hq1; subst f1
    have hx := eqT_eq hq2; subst s5
    show sh_mass_Join_L0 s0 (fL f0 0) (fL f0 1) (fL f0 2) (fL f0 3) s10 (V_mass_Join_L0.mk s11) = (alL tpl_mass_Join_L0 s.tm, alH cts_mass_Join_L0 (s.H ++ List.map phan phs_mass_Join_L0))
    rw [e0, eH]
    refine Eq.trans (show sh_mass_Join_L0 s0 (fL f0 0) (fL f0 1) (fL f0 2) (fL f0 3) s10 (V_mass_Join_L0.mk s11) = T_mass_Join_L0 s0 (fL f0 0) (fL f0 1) (fL f0 2) (fL f0 3) s10 (V_mass_Join_L0.mk s11) (fun i => mkN [Ck.f, Ck.f, Ck.f, Ck.f] (f0 i) 0) (fun i => mkN [Ck.f, Ck.f, Ck.f, Ck.f] (f0 i) 0) by kernel_rfl) ?_
    rw [n0]
    kernel_rfl
theorem ann_mass_Join : FnOk Try.prog false 0 Try.f10 (Ann.two Ann.no (Ann.two Ann.no (Ann.two (Ann.two Ann.no (Ann.one (Ann.loop F_mass_Join_L0))) Ann.no))) := (fnOk_of (c := codeOf Try.f10) (by kernel_rfl) (annSeq (a := (subC [0] (codeOf Try.f10))) (b := (subC [1] (codeOf Try.f10))) (by kernel_rfl) (annNo (subC [0] (codeOf Try.f10))) (annSeq (a := (subC [1, 0] (codeOf Try.f10))) (b := (subC [1, 1] (codeOf Try.f10))) (by kernel_rfl) (annNo (subC [1, 0] (codeOf Try.f10))) (annSeq (a := (subC [1, 1, 0] (codeOf Try.f10))) (b := (subC [1, 1, 1] (codeOf Try.f10))) (by kernel_rfl) (annSeq (a := (subC [1, 1, 0, 0] (codeOf Try.f10))) (b := (subC [1, 1, 0, 1] (codeOf Try.f10))) (by kernel_rfl) (annNo (subC [1, 1, 0, 0] (codeOf Try.f10))) (annBlock (a := (subC [1, 1, 0, 1, 0] (codeOf Try.f10))) (i := 0) (by kernel_rfl) (annLoop (a := (subC [1, 1, 0, 1, 0, 0] (codeOf Try.f10))) (by kernel_rfl) F_mass_Join_L0_ok))) (annNo (subC [1, 1, 1] (codeOf Try.f10)))))))
def s_mass_Join_0 (d : Nat) (t u z B : Nat → Nat) : Nat := let x0 := s_mass_sum_0 d t u z B; let x1 := fdiv (s_mass_sum_v2_0 d t u z B) x0; let x2 := fdiv (s_mass_sum_v1_0 d t u z B) x0; let x3 := ieq (Int.ofNat d) (0 : Int); let x4 := (L_mass_Join_L0 d t u z B (Int.ofNat d) (V_mass_Join_L0.mk (0 : Int))).v0; let x5 := Int.toNat x4; (bif (ilt (16384 : Int) (Int.ofNat d)) then 0 else (bif (bif (!(ilt x4 (Int.ofNat d))) then false else (!(ieq (s_mass_Check_0 (t x5) (u x5) (z x5) (B x5)) (0 : Int)))) then 0 else (bif (x3 || (ieq (Int.ofNat d) (1 : Int))) then (bif x3 then 0 else (t 0)) else (bif (feq x0 0) then 0 else (s_mass_checked_0 x0 (s_mass_sum_v3_0 d t u z B x2 x1) x2 x1)))))
def s_mass_Join_1 (d : Nat) (t u z B : Nat → Nat) : Nat := let x0 := s_mass_sum_0 d t u z B; let x1 := fdiv (s_mass_sum_v2_0 d t u z B) x0; let x2 := fdiv (s_mass_sum_v1_0 d t u z B) x0; let x3 := ieq (Int.ofNat d) (0 : Int); let x4 := (L_mass_Join_L0 d t u z B (Int.ofNat d) (V_mass_Join_L0.mk (0 : Int))).v0; let x5 := Int.toNat x4; (bif (ilt (16384 : Int) (Int.ofNat d)) then 0 else (bif (bif (!(ilt x4 (Int.ofNat d))) then false else (!(ieq (s_mass_Check_0 (t x5) (u x5) (z x5) (B x5)) (0 : Int)))) then 0 else (bif (x3 || (ieq (Int.ofNat d) (1 : Int))) then (bif x3 then 0 else (u 0)) else (bif (feq x0 0) then 0 else (s_mass_checked_1 x0 (s_mass_sum_v3_0 d t u z B x2 x1) x2 x1)))))
def s_mass_Join_2 (d : Nat) (t u z B : Nat → Nat) : Nat := let x0 := s_mass_sum_0 d t u z B; let x1 := fdiv (s_mass_sum_v2_0 d t u z B) x0; let x2 := fdiv (s_mass_sum_v1_0 d t u z B) x0; let x3 := ieq (Int.ofNat d) (0 : Int); let x4 := (L_mass_Join_L0 d t u z B (Int.ofNat d) (V_mass_Join_L0.mk (0 : Int))).v0; let x5 := Int.toNat x4; (bif (ilt (16384 : Int) (Int.ofNat d)) then 0 else (bif (bif (!(ilt x4 (Int.ofNat d))) then false else (!(ieq (s_mass_Check_0 (t x5) (u x5) (z x5) (B x5)) (0 : Int)))) then 0 else (bif (x3 || (ieq (Int.ofNat d) (1 : Int))) then (bif x3 then 0 else (z 0)) else (bif (feq x0 0) then 0 else (s_mass_checked_2 x0 (s_mass_sum_v3_0 d t u z B x2 x1) x2 x1)))))
def s_mass_Join_3 (d : Nat) (t u z B : Nat → Nat) : Nat := let x0 := s_mass_sum_0 d t u z B; let x1 := fdiv (s_mass_sum_v2_0 d t u z B) x0; let x2 := fdiv (s_mass_sum_v1_0 d t u z B) x0; let x3 := ieq (Int.ofNat d) (0 : Int); let x4 := (L_mass_Join_L0 d t u z B (Int.ofNat d) (V_mass_Join_L0.mk (0 : Int))).v0; let x5 := Int.toNat x4; (bif (ilt (16384 : Int) (Int.ofNat d)) then 0 else (bif (bif (!(ilt x4 (Int.ofNat d))) then false else (!(ieq (s_mass_Check_0 (t x5) (u x5) (z x5) (B x5)) (0 : Int)))) then 0 else (bif (x3 || (ieq (Int.ofNat d) (1 : Int))) then (bif x3 then 0 else (B 0)) else (bif (feq x0 0) then 0 else (s_mass_checked_3 x0 (s_mass_sum_v3_0 d t u z B x2 x1) x2 x1)))))
def s_mass_Join_4 (d : Nat) (t u z B : Nat → Nat) : Int := let x0 := s_mass_sum_0 d t u z B; let x1 := fdiv (s_mass_sum_v2_0 d t u z B) x0; let x2 := fdiv (s_mass_sum_v1_0 d t u z B) x0; let x3 := ieq (Int.ofNat d) (0 : Int); let x4 := (L_mass_Join_L0 d t u z B (Int.ofNat d) (V_mass_Join_L0.mk (0 : Int))).v0; let x5 := Int.toNat x4; let x6 := s_mass_Check_0 (t x5) (u x5) (z x5) (B x5); (bif (ilt (16384 : Int) (Int.ofNat d)) then (4 : Int) else (bif (bif (!(ilt x4 (Int.ofNat d))) then false else (!(ieq x6 (0 : Int)))) then x6 else (bif (x3 || (ieq (Int.ofNat d) (1 : Int))) then (bif x3 then (0 : Int) else (0 : Int)) else (bif (feq x0 0) then (0 : Int) else (s_mass_checked_4 x0 (s_mass_sum_v3_0 d t u z B x2 x1) x2 x1)))))
def q_mass_Join (d : Nat) (t u z B : Nat → Nat) : Bool := (let x0 := (((allB fun _ => true) && (eqT (fun i => [AV.float (t i), AV.float (u i), AV.float (z i), AV.float (B i)]) (fun i => [AV.float (t i), AV.float (u i), AV.float (z i), AV.float (B i)]))) && (eqT d d)) && (E_mass_Join_L0 d t u z B (Int.ofNat d) (V_mass_Join_L0.mk (0 : Int))); let x1 := ((allB fun _ => true) && (o_mass_sum d t u z B)) && x0; let x2 := s_mass_sum_0 d t u z B; let x3 := ieq (Int.ofNat d) (0 : Int); let x4 := (L_mass_Join_L0 d t u z B (Int.ofNat d) (V_mass_Join_L0.mk (0 : Int))).v0; let x5 := Int.toNat x4; (mrgB (ilt (16384 : Int) (Int.ofNat d)) true (mrgB (bif (!(ilt x4 (Int.ofNat d))) then false else (!(ieq (s_mass_Check_0 (t x5) (u x5) (z x5) (B x5)) (0 : Int)))) x0 (mrgB (x3 || (ieq (Int.ofNat d) (1 : Int))) (mrgB x3 x0 ((Nat.blt 0 d) && x0)) (mrgB (feq x2 0) x1 (((allB fun _ => true) && (o_mass_sum_v3 d t u z B (fdiv (s_mass_sum_v1_0 d t u z B) x2) (fdiv (s_mass_sum_v2_0 d t u z B) x2))) && (((allB fun _ => true) && (o_mass_sum_v2 d t u z B)) && (((allB fun _ => true) && (o_mass_sum_v1 d t u z B)) && x1))))))))
theorem e_mass_Join (d : Nat) (t u z B : Nat → Nat) : outB (evFnM Try.prog false menv65 [] [] 96 (Ann.two Ann.no (Ann.two Ann.no (Ann.two (Ann.two Ann.no (Ann.one (Ann.loop F_mass_Join_L0))) Ann.no))) Try.f10 [AV.view d 4 (fun i0 => [AV.float (t i0), AV.float (u i0), AV.float (z i0), AV.float (B i0)])] []) = some (q_mass_Join d t u z B, AV.tup [AV.agg [AV.float (s_mass_Join_0 d t u z B), AV.float (s_mass_Join_1 d t u z B), AV.float (s_mass_Join_2 d t u z B), AV.float (s_mass_Join_3 d t u z B)], AV.int .i64 (s_mass_Join_4 d t u z B)]) := by kernel_rfl
def o_mass_Join (d : Nat) (t u z B : Nat → Nat) : Bool := let x0 := E_mass_Join_L0 d t u z B (Int.ofNat d) (V_mass_Join_L0.mk (0 : Int)); let x1 := (o_mass_sum d t u z B) && x0; let x2 := s_mass_sum_0 d t u z B; let x3 := ieq (Int.ofNat d) (0 : Int); let x4 := (L_mass_Join_L0 d t u z B (Int.ofNat d) (V_mass_Join_L0.mk (0 : Int))).v0; let x5 := Int.toNat x4; (mrgB (ilt (16384 : Int) (Int.ofNat d)) true (mrgB (bif (!(ilt x4 (Int.ofNat d))) then false else (!(ieq (s_mass_Check_0 (t x5) (u x5) (z x5) (B x5)) (0 : Int)))) x0 (mrgB (x3 || (ieq (Int.ofNat d) (1 : Int))) (mrgB x3 x0 ((Nat.blt 0 d) && x0)) (mrgB (feq x2 0) x1 ((o_mass_sum_v3 d t u z B (fdiv (s_mass_sum_v1_0 d t u z B) x2) (fdiv (s_mass_sum_v2_0 d t u z B) x2)) && ((o_mass_sum_v2 d t u z B) && ((o_mass_sum_v1 d t u z B) && x1)))))))
def S_mass_Join : List AV → Option (Ob × AV)
  | [AV.view d 4 C] => some (Ob.both (Ob.bit (allB fun i => isNrm [Ck.f, Ck.f, Ck.f, Ck.f] (C i))) (Ob.bit (o_mass_Join d (fL C 0) (fL C 1) (fL C 2) (fL C 3))), AV.tup [AV.agg [AV.float (s_mass_Join_0 d (fL C 0) (fL C 1) (fL C 2) (fL C 3)), AV.float (s_mass_Join_1 d (fL C 0) (fL C 1) (fL C 2) (fL C 3)), AV.float (s_mass_Join_2 d (fL C 0) (fL C 1) (fL C 2) (fL C 3)), AV.float (s_mass_Join_3 d (fL C 0) (fL C 1) (fL C 2) (fL C 3))], AV.int .i64 (s_mass_Join_4 d (fL C 0) (fL C 1) (fL C 2) (fL C 3))])
  | _ => none
theorem ob_mass_Join (d : Nat) (t u z B : Nat → Nat) (ho : o_mass_Join d t u z B = true) : q_mass_Join d t u z B = true := by
  unfold q_mass_Join
  unfold o_mass_Join at ho
  simp only [allB_true, eqT_self, mrgB_self, Bool.true_and, Bool.and_true] at ho ⊢
  exact ho
theorem t_mass_Join : SOkM Try.prog false (10, fun args => match S_mass_Join args with | some (o, v) => some (o, v, []) | none => none) := SOkM.flat (N := 96) menv65_ok Try.func10 ann_mass_Join Try.call10 fun args o v h ho => by
  unfold S_mass_Join at h
  split at h
  · rename_i d C
    cases h
    rw [Ob.both_ok, Bool.and_eq_true] at ho
    obtain ⟨hn, ho2⟩ := ho
    have n0 := hn
    simp only [Ob.ok] at n0
    replace n0 := nrm_fun n0
    have this := show outB (evFnM Try.prog false menv65 [] [] 96 (Ann.two Ann.no (Ann.two Ann.no (Ann.two (Ann.two Ann.no (Ann.one (Ann.loop F_mass_Join_L0))) Ann.no))) Try.f10 [AV.view d 4 (fun i => mkN [Ck.f, Ck.f, Ck.f, Ck.f] (C i) 0)] []) = _ from e_mass_Join d (fL C 0) (fL C 1) (fL C 2) (fL C 3)
    rw [(ob_mass_Join d (fL C 0) (fL C 1) (fL C 2) (fL C 3) ho2)] at this
    rw [n0] at this
    exact ⟨this, rfl⟩
  · cases h
def c_mass_Join : SFM := fun args => match S_mass_Join args with | some (o, v) => some (o, v, []) | none => none
theorem c_mass_Join_ok : SOkM Try.prog false (10, c_mass_Join) := t_mass_Join
def mss65 : List (FuncId × SFM) := (10, c_mass_Join) :: mss64
def menv66 : EnvM := mkEnvM mxs mss65 mws2
theorem mss65_ok : All (SOkM Try.prog false) mss65 := All.cons c_mass_Join_ok mss64_ok
theorem menv66_ok : menv66.Ok Try.prog false := mkEnvM_ok mxs_ok mss65_ok mws2_ok
end Go.Proofs.Ytbkogihigehjlaa
end
