/- The contracts of the functions that these laws reach, loops too, printed by a program of this work: each says what the Go function gives, up to which NaN. -/
import Derived.Test.YtbkogihigehjlaaGreatProg
import Derived.KernelRfl
import Derived.Test.YtbkogihigehjlaaGreatLExact
set_option linter.unusedVariables false
set_option linter.unusedSimpArgs false
set_option maxRecDepth 100000
set_option maxHeartbeats 4000000
noncomputable section
namespace Go.Proofs.YtbkogihigehjlaaGreat
open Go.Lst
open Go.Sim (fadd fsub fmul fdiv fneg feq flt fle fsqrt cn nanb fabs fcps fsame feq_self cps_cn fabs_cn)
def fL (f : Nat → List AV) (k i : Nat) : Nat := flO (atL (f i) k)
def iL (f : Nat → List AV) (k i : Nat) : Int := inO (atL (f i) k)
def tpA : Nat → List AV → List AV
  | 0, l => l
  | n + 1, l => AV.top :: tpA n l
def tpB : Nat → List Bool → List Bool
  | 0, l => l
  | n + 1, l => true :: tpB n l
def xxs : List (FuncId × XFM) := [(89, xFM true .sqrt), (43, xFM true .frombits), (88, xFM true .tobits)]
def xenv : EnvM := mkEnvM xxs [] []
theorem xxs_ok : All (XOkM Tryz.prog true) xxs := All.cons (xM_ok (ex := true) (f := 89) .sqrt fun args w => run_callFunc_extern Tryz.func89 (by kernel_rfl) (by kernel_rfl) (by kernel_rfl) (by kernel_rfl) args w)
  (All.cons (xM_ok (ex := true) (f := 43) .frombits fun args w => run_callFunc_extern Tryz.func43 (by kernel_rfl) (by kernel_rfl) (by kernel_rfl) (by kernel_rfl) args w)
  (All.cons (xM_ok (ex := true) (f := 88) .tobits fun args w => run_callFunc_extern Tryz.func88 (by kernel_rfl) (by kernel_rfl) (by kernel_rfl) (by kernel_rfl) args w)
  (All.nil)))
theorem xenv_ok : xenv.Ok Tryz.prog true := mkEnvM_ok xxs_ok All.nil All.nil
def mxs : List (FuncId × XFM) := [(89, xFM false .sqrt), (43, xFM false .frombits), (88, xFM false .tobits)]
theorem mxs_ok : All (XOkM Tryz.prog false) mxs := All.cons (xM_ok (ex := false) (f := 89) .sqrt fun args w => run_callFunc_extern Tryz.func89 (by kernel_rfl) (by kernel_rfl) (by kernel_rfl) (by kernel_rfl) args w)
  (All.cons (xM_ok (ex := false) (f := 43) .frombits fun args w => run_callFunc_extern Tryz.func43 (by kernel_rfl) (by kernel_rfl) (by kernel_rfl) (by kernel_rfl) args w)
  (All.cons (xM_ok (ex := false) (f := 88) .tobits fun args w => run_callFunc_extern Tryz.func88 (by kernel_rfl) (by kernel_rfl) (by kernel_rfl) (by kernel_rfl) args w)
  (All.nil)))
def mss0 : List (FuncId × SFM) := []
def mws0 : List (FuncId × WFM) := []
def menv0 : EnvM := mkEnvM mxs mss0 mws0
theorem mss0_ok : All (SOkM Tryz.prog false) mss0 := All.nil
theorem mws0_ok : All (WOkM Tryz.prog false) mws0 := All.nil
theorem menv0_ok : menv0.Ok Tryz.prog false := mkEnvM_ok mxs_ok mss0_ok mws0_ok
-- tumble/tumbleref01.None
def S_ref01_None : List AV → Option AV
  | [AV.float a] => some (AV.bool (nanb a))
  | _ => none
theorem t_ref01_None : SOkM Tryz.prog false (94, pureS S_ref01_None) := exact1 (N := 96) (A := .no) (lits := []) (fk := []) xenv_ok Tryz.func94 (fnNo _) Tryz.call94 (fun a v => v = .bool (nanb a)) (fun args v h => by
    unfold S_ref01_None at h
    split at h
    · cases h; exact ⟨_, rfl, rfl⟩
    · cases h) fun b v hb h => ⟨.bool (noneV b), by kernel_rfl, rfl, fun μ x hx => by subst h; exact toBool hx (none_val hb)⟩
def c_ref01_None : SFM := pureS S_ref01_None
theorem c_ref01_None_ok : SOkM Tryz.prog false (94, c_ref01_None) := t_ref01_None
def mss1 : List (FuncId × SFM) := (94, c_ref01_None) :: mss0
def menv1 : EnvM := mkEnvM mxs mss1 mws0
theorem mss1_ok : All (SOkM Tryz.prog false) mss1 := All.cons c_ref01_None_ok mss0_ok
theorem menv1_ok : menv1.Ok Tryz.prog false := mkEnvM_ok mxs_ok mss1_ok mws0_ok
-- math.Abs
def S_math_Abs : List AV → Option AV
  | [AV.float a] => some (AV.float (fabs a))
  | _ => none
theorem t_math_Abs : SOkM Tryz.prog false (93, pureS S_math_Abs) := exact1 (N := 96) (A := .no) (lits := []) (fk := []) xenv_ok Tryz.func93 (fnNo _) Tryz.call93 (fun a v => v = .float (fabs a)) (fun args v h => by
    unfold S_math_Abs at h
    split at h
    · cases h; exact ⟨_, rfl, rfl⟩
    · cases h) fun b v hb h => ⟨.float (absV b), (show outB (evFnM Tryz.prog true xenv [] [] 96 .no Tryz.f93 [.float b] []) = some (absOb b, .float (absV b)) by kernel_rfl).trans (by rw [abs_ob]), rfl, fun μ x hx => by subst h; exact toFloat hx (by rw [abs_val hb]; exact (fabs_cn b).symm)⟩
def c_math_Abs : SFM := pureS S_math_Abs
theorem c_math_Abs_ok : SOkM Tryz.prog false (93, c_math_Abs) := t_math_Abs
def mss2 : List (FuncId × SFM) := (93, c_math_Abs) :: mss1
def menv2 : EnvM := mkEnvM mxs mss2 mws0
theorem mss2_ok : All (SOkM Tryz.prog false) mss2 := All.cons c_math_Abs_ok mss1_ok
theorem menv2_ok : menv2.Ok Tryz.prog false := mkEnvM_ok mxs_ok mss2_ok mws0_ok
-- tumble/tumblelaw08.alive
def mss3 : List (FuncId × SFM) := mss2
theorem mss3_ok : All (SOkM Tryz.prog false) mss3 := mss2_ok
def mws1 : List (FuncId × WFM) := (13, (inlWM Tryz.prog false menv2 [4294967295] [] 96 .no Tryz.f13 100000)) :: mws0
def menv3 : EnvM := mkEnvM mxs mss3 mws1
theorem mws1_ok : All (WOkM Tryz.prog false) mws1 := All.cons (WOkM.inl menv2_ok Tryz.func13 (fnNo _) Tryz.call13) mws0_ok
theorem menv3_ok : menv3.Ok Tryz.prog false := mkEnvM_ok mxs_ok mss3_ok mws1_ok
def mws2 : List (FuncId × WFM) := (72, (inlWM Tryz.prog false menv3 [4294967295] [] 96 .no Tryz.f72 100000)) :: mws1
def menv4 : EnvM := mkEnvM mxs mss3 mws2
theorem mws2_ok : All (WOkM Tryz.prog false) mws2 := All.cons (WOkM.inl menv3_ok Tryz.func72 (fnNo _) Tryz.call72) mws1_ok
theorem menv4_ok : menv4.Ok Tryz.prog false := mkEnvM_ok mxs_ok mss3_ok mws2_ok
def mss4 : List (FuncId × SFM) := (21, (inlSM Tryz.prog false menv4 [4294967295] [] 96 .no Tryz.f21)) :: mss3
def menv5 : EnvM := mkEnvM mxs mss4 mws2
theorem mss4_ok : All (SOkM Tryz.prog false) mss4 := All.cons (SOkM.inl menv4_ok Tryz.func21 (fnNo _) Tryz.call21) mss3_ok
theorem menv5_ok : menv5.Ok Tryz.prog false := mkEnvM_ok mxs_ok mss4_ok mws2_ok
def mss5 : List (FuncId × SFM) := (40, (inlSM Tryz.prog false menv5 [4294967295] [] 96 .no Tryz.f40)) :: mss4
def menv6 : EnvM := mkEnvM mxs mss5 mws2
theorem mss5_ok : All (SOkM Tryz.prog false) mss5 := All.cons (SOkM.inl menv5_ok Tryz.func40 (fnNo _) Tryz.call40) mss4_ok
theorem menv6_ok : menv6.Ok Tryz.prog false := mkEnvM_ok mxs_ok mss5_ok mws2_ok
def mss6 : List (FuncId × SFM) := (90, (inlSM Tryz.prog false menv6 [4294967295] [] 96 .no Tryz.f90)) :: mss5
def menv7 : EnvM := mkEnvM mxs mss6 mws2
theorem mss6_ok : All (SOkM Tryz.prog false) mss6 := All.cons (SOkM.inl menv6_ok Tryz.func90 (fnNo _) Tryz.call90) mss5_ok
theorem menv7_ok : menv7.Ok Tryz.prog false := mkEnvM_ok mxs_ok mss6_ok mws2_ok
def mss7 : List (FuncId × SFM) := (47, (inlSM Tryz.prog false menv7 [4294967295] [] 96 .no Tryz.f47)) :: mss6
def menv8 : EnvM := mkEnvM mxs mss7 mws2
theorem mss7_ok : All (SOkM Tryz.prog false) mss7 := All.cons (SOkM.inl menv7_ok Tryz.func47 (fnNo _) Tryz.call47) mss6_ok
theorem menv8_ok : menv8.Ok Tryz.prog false := mkEnvM_ok mxs_ok mss7_ok mws2_ok
def mss8 : List (FuncId × SFM) := (91, (inlSM Tryz.prog false menv8 [4294967295] [] 96 .no Tryz.f91)) :: mss7
def menv9 : EnvM := mkEnvM mxs mss8 mws2
theorem mss8_ok : All (SOkM Tryz.prog false) mss8 := All.cons (SOkM.inl menv8_ok Tryz.func91 (fnNo _) Tryz.call91) mss7_ok
theorem menv9_ok : menv9.Ok Tryz.prog false := mkEnvM_ok mxs_ok mss8_ok mws2_ok
def mss9 : List (FuncId × SFM) := (52, (inlSM Tryz.prog false menv9 [4294967295] [] 96 .no Tryz.f52)) :: mss8
def menv10 : EnvM := mkEnvM mxs mss9 mws2
theorem mss9_ok : All (SOkM Tryz.prog false) mss9 := All.cons (SOkM.inl menv9_ok Tryz.func52 (fnNo _) Tryz.call52) mss8_ok
theorem menv10_ok : menv10.Ok Tryz.prog false := mkEnvM_ok mxs_ok mss9_ok mws2_ok
def mss10 : List (FuncId × SFM) := (70, (inlSM Tryz.prog false menv10 [4294967295] [] 96 .no Tryz.f70)) :: mss9
def menv11 : EnvM := mkEnvM mxs mss10 mws2
theorem mss10_ok : All (SOkM Tryz.prog false) mss10 := All.cons (SOkM.inl menv10_ok Tryz.func70 (fnNo _) Tryz.call70) mss9_ok
theorem menv11_ok : menv11.Ok Tryz.prog false := mkEnvM_ok mxs_ok mss10_ok mws2_ok
def mss11 : List (FuncId × SFM) := (73, (inlSM Tryz.prog false menv11 [4294967295] [] 96 .no Tryz.f73)) :: mss10
def menv12 : EnvM := mkEnvM mxs mss11 mws2
theorem mss11_ok : All (SOkM Tryz.prog false) mss11 := All.cons (SOkM.inl menv11_ok Tryz.func73 (fnNo _) Tryz.call73) mss10_ok
theorem menv12_ok : menv12.Ok Tryz.prog false := mkEnvM_ok mxs_ok mss11_ok mws2_ok
def mss12 : List (FuncId × SFM) := (46, (inlSM Tryz.prog false menv12 [4294967295] [] 96 .no Tryz.f46)) :: mss11
def menv13 : EnvM := mkEnvM mxs mss12 mws2
theorem mss12_ok : All (SOkM Tryz.prog false) mss12 := All.cons (SOkM.inl menv12_ok Tryz.func46 (fnNo _) Tryz.call46) mss11_ok
theorem menv13_ok : menv13.Ok Tryz.prog false := mkEnvM_ok mxs_ok mss12_ok mws2_ok
def mss13 : List (FuncId × SFM) := (51, (inlSM Tryz.prog false menv13 [4294967295] [] 96 .no Tryz.f51)) :: mss12
def menv14 : EnvM := mkEnvM mxs mss13 mws2
theorem mss13_ok : All (SOkM Tryz.prog false) mss13 := All.cons (SOkM.inl menv13_ok Tryz.func51 (fnNo _) Tryz.call51) mss12_ok
theorem menv14_ok : menv14.Ok Tryz.prog false := mkEnvM_ok mxs_ok mss13_ok mws2_ok
def mss14 : List (FuncId × SFM) := (76, (inlSM Tryz.prog false menv14 [4294967295] [] 96 .no Tryz.f76)) :: mss13
def menv15 : EnvM := mkEnvM mxs mss14 mws2
theorem mss14_ok : All (SOkM Tryz.prog false) mss14 := All.cons (SOkM.inl menv14_ok Tryz.func76 (fnNo _) Tryz.call76) mss13_ok
theorem menv15_ok : menv15.Ok Tryz.prog false := mkEnvM_ok mxs_ok mss14_ok mws2_ok
def mss15 : List (FuncId × SFM) := (124, (inlSM Tryz.prog false menv15 [4294967295] [] 96 .no Tryz.f124)) :: mss14
def menv16 : EnvM := mkEnvM mxs mss15 mws2
theorem mss15_ok : All (SOkM Tryz.prog false) mss15 := All.cons (SOkM.inl menv15_ok Tryz.func124 (fnNo _) Tryz.call124) mss14_ok
theorem menv16_ok : menv16.Ok Tryz.prog false := mkEnvM_ok mxs_ok mss15_ok mws2_ok
def mss16 : List (FuncId × SFM) := (118, (inlSM Tryz.prog false menv16 [4294967295] [] 96 .no Tryz.f118)) :: mss15
def menv17 : EnvM := mkEnvM mxs mss16 mws2
theorem mss16_ok : All (SOkM Tryz.prog false) mss16 := All.cons (SOkM.inl menv16_ok Tryz.func118 (fnNo _) Tryz.call118) mss15_ok
theorem menv17_ok : menv17.Ok Tryz.prog false := mkEnvM_ok mxs_ok mss16_ok mws2_ok
def mss17 : List (FuncId × SFM) := (115, (inlSM Tryz.prog false menv17 [4294967295] [] 96 .no Tryz.f115)) :: mss16
def menv18 : EnvM := mkEnvM mxs mss17 mws2
theorem mss17_ok : All (SOkM Tryz.prog false) mss17 := All.cons (SOkM.inl menv17_ok Tryz.func115 (fnNo _) Tryz.call115) mss16_ok
theorem menv18_ok : menv18.Ok Tryz.prog false := mkEnvM_ok mxs_ok mss17_ok mws2_ok
def mws3 : List (FuncId × WFM) := (44, (inlWM Tryz.prog false menv18 [4294967295] [] 96 .no Tryz.f44 100000)) :: mws2
def menv19 : EnvM := mkEnvM mxs mss17 mws3
theorem mws3_ok : All (WOkM Tryz.prog false) mws3 := All.cons (WOkM.inl menv18_ok Tryz.func44 (fnNo _) Tryz.call44) mws2_ok
theorem menv19_ok : menv19.Ok Tryz.prog false := mkEnvM_ok mxs_ok mss17_ok mws3_ok
def mss18 : List (FuncId × SFM) := (20, (inlSM Tryz.prog false menv19 [4294967295] [] 96 .no Tryz.f20)) :: mss17
def menv20 : EnvM := mkEnvM mxs mss18 mws3
theorem mss18_ok : All (SOkM Tryz.prog false) mss18 := All.cons (SOkM.inl menv19_ok Tryz.func20 (fnNo _) Tryz.call20) mss17_ok
theorem menv20_ok : menv20.Ok Tryz.prog false := mkEnvM_ok mxs_ok mss18_ok mws3_ok
def mss19 : List (FuncId × SFM) := (75, (inlSM Tryz.prog false menv20 [4294967295] [] 96 .no Tryz.f75)) :: mss18
def menv21 : EnvM := mkEnvM mxs mss19 mws3
theorem mss19_ok : All (SOkM Tryz.prog false) mss19 := All.cons (SOkM.inl menv20_ok Tryz.func75 (fnNo _) Tryz.call75) mss18_ok
theorem menv21_ok : menv21.Ok Tryz.prog false := mkEnvM_ok mxs_ok mss19_ok mws3_ok
def mss20 : List (FuncId × SFM) := (74, (inlSM Tryz.prog false menv21 [4294967295] [] 96 .no Tryz.f74)) :: mss19
def menv22 : EnvM := mkEnvM mxs mss20 mws3
theorem mss20_ok : All (SOkM Tryz.prog false) mss20 := All.cons (SOkM.inl menv21_ok Tryz.func74 (fnNo _) Tryz.call74) mss19_ok
theorem menv22_ok : menv22.Ok Tryz.prog false := mkEnvM_ok mxs_ok mss20_ok mws3_ok
def mss21 : List (FuncId × SFM) := (77, (inlSM Tryz.prog false menv22 [4294967295] [] 96 .no Tryz.f77)) :: mss20
def menv23 : EnvM := mkEnvM mxs mss21 mws3
theorem mss21_ok : All (SOkM Tryz.prog false) mss21 := All.cons (SOkM.inl menv22_ok Tryz.func77 (fnNo _) Tryz.call77) mss20_ok
theorem menv23_ok : menv23.Ok Tryz.prog false := mkEnvM_ok mxs_ok mss21_ok mws3_ok
def mss22 : List (FuncId × SFM) := (49, (inlSM Tryz.prog false menv23 [4294967295] [] 96 .no Tryz.f49)) :: mss21
def menv24 : EnvM := mkEnvM mxs mss22 mws3
theorem mss22_ok : All (SOkM Tryz.prog false) mss22 := All.cons (SOkM.inl menv23_ok Tryz.func49 (fnNo _) Tryz.call49) mss21_ok
theorem menv24_ok : menv24.Ok Tryz.prog false := mkEnvM_ok mxs_ok mss22_ok mws3_ok
def mss23 : List (FuncId × SFM) := (50, (inlSM Tryz.prog false menv24 [4294967295] [] 96 .no Tryz.f50)) :: mss22
def menv25 : EnvM := mkEnvM mxs mss23 mws3
theorem mss23_ok : All (SOkM Tryz.prog false) mss23 := All.cons (SOkM.inl menv24_ok Tryz.func50 (fnNo _) Tryz.call50) mss22_ok
theorem menv25_ok : menv25.Ok Tryz.prog false := mkEnvM_ok mxs_ok mss23_ok mws3_ok
def mss24 : List (FuncId × SFM) := (53, (inlSM Tryz.prog false menv25 [4294967295] [] 96 .no Tryz.f53)) :: mss23
def menv26 : EnvM := mkEnvM mxs mss24 mws3
theorem mss24_ok : All (SOkM Tryz.prog false) mss24 := All.cons (SOkM.inl menv25_ok Tryz.func53 (fnNo _) Tryz.call53) mss23_ok
theorem menv26_ok : menv26.Ok Tryz.prog false := mkEnvM_ok mxs_ok mss24_ok mws3_ok
def mss25 : List (FuncId × SFM) := (24, (inlSM Tryz.prog false menv26 [4294967295] [] 96 .no Tryz.f24)) :: mss24
def menv27 : EnvM := mkEnvM mxs mss25 mws3
theorem mss25_ok : All (SOkM Tryz.prog false) mss25 := All.cons (SOkM.inl menv26_ok Tryz.func24 (fnNo _) Tryz.call24) mss24_ok
theorem menv27_ok : menv27.Ok Tryz.prog false := mkEnvM_ok mxs_ok mss25_ok mws3_ok
def mss26 : List (FuncId × SFM) := (71, (inlSM Tryz.prog false menv27 [4294967295] [] 96 .no Tryz.f71)) :: mss25
def menv28 : EnvM := mkEnvM mxs mss26 mws3
theorem mss26_ok : All (SOkM Tryz.prog false) mss26 := All.cons (SOkM.inl menv27_ok Tryz.func71 (fnNo _) Tryz.call71) mss25_ok
theorem menv28_ok : menv28.Ok Tryz.prog false := mkEnvM_ok mxs_ok mss26_ok mws3_ok
def mss27 : List (FuncId × SFM) := (42, (inlSM Tryz.prog false menv28 [4294967295] [] 96 .no Tryz.f42)) :: mss26
def menv29 : EnvM := mkEnvM mxs mss27 mws3
theorem mss27_ok : All (SOkM Tryz.prog false) mss27 := All.cons (SOkM.inl menv28_ok Tryz.func42 (fnNo _) Tryz.call42) mss26_ok
theorem menv29_ok : menv29.Ok Tryz.prog false := mkEnvM_ok mxs_ok mss27_ok mws3_ok
def mss28 : List (FuncId × SFM) := (18, (inlSM Tryz.prog false menv29 [4294967295] [] 96 .no Tryz.f18)) :: mss27
def menv30 : EnvM := mkEnvM mxs mss28 mws3
theorem mss28_ok : All (SOkM Tryz.prog false) mss28 := All.cons (SOkM.inl menv29_ok Tryz.func18 (fnNo _) Tryz.call18) mss27_ok
theorem menv30_ok : menv30.Ok Tryz.prog false := mkEnvM_ok mxs_ok mss28_ok mws3_ok
def mss29 : List (FuncId × SFM) := (25, (inlSM Tryz.prog false menv30 [4294967295] [] 96 .no Tryz.f25)) :: mss28
def menv31 : EnvM := mkEnvM mxs mss29 mws3
theorem mss29_ok : All (SOkM Tryz.prog false) mss29 := All.cons (SOkM.inl menv30_ok Tryz.func25 (fnNo _) Tryz.call25) mss28_ok
theorem menv31_ok : menv31.Ok Tryz.prog false := mkEnvM_ok mxs_ok mss29_ok mws3_ok
def mss30 : List (FuncId × SFM) := (45, (inlSM Tryz.prog false menv31 [4294967295] [] 96 .no Tryz.f45)) :: mss29
def menv32 : EnvM := mkEnvM mxs mss30 mws3
theorem mss30_ok : All (SOkM Tryz.prog false) mss30 := All.cons (SOkM.inl menv31_ok Tryz.func45 (fnNo _) Tryz.call45) mss29_ok
theorem menv32_ok : menv32.Ok Tryz.prog false := mkEnvM_ok mxs_ok mss30_ok mws3_ok
def mss31 : List (FuncId × SFM) := (22, (inlSM Tryz.prog false menv32 [4294967295] [] 96 .no Tryz.f22)) :: mss30
def menv33 : EnvM := mkEnvM mxs mss31 mws3
theorem mss31_ok : All (SOkM Tryz.prog false) mss31 := All.cons (SOkM.inl menv32_ok Tryz.func22 (fnNo _) Tryz.call22) mss30_ok
theorem menv33_ok : menv33.Ok Tryz.prog false := mkEnvM_ok mxs_ok mss31_ok mws3_ok
def mss32 : List (FuncId × SFM) := (7, (inlSM Tryz.prog false menv33 [4294967295] [] 96 .no Tryz.f7)) :: mss31
def menv34 : EnvM := mkEnvM mxs mss32 mws3
theorem mss32_ok : All (SOkM Tryz.prog false) mss32 := All.cons (SOkM.inl menv33_ok Tryz.func7 (fnNo _) Tryz.call7) mss31_ok
theorem menv34_ok : menv34.Ok Tryz.prog false := mkEnvM_ok mxs_ok mss32_ok mws3_ok
def mss33 : List (FuncId × SFM) := (14, (inlSM Tryz.prog false menv34 [4294967295] [] 96 .no Tryz.f14)) :: mss32
def menv35 : EnvM := mkEnvM mxs mss33 mws3
theorem mss33_ok : All (SOkM Tryz.prog false) mss33 := All.cons (SOkM.inl menv34_ok Tryz.func14 (fnNo _) Tryz.call14) mss32_ok
theorem menv35_ok : menv35.Ok Tryz.prog false := mkEnvM_ok mxs_ok mss33_ok mws3_ok
def mss34 : List (FuncId × SFM) := (35, (inlSM Tryz.prog false menv35 [4294967295] [] 96 .no Tryz.f35)) :: mss33
def menv36 : EnvM := mkEnvM mxs mss34 mws3
theorem mss34_ok : All (SOkM Tryz.prog false) mss34 := All.cons (SOkM.inl menv35_ok Tryz.func35 (fnNo _) Tryz.call35) mss33_ok
theorem menv36_ok : menv36.Ok Tryz.prog false := mkEnvM_ok mxs_ok mss34_ok mws3_ok
def mss35 : List (FuncId × SFM) := (36, (inlSM Tryz.prog false menv36 [4294967295] [] 96 .no Tryz.f36)) :: mss34
def menv37 : EnvM := mkEnvM mxs mss35 mws3
theorem mss35_ok : All (SOkM Tryz.prog false) mss35 := All.cons (SOkM.inl menv36_ok Tryz.func36 (fnNo _) Tryz.call36) mss34_ok
theorem menv37_ok : menv37.Ok Tryz.prog false := mkEnvM_ok mxs_ok mss35_ok mws3_ok
def mss36 : List (FuncId × SFM) := (37, (inlSM Tryz.prog false menv37 [4294967295] [] 96 .no Tryz.f37)) :: mss35
def menv38 : EnvM := mkEnvM mxs mss36 mws3
theorem mss36_ok : All (SOkM Tryz.prog false) mss36 := All.cons (SOkM.inl menv37_ok Tryz.func37 (fnNo _) Tryz.call37) mss35_ok
theorem menv38_ok : menv38.Ok Tryz.prog false := mkEnvM_ok mxs_ok mss36_ok mws3_ok
def mss37 : List (FuncId × SFM) := (39, (inlSM Tryz.prog false menv38 [4294967295] [] 96 .no Tryz.f39)) :: mss36
def menv39 : EnvM := mkEnvM mxs mss37 mws3
theorem mss37_ok : All (SOkM Tryz.prog false) mss37 := All.cons (SOkM.inl menv38_ok Tryz.func39 (fnNo _) Tryz.call39) mss36_ok
theorem menv39_ok : menv39.Ok Tryz.prog false := mkEnvM_ok mxs_ok mss37_ok mws3_ok
def mss38 : List (FuncId × SFM) := (38, (inlSM Tryz.prog false menv39 [4294967295] [] 96 .no Tryz.f38)) :: mss37
def menv40 : EnvM := mkEnvM mxs mss38 mws3
theorem mss38_ok : All (SOkM Tryz.prog false) mss38 := All.cons (SOkM.inl menv39_ok Tryz.func38 (fnNo _) Tryz.call38) mss37_ok
theorem menv40_ok : menv40.Ok Tryz.prog false := mkEnvM_ok mxs_ok mss38_ok mws3_ok
def mss39 : List (FuncId × SFM) := (34, (inlSM Tryz.prog false menv40 [4294967295] [] 96 .no Tryz.f34)) :: mss38
def menv41 : EnvM := mkEnvM mxs mss39 mws3
theorem mss39_ok : All (SOkM Tryz.prog false) mss39 := All.cons (SOkM.inl menv40_ok Tryz.func34 (fnNo _) Tryz.call34) mss38_ok
theorem menv41_ok : menv41.Ok Tryz.prog false := mkEnvM_ok mxs_ok mss39_ok mws3_ok
def mss40 : List (FuncId × SFM) := (15, (inlSM Tryz.prog false menv41 [4294967295] [] 96 .no Tryz.f15)) :: mss39
def menv42 : EnvM := mkEnvM mxs mss40 mws3
theorem mss40_ok : All (SOkM Tryz.prog false) mss40 := All.cons (SOkM.inl menv41_ok Tryz.func15 (fnNo _) Tryz.call15) mss39_ok
theorem menv42_ok : menv42.Ok Tryz.prog false := mkEnvM_ok mxs_ok mss40_ok mws3_ok
def mss41 : List (FuncId × SFM) := (16, (inlSM Tryz.prog false menv42 [4294967295] [] 96 .no Tryz.f16)) :: mss40
def menv43 : EnvM := mkEnvM mxs mss41 mws3
theorem mss41_ok : All (SOkM Tryz.prog false) mss41 := All.cons (SOkM.inl menv42_ok Tryz.func16 (fnNo _) Tryz.call16) mss40_ok
theorem menv43_ok : menv43.Ok Tryz.prog false := mkEnvM_ok mxs_ok mss41_ok mws3_ok
def mss42 : List (FuncId × SFM) := (41, (inlSM Tryz.prog false menv43 [4294967295] [] 96 .no Tryz.f41)) :: mss41
def menv44 : EnvM := mkEnvM mxs mss42 mws3
theorem mss42_ok : All (SOkM Tryz.prog false) mss42 := All.cons (SOkM.inl menv43_ok Tryz.func41 (fnNo _) Tryz.call41) mss41_ok
theorem menv44_ok : menv44.Ok Tryz.prog false := mkEnvM_ok mxs_ok mss42_ok mws3_ok
def mss43 : List (FuncId × SFM) := (17, (inlSM Tryz.prog false menv44 [4294967295] [] 96 .no Tryz.f17)) :: mss42
def menv45 : EnvM := mkEnvM mxs mss43 mws3
theorem mss43_ok : All (SOkM Tryz.prog false) mss43 := All.cons (SOkM.inl menv44_ok Tryz.func17 (fnNo _) Tryz.call17) mss42_ok
theorem menv45_ok : menv45.Ok Tryz.prog false := mkEnvM_ok mxs_ok mss43_ok mws3_ok
def mss44 : List (FuncId × SFM) := (19, (inlSM Tryz.prog false menv45 [4294967295] [] 96 .no Tryz.f19)) :: mss43
def menv46 : EnvM := mkEnvM mxs mss44 mws3
theorem mss44_ok : All (SOkM Tryz.prog false) mss44 := All.cons (SOkM.inl menv45_ok Tryz.func19 (fnNo _) Tryz.call19) mss43_ok
theorem menv46_ok : menv46.Ok Tryz.prog false := mkEnvM_ok mxs_ok mss44_ok mws3_ok
theorem ann_law08_alive : FnOk Tryz.prog false 0 Tryz.f5 Ann.no := (fnNo _)
def s_law08_alive_0 : Bool := true
theorem e_law08_alive : outB (evFnM Tryz.prog false menv46 [4294967295] [] 96 Ann.no Tryz.f5 [] []) = some (true, AV.bool (s_law08_alive_0)) := by kernel_rfl
def S_law08_alive : List AV → Option (Ob × AV)
  | [] => some (Ob.tt, AV.bool (s_law08_alive_0))
  | _ => none
theorem t_law08_alive : SOkM Tryz.prog false (5, fun args => match S_law08_alive args with | some (o, v) => some (o, v, []) | none => none) := SOkM.flat (N := 96) menv46_ok Tryz.func5 ann_law08_alive Tryz.call5 fun args o v h ho => by
  unfold S_law08_alive at h
  split at h
  · skip
    cases h
    have ho2 := ho
    have this := show outB (evFnM Tryz.prog false menv46 [4294967295] [] 96 Ann.no Tryz.f5 [] []) = _ from e_law08_alive
    exact ⟨this, rfl⟩
  · cases h
def c_law08_alive : SFM := fun args => match S_law08_alive args with | some (o, v) => some (o, v, []) | none => none
theorem c_law08_alive_ok : SOkM Tryz.prog false (5, c_law08_alive) := t_law08_alive
def mss45 : List (FuncId × SFM) := (5, c_law08_alive) :: mss44
def menv47 : EnvM := mkEnvM mxs mss45 mws3
theorem mss45_ok : All (SOkM Tryz.prog false) mss45 := All.cons c_law08_alive_ok mss44_ok
theorem menv47_ok : menv47.Ok Tryz.prog false := mkEnvM_ok mxs_ok mss45_ok mws3_ok
-- tumble/num.Within[float64]
theorem ann_num_Within_float64_ : FnOk Tryz.prog false 0 Tryz.f21 Ann.no := (fnNo _)
def s_num_Within_float64__0 (d e : Nat) : Bool := ((fle (fneg e) d) && (fle d e))
theorem e_num_Within_float64_ (d e : Nat) : outB (evFnM Tryz.prog false menv47 [] [] 96 Ann.no Tryz.f21 [AV.float d, AV.float e] []) = some (true, AV.bool (s_num_Within_float64__0 d e)) := by kernel_rfl
def S_num_Within_float64_ : List AV → Option (Ob × AV)
  | [AV.float d, AV.float e] => some (Ob.tt, AV.bool (s_num_Within_float64__0 d e))
  | _ => none
theorem t_num_Within_float64_ : SOkM Tryz.prog false (21, fun args => match S_num_Within_float64_ args with | some (o, v) => some (o, v, []) | none => none) := SOkM.flat (N := 96) menv47_ok Tryz.func21 ann_num_Within_float64_ Tryz.call21 fun args o v h ho => by
  unfold S_num_Within_float64_ at h
  split at h
  · rename_i d e
    cases h
    have ho2 := ho
    have this := show outB (evFnM Tryz.prog false menv47 [] [] 96 Ann.no Tryz.f21 [AV.float d, AV.float e] []) = _ from e_num_Within_float64_ d e
    exact ⟨this, rfl⟩
  · cases h
def c_num_Within_float64_ : SFM := fun args => match S_num_Within_float64_ args with | some (o, v) => some (o, v, []) | none => none
theorem c_num_Within_float64__ok : SOkM Tryz.prog false (21, c_num_Within_float64_) := t_num_Within_float64_
def mss46 : List (FuncId × SFM) := (21, c_num_Within_float64_) :: mss45
def menv48 : EnvM := mkEnvM mxs mss46 mws3
theorem mss46_ok : All (SOkM Tryz.prog false) mss46 := All.cons c_num_Within_float64__ok mss45_ok
theorem menv48_ok : menv48.Ok Tryz.prog false := mkEnvM_ok mxs_ok mss46_ok mws3_ok
-- tumble/vec.Within
theorem ann_vec_Within : FnOk Tryz.prog false 0 Tryz.f40 Ann.no := (fnNo _)
def s_vec_Within_0 (d e u : Nat) : Bool := ((s_num_Within_float64__0 d u) && (s_num_Within_float64__0 e u))
theorem e_vec_Within (d e u : Nat) : outB (evFnM Tryz.prog false menv48 [] [] 96 Ann.no Tryz.f40 [AV.agg [AV.float d, AV.float e], AV.float u] []) = some (true, AV.bool (s_vec_Within_0 d e u)) := by kernel_rfl
def S_vec_Within : List AV → Option (Ob × AV)
  | [AV.agg [AV.float d, AV.float e], AV.float u] => some (Ob.tt, AV.bool (s_vec_Within_0 d e u))
  | _ => none
theorem t_vec_Within : SOkM Tryz.prog false (40, fun args => match S_vec_Within args with | some (o, v) => some (o, v, []) | none => none) := SOkM.flat (N := 96) menv48_ok Tryz.func40 ann_vec_Within Tryz.call40 fun args o v h ho => by
  unfold S_vec_Within at h
  split at h
  · rename_i d e u
    cases h
    have ho2 := ho
    have this := show outB (evFnM Tryz.prog false menv48 [] [] 96 Ann.no Tryz.f40 [AV.agg [AV.float d, AV.float e], AV.float u] []) = _ from e_vec_Within d e u
    exact ⟨this, rfl⟩
  · cases h
def c_vec_Within : SFM := fun args => match S_vec_Within args with | some (o, v) => some (o, v, []) | none => none
theorem c_vec_Within_ok : SOkM Tryz.prog false (40, c_vec_Within) := t_vec_Within
def mss47 : List (FuncId × SFM) := (40, c_vec_Within) :: mss46
def menv49 : EnvM := mkEnvM mxs mss47 mws3
theorem mss47_ok : All (SOkM Tryz.prog false) mss47 := All.cons c_vec_Within_ok mss46_ok
theorem menv49_ok : menv49.Ok Tryz.prog false := mkEnvM_ok mxs_ok mss47_ok mws3_ok
-- tumble/shape.length
theorem ann_shape_length : FnOk Tryz.prog false 0 Tryz.f118 Ann.no := (fnNo _)
def s_shape_length_0 (d : Nat) : Bool := ((fle 4472074429978902528 d) && (fle d 4787326403894837248))
theorem e_shape_length (d : Nat) : outB (evFnM Tryz.prog false menv49 [] [] 96 Ann.no Tryz.f118 [AV.float d] []) = some (true, AV.bool (s_shape_length_0 d)) := by kernel_rfl
def S_shape_length : List AV → Option (Ob × AV)
  | [AV.float d] => some (Ob.tt, AV.bool (s_shape_length_0 d))
  | _ => none
theorem t_shape_length : SOkM Tryz.prog false (118, fun args => match S_shape_length args with | some (o, v) => some (o, v, []) | none => none) := SOkM.flat (N := 96) menv49_ok Tryz.func118 ann_shape_length Tryz.call118 fun args o v h ho => by
  unfold S_shape_length at h
  split at h
  · rename_i d
    cases h
    have ho2 := ho
    have this := show outB (evFnM Tryz.prog false menv49 [] [] 96 Ann.no Tryz.f118 [AV.float d] []) = _ from e_shape_length d
    exact ⟨this, rfl⟩
  · cases h
def c_shape_length : SFM := fun args => match S_shape_length args with | some (o, v) => some (o, v, []) | none => none
theorem c_shape_length_ok : SOkM Tryz.prog false (118, c_shape_length) := t_shape_length
def mss48 : List (FuncId × SFM) := (118, c_shape_length) :: mss47
def menv50 : EnvM := mkEnvM mxs mss48 mws3
theorem mss48_ok : All (SOkM Tryz.prog false) mss48 := All.cons c_shape_length_ok mss47_ok
theorem menv50_ok : menv50.Ok Tryz.prog false := mkEnvM_ok mxs_ok mss48_ok mws3_ok
-- (tumble/shape.circle).check
theorem ann__shape_circle__check : FnOk Tryz.prog false 0 Tryz.f115 Ann.no := (fnNo _)
def s__shape_circle__check_0 (d e u : Nat) : Int := (bif ((!(s_vec_Within_0 d e 4787326403894837248)) || (!(s_shape_length_0 u))) then (5 : Int) else (0 : Int))
theorem e__shape_circle__check (d e u : Nat) : outB (evFnM Tryz.prog false menv50 [] [] 96 Ann.no Tryz.f115 [AV.agg [AV.float d, AV.float e, AV.float u]] []) = some (true, AV.int .i64 (s__shape_circle__check_0 d e u)) := by kernel_rfl
def S__shape_circle__check : List AV → Option (Ob × AV)
  | [AV.agg [AV.float d, AV.float e, AV.float u]] => some (Ob.tt, AV.int .i64 (s__shape_circle__check_0 d e u))
  | _ => none
theorem t__shape_circle__check : SOkM Tryz.prog false (115, fun args => match S__shape_circle__check args with | some (o, v) => some (o, v, []) | none => none) := SOkM.flat (N := 96) menv50_ok Tryz.func115 ann__shape_circle__check Tryz.call115 fun args o v h ho => by
  unfold S__shape_circle__check at h
  split at h
  · rename_i d e u
    cases h
    have ho2 := ho
    have this := show outB (evFnM Tryz.prog false menv50 [] [] 96 Ann.no Tryz.f115 [AV.agg [AV.float d, AV.float e, AV.float u]] []) = _ from e__shape_circle__check d e u
    exact ⟨this, rfl⟩
  · cases h
def c__shape_circle__check : SFM := fun args => match S__shape_circle__check args with | some (o, v) => some (o, v, []) | none => none
theorem c__shape_circle__check_ok : SOkM Tryz.prog false (115, c__shape_circle__check) := t__shape_circle__check
def mss49 : List (FuncId × SFM) := (115, c__shape_circle__check) :: mss48
def menv51 : EnvM := mkEnvM mxs mss49 mws3
theorem mss49_ok : All (SOkM Tryz.prog false) mss49 := All.cons c__shape_circle__check_ok mss48_ok
theorem menv51_ok : menv51.Ok Tryz.prog false := mkEnvM_ok mxs_ok mss49_ok mws3_ok
-- tumble/vec.Sub
theorem ann_vec_Sub : FnOk Tryz.prog false 0 Tryz.f47 Ann.no := (fnNo _)
def s_vec_Sub_0 (d e u k : Nat) : Nat := (fsub d u)
def s_vec_Sub_1 (d e u k : Nat) : Nat := (fsub e k)
theorem e_vec_Sub (d e u k : Nat) : outB (evFnM Tryz.prog false menv51 [] [] 96 Ann.no Tryz.f47 [AV.agg [AV.float d, AV.float e], AV.agg [AV.float u, AV.float k]] []) = some (true, AV.agg [AV.float (s_vec_Sub_0 d e u k), AV.float (s_vec_Sub_1 d e u k)]) := by kernel_rfl
def S_vec_Sub : List AV → Option (Ob × AV)
  | [AV.agg [AV.float d, AV.float e], AV.agg [AV.float u, AV.float k]] => some (Ob.tt, AV.agg [AV.float (s_vec_Sub_0 d e u k), AV.float (s_vec_Sub_1 d e u k)])
  | _ => none
theorem t_vec_Sub : SOkM Tryz.prog false (47, fun args => match S_vec_Sub args with | some (o, v) => some (o, v, []) | none => none) := SOkM.flat (N := 96) menv51_ok Tryz.func47 ann_vec_Sub Tryz.call47 fun args o v h ho => by
  unfold S_vec_Sub at h
  split at h
  · rename_i d e u k
    cases h
    have ho2 := ho
    have this := show outB (evFnM Tryz.prog false menv51 [] [] 96 Ann.no Tryz.f47 [AV.agg [AV.float d, AV.float e], AV.agg [AV.float u, AV.float k]] []) = _ from e_vec_Sub d e u k
    exact ⟨this, rfl⟩
  · cases h
def c_vec_Sub : SFM := fun args => match S_vec_Sub args with | some (o, v) => some (o, v, []) | none => none
theorem c_vec_Sub_ok : SOkM Tryz.prog false (47, c_vec_Sub) := t_vec_Sub
def mss50 : List (FuncId × SFM) := (47, c_vec_Sub) :: mss49
def menv52 : EnvM := mkEnvM mxs mss50 mws3
theorem mss50_ok : All (SOkM Tryz.prog false) mss50 := All.cons c_vec_Sub_ok mss49_ok
theorem menv52_ok : menv52.Ok Tryz.prog false := mkEnvM_ok mxs_ok mss50_ok mws3_ok
-- tumble/vec.Dot
theorem ann_vec_Dot : FnOk Tryz.prog false 0 Tryz.f52 Ann.no := (fnNo _)
def s_vec_Dot_0 (d e u k : Nat) : Nat := (fadd (fmul d u) (fmul e k))
theorem e_vec_Dot (d e u k : Nat) : outB (evFnM Tryz.prog false menv52 [] [] 96 Ann.no Tryz.f52 [AV.agg [AV.float d, AV.float e], AV.agg [AV.float u, AV.float k]] []) = some (true, AV.float (s_vec_Dot_0 d e u k)) := by kernel_rfl
def S_vec_Dot : List AV → Option (Ob × AV)
  | [AV.agg [AV.float d, AV.float e], AV.agg [AV.float u, AV.float k]] => some (Ob.tt, AV.float (s_vec_Dot_0 d e u k))
  | _ => none
theorem t_vec_Dot : SOkM Tryz.prog false (52, fun args => match S_vec_Dot args with | some (o, v) => some (o, v, []) | none => none) := SOkM.flat (N := 96) menv52_ok Tryz.func52 ann_vec_Dot Tryz.call52 fun args o v h ho => by
  unfold S_vec_Dot at h
  split at h
  · rename_i d e u k
    cases h
    have ho2 := ho
    have this := show outB (evFnM Tryz.prog false menv52 [] [] 96 Ann.no Tryz.f52 [AV.agg [AV.float d, AV.float e], AV.agg [AV.float u, AV.float k]] []) = _ from e_vec_Dot d e u k
    exact ⟨this, rfl⟩
  · cases h
def c_vec_Dot : SFM := fun args => match S_vec_Dot args with | some (o, v) => some (o, v, []) | none => none
theorem c_vec_Dot_ok : SOkM Tryz.prog false (52, c_vec_Dot) := t_vec_Dot
def mss51 : List (FuncId × SFM) := (52, c_vec_Dot) :: mss50
def menv53 : EnvM := mkEnvM mxs mss51 mws3
theorem mss51_ok : All (SOkM Tryz.prog false) mss51 := All.cons c_vec_Dot_ok mss50_ok
theorem menv53_ok : menv53.Ok Tryz.prog false := mkEnvM_ok mxs_ok mss51_ok mws3_ok
-- tumble/vec.Square
theorem ann_vec_Square : FnOk Tryz.prog false 0 Tryz.f70 Ann.no := (fnNo _)
def s_vec_Square_0 (d e : Nat) : Nat := (s_vec_Dot_0 d e d e)
theorem e_vec_Square (d e : Nat) : outB (evFnM Tryz.prog false menv53 [] [] 96 Ann.no Tryz.f70 [AV.agg [AV.float d, AV.float e]] []) = some (true, AV.float (s_vec_Square_0 d e)) := by kernel_rfl
def S_vec_Square : List AV → Option (Ob × AV)
  | [AV.agg [AV.float d, AV.float e]] => some (Ob.tt, AV.float (s_vec_Square_0 d e))
  | _ => none
theorem t_vec_Square : SOkM Tryz.prog false (70, fun args => match S_vec_Square args with | some (o, v) => some (o, v, []) | none => none) := SOkM.flat (N := 96) menv53_ok Tryz.func70 ann_vec_Square Tryz.call70 fun args o v h ho => by
  unfold S_vec_Square at h
  split at h
  · rename_i d e
    cases h
    have ho2 := ho
    have this := show outB (evFnM Tryz.prog false menv53 [] [] 96 Ann.no Tryz.f70 [AV.agg [AV.float d, AV.float e]] []) = _ from e_vec_Square d e
    exact ⟨this, rfl⟩
  · cases h
def c_vec_Square : SFM := fun args => match S_vec_Square args with | some (o, v) => some (o, v, []) | none => none
theorem c_vec_Square_ok : SOkM Tryz.prog false (70, c_vec_Square) := t_vec_Square
def mss52 : List (FuncId × SFM) := (70, c_vec_Square) :: mss51
def menv54 : EnvM := mkEnvM mxs mss52 mws3
theorem mss52_ok : All (SOkM Tryz.prog false) mss52 := All.cons c_vec_Square_ok mss51_ok
theorem menv54_ok : menv54.Ok Tryz.prog false := mkEnvM_ok mxs_ok mss52_ok mws3_ok
-- math.Sqrt
theorem ann_math_Sqrt : FnOk Tryz.prog false 0 Tryz.f73 Ann.no := (fnNo _)
def s_math_Sqrt_0 (d : Nat) : Nat := (fsqrt d)
theorem e_math_Sqrt (d : Nat) : outB (evFnM Tryz.prog false menv54 [] [] 96 Ann.no Tryz.f73 [AV.float d] []) = some (true, AV.float (s_math_Sqrt_0 d)) := by kernel_rfl
def S_math_Sqrt : List AV → Option (Ob × AV)
  | [AV.float d] => some (Ob.tt, AV.float (s_math_Sqrt_0 d))
  | _ => none
theorem t_math_Sqrt : SOkM Tryz.prog false (73, fun args => match S_math_Sqrt args with | some (o, v) => some (o, v, []) | none => none) := SOkM.flat (N := 96) menv54_ok Tryz.func73 ann_math_Sqrt Tryz.call73 fun args o v h ho => by
  unfold S_math_Sqrt at h
  split at h
  · rename_i d
    cases h
    have ho2 := ho
    have this := show outB (evFnM Tryz.prog false menv54 [] [] 96 Ann.no Tryz.f73 [AV.float d] []) = _ from e_math_Sqrt d
    exact ⟨this, rfl⟩
  · cases h
def c_math_Sqrt : SFM := fun args => match S_math_Sqrt args with | some (o, v) => some (o, v, []) | none => none
theorem c_math_Sqrt_ok : SOkM Tryz.prog false (73, c_math_Sqrt) := t_math_Sqrt
def mss53 : List (FuncId × SFM) := (73, c_math_Sqrt) :: mss52
def menv55 : EnvM := mkEnvM mxs mss53 mws3
theorem mss53_ok : All (SOkM Tryz.prog false) mss53 := All.cons c_math_Sqrt_ok mss52_ok
theorem menv55_ok : menv55.Ok Tryz.prog false := mkEnvM_ok mxs_ok mss53_ok mws3_ok
-- tumble/vec.Length
theorem ann_vec_Length : FnOk Tryz.prog false 0 Tryz.f46 Ann.no := (fnNo _)
def s_vec_Length_0 (d e : Nat) : Nat := (s_math_Sqrt_0 (s_vec_Square_0 d e))
theorem e_vec_Length (d e : Nat) : outB (evFnM Tryz.prog false menv55 [] [] 96 Ann.no Tryz.f46 [AV.agg [AV.float d, AV.float e]] []) = some (true, AV.float (s_vec_Length_0 d e)) := by kernel_rfl
def S_vec_Length : List AV → Option (Ob × AV)
  | [AV.agg [AV.float d, AV.float e]] => some (Ob.tt, AV.float (s_vec_Length_0 d e))
  | _ => none
theorem t_vec_Length : SOkM Tryz.prog false (46, fun args => match S_vec_Length args with | some (o, v) => some (o, v, []) | none => none) := SOkM.flat (N := 96) menv55_ok Tryz.func46 ann_vec_Length Tryz.call46 fun args o v h ho => by
  unfold S_vec_Length at h
  split at h
  · rename_i d e
    cases h
    have ho2 := ho
    have this := show outB (evFnM Tryz.prog false menv55 [] [] 96 Ann.no Tryz.f46 [AV.agg [AV.float d, AV.float e]] []) = _ from e_vec_Length d e
    exact ⟨this, rfl⟩
  · cases h
def c_vec_Length : SFM := fun args => match S_vec_Length args with | some (o, v) => some (o, v, []) | none => none
theorem c_vec_Length_ok : SOkM Tryz.prog false (46, c_vec_Length) := t_vec_Length
def mss54 : List (FuncId × SFM) := (46, c_vec_Length) :: mss53
def menv56 : EnvM := mkEnvM mxs mss54 mws3
theorem mss54_ok : All (SOkM Tryz.prog false) mss54 := All.cons c_vec_Length_ok mss53_ok
theorem menv56_ok : menv56.Ok Tryz.prog false := mkEnvM_ok mxs_ok mss54_ok mws3_ok
-- (tumble/shape.capsule).check
theorem ann__shape_capsule__check : FnOk Tryz.prog false 0 Tryz.f120 Ann.no := (fnNo _)
def s__shape_capsule__check_0 (d e u k M : Nat) : Int := (bif ((((!(s_vec_Within_0 d e 4787326403894837248)) || (!(s_vec_Within_0 u k 4787326403894837248))) || (!(s_shape_length_0 M))) || (flt (s_vec_Length_0 (s_vec_Sub_0 u k d e) (s_vec_Sub_1 u k d e)) 4472074429978902528)) then (bif (((!(s_vec_Within_0 d e 4787326403894837248)) || (!(s_vec_Within_0 u k 4787326403894837248))) || (!(s_shape_length_0 M))) then (5 : Int) else (6 : Int)) else (0 : Int))
theorem e__shape_capsule__check (d e u k M : Nat) : outB (evFnM Tryz.prog false menv56 [] [] 96 Ann.no Tryz.f120 [AV.agg [AV.float d, AV.float e, AV.float u, AV.float k, AV.float M]] []) = some (true, AV.int .i64 (s__shape_capsule__check_0 d e u k M)) := by kernel_rfl
def S__shape_capsule__check : List AV → Option (Ob × AV)
  | [AV.agg [AV.float d, AV.float e, AV.float u, AV.float k, AV.float M]] => some (Ob.tt, AV.int .i64 (s__shape_capsule__check_0 d e u k M))
  | _ => none
theorem t__shape_capsule__check : SOkM Tryz.prog false (120, fun args => match S__shape_capsule__check args with | some (o, v) => some (o, v, []) | none => none) := SOkM.flat (N := 96) menv56_ok Tryz.func120 ann__shape_capsule__check Tryz.call120 fun args o v h ho => by
  unfold S__shape_capsule__check at h
  split at h
  · rename_i d e u k M
    cases h
    have ho2 := ho
    have this := show outB (evFnM Tryz.prog false menv56 [] [] 96 Ann.no Tryz.f120 [AV.agg [AV.float d, AV.float e, AV.float u, AV.float k, AV.float M]] []) = _ from e__shape_capsule__check d e u k M
    exact ⟨this, rfl⟩
  · cases h
def c__shape_capsule__check : SFM := fun args => match S__shape_capsule__check args with | some (o, v) => some (o, v, []) | none => none
theorem c__shape_capsule__check_ok : SOkM Tryz.prog false (120, c__shape_capsule__check) := t__shape_capsule__check
def mss55 : List (FuncId × SFM) := (120, c__shape_capsule__check) :: mss54
def menv57 : EnvM := mkEnvM mxs mss55 mws3
theorem mss55_ok : All (SOkM Tryz.prog false) mss55 := All.cons c__shape_capsule__check_ok mss54_ok
theorem menv57_ok : menv57.Ok Tryz.prog false := mkEnvM_ok mxs_ok mss55_ok mws3_ok
-- tumble/poly.reals
-- a loop of tumble/poly.reals
structure V_poly_reals_L0 where
  v0 : Int
def tpl_poly_reals_L0 : List AV := (tpA 8 (AV.nul :: AV.nul :: AV.nul :: tpA 7 ([])))
def cts_poly_reals_L0 : List CT := []
def phs_poly_reals_L0 : List Src := []
def T_poly_reals_L0 (j : Nat) (m l : Nat → Nat) (r : Int) (x : V_poly_reals_L0) (F0 : Nat → List AV) : List AV × Heap := ((tpA 8 (AV.view j 2 F0 :: AV.int .i64 r :: AV.int .i64 x.v0 :: tpA 7 ([]))), [])
def sh_poly_reals_L0 (j : Nat) (m l : Nat → Nat) (r : Int) (x : V_poly_reals_L0) : List AV × Heap := T_poly_reals_L0 j m l r x (fun j0 => [AV.float (m j0), AV.float (l j0)])
def step_poly_reals_L0 (j : Nat) (m l : Nat → Nat) (r : Int) (x : V_poly_reals_L0) : V_poly_reals_L0 := V_poly_reals_L0.mk (IntKind.wrap .i64 (x.v0 + (1 : Int)))
def go_poly_reals_L0 (j : Nat) (m l : Nat → Nat) (r : Int) (x : V_poly_reals_L0) : Bool := (bif (bif (!(ilt x.v0 r)) then false else (!(s_vec_Within_0 (m (Int.toNat x.v0)) (l (Int.toNat x.v0)) 4787326403894837248))) then false else (bif (!(ilt x.v0 r)) then false else true))
def ok_poly_reals_L0 (j : Nat) (m l : Nat → Nat) (r : Int) (x : V_poly_reals_L0) : Bool := (mrgB (bif (!(ilt x.v0 r)) then false else (!(s_vec_Within_0 (m (Int.toNat x.v0)) (l (Int.toNat x.v0)) 4787326403894837248))) ((ile (0 : Int) x.v0) && (Nat.blt (Int.toNat x.v0) j)) (mrgB (!(ilt x.v0 r)) true ((ile (0 : Int) x.v0) && (Nat.blt (Int.toNat x.v0) j))))
def L_poly_reals_L0 (j : Nat) (m l : Nat → Nat) (r : Int) (x : V_poly_reals_L0) : V_poly_reals_L0 := lastL (ok_poly_reals_L0 j m l r) (go_poly_reals_L0 j m l r) (step_poly_reals_L0 j m l r) x
def E_poly_reals_L0 (j : Nat) (m l : Nat → Nat) (r : Int) (x : V_poly_reals_L0) : Bool := endsL (ok_poly_reals_L0 j m l r) (go_poly_reals_L0 j m l r) (step_poly_reals_L0 j m l r) x
theorem all_poly_reals_L0 (j : Nat) (m l : Nat → Nat) (r : Int) (x : V_poly_reals_L0) : rnd Tryz.prog false menv57 [] [] 96 Ann.no (subC [1, 1, 0, 1, 0, 0] (codeOf Tryz.f90)) 0 [] tpl_poly_reals_L0 cts_poly_reals_L0 (tpB 8 (false :: false :: tpB 8 ([]))) [] (sh_poly_reals_L0 j m l r x) = (true, true, go_poly_reals_L0 j m l r x, ok_poly_reals_L0 j m l r x, true, sh_poly_reals_L0 j m l r (step_poly_reals_L0 j m l r x), true) := by kernel_rfl
def fam_poly_reals_L0 (j : Nat) (m l : Nat → Nat) (r : Int) : Fam Tryz.prog false menv57 [] [] 96 0 Ann.no (subC [1, 1, 0, 1, 0, 0] (codeOf Tryz.f90)) V_poly_reals_L0 where
  sh := sh_poly_reals_L0 j m l r
  ok := ok_poly_reals_L0 j m l r
  go := go_poly_reals_L0 j m l r
  step := step_poly_reals_L0 j m l r
  chg := (tpB 8 (false :: false :: tpB 8 ([])))
  chgH := []
  tpl := tpl_poly_reals_L0
  cts := cts_poly_reals_L0
  keep := 0
  srcs := []
  ann := (annNo (subC [1, 1, 0, 1, 0, 0] (codeOf Tryz.f90)))
  le := by kernel_rfl
  kept := by kernel_rfl
  keptB := by kernel_rfl
  all := all_poly_reals_L0 j m l r
  len := fun x => by kernel_rfl
  head := fun x y => by kernel_rfl
  con := fun x y => by kernel_rfl
  conH := fun x y => by kernel_rfl
def F_poly_reals_L0 : St → Option Ch := fun s => cond (Nat.beq s.tm.length 18 && Nat.beq s.H.length 0) (tkTops 8 (alL tpl_poly_reals_L0 s.tm) fun t0 => tkCons t0 fun e t1 => tkView 2 e fun s0 f0 => tkCons t1 fun u t2 => tkI .i64 u fun s3 => tkCons t2 fun k t3 => tkI .i64 k fun s4 => tkTops 7 t3 fun t4 => tkNil t4 <| tkNil (alH cts_poly_reals_L0 (s.H ++ List.map phan phs_poly_reals_L0)) <| Fam.out (fam_poly_reals_L0 s0 (fL f0 0) (fL f0 1) s3) s (allB fun i => isNrm [Ck.f, Ck.f] (f0 i)) (V_poly_reals_L0.mk s4)) none
theorem F_poly_reals_L0_ok : ∀ s ch, F_poly_reals_L0 s = some ch → AllI s ch ∧ LoopSpec Tryz.prog false 0 (subC [1, 1, 0, 1, 0, 0] (codeOf Tryz.f90)) s (sel ch) := by
  intro s ch h
  unfold F_poly_reals_L0 at h
  obtain ⟨hl, h0⟩ := cond_some h rfl
  clear h
  obtain ⟨hl, hb⟩ := and_beq2 hl
  obtain ⟨t0, e0, h1⟩ := tkTops_some h0
  obtain ⟨e, t1, rfl, h2⟩ := tkCons_some h1
  obtain ⟨s0, f0, rfl, h3⟩ := tkView_some h2
  obtain ⟨u, t2, rfl, h4⟩ := tkCons_some h3
  obtain ⟨s3, rfl, h5⟩ := tkI_some h4
  obtain ⟨k, t3, rfl, h6⟩ := tkCons_some h5
  obtain ⟨s4, rfl, h7⟩ := tkI_some h6
  obtain ⟨t4, rfl, h8⟩ := tkTops_some h7
  obtain ⟨rfl, h9⟩ := tkNil_some h8
  obtain ⟨eH, h10⟩ := tkNil_some h9
  refine Fam.spec menv57_ok (fam_poly_reals_L0 s0 (fL f0 0) (fL f0 1) s3) (phs := phs_poly_reals_L0) (hl.trans (by kernel_rfl)) (hb.trans (by kernel_rfl)) ?_ ?_ h10
  · rw [← hdr_alH cts_poly_reals_L0 (s.H ++ List.map phan phs_poly_reals_L0), eH]; kernel_rfl
  · intro hq
    have hq0 := hq
    have n0 := nrm_fun hq0
    show sh_poly_reals_L0 s0 (fL f0 0) (fL f0 1) s3 (V_poly_reals_L0.mk s4) = (alL tpl_poly_reals_L0 s.tm, alH cts_poly_reals_L0 (s.H ++ List.map phan phs_poly_reals_L0))
    rw [e0, eH]
    refine Eq.trans (show sh_poly_reals_L0 s0 (fL f0 0) (fL f0 1) s3 (V_poly_reals_L0.mk s4) = T_poly_reals_L0 s0 (fL f0 0) (fL f0 1) s3 (V_poly_reals_L0.mk s4) (fun i => mkN [Ck.f, Ck.f] (f0 i) 0) by kernel_rfl) ?_
    rw [n0]
    kernel_rfl
theorem ann_poly_reals : FnOk Tryz.prog false 0 Tryz.f90 (Ann.two Ann.no (Ann.two Ann.no (Ann.two (Ann.two Ann.no (Ann.one (Ann.loop F_poly_reals_L0))) Ann.no))) := (fnOk_of (c := codeOf Tryz.f90) (by kernel_rfl) (annSeq (a := (subC [0] (codeOf Tryz.f90))) (b := (subC [1] (codeOf Tryz.f90))) (by kernel_rfl) (annNo (subC [0] (codeOf Tryz.f90))) (annSeq (a := (subC [1, 0] (codeOf Tryz.f90))) (b := (subC [1, 1] (codeOf Tryz.f90))) (by kernel_rfl) (annNo (subC [1, 0] (codeOf Tryz.f90))) (annSeq (a := (subC [1, 1, 0] (codeOf Tryz.f90))) (b := (subC [1, 1, 1] (codeOf Tryz.f90))) (by kernel_rfl) (annSeq (a := (subC [1, 1, 0, 0] (codeOf Tryz.f90))) (b := (subC [1, 1, 0, 1] (codeOf Tryz.f90))) (by kernel_rfl) (annNo (subC [1, 1, 0, 0] (codeOf Tryz.f90))) (annBlock (a := (subC [1, 1, 0, 1, 0] (codeOf Tryz.f90))) (i := 0) (by kernel_rfl) (annLoop (a := (subC [1, 1, 0, 1, 0, 0] (codeOf Tryz.f90))) (by kernel_rfl) F_poly_reals_L0_ok))) (annNo (subC [1, 1, 1] (codeOf Tryz.f90)))))))
def s_poly_reals_0 (g : Nat) (n p : Nat → Nat) : Int := (bif (ilt (64 : Int) (Int.ofNat g)) then (4 : Int) else (bif (bif (!(ilt ((L_poly_reals_L0 g n p (Int.ofNat g) (V_poly_reals_L0.mk (0 : Int))).v0) (Int.ofNat g))) then false else (!(s_vec_Within_0 (n (Int.toNat ((L_poly_reals_L0 g n p (Int.ofNat g) (V_poly_reals_L0.mk (0 : Int))).v0))) (p (Int.toNat ((L_poly_reals_L0 g n p (Int.ofNat g) (V_poly_reals_L0.mk (0 : Int))).v0))) 4787326403894837248))) then (5 : Int) else (0 : Int)))
def q_poly_reals (g : Nat) (n p : Nat → Nat) : Bool := (let x0 := (allB fun _ => true) && (E_poly_reals_L0 g n p (Int.ofNat g) (V_poly_reals_L0.mk (0 : Int))); let x1 := (L_poly_reals_L0 g n p (Int.ofNat g) (V_poly_reals_L0.mk (0 : Int))).v0; let x2 := Int.toNat x1; (mrgB (ilt (64 : Int) (Int.ofNat g)) true (mrgB (bif (!(ilt x1 (Int.ofNat g))) then false else (!(s_vec_Within_0 (n x2) (p x2) 4787326403894837248))) x0 x0)))
theorem e_poly_reals (g : Nat) (n p : Nat → Nat) : outB (evFnM Tryz.prog false menv57 [] [] 96 (Ann.two Ann.no (Ann.two Ann.no (Ann.two (Ann.two Ann.no (Ann.one (Ann.loop F_poly_reals_L0))) Ann.no))) Tryz.f90 [AV.view g 2 (fun i0 => [AV.float (n i0), AV.float (p i0)])] []) = some (q_poly_reals g n p, AV.int .i64 (s_poly_reals_0 g n p)) := by kernel_rfl
def o_poly_reals (g : Nat) (n p : Nat → Nat) : Bool := (mrgB (ilt (64 : Int) (Int.ofNat g)) true (mrgB (bif (!(ilt ((L_poly_reals_L0 g n p (Int.ofNat g) (V_poly_reals_L0.mk (0 : Int))).v0) (Int.ofNat g))) then false else (!(s_vec_Within_0 (n (Int.toNat ((L_poly_reals_L0 g n p (Int.ofNat g) (V_poly_reals_L0.mk (0 : Int))).v0))) (p (Int.toNat ((L_poly_reals_L0 g n p (Int.ofNat g) (V_poly_reals_L0.mk (0 : Int))).v0))) 4787326403894837248))) (E_poly_reals_L0 g n p (Int.ofNat g) (V_poly_reals_L0.mk (0 : Int))) (E_poly_reals_L0 g n p (Int.ofNat g) (V_poly_reals_L0.mk (0 : Int)))))
def S_poly_reals : List AV → Option (Ob × AV)
  | [AV.view g 2 t] => some (Ob.both (Ob.bit (allB fun i => isNrm [Ck.f, Ck.f] (t i))) (Ob.bit (o_poly_reals g (fL t 0) (fL t 1))), AV.int .i64 (s_poly_reals_0 g (fL t 0) (fL t 1)))
  | _ => none
theorem ob_poly_reals (g : Nat) (n p : Nat → Nat) (ho : o_poly_reals g n p = true) : q_poly_reals g n p = true := by
  unfold q_poly_reals
  unfold o_poly_reals at ho
  simp only [allB_true, eqT_self, mrgB_self, Bool.true_and, Bool.and_true] at ho ⊢
  exact ho
theorem t_poly_reals : SOkM Tryz.prog false (90, fun args => match S_poly_reals args with | some (o, v) => some (o, v, []) | none => none) := SOkM.flat (N := 96) menv57_ok Tryz.func90 ann_poly_reals Tryz.call90 fun args o v h ho => by
  unfold S_poly_reals at h
  split at h
  · rename_i g t
    cases h
    rw [Ob.both_ok, Bool.and_eq_true] at ho
    obtain ⟨hn, ho2⟩ := ho
    have n0 := hn
    simp only [Ob.ok] at n0
    replace n0 := nrm_fun n0
    have this := show outB (evFnM Tryz.prog false menv57 [] [] 96 (Ann.two Ann.no (Ann.two Ann.no (Ann.two (Ann.two Ann.no (Ann.one (Ann.loop F_poly_reals_L0))) Ann.no))) Tryz.f90 [AV.view g 2 (fun i => mkN [Ck.f, Ck.f] (t i) 0)] []) = _ from e_poly_reals g (fL t 0) (fL t 1)
    rw [(ob_poly_reals g (fL t 0) (fL t 1) ho2)] at this
    rw [n0] at this
    exact ⟨this, rfl⟩
  · cases h
def c_poly_reals : SFM := fun args => match S_poly_reals args with | some (o, v) => some (o, v, []) | none => none
theorem c_poly_reals_ok : SOkM Tryz.prog false (90, c_poly_reals) := t_poly_reals
def mss56 : List (FuncId × SFM) := (90, c_poly_reals) :: mss55
def menv58 : EnvM := mkEnvM mxs mss56 mws3
theorem mss56_ok : All (SOkM Tryz.prog false) mss56 := All.cons c_poly_reals_ok mss55_ok
theorem menv58_ok : menv58.Ok Tryz.prog false := mkEnvM_ok mxs_ok mss56_ok mws3_ok
-- tumble/poly.side
theorem ann_poly_side : FnOk Tryz.prog false 0 Tryz.f91 Ann.no := (fnNo _)
def s_poly_side_0 (g : Nat) (n p : Nat → Nat) (e : Int) : Nat := (s_vec_Sub_0 (n (Int.toNat (Int.tmod (IntKind.wrap .i64 (e + (1 : Int))) (Int.ofNat g)))) (p (Int.toNat (Int.tmod (IntKind.wrap .i64 (e + (1 : Int))) (Int.ofNat g)))) (n (Int.toNat e)) (p (Int.toNat e)))
def s_poly_side_1 (g : Nat) (n p : Nat → Nat) (e : Int) : Nat := (s_vec_Sub_1 (n (Int.toNat (Int.tmod (IntKind.wrap .i64 (e + (1 : Int))) (Int.ofNat g)))) (p (Int.toNat (Int.tmod (IntKind.wrap .i64 (e + (1 : Int))) (Int.ofNat g)))) (n (Int.toNat e)) (p (Int.toNat e)))
def o_poly_side (g : Nat) (n p : Nat → Nat) (e : Int) : Bool := (((ile (0 : Int) e) && (Nat.blt (Int.toNat e) g)) && (((ile (0 : Int) (Int.tmod (IntKind.wrap .i64 (e + (1 : Int))) (Int.ofNat g))) && (Nat.blt (Int.toNat (Int.tmod (IntKind.wrap .i64 (e + (1 : Int))) (Int.ofNat g))) g)) && (!(ieq (Int.ofNat g) (0 : Int)))))
theorem e_poly_side (g : Nat) (n p : Nat → Nat) (e : Int) : outB (evFnM Tryz.prog false menv58 [] [] 96 Ann.no Tryz.f91 [AV.view g 2 (fun i0 => [AV.float (n i0), AV.float (p i0)]), AV.int .i64 e] []) = some (o_poly_side g n p e, AV.agg [AV.float (s_poly_side_0 g n p e), AV.float (s_poly_side_1 g n p e)]) := by kernel_rfl
def S_poly_side : List AV → Option (Ob × AV)
  | [AV.view g 2 t, AV.int .i64 e] => some (Ob.both (Ob.bit (allB fun i => isNrm [Ck.f, Ck.f] (t i))) (Ob.bit (o_poly_side g (fL t 0) (fL t 1) e)), AV.agg [AV.float (s_poly_side_0 g (fL t 0) (fL t 1) e), AV.float (s_poly_side_1 g (fL t 0) (fL t 1) e)])
  | _ => none
theorem t_poly_side : SOkM Tryz.prog false (91, fun args => match S_poly_side args with | some (o, v) => some (o, v, []) | none => none) := SOkM.flat (N := 96) menv58_ok Tryz.func91 ann_poly_side Tryz.call91 fun args o v h ho => by
  unfold S_poly_side at h
  split at h
  · rename_i g t e
    cases h
    rw [Ob.both_ok, Bool.and_eq_true] at ho
    obtain ⟨hn, ho2⟩ := ho
    have n0 := hn
    simp only [Ob.ok] at n0
    replace n0 := nrm_fun n0
    have this := show outB (evFnM Tryz.prog false menv58 [] [] 96 Ann.no Tryz.f91 [AV.view g 2 (fun i => mkN [Ck.f, Ck.f] (t i) 0), AV.int .i64 e] []) = _ from e_poly_side g (fL t 0) (fL t 1) e
    rw [show o_poly_side g (fL t 0) (fL t 1) e = true from ho2] at this
    rw [n0] at this
    exact ⟨this, rfl⟩
  · cases h
def c_poly_side : SFM := fun args => match S_poly_side args with | some (o, v) => some (o, v, []) | none => none
theorem c_poly_side_ok : SOkM Tryz.prog false (91, c_poly_side) := t_poly_side
def mss57 : List (FuncId × SFM) := (91, c_poly_side) :: mss56
def menv59 : EnvM := mkEnvM mxs mss57 mws3
theorem mss57_ok : All (SOkM Tryz.prog false) mss57 := All.cons c_poly_side_ok mss56_ok
theorem menv59_ok : menv59.Ok Tryz.prog false := mkEnvM_ok mxs_ok mss57_ok mws3_ok
-- tumble/vec.Cross
theorem ann_vec_Cross : FnOk Tryz.prog false 0 Tryz.f51 Ann.no := (fnNo _)
def s_vec_Cross_0 (d e u k : Nat) : Nat := (fsub (fmul d k) (fmul e u))
theorem e_vec_Cross (d e u k : Nat) : outB (evFnM Tryz.prog false menv59 [] [] 96 Ann.no Tryz.f51 [AV.agg [AV.float d, AV.float e], AV.agg [AV.float u, AV.float k]] []) = some (true, AV.float (s_vec_Cross_0 d e u k)) := by kernel_rfl
def S_vec_Cross : List AV → Option (Ob × AV)
  | [AV.agg [AV.float d, AV.float e], AV.agg [AV.float u, AV.float k]] => some (Ob.tt, AV.float (s_vec_Cross_0 d e u k))
  | _ => none
theorem t_vec_Cross : SOkM Tryz.prog false (51, fun args => match S_vec_Cross args with | some (o, v) => some (o, v, []) | none => none) := SOkM.flat (N := 96) menv59_ok Tryz.func51 ann_vec_Cross Tryz.call51 fun args o v h ho => by
  unfold S_vec_Cross at h
  split at h
  · rename_i d e u k
    cases h
    have ho2 := ho
    have this := show outB (evFnM Tryz.prog false menv59 [] [] 96 Ann.no Tryz.f51 [AV.agg [AV.float d, AV.float e], AV.agg [AV.float u, AV.float k]] []) = _ from e_vec_Cross d e u k
    exact ⟨this, rfl⟩
  · cases h
def c_vec_Cross : SFM := fun args => match S_vec_Cross args with | some (o, v) => some (o, v, []) | none => none
theorem c_vec_Cross_ok : SOkM Tryz.prog false (51, c_vec_Cross) := t_vec_Cross
def mss58 : List (FuncId × SFM) := (51, c_vec_Cross) :: mss57
def menv60 : EnvM := mkEnvM mxs mss58 mws3
theorem mss58_ok : All (SOkM Tryz.prog false) mss58 := All.cons c_vec_Cross_ok mss57_ok
theorem menv60_ok : menv60.Ok Tryz.prog false := mkEnvM_ok mxs_ok mss58_ok mws3_ok
-- tumble/poly.Check
-- a loop of tumble/poly.Check
structure V_poly_Check_L0 where
  v0 : Int
def tpl_poly_Check_L0 : List AV := (AV.nul :: AV.top :: AV.top :: AV.top :: AV.nul :: AV.nul :: AV.nul :: AV.nul :: tpA 8 (AV.nul :: AV.nul :: AV.nul :: tpA 31 ([])))
def cts_poly_Check_L0 : List CT := [CT.keep, CT.keep]
def phs_poly_Check_L0 : List Src := []
def T_poly_Check_L0 (j : Nat) (m l : Nat → Nat) (r C : Int) (D F I L : Nat) (x : V_poly_Check_L0) (F0 F1 : Nat → List AV) : List AV × Heap := ((AV.view j 2 F0 :: AV.top :: AV.top :: AV.top :: AV.int .i64 r :: AV.ptr (some ⟨0, 0, .lit 0⟩) :: AV.ptr (some ⟨1, 0, .lit 0⟩) :: AV.int .i64 x.v0 :: tpA 8 (AV.view j 2 F1 :: AV.int .i64 C :: AV.int .i64 r :: tpA 31 ([]))), [⟨.flat [AV.float D, AV.float F], 29, 0⟩, ⟨.flat [AV.float I, AV.float L], 29, 0⟩])
def sh_poly_Check_L0 (j : Nat) (m l : Nat → Nat) (r C : Int) (D F I L : Nat) (x : V_poly_Check_L0) : List AV × Heap := T_poly_Check_L0 j m l r C D F I L x (fun j0 => [AV.float (m j0), AV.float (l j0)]) (fun j0 => [AV.float (m j0), AV.float (l j0)])
def step_poly_Check_L0 (j : Nat) (m l : Nat → Nat) (r : Int) (D F I L : Nat) (x : V_poly_Check_L0) : V_poly_Check_L0 := V_poly_Check_L0.mk (IntKind.wrap .i64 (x.v0 + (1 : Int)))
def go_poly_Check_L0 (j : Nat) (m l : Nat → Nat) (r : Int) (D F I L : Nat) (x : V_poly_Check_L0) : Bool := let x0 := !(ilt x.v0 (Int.ofNat j)); let x1 := Int.toNat (Int.tmod (IntKind.wrap .i64 (r + x.v0)) (Int.ofNat j)); let x2 := l x1; let x3 := m x1; (bif (bif x0 then false else (fle (s_vec_Cross_0 I L (s_vec_Sub_0 x3 x2 D F) (s_vec_Sub_1 x3 x2 D F)) 0)) then false else (bif x0 then false else true))
def ok_poly_Check_L0 (j : Nat) (m l : Nat → Nat) (r : Int) (D F I L : Nat) (x : V_poly_Check_L0) : Bool := let x0 := Int.tmod (IntKind.wrap .i64 (r + x.v0)) (Int.ofNat j); let x1 := Int.toNat x0; let x2 := ((ile (0 : Int) x0) && (Nat.blt x1 j)) && (!(ieq (Int.ofNat j) (0 : Int))); let x3 := !(ilt x.v0 (Int.ofNat j)); let x4 := l x1; let x5 := m x1; (mrgB (bif x3 then false else (fle (s_vec_Cross_0 I L (s_vec_Sub_0 x5 x4 D F) (s_vec_Sub_1 x5 x4 D F)) 0)) x2 (mrgB x3 true x2))
def L_poly_Check_L0 (j : Nat) (m l : Nat → Nat) (r : Int) (D F I L : Nat) (x : V_poly_Check_L0) : V_poly_Check_L0 := lastL (ok_poly_Check_L0 j m l r D F I L) (go_poly_Check_L0 j m l r D F I L) (step_poly_Check_L0 j m l r D F I L) x
def E_poly_Check_L0 (j : Nat) (m l : Nat → Nat) (r : Int) (D F I L : Nat) (x : V_poly_Check_L0) : Bool := endsL (ok_poly_Check_L0 j m l r D F I L) (go_poly_Check_L0 j m l r D F I L) (step_poly_Check_L0 j m l r D F I L) x
theorem all_poly_Check_L0 (j : Nat) (m l : Nat → Nat) (r C : Int) (D F I L : Nat) (x : V_poly_Check_L0) : rnd Tryz.prog false menv60 [] [] 96 Ann.no (subC [1, 1, 1, 0, 1, 0, 0, 1, 1, 0, 0, 1, 1, 1, 1, 0, 0] (codeOf Tryz.f76)) 0 [⟨some 0, 0, 0, []⟩, ⟨some 1, 0, 0, []⟩] tpl_poly_Check_L0 cts_poly_Check_L0 (false :: true :: true :: true :: false :: false :: false :: tpB 9 (false :: false :: false :: tpB 31 ([]))) [false, false] (sh_poly_Check_L0 j m l r C D F I L x) = (true, true, go_poly_Check_L0 j m l r D F I L x, ok_poly_Check_L0 j m l r D F I L x, true, sh_poly_Check_L0 j m l r C D F I L (step_poly_Check_L0 j m l r D F I L x), true) := by kernel_rfl
def fam_poly_Check_L0 (j : Nat) (m l : Nat → Nat) (r C : Int) (D F I L : Nat) : Fam Tryz.prog false menv60 [] [] 96 0 Ann.no (subC [1, 1, 1, 0, 1, 0, 0, 1, 1, 0, 0, 1, 1, 1, 1, 0, 0] (codeOf Tryz.f76)) V_poly_Check_L0 where
  sh := sh_poly_Check_L0 j m l r C D F I L
  ok := ok_poly_Check_L0 j m l r D F I L
  go := go_poly_Check_L0 j m l r D F I L
  step := step_poly_Check_L0 j m l r D F I L
  chg := (false :: true :: true :: true :: false :: false :: false :: tpB 9 (false :: false :: false :: tpB 31 ([])))
  chgH := [false, false]
  tpl := tpl_poly_Check_L0
  cts := cts_poly_Check_L0
  keep := 0
  srcs := [⟨some 0, 0, 0, []⟩, ⟨some 1, 0, 0, []⟩]
  ann := (annNo (subC [1, 1, 1, 0, 1, 0, 0, 1, 1, 0, 0, 1, 1, 1, 1, 0, 0] (codeOf Tryz.f76)))
  le := by kernel_rfl
  kept := by kernel_rfl
  keptB := by kernel_rfl
  all := all_poly_Check_L0 j m l r C D F I L
  len := fun x => by kernel_rfl
  head := fun x y => by kernel_rfl
  con := fun x y => by kernel_rfl
  conH := fun x y => by kernel_rfl
def F_poly_Check_L0 : St → Option Ch := fun s => cond (Nat.beq s.tm.length 50 && Nat.beq s.H.length 2) (tkCons (alL tpl_poly_Check_L0 s.tm) fun d t0 => tkView 2 d fun s0 f0 => tkTops 3 t0 fun t1 => tkCons t1 fun u t2 => tkI .i64 u fun s3 => tkCons t2 fun k t3 => tkPtr 0 0 0 k <| tkCons t3 fun M t4 => tkPtr 1 0 0 M <| tkCons t4 fun P t5 => tkI .i64 P fun s4 => tkTops 8 t5 fun t6 => tkCons t6 fun R t7 => tkView 2 R fun s5 f1 => tkCons t7 fun aa t8 => tkI .i64 aa fun s8 => tkCons t8 fun X t9 => tkI .i64 X fun s9 => tkTops 31 t9 fun t10 => tkNil t10 <| tkCons (alH cts_poly_Check_L0 (s.H ++ List.map phan phs_poly_Check_L0)) fun b11 t11 => tkFlat 29 0 b11 fun m11 => tkCons m11 fun af t12 => tkF af fun s10 => tkCons t12 fun ai t13 => tkF ai fun s11 => tkNil t13 <| tkCons t11 fun b14 t14 => tkFlat 29 0 b14 fun m14 => tkCons m14 fun ag t15 => tkF ag fun s12 => tkCons t15 fun ah t16 => tkF ah fun s13 => tkNil t16 <| tkNil t14 <| Fam.out (fam_poly_Check_L0 s0 (fL f0 0) (fL f0 1) s3 s8 s10 s11 s12 s13) s ((((allB fun i => isNrm [Ck.f, Ck.f] (f0 i)) && (eqT f1 f0)) && (eqT s5 s0)) && (eqT s9 s3)) (V_poly_Check_L0.mk s4)) none
theorem F_poly_Check_L0_ok : ∀ s ch, F_poly_Check_L0 s = some ch → AllI s ch ∧ LoopSpec Tryz.prog false 0 (subC [1, 1, 1, 0, 1, 0, 0, 1, 1, 0, 0, 1, 1, 1, 1, 0, 0] (codeOf Tryz.f76)) s (sel ch) := by
  intro s ch h
  unfold F_poly_Check_L0 at h
  obtain ⟨hl, h0⟩ := cond_some h rfl
  clear h
  obtain ⟨hl, hb⟩ := and_beq2 hl
  obtain ⟨d, t0, e0, h1⟩ := tkCons_some h0
  obtain ⟨s0, f0, rfl, h2⟩ := tkView_some h1
  obtain ⟨t1, rfl, h3⟩ := tkTops_some h2
  obtain ⟨u, t2, rfl, h4⟩ := tkCons_some h3
  obtain ⟨s3, rfl, h5⟩ := tkI_some h4
  obtain ⟨k, t3, rfl, h6⟩ := tkCons_some h5
  obtain ⟨rfl, h7⟩ := tkPtr_some h6
  obtain ⟨M, t4, rfl, h8⟩ := tkCons_some h7
  obtain ⟨rfl, h9⟩ := tkPtr_some h8
  obtain ⟨P, t5, rfl, h10⟩ := tkCons_some h9
  obtain ⟨s4, rfl, h11⟩ := tkI_some h10
  obtain ⟨t6, rfl, h12⟩ := tkTops_some h11
  obtain ⟨R, t7, rfl, h13⟩ := tkCons_some h12
  obtain ⟨s5, f1, rfl, h14⟩ := tkView_some h13
  obtain ⟨aa, t8, rfl, h15⟩ := tkCons_some h14
  obtain ⟨s8, rfl, h16⟩ := tkI_some h15
  obtain ⟨X, t9, rfl, h17⟩ := tkCons_some h16
  obtain ⟨s9, rfl, h18⟩ := tkI_some h17
  obtain ⟨t10, rfl, h19⟩ := tkTops_some h18
  obtain ⟨rfl, h20⟩ := tkNil_some h19
  obtain ⟨b11, t11, eH, h21⟩ := tkCons_some h20
  obtain ⟨m11, rfl, h22⟩ := tkFlat_some h21
  obtain ⟨af, t12, rfl, h23⟩ := tkCons_some h22
  obtain ⟨s10, rfl, h24⟩ := tkF_some h23
  obtain ⟨ai, t13, rfl, h25⟩ := tkCons_some h24
  obtain ⟨s11, rfl, h26⟩ := tkF_some h25
  obtain ⟨rfl, h27⟩ := tkNil_some h26
  obtain ⟨b14, t14, rfl, h28⟩ := tkCons_some h27
  obtain ⟨m14, rfl, h29⟩ := tkFlat_some h28
  obtain ⟨ag, t15, rfl, h30⟩ := tkCons_some h29
  obtain ⟨s12, rfl, h31⟩ := tkF_some h30
  obtain ⟨ah, t16, rfl, h32⟩ := tkCons_some h31
  obtain ⟨s13, rfl, h33⟩ := tkF_some h32
  obtain ⟨rfl, h34⟩ := tkNil_some h33
  obtain ⟨rfl, h35⟩ := tkNil_some h34
  refine Fam.spec menv60_ok (fam_poly_Check_L0 s0 (fL f0 0) (fL f0 1) s3 s8 s10 s11 s12 s13) (phs := phs_poly_Check_L0) (hl.trans (by kernel_rfl)) (hb.trans (by kernel_rfl)) ?_ ?_ h35
  · rw [← hdr_alH cts_poly_Check_L0 (s.H ++ List.map phan phs_poly_Check_L0), eH]; kernel_rfl
  · intro hq
    simp only [Bool.and_eq_true] at hq
    obtain ⟨⟨⟨hq0, hq1⟩, hq2⟩, hq3⟩ := hq
    have n0 := nrm_fun hq0
    have hx := eqT_eq hq1; subst f1
    have hx := eqT_eq hq2; subst s5
    have hx := eqT_eq hq3; subst s9
    show sh_poly_Check_L0 s0 (fL f0 0) (fL f0 1) s3 s8 s10 s11 s12 s13 (V_poly_Check_L0.mk s4) = (alL tpl_poly_Check_L0 s.tm, alH cts_poly_Check_L0 (s.H ++ List.map phan phs_poly_Check_L0))
    rw [e0, eH]
    refine Eq.trans (show sh_poly_Check_L0 s0 (fL f0 0) (fL f0 1) s3 s8 s10 s11 s12 s13 (V_poly_Check_L0.mk s4) = T_poly_Check_L0 s0 (fL f0 0) (fL f0 1) s3 s8 s10 s11 s12 s13 (V_poly_Check_L0.mk s4) (fun i => mkN [Ck.f, Ck.f] (f0 i) 0) (fun i => mkN [Ck.f, Ck.f] (f0 i) 0) by kernel_rfl) ?_
    rw [n0]
    kernel_rfl
-- a loop of tumble/poly.Check
structure V_poly_Check_L1 where
  v0 : Int
def tpl_poly_Check_L1 : List AV := (AV.nul :: tpA 15 (AV.nul :: AV.nul :: AV.nul :: tpA 31 ([])))
def cts_poly_Check_L1 : List CT := []
def phs_poly_Check_L1 : List Src := []
def T_poly_Check_L1 (j : Nat) (m l : Nat → Nat) (r : Int) (x : V_poly_Check_L1) (F0 F1 : Nat → List AV) : List AV × Heap := ((AV.view j 2 F0 :: tpA 15 (AV.view j 2 F1 :: AV.int .i64 r :: AV.int .i64 x.v0 :: tpA 31 ([]))), [])
def sh_poly_Check_L1 (j : Nat) (m l : Nat → Nat) (r : Int) (x : V_poly_Check_L1) : List AV × Heap := T_poly_Check_L1 j m l r x (fun j0 => [AV.float (m j0), AV.float (l j0)]) (fun j0 => [AV.float (m j0), AV.float (l j0)])
def step_poly_Check_L1 (j : Nat) (m l : Nat → Nat) (r : Int) (x : V_poly_Check_L1) : V_poly_Check_L1 := V_poly_Check_L1.mk (IntKind.wrap .i64 (x.v0 + (1 : Int)))
def go_poly_Check_L1 (j : Nat) (m l : Nat → Nat) (r : Int) (x : V_poly_Check_L1) : Bool := let x0 := !(ilt x.v0 r); let x1 := l (Int.toNat x.v0); let x2 := m (Int.toNat x.v0); let x3 := s_poly_side_1 j m l x.v0; let x4 := s_poly_side_0 j m l x.v0; let x5 := (L_poly_Check_L0 j m l x.v0 x2 x1 x4 x3 (V_poly_Check_L0.mk (2 : Int))).v0; let x6 := Int.toNat (Int.tmod (IntKind.wrap .i64 (x.v0 + x5)) (Int.ofNat j)); let x7 := l x6; let x8 := m x6; (bif (bif x0 then false else ((flt (s_vec_Length_0 x4 x3) 4472074429978902528) || (bif (!(ilt x5 (Int.ofNat j))) then false else (fle (s_vec_Cross_0 x4 x3 (s_vec_Sub_0 x8 x7 x2 x1) (s_vec_Sub_1 x8 x7 x2 x1)) 0)))) then false else (bif x0 then false else true))
def ok_poly_Check_L1 (j : Nat) (m l : Nat → Nat) (r : Int) (x : V_poly_Check_L1) : Bool := let x0 := s_poly_side_1 j m l x.v0; let x1 := s_poly_side_0 j m l x.v0; let x2 := l (Int.toNat x.v0); let x3 := m (Int.toNat x.v0); let x4 := (ile (0 : Int) x.v0) && (Nat.blt (Int.toNat x.v0) j); let x5 := Int.tmod (IntKind.wrap .i64 (x.v0 + (1 : Int))) (Int.ofNat j); let x6 := ((allB fun _ => true) && (x4 && (((ile (0 : Int) x5) && (Nat.blt (Int.toNat x5) j)) && (!(ieq (Int.ofNat j) (0 : Int)))))) && x4; let x7 := x6 && (((((allB fun _ => true) && (eqT (fun i => [AV.float (m i), AV.float (l i)]) (fun i => [AV.float (m i), AV.float (l i)]))) && (eqT j j)) && (eqT x.v0 x.v0)) && (E_poly_Check_L0 j m l x.v0 x3 x2 x1 x0 (V_poly_Check_L0.mk (2 : Int)))); let x8 := !(ilt x.v0 r); let x9 := flt (s_vec_Length_0 x1 x0) 4472074429978902528; let x10 := (L_poly_Check_L0 j m l x.v0 x3 x2 x1 x0 (V_poly_Check_L0.mk (2 : Int))).v0; let x11 := Int.toNat (Int.tmod (IntKind.wrap .i64 (x.v0 + x10)) (Int.ofNat j)); let x12 := l x11; let x13 := m x11; (mrgB (bif x8 then false else (x9 || (bif (!(ilt x10 (Int.ofNat j))) then false else (fle (s_vec_Cross_0 x1 x0 (s_vec_Sub_0 x13 x12 x3 x2) (s_vec_Sub_1 x13 x12 x3 x2)) 0)))) (mrgB x9 x6 x7) (mrgB x8 true x7))
def L_poly_Check_L1 (j : Nat) (m l : Nat → Nat) (r : Int) (x : V_poly_Check_L1) : V_poly_Check_L1 := lastL (ok_poly_Check_L1 j m l r) (go_poly_Check_L1 j m l r) (step_poly_Check_L1 j m l r) x
def E_poly_Check_L1 (j : Nat) (m l : Nat → Nat) (r : Int) (x : V_poly_Check_L1) : Bool := endsL (ok_poly_Check_L1 j m l r) (go_poly_Check_L1 j m l r) (step_poly_Check_L1 j m l r) x
theorem all_poly_Check_L1 (j : Nat) (m l : Nat → Nat) (r : Int) (x : V_poly_Check_L1) : rnd Tryz.prog false menv60 [] [] 96 (Ann.two Ann.no (Ann.two Ann.no (Ann.two (Ann.one (Ann.two Ann.no (Ann.two Ann.no (Ann.two Ann.no (Ann.two Ann.no (Ann.one (Ann.loop F_poly_Check_L0))))))) Ann.no))) (subC [1, 1, 1, 0, 1, 0, 0] (codeOf Tryz.f76)) 0 [] tpl_poly_Check_L1 cts_poly_Check_L1 (false :: tpB 15 (false :: false :: tpB 32 ([]))) [] (sh_poly_Check_L1 j m l r x) = (true, true, go_poly_Check_L1 j m l r x, ok_poly_Check_L1 j m l r x, true, sh_poly_Check_L1 j m l r (step_poly_Check_L1 j m l r x), true) := by kernel_rfl
def fam_poly_Check_L1 (j : Nat) (m l : Nat → Nat) (r : Int) : Fam Tryz.prog false menv60 [] [] 96 0 (Ann.two Ann.no (Ann.two Ann.no (Ann.two (Ann.one (Ann.two Ann.no (Ann.two Ann.no (Ann.two Ann.no (Ann.two Ann.no (Ann.one (Ann.loop F_poly_Check_L0))))))) Ann.no))) (subC [1, 1, 1, 0, 1, 0, 0] (codeOf Tryz.f76)) V_poly_Check_L1 where
  sh := sh_poly_Check_L1 j m l r
  ok := ok_poly_Check_L1 j m l r
  go := go_poly_Check_L1 j m l r
  step := step_poly_Check_L1 j m l r
  chg := (false :: tpB 15 (false :: false :: tpB 32 ([])))
  chgH := []
  tpl := tpl_poly_Check_L1
  cts := cts_poly_Check_L1
  keep := 0
  srcs := []
  ann := (annSeq (a := (subC [1, 1, 1, 0, 1, 0, 0, 0] (codeOf Tryz.f76))) (b := (subC [1, 1, 1, 0, 1, 0, 0, 1] (codeOf Tryz.f76))) (by kernel_rfl) (annNo (subC [1, 1, 1, 0, 1, 0, 0, 0] (codeOf Tryz.f76))) (annSeq (a := (subC [1, 1, 1, 0, 1, 0, 0, 1, 0] (codeOf Tryz.f76))) (b := (subC [1, 1, 1, 0, 1, 0, 0, 1, 1] (codeOf Tryz.f76))) (by kernel_rfl) (annNo (subC [1, 1, 1, 0, 1, 0, 0, 1, 0] (codeOf Tryz.f76))) (annSeq (a := (subC [1, 1, 1, 0, 1, 0, 0, 1, 1, 0] (codeOf Tryz.f76))) (b := (subC [1, 1, 1, 0, 1, 0, 0, 1, 1, 1] (codeOf Tryz.f76))) (by kernel_rfl) (annBlock (a := (subC [1, 1, 1, 0, 1, 0, 0, 1, 1, 0, 0] (codeOf Tryz.f76))) (i := 1) (by kernel_rfl) (annSeq (a := (subC [1, 1, 1, 0, 1, 0, 0, 1, 1, 0, 0, 0] (codeOf Tryz.f76))) (b := (subC [1, 1, 1, 0, 1, 0, 0, 1, 1, 0, 0, 1] (codeOf Tryz.f76))) (by kernel_rfl) (annNo (subC [1, 1, 1, 0, 1, 0, 0, 1, 1, 0, 0, 0] (codeOf Tryz.f76))) (annSeq (a := (subC [1, 1, 1, 0, 1, 0, 0, 1, 1, 0, 0, 1, 0] (codeOf Tryz.f76))) (b := (subC [1, 1, 1, 0, 1, 0, 0, 1, 1, 0, 0, 1, 1] (codeOf Tryz.f76))) (by kernel_rfl) (annNo (subC [1, 1, 1, 0, 1, 0, 0, 1, 1, 0, 0, 1, 0] (codeOf Tryz.f76))) (annSeq (a := (subC [1, 1, 1, 0, 1, 0, 0, 1, 1, 0, 0, 1, 1, 0] (codeOf Tryz.f76))) (b := (subC [1, 1, 1, 0, 1, 0, 0, 1, 1, 0, 0, 1, 1, 1] (codeOf Tryz.f76))) (by kernel_rfl) (annNo (subC [1, 1, 1, 0, 1, 0, 0, 1, 1, 0, 0, 1, 1, 0] (codeOf Tryz.f76))) (annSeq (a := (subC [1, 1, 1, 0, 1, 0, 0, 1, 1, 0, 0, 1, 1, 1, 0] (codeOf Tryz.f76))) (b := (subC [1, 1, 1, 0, 1, 0, 0, 1, 1, 0, 0, 1, 1, 1, 1] (codeOf Tryz.f76))) (by kernel_rfl) (annNo (subC [1, 1, 1, 0, 1, 0, 0, 1, 1, 0, 0, 1, 1, 1, 0] (codeOf Tryz.f76))) (annBlock (a := (subC [1, 1, 1, 0, 1, 0, 0, 1, 1, 0, 0, 1, 1, 1, 1, 0] (codeOf Tryz.f76))) (i := 2) (by kernel_rfl) (annLoop (a := (subC [1, 1, 1, 0, 1, 0, 0, 1, 1, 0, 0, 1, 1, 1, 1, 0, 0] (codeOf Tryz.f76))) (by kernel_rfl) F_poly_Check_L0_ok))))))) (annNo (subC [1, 1, 1, 0, 1, 0, 0, 1, 1, 1] (codeOf Tryz.f76))))))
  le := by kernel_rfl
  kept := by kernel_rfl
  keptB := by kernel_rfl
  all := all_poly_Check_L1 j m l r
  len := fun x => by kernel_rfl
  head := fun x y => by kernel_rfl
  con := fun x y => by kernel_rfl
  conH := fun x y => by kernel_rfl
def F_poly_Check_L1 : St → Option Ch := fun s => cond (Nat.beq s.tm.length 50 && Nat.beq s.H.length 0) (tkCons (alL tpl_poly_Check_L1 s.tm) fun d t0 => tkView 2 d fun s0 f0 => tkTops 15 t0 fun t1 => tkCons t1 fun u t2 => tkView 2 u fun s3 f1 => tkCons t2 fun k t3 => tkI .i64 k fun s6 => tkCons t3 fun M t4 => tkI .i64 M fun s7 => tkTops 31 t4 fun t5 => tkNil t5 <| tkNil (alH cts_poly_Check_L1 (s.H ++ List.map phan phs_poly_Check_L1)) <| Fam.out (fam_poly_Check_L1 s0 (fL f0 0) (fL f0 1) s6) s (((allB fun i => isNrm [Ck.f, Ck.f] (f0 i)) && (eqT f1 f0)) && (eqT s3 s0)) (V_poly_Check_L1.mk s7)) none
theorem F_poly_Check_L1_ok : ∀ s ch, F_poly_Check_L1 s = some ch → AllI s ch ∧ LoopSpec Tryz.prog false 0 (subC [1, 1, 1, 0, 1, 0, 0] (codeOf Tryz.f76)) s (sel ch) := by
  intro s ch h
  unfold F_poly_Check_L1 at h
  obtain ⟨hl, h0⟩ := cond_some h rfl
  clear h
  obtain ⟨hl, hb⟩ := and_beq2 hl
  obtain ⟨d, t0, e0, h1⟩ := tkCons_some h0
  obtain ⟨s0, f0, rfl, h2⟩ := tkView_some h1
  obtain ⟨t1, rfl, h3⟩ := tkTops_some h2
  obtain ⟨u, t2, rfl, h4⟩ := tkCons_some h3
  obtain ⟨s3, f1, rfl, h5⟩ := tkView_some h4
  obtain ⟨k, t3, rfl, h6⟩ := tkCons_some h5
  obtain ⟨s6, rfl, h7⟩ := tkI_some h6
  obtain ⟨M, t4, rfl, h8⟩ := tkCons_some h7
  obtain ⟨s7, rfl, h9⟩ := tkI_some h8
  obtain ⟨t5, rfl, h10⟩ := tkTops_some h9
  obtain ⟨rfl, h11⟩ := tkNil_some h10
  obtain ⟨eH, h12⟩ := tkNil_some h11
  refine Fam.spec menv60_ok (fam_poly_Check_L1 s0 (fL f0 0) (fL f0 1) s6) (phs := phs_poly_Check_L1) (hl.trans (by kernel_rfl)) (hb.trans (by kernel_rfl)) ?_ ?_ h12
  · rw [← hdr_alH cts_poly_Check_L1 (s.H ++ List.map phan phs_poly_Check_L1), eH]; kernel_rfl
  · intro hq
    simp only [Bool.and_eq_true] at hq
    obtain ⟨⟨hq0, hq1⟩, hq2⟩ := hq
    have n0 := nrm_fun hq0
    have hx := eqT_eq hq1; subst f1
    have hx := eqT_eq hq2; subst s3
    show sh_poly_Check_L1 s0 (fL f0 0) (fL f0 1) s6 (V_poly_Check_L1.mk s7) = (alL tpl_poly_Check_L1 s.tm, alH cts_poly_Check_L1 (s.H ++ List.map phan phs_poly_Check_L1))
    rw [e0, eH]
    refine Eq.trans (show sh_poly_Check_L1 s0 (fL f0 0) (fL f0 1) s6 (V_poly_Check_L1.mk s7) = T_poly_Check_L1 s0 (fL f0 0) (fL f0 1) s6 (V_poly_Check_L1.mk s7) (fun i => mkN [Ck.f, Ck.f] (f0 i) 0) (fun i => mkN [Ck.f, Ck.f] (f0 i) 0) by kernel_rfl) ?_
    rw [n0]
    kernel_rfl
theorem ann_poly_Check : FnOk Tryz.prog false 0 Tryz.f76 (Ann.two Ann.no (Ann.two Ann.no (Ann.two Ann.no (Ann.two (Ann.two Ann.no (Ann.one (Ann.loop F_poly_Check_L1))) Ann.no)))) := (fnOk_of (c := codeOf Tryz.f76) (by kernel_rfl) (annSeq (a := (subC [0] (codeOf Tryz.f76))) (b := (subC [1] (codeOf Tryz.f76))) (by kernel_rfl) (annNo (subC [0] (codeOf Tryz.f76))) (annSeq (a := (subC [1, 0] (codeOf Tryz.f76))) (b := (subC [1, 1] (codeOf Tryz.f76))) (by kernel_rfl) (annNo (subC [1, 0] (codeOf Tryz.f76))) (annSeq (a := (subC [1, 1, 0] (codeOf Tryz.f76))) (b := (subC [1, 1, 1] (codeOf Tryz.f76))) (by kernel_rfl) (annNo (subC [1, 1, 0] (codeOf Tryz.f76))) (annSeq (a := (subC [1, 1, 1, 0] (codeOf Tryz.f76))) (b := (subC [1, 1, 1, 1] (codeOf Tryz.f76))) (by kernel_rfl) (annSeq (a := (subC [1, 1, 1, 0, 0] (codeOf Tryz.f76))) (b := (subC [1, 1, 1, 0, 1] (codeOf Tryz.f76))) (by kernel_rfl) (annNo (subC [1, 1, 1, 0, 0] (codeOf Tryz.f76))) (annBlock (a := (subC [1, 1, 1, 0, 1, 0] (codeOf Tryz.f76))) (i := 0) (by kernel_rfl) (annLoop (a := (subC [1, 1, 1, 0, 1, 0, 0] (codeOf Tryz.f76))) (by kernel_rfl) F_poly_Check_L1_ok))) (annNo (subC [1, 1, 1, 1] (codeOf Tryz.f76))))))))
def s_poly_Check_0 (g : Nat) (n p : Nat → Nat) : Int := let x0 := (L_poly_Check_L1 g n p (Int.ofNat g) (V_poly_Check_L1.mk (0 : Int))).v0; let x1 := s_poly_side_1 g n p x0; let x2 := s_poly_side_0 g n p x0; let x3 := flt (s_vec_Length_0 x2 x1) 4472074429978902528; let x4 := Int.toNat x0; let x5 := p x4; let x6 := n x4; let x7 := (L_poly_Check_L0 g n p x0 x6 x5 x2 x1 (V_poly_Check_L0.mk (2 : Int))).v0; let x8 := Int.toNat (Int.tmod (IntKind.wrap .i64 (x0 + x7)) (Int.ofNat g)); let x9 := p x8; let x10 := n x8; let x11 := s_poly_reals_0 g n p; (bif (!(ieq x11 (0 : Int))) then x11 else (bif (ilt (Int.ofNat g) (3 : Int)) then (60 : Int) else (bif (bif (!(ilt x0 (Int.ofNat g))) then false else (x3 || (bif (!(ilt x7 (Int.ofNat g))) then false else (fle (s_vec_Cross_0 x2 x1 (s_vec_Sub_0 x10 x9 x6 x5) (s_vec_Sub_1 x10 x9 x6 x5)) 0)))) then (bif x3 then (60 : Int) else (60 : Int)) else (0 : Int))))
def q_poly_Check (g : Nat) (n p : Nat → Nat) : Bool := (let x0 := (allB fun _ => true) && (o_poly_reals g n p); let x1 := x0 && ((((allB fun _ => true) && (eqT (fun i => [AV.float (n i), AV.float (p i)]) (fun i => [AV.float (n i), AV.float (p i)]))) && (eqT g g)) && (E_poly_Check_L1 g n p (Int.ofNat g) (V_poly_Check_L1.mk (0 : Int)))); let x2 := (L_poly_Check_L1 g n p (Int.ofNat g) (V_poly_Check_L1.mk (0 : Int))).v0; let x3 := Int.toNat x2; let x4 := p x3; let x5 := n x3; let x6 := s_poly_side_1 g n p x2; let x7 := s_poly_side_0 g n p x2; let x8 := (L_poly_Check_L0 g n p x2 x5 x4 x7 x6 (V_poly_Check_L0.mk (2 : Int))).v0; let x9 := Int.toNat (Int.tmod (IntKind.wrap .i64 (x2 + x8)) (Int.ofNat g)); let x10 := p x9; let x11 := n x9; (mrgB (!(ieq (s_poly_reals_0 g n p) (0 : Int))) x0 (mrgB (ilt (Int.ofNat g) (3 : Int)) x0 (mrgB (bif (!(ilt x2 (Int.ofNat g))) then false else ((flt (s_vec_Length_0 x7 x6) 4472074429978902528) || (bif (!(ilt x8 (Int.ofNat g))) then false else (fle (s_vec_Cross_0 x7 x6 (s_vec_Sub_0 x11 x10 x5 x4) (s_vec_Sub_1 x11 x10 x5 x4)) 0)))) x1 x1))))
theorem e_poly_Check (g : Nat) (n p : Nat → Nat) : outB (evFnM Tryz.prog false menv60 [] [] 96 (Ann.two Ann.no (Ann.two Ann.no (Ann.two Ann.no (Ann.two (Ann.two Ann.no (Ann.one (Ann.loop F_poly_Check_L1))) Ann.no)))) Tryz.f76 [AV.view g 2 (fun i0 => [AV.float (n i0), AV.float (p i0)])] []) = some (q_poly_Check g n p, AV.int .i64 (s_poly_Check_0 g n p)) := by kernel_rfl
def o_poly_Check (g : Nat) (n p : Nat → Nat) : Bool := let x0 := o_poly_reals g n p; let x1 := x0 && (E_poly_Check_L1 g n p (Int.ofNat g) (V_poly_Check_L1.mk (0 : Int))); let x2 := (L_poly_Check_L1 g n p (Int.ofNat g) (V_poly_Check_L1.mk (0 : Int))).v0; let x3 := Int.toNat x2; let x4 := p x3; let x5 := n x3; let x6 := s_poly_side_1 g n p x2; let x7 := s_poly_side_0 g n p x2; let x8 := (L_poly_Check_L0 g n p x2 x5 x4 x7 x6 (V_poly_Check_L0.mk (2 : Int))).v0; let x9 := Int.toNat (Int.tmod (IntKind.wrap .i64 (x2 + x8)) (Int.ofNat g)); let x10 := p x9; let x11 := n x9; (mrgB (!(ieq (s_poly_reals_0 g n p) (0 : Int))) x0 (mrgB (ilt (Int.ofNat g) (3 : Int)) x0 (mrgB (bif (!(ilt x2 (Int.ofNat g))) then false else ((flt (s_vec_Length_0 x7 x6) 4472074429978902528) || (bif (!(ilt x8 (Int.ofNat g))) then false else (fle (s_vec_Cross_0 x7 x6 (s_vec_Sub_0 x11 x10 x5 x4) (s_vec_Sub_1 x11 x10 x5 x4)) 0)))) x1 x1)))
def S_poly_Check : List AV → Option (Ob × AV)
  | [AV.view g 2 t] => some (Ob.both (Ob.bit (allB fun i => isNrm [Ck.f, Ck.f] (t i))) (Ob.bit (o_poly_Check g (fL t 0) (fL t 1))), AV.int .i64 (s_poly_Check_0 g (fL t 0) (fL t 1)))
  | _ => none
theorem ob_poly_Check (g : Nat) (n p : Nat → Nat) (ho : o_poly_Check g n p = true) : q_poly_Check g n p = true := by
  unfold q_poly_Check
  unfold o_poly_Check at ho
  simp only [allB_true, eqT_self, mrgB_self, Bool.true_and, Bool.and_true] at ho ⊢
  exact ho
theorem t_poly_Check : SOkM Tryz.prog false (76, fun args => match S_poly_Check args with | some (o, v) => some (o, v, []) | none => none) := SOkM.flat (N := 96) menv60_ok Tryz.func76 ann_poly_Check Tryz.call76 fun args o v h ho => by
  unfold S_poly_Check at h
  split at h
  · rename_i g t
    cases h
    rw [Ob.both_ok, Bool.and_eq_true] at ho
    obtain ⟨hn, ho2⟩ := ho
    have n0 := hn
    simp only [Ob.ok] at n0
    replace n0 := nrm_fun n0
    have this := show outB (evFnM Tryz.prog false menv60 [] [] 96 (Ann.two Ann.no (Ann.two Ann.no (Ann.two Ann.no (Ann.two (Ann.two Ann.no (Ann.one (Ann.loop F_poly_Check_L1))) Ann.no)))) Tryz.f76 [AV.view g 2 (fun i => mkN [Ck.f, Ck.f] (t i) 0)] []) = _ from e_poly_Check g (fL t 0) (fL t 1)
    rw [(ob_poly_Check g (fL t 0) (fL t 1) ho2)] at this
    rw [n0] at this
    exact ⟨this, rfl⟩
  · cases h
def c_poly_Check : SFM := fun args => match S_poly_Check args with | some (o, v) => some (o, v, []) | none => none
theorem c_poly_Check_ok : SOkM Tryz.prog false (76, c_poly_Check) := t_poly_Check
def mss59 : List (FuncId × SFM) := (76, c_poly_Check) :: mss58
def menv61 : EnvM := mkEnvM mxs mss59 mws3
theorem mss59_ok : All (SOkM Tryz.prog false) mss59 := All.cons c_poly_Check_ok mss58_ok
theorem menv61_ok : menv61.Ok Tryz.prog false := mkEnvM_ok mxs_ok mss59_ok mws3_ok
-- (tumble/shape.polygon).check
theorem ann__shape_polygon__check : FnOk Tryz.prog false 0 Tryz.f124 Ann.no := (fnNo _)
def s__shape_polygon__check_0 (g : Nat) (n p : Nat → Nat) : Int := (s_poly_Check_0 g n p)
theorem e__shape_polygon__check (g : Nat) (n p : Nat → Nat) : outB (evFnM Tryz.prog false menv61 [] [] 96 Ann.no Tryz.f124 [AV.view g 2 (fun i0 => [AV.float (n i0), AV.float (p i0)])] []) = some (((allB fun _ => true) && (o_poly_Check g n p)), AV.int .i64 (s__shape_polygon__check_0 g n p)) := by kernel_rfl
def o__shape_polygon__check (g : Nat) (n p : Nat → Nat) : Bool := (o_poly_Check g n p)
def S__shape_polygon__check : List AV → Option (Ob × AV)
  | [AV.view g 2 t] => some (Ob.both (Ob.bit (allB fun i => isNrm [Ck.f, Ck.f] (t i))) (Ob.bit (o__shape_polygon__check g (fL t 0) (fL t 1))), AV.int .i64 (s__shape_polygon__check_0 g (fL t 0) (fL t 1)))
  | _ => none
theorem ob__shape_polygon__check (g : Nat) (n p : Nat → Nat) (ho : o__shape_polygon__check g n p = true) : ((allB fun _ => true) && (o_poly_Check g n p)) = true := by
  unfold o__shape_polygon__check at ho
  simp only [allB_true, eqT_self, mrgB_self, Bool.true_and, Bool.and_true] at ho ⊢
  exact ho
theorem t__shape_polygon__check : SOkM Tryz.prog false (124, fun args => match S__shape_polygon__check args with | some (o, v) => some (o, v, []) | none => none) := SOkM.flat (N := 96) menv61_ok Tryz.func124 ann__shape_polygon__check Tryz.call124 fun args o v h ho => by
  unfold S__shape_polygon__check at h
  split at h
  · rename_i g t
    cases h
    rw [Ob.both_ok, Bool.and_eq_true] at ho
    obtain ⟨hn, ho2⟩ := ho
    have n0 := hn
    simp only [Ob.ok] at n0
    replace n0 := nrm_fun n0
    have this := show outB (evFnM Tryz.prog false menv61 [] [] 96 Ann.no Tryz.f124 [AV.view g 2 (fun i => mkN [Ck.f, Ck.f] (t i) 0)] []) = _ from e__shape_polygon__check g (fL t 0) (fL t 1)
    rw [(ob__shape_polygon__check g (fL t 0) (fL t 1) ho2)] at this
    rw [n0] at this
    exact ⟨this, rfl⟩
  · cases h
def c__shape_polygon__check : SFM := fun args => match S__shape_polygon__check args with | some (o, v) => some (o, v, []) | none => none
theorem c__shape_polygon__check_ok : SOkM Tryz.prog false (124, c__shape_polygon__check) := t__shape_polygon__check
def mss60 : List (FuncId × SFM) := (124, c__shape_polygon__check) :: mss59
def menv62 : EnvM := mkEnvM mxs mss60 mws3
theorem mss60_ok : All (SOkM Tryz.prog false) mss60 := All.cons c__shape_polygon__check_ok mss59_ok
theorem menv62_ok : menv62.Ok Tryz.prog false := mkEnvM_ok mxs_ok mss60_ok mws3_ok
-- tumble/shape.Check
def mws4 : List (FuncId × WFM) := (72, (inlWM Tryz.prog false menv62 [] [] 96 .no Tryz.f72 100000)) :: mws3
def menv63 : EnvM := mkEnvM mxs mss60 mws4
theorem mws4_ok : All (WOkM Tryz.prog false) mws4 := All.cons (WOkM.inl menv62_ok Tryz.func72 (fnNo _) Tryz.call72) mws3_ok
theorem menv63_ok : menv63.Ok Tryz.prog false := mkEnvM_ok mxs_ok mss60_ok mws4_ok
def mws5 : List (FuncId × WFM) := (44, (inlWM Tryz.prog false menv63 [] [] 96 .no Tryz.f44 100000)) :: mws4
def menv64 : EnvM := mkEnvM mxs mss60 mws5
theorem mws5_ok : All (WOkM Tryz.prog false) mws5 := All.cons (WOkM.inl menv63_ok Tryz.func44 (fnNo _) Tryz.call44) mws4_ok
theorem menv64_ok : menv64.Ok Tryz.prog false := mkEnvM_ok mxs_ok mss60_ok mws5_ok
theorem ann_shape_Check : FnOk Tryz.prog false 0 Tryz.f20 Ann.no := (fnNo _)
def s_shape_Check_0 (d : Int) (e q : Nat) (z B : Nat → Nat) : Int := let x0 := (ieq d (2 : Int)) && (ieq (Int.ofNat q) (2 : Int)); let x1 := (ieq d (1 : Int)) && (ieq (Int.ofNat q) (1 : Int)); let x2 := bif x1 then (s__shape_circle__check_0 (z 0) (B 0) e) else (bif x0 then (s__shape_capsule__check_0 (z 0) (B 0) (z 1) (B 1) e) else (s__shape_polygon__check_0 q z B)); let x3 := (ilt d (1 : Int)) || (ilt (3 : Int) d); let x4 := bif (x3 || (x1 || (x0 || ((((ieq d (3 : Int)) && (ile (3 : Int) (Int.ofNat q))) && (ile (Int.ofNat q) (8 : Int))) && (feq e 0))))) then (bif x3 then (70 : Int) else (bif x1 then (0 : Int) else (bif x0 then (0 : Int) else (0 : Int)))) else (6 : Int); (bif (!(ieq x4 (0 : Int))) then x4 else (bif (!(ieq x2 (0 : Int))) then x2 else (0 : Int)))
def q_shape_Check (d : Int) (e q : Nat) (z B : Nat → Nat) : Bool := (let x0 := (ieq d (2 : Int)) && (ieq (Int.ofNat q) (2 : Int)); let x1 := (ieq d (1 : Int)) && (ieq (Int.ofNat q) (1 : Int)); let x2 := (ilt d (1 : Int)) || (ilt (3 : Int) d); let x3 := x2 || (x1 || (x0 || ((((ieq d (3 : Int)) && (ile (3 : Int) (Int.ofNat q))) && (ile (Int.ofNat q) (8 : Int))) && (feq e 0)))); let x4 := mrgB x3 (mrgB x2 true (mrgB x1 (Nat.blt 0 q) (mrgB x0 ((Nat.blt 1 q) && (Nat.blt 0 q)) true))) true; let x5 := (mrgB x3 (bif x2 then false else (mrgB x1 true (mrgB x0 true ((allB fun _ => true) && (o__shape_polygon__check q z B))))) false) && x4; (mrgB (!(ieq (bif x3 then (bif x2 then (70 : Int) else (bif x1 then (0 : Int) else (bif x0 then (0 : Int) else (0 : Int)))) else (6 : Int)) (0 : Int))) x4 (mrgB (!(ieq (bif x1 then (s__shape_circle__check_0 (z 0) (B 0) e) else (bif x0 then (s__shape_capsule__check_0 (z 0) (B 0) (z 1) (B 1) e) else (s__shape_polygon__check_0 q z B))) (0 : Int))) x5 x5)))
theorem e_shape_Check (d : Int) (e q : Nat) (z B : Nat → Nat) : outB (evFnM Tryz.prog false menv64 [] [] 96 Ann.no Tryz.f20 [AV.agg [AV.int .u8 d, AV.float e, AV.view q 2 (fun i0 => [AV.float (z i0), AV.float (B i0)])]] []) = some (q_shape_Check d e q z B, AV.int .i64 (s_shape_Check_0 d e q z B)) := by kernel_rfl
def o_shape_Check (d : Int) (e q : Nat) (z B : Nat → Nat) : Bool := let x0 := (ieq d (2 : Int)) && (ieq (Int.ofNat q) (2 : Int)); let x1 := (ieq d (1 : Int)) && (ieq (Int.ofNat q) (1 : Int)); let x2 := (ilt d (1 : Int)) || (ilt (3 : Int) d); let x3 := x2 || (x1 || (x0 || ((((ieq d (3 : Int)) && (ile (3 : Int) (Int.ofNat q))) && (ile (Int.ofNat q) (8 : Int))) && (feq e 0)))); let x4 := mrgB x3 (mrgB x2 true (mrgB x1 (Nat.blt 0 q) (mrgB x0 ((Nat.blt 1 q) && (Nat.blt 0 q)) true))) true; let x5 := (mrgB x3 (bif x2 then false else (mrgB x1 true (mrgB x0 true (o__shape_polygon__check q z B)))) false) && x4; (mrgB (!(ieq (bif x3 then (bif x2 then (70 : Int) else (bif x1 then (0 : Int) else (bif x0 then (0 : Int) else (0 : Int)))) else (6 : Int)) (0 : Int))) x4 (mrgB (!(ieq (bif x1 then (s__shape_circle__check_0 (z 0) (B 0) e) else (bif x0 then (s__shape_capsule__check_0 (z 0) (B 0) (z 1) (B 1) e) else (s__shape_polygon__check_0 q z B))) (0 : Int))) x5 x5))
def S_shape_Check : List AV → Option (Ob × AV)
  | [AV.agg [AV.int .u8 d, AV.float e, AV.view q 2 J]] => some (Ob.both (Ob.bit (allB fun i => isNrm [Ck.f, Ck.f] (J i))) (Ob.bit (o_shape_Check d e q (fL J 0) (fL J 1))), AV.int .i64 (s_shape_Check_0 d e q (fL J 0) (fL J 1)))
  | _ => none
theorem ob_shape_Check (d : Int) (e q : Nat) (z B : Nat → Nat) (ho : o_shape_Check d e q z B = true) : q_shape_Check d e q z B = true := by
  unfold q_shape_Check
  unfold o_shape_Check at ho
  simp only [allB_true, eqT_self, mrgB_self, Bool.true_and, Bool.and_true] at ho ⊢
  exact ho
theorem t_shape_Check : SOkM Tryz.prog false (20, fun args => match S_shape_Check args with | some (o, v) => some (o, v, []) | none => none) := SOkM.flat (N := 96) menv64_ok Tryz.func20 ann_shape_Check Tryz.call20 fun args o v h ho => by
  unfold S_shape_Check at h
  split at h
  · rename_i d e q J
    cases h
    rw [Ob.both_ok, Bool.and_eq_true] at ho
    obtain ⟨hn, ho2⟩ := ho
    have n0 := hn
    simp only [Ob.ok] at n0
    replace n0 := nrm_fun n0
    have this := show outB (evFnM Tryz.prog false menv64 [] [] 96 Ann.no Tryz.f20 [AV.agg [AV.int .u8 d, AV.float e, AV.view q 2 (fun i => mkN [Ck.f, Ck.f] (J i) 0)]] []) = _ from e_shape_Check d e q (fL J 0) (fL J 1)
    rw [(ob_shape_Check d e q (fL J 0) (fL J 1) ho2)] at this
    rw [n0] at this
    exact ⟨this, rfl⟩
  · cases h
def c_shape_Check : SFM := fun args => match S_shape_Check args with | some (o, v) => some (o, v, []) | none => none
theorem c_shape_Check_ok : SOkM Tryz.prog false (20, c_shape_Check) := t_shape_Check
def mss61 : List (FuncId × SFM) := (20, c_shape_Check) :: mss60
def menv65 : EnvM := mkEnvM mxs mss61 mws5
theorem mss61_ok : All (SOkM Tryz.prog false) mss61 := All.cons c_shape_Check_ok mss60_ok
theorem menv65_ok : menv65.Ok Tryz.prog false := mkEnvM_ok mxs_ok mss61_ok mws5_ok
-- tumble/vec.Add
theorem ann_vec_Add : FnOk Tryz.prog false 0 Tryz.f75 Ann.no := (fnNo _)
def s_vec_Add_0 (d e u k : Nat) : Nat := (fadd d u)
def s_vec_Add_1 (d e u k : Nat) : Nat := (fadd e k)
theorem e_vec_Add (d e u k : Nat) : outB (evFnM Tryz.prog false menv65 [] [] 96 Ann.no Tryz.f75 [AV.agg [AV.float d, AV.float e], AV.agg [AV.float u, AV.float k]] []) = some (true, AV.agg [AV.float (s_vec_Add_0 d e u k), AV.float (s_vec_Add_1 d e u k)]) := by kernel_rfl
def S_vec_Add : List AV → Option (Ob × AV)
  | [AV.agg [AV.float d, AV.float e], AV.agg [AV.float u, AV.float k]] => some (Ob.tt, AV.agg [AV.float (s_vec_Add_0 d e u k), AV.float (s_vec_Add_1 d e u k)])
  | _ => none
theorem t_vec_Add : SOkM Tryz.prog false (75, fun args => match S_vec_Add args with | some (o, v) => some (o, v, []) | none => none) := SOkM.flat (N := 96) menv65_ok Tryz.func75 ann_vec_Add Tryz.call75 fun args o v h ho => by
  unfold S_vec_Add at h
  split at h
  · rename_i d e u k
    cases h
    have ho2 := ho
    have this := show outB (evFnM Tryz.prog false menv65 [] [] 96 Ann.no Tryz.f75 [AV.agg [AV.float d, AV.float e], AV.agg [AV.float u, AV.float k]] []) = _ from e_vec_Add d e u k
    exact ⟨this, rfl⟩
  · cases h
def c_vec_Add : SFM := fun args => match S_vec_Add args with | some (o, v) => some (o, v, []) | none => none
theorem c_vec_Add_ok : SOkM Tryz.prog false (75, c_vec_Add) := t_vec_Add
def mss62 : List (FuncId × SFM) := (75, c_vec_Add) :: mss61
def menv66 : EnvM := mkEnvM mxs mss62 mws5
theorem mss62_ok : All (SOkM Tryz.prog false) mss62 := All.cons c_vec_Add_ok mss61_ok
theorem menv66_ok : menv66.Ok Tryz.prog false := mkEnvM_ok mxs_ok mss62_ok mws5_ok
-- tumble/vec.Scale
theorem ann_vec_Scale : FnOk Tryz.prog false 0 Tryz.f74 Ann.no := (fnNo _)
def s_vec_Scale_0 (d e u : Nat) : Nat := (fmul d u)
def s_vec_Scale_1 (d e u : Nat) : Nat := (fmul e u)
theorem e_vec_Scale (d e u : Nat) : outB (evFnM Tryz.prog false menv66 [] [] 96 Ann.no Tryz.f74 [AV.agg [AV.float d, AV.float e], AV.float u] []) = some (true, AV.agg [AV.float (s_vec_Scale_0 d e u), AV.float (s_vec_Scale_1 d e u)]) := by kernel_rfl
def S_vec_Scale : List AV → Option (Ob × AV)
  | [AV.agg [AV.float d, AV.float e], AV.float u] => some (Ob.tt, AV.agg [AV.float (s_vec_Scale_0 d e u), AV.float (s_vec_Scale_1 d e u)])
  | _ => none
theorem t_vec_Scale : SOkM Tryz.prog false (74, fun args => match S_vec_Scale args with | some (o, v) => some (o, v, []) | none => none) := SOkM.flat (N := 96) menv66_ok Tryz.func74 ann_vec_Scale Tryz.call74 fun args o v h ho => by
  unfold S_vec_Scale at h
  split at h
  · rename_i d e u
    cases h
    have ho2 := ho
    have this := show outB (evFnM Tryz.prog false menv66 [] [] 96 Ann.no Tryz.f74 [AV.agg [AV.float d, AV.float e], AV.float u] []) = _ from e_vec_Scale d e u
    exact ⟨this, rfl⟩
  · cases h
def c_vec_Scale : SFM := fun args => match S_vec_Scale args with | some (o, v) => some (o, v, []) | none => none
theorem c_vec_Scale_ok : SOkM Tryz.prog false (74, c_vec_Scale) := t_vec_Scale
def mss63 : List (FuncId × SFM) := (74, c_vec_Scale) :: mss62
def menv67 : EnvM := mkEnvM mxs mss63 mws5
theorem mss63_ok : All (SOkM Tryz.prog false) mss63 := All.cons c_vec_Scale_ok mss62_ok
theorem menv67_ok : menv67.Ok Tryz.prog false := mkEnvM_ok mxs_ok mss63_ok mws5_ok
-- tumble/poly.weighed
-- a loop of tumble/poly.weighed
structure V_poly_weighed_L0 where
  v0 : Nat
  v1 : Int
  v2 : Nat
  v3 : Nat
def tpl_poly_weighed_L0 : List AV := (AV.nul :: AV.top :: AV.nul :: AV.nul :: AV.nul :: tpA 48 ([]))
def cts_poly_weighed_L0 : List CT := [CT.keep]
def phs_poly_weighed_L0 : List Src := []
def T_poly_weighed_L0 (j : Nat) (m l : Nat → Nat) (x : V_poly_weighed_L0) (F0 : Nat → List AV) : List AV × Heap := ((AV.view j 2 F0 :: AV.top :: AV.float x.v0 :: AV.ptr (some ⟨0, 0, .lit 0⟩) :: AV.int .i64 x.v1 :: tpA 48 ([])), [⟨.flat [AV.float x.v2, AV.float x.v3], 29, 0⟩])
def sh_poly_weighed_L0 (j : Nat) (m l : Nat → Nat) (x : V_poly_weighed_L0) : List AV × Heap := T_poly_weighed_L0 j m l x (fun j0 => [AV.float (m j0), AV.float (l j0)])
def step_poly_weighed_L0 (j : Nat) (m l : Nat → Nat) (x : V_poly_weighed_L0) : V_poly_weighed_L0 := V_poly_weighed_L0.mk (let x0 := Int.toNat (IntKind.wrap .i64 (x.v1 + (1 : Int))); let x1 := l x0; let x2 := m x0; let x3 := l (Int.toNat x.v1); let x4 := m (Int.toNat x.v1); let x5 := s_vec_Cross_0 (s_vec_Sub_0 x4 x3 (m 0) (l 0)) (s_vec_Sub_1 x4 x3 (m 0) (l 0)) (s_vec_Sub_0 x2 x1 (m 0) (l 0)) (s_vec_Sub_1 x2 x1 (m 0) (l 0)); (bif (ieq x.v1 (1 : Int)) then x5 else (fadd x.v0 x5))) (IntKind.wrap .i64 (x.v1 + (1 : Int))) (let x0 := Int.toNat (IntKind.wrap .i64 (x.v1 + (1 : Int))); let x1 := l x0; let x2 := m x0; let x3 := s_vec_Sub_1 x2 x1 (m 0) (l 0); let x4 := s_vec_Sub_0 x2 x1 (m 0) (l 0); let x5 := l (Int.toNat x.v1); let x6 := m (Int.toNat x.v1); let x7 := s_vec_Sub_1 x6 x5 (m 0) (l 0); let x8 := s_vec_Sub_0 x6 x5 (m 0) (l 0); let x9 := s_vec_Cross_0 x8 x7 x4 x3; let x10 := s_vec_Add_1 x8 x7 x4 x3; let x11 := s_vec_Add_0 x8 x7 x4 x3; let x12 := s_vec_Scale_0 x11 x10 x9; (bif (ieq x.v1 (1 : Int)) then x12 else (s_vec_Add_0 x.v2 x.v3 x12 (s_vec_Scale_1 x11 x10 x9)))) (let x0 := Int.toNat (IntKind.wrap .i64 (x.v1 + (1 : Int))); let x1 := l x0; let x2 := m x0; let x3 := s_vec_Sub_1 x2 x1 (m 0) (l 0); let x4 := s_vec_Sub_0 x2 x1 (m 0) (l 0); let x5 := l (Int.toNat x.v1); let x6 := m (Int.toNat x.v1); let x7 := s_vec_Sub_1 x6 x5 (m 0) (l 0); let x8 := s_vec_Sub_0 x6 x5 (m 0) (l 0); let x9 := s_vec_Cross_0 x8 x7 x4 x3; let x10 := s_vec_Add_1 x8 x7 x4 x3; let x11 := s_vec_Add_0 x8 x7 x4 x3; let x12 := s_vec_Scale_1 x11 x10 x9; (bif (ieq x.v1 (1 : Int)) then x12 else (s_vec_Add_1 x.v2 x.v3 (s_vec_Scale_0 x11 x10 x9) x12)))
def go_poly_weighed_L0 (j : Nat) (m l : Nat → Nat) (x : V_poly_weighed_L0) : Bool := (bif (!(ilt x.v1 (IntKind.wrap .i64 ((Int.ofNat j) - (1 : Int))))) then false else true)
def ok_poly_weighed_L0 (j : Nat) (m l : Nat → Nat) (x : V_poly_weighed_L0) : Bool := let x0 := (Nat.blt 0 j) && (((ile (0 : Int) (IntKind.wrap .i64 (x.v1 + (1 : Int)))) && (Nat.blt (Int.toNat (IntKind.wrap .i64 (x.v1 + (1 : Int)))) j)) && ((Nat.blt 0 j) && ((ile (0 : Int) x.v1) && (Nat.blt (Int.toNat x.v1) j)))); (mrgB (!(ilt x.v1 (IntKind.wrap .i64 ((Int.ofNat j) - (1 : Int))))) true (mrgB (ieq x.v1 (1 : Int)) x0 x0))
def L_poly_weighed_L0 (j : Nat) (m l : Nat → Nat) (x : V_poly_weighed_L0) : V_poly_weighed_L0 := lastL (ok_poly_weighed_L0 j m l) (go_poly_weighed_L0 j m l) (step_poly_weighed_L0 j m l) x
def E_poly_weighed_L0 (j : Nat) (m l : Nat → Nat) (x : V_poly_weighed_L0) : Bool := endsL (ok_poly_weighed_L0 j m l) (go_poly_weighed_L0 j m l) (step_poly_weighed_L0 j m l) x
theorem all_poly_weighed_L0 (j : Nat) (m l : Nat → Nat) (x : V_poly_weighed_L0) : rnd Tryz.prog false menv67 [] [] 96 Ann.no (subC [1, 0, 1, 0, 0] (codeOf Tryz.f77)) 0 [⟨some 0, 0, 0, []⟩] tpl_poly_weighed_L0 cts_poly_weighed_L0 (false :: true :: true :: false :: tpB 49 ([])) [true] (sh_poly_weighed_L0 j m l x) = (true, true, go_poly_weighed_L0 j m l x, ok_poly_weighed_L0 j m l x, true, sh_poly_weighed_L0 j m l (step_poly_weighed_L0 j m l x), true) := by kernel_rfl
def fam_poly_weighed_L0 (j : Nat) (m l : Nat → Nat) : Fam Tryz.prog false menv67 [] [] 96 0 Ann.no (subC [1, 0, 1, 0, 0] (codeOf Tryz.f77)) V_poly_weighed_L0 where
  sh := sh_poly_weighed_L0 j m l
  ok := ok_poly_weighed_L0 j m l
  go := go_poly_weighed_L0 j m l
  step := step_poly_weighed_L0 j m l
  chg := (false :: true :: true :: false :: tpB 49 ([]))
  chgH := [true]
  tpl := tpl_poly_weighed_L0
  cts := cts_poly_weighed_L0
  keep := 0
  srcs := [⟨some 0, 0, 0, []⟩]
  ann := (annNo (subC [1, 0, 1, 0, 0] (codeOf Tryz.f77)))
  le := by kernel_rfl
  kept := by kernel_rfl
  keptB := by kernel_rfl
  all := all_poly_weighed_L0 j m l
  len := fun x => by kernel_rfl
  head := fun x y => by kernel_rfl
  con := fun x y => by kernel_rfl
  conH := fun x y => by kernel_rfl
def F_poly_weighed_L0 : St → Option Ch := fun s => cond (Nat.beq s.tm.length 53 && Nat.beq s.H.length 1) (tkCons (alL tpl_poly_weighed_L0 s.tm) fun d t0 => tkView 2 d fun s0 f0 => tkTops 1 t0 fun t1 => tkCons t1 fun u t2 => tkF u fun s3 => tkCons t2 fun k t3 => tkPtr 0 0 0 k <| tkCons t3 fun M t4 => tkI .i64 M fun s4 => tkTops 48 t4 fun t5 => tkNil t5 <| tkCons (alH cts_poly_weighed_L0 (s.H ++ List.map phan phs_poly_weighed_L0)) fun b6 t6 => tkFlat 29 0 b6 fun m6 => tkCons m6 fun R t7 => tkF R fun s5 => tkCons t7 fun aa t8 => tkF aa fun s6 => tkNil t8 <| tkNil t6 <| Fam.out (fam_poly_weighed_L0 s0 (fL f0 0) (fL f0 1)) s (allB fun i => isNrm [Ck.f, Ck.f] (f0 i)) (V_poly_weighed_L0.mk s3 s4 s5 s6)) none
theorem F_poly_weighed_L0_ok : ∀ s ch, F_poly_weighed_L0 s = some ch → AllI s ch ∧ LoopSpec Tryz.prog false 0 (subC [1, 0, 1, 0, 0] (codeOf Tryz.f77)) s (sel ch) := by
  intro s ch h
  unfold F_poly_weighed_L0 at h
  obtain ⟨hl, h0⟩ := cond_some h rfl
  clear h
  obtain ⟨hl, hb⟩ := and_beq2 hl
  obtain ⟨d, t0, e0, h1⟩ := tkCons_some h0
  obtain ⟨s0, f0, rfl, h2⟩ := tkView_some h1
  obtain ⟨t1, rfl, h3⟩ := tkTops_some h2
  obtain ⟨u, t2, rfl, h4⟩ := tkCons_some h3
  obtain ⟨s3, rfl, h5⟩ := tkF_some h4
  obtain ⟨k, t3, rfl, h6⟩ := tkCons_some h5
  obtain ⟨rfl, h7⟩ := tkPtr_some h6
  obtain ⟨M, t4, rfl, h8⟩ := tkCons_some h7
  obtain ⟨s4, rfl, h9⟩ := tkI_some h8
  obtain ⟨t5, rfl, h10⟩ := tkTops_some h9
  obtain ⟨rfl, h11⟩ := tkNil_some h10
  obtain ⟨b6, t6, eH, h12⟩ := tkCons_some h11
  obtain ⟨m6, rfl, h13⟩ := tkFlat_some h12
  obtain ⟨R, t7, rfl, h14⟩ := tkCons_some h13
  obtain ⟨s5, rfl, h15⟩ := tkF_some h14
  obtain ⟨aa, t8, rfl, h16⟩ := tkCons_some h15
  obtain ⟨s6, rfl, h17⟩ := tkF_some h16
  obtain ⟨rfl, h18⟩ := tkNil_some h17
  obtain ⟨rfl, h19⟩ := tkNil_some h18
  refine Fam.spec menv67_ok (fam_poly_weighed_L0 s0 (fL f0 0) (fL f0 1)) (phs := phs_poly_weighed_L0) (hl.trans (by kernel_rfl)) (hb.trans (by kernel_rfl)) ?_ ?_ h19
  · rw [← hdr_alH cts_poly_weighed_L0 (s.H ++ List.map phan phs_poly_weighed_L0), eH]; kernel_rfl
  · intro hq
    have hq0 := hq
    have n0 := nrm_fun hq0
    show sh_poly_weighed_L0 s0 (fL f0 0) (fL f0 1) (V_poly_weighed_L0.mk s3 s4 s5 s6) = (alL tpl_poly_weighed_L0 s.tm, alH cts_poly_weighed_L0 (s.H ++ List.map phan phs_poly_weighed_L0))
    rw [e0, eH]
    refine Eq.trans (show sh_poly_weighed_L0 s0 (fL f0 0) (fL f0 1) (V_poly_weighed_L0.mk s3 s4 s5 s6) = T_poly_weighed_L0 s0 (fL f0 0) (fL f0 1) (V_poly_weighed_L0.mk s3 s4 s5 s6) (fun i => mkN [Ck.f, Ck.f] (f0 i) 0) by kernel_rfl) ?_
    rw [n0]
    kernel_rfl
theorem ann_poly_weighed : FnOk Tryz.prog false 0 Tryz.f77 (Ann.two Ann.no (Ann.two (Ann.two Ann.no (Ann.one (Ann.loop F_poly_weighed_L0))) Ann.no)) := (fnOk_of (c := codeOf Tryz.f77) (by kernel_rfl) (annSeq (a := (subC [0] (codeOf Tryz.f77))) (b := (subC [1] (codeOf Tryz.f77))) (by kernel_rfl) (annNo (subC [0] (codeOf Tryz.f77))) (annSeq (a := (subC [1, 0] (codeOf Tryz.f77))) (b := (subC [1, 1] (codeOf Tryz.f77))) (by kernel_rfl) (annSeq (a := (subC [1, 0, 0] (codeOf Tryz.f77))) (b := (subC [1, 0, 1] (codeOf Tryz.f77))) (by kernel_rfl) (annNo (subC [1, 0, 0] (codeOf Tryz.f77))) (annBlock (a := (subC [1, 0, 1, 0] (codeOf Tryz.f77))) (i := 0) (by kernel_rfl) (annLoop (a := (subC [1, 0, 1, 0, 0] (codeOf Tryz.f77))) (by kernel_rfl) F_poly_weighed_L0_ok))) (annNo (subC [1, 1] (codeOf Tryz.f77))))))
def s_poly_weighed_0 (g : Nat) (n p : Nat → Nat) : Nat := ((L_poly_weighed_L0 g n p (V_poly_weighed_L0.mk 0 (1 : Int) 0 0)).v0)
def s_poly_weighed_1 (g : Nat) (n p : Nat → Nat) : Nat := ((L_poly_weighed_L0 g n p (V_poly_weighed_L0.mk 0 (1 : Int) 0 0)).v2)
def s_poly_weighed_2 (g : Nat) (n p : Nat → Nat) : Nat := ((L_poly_weighed_L0 g n p (V_poly_weighed_L0.mk 0 (1 : Int) 0 0)).v3)
theorem e_poly_weighed (g : Nat) (n p : Nat → Nat) : outB (evFnM Tryz.prog false menv67 [] [] 96 (Ann.two Ann.no (Ann.two (Ann.two Ann.no (Ann.one (Ann.loop F_poly_weighed_L0))) Ann.no)) Tryz.f77 [AV.view g 2 (fun i0 => [AV.float (n i0), AV.float (p i0)])] []) = some (((allB fun _ => true) && (E_poly_weighed_L0 g n p (V_poly_weighed_L0.mk 0 (1 : Int) 0 0))), AV.tup [AV.float (s_poly_weighed_0 g n p), AV.agg [AV.float (s_poly_weighed_1 g n p), AV.float (s_poly_weighed_2 g n p)]]) := by kernel_rfl
def o_poly_weighed (g : Nat) (n p : Nat → Nat) : Bool := (E_poly_weighed_L0 g n p (V_poly_weighed_L0.mk 0 (1 : Int) 0 0))
def S_poly_weighed : List AV → Option (Ob × AV)
  | [AV.view g 2 t] => some (Ob.both (Ob.bit (allB fun i => isNrm [Ck.f, Ck.f] (t i))) (Ob.bit (o_poly_weighed g (fL t 0) (fL t 1))), AV.tup [AV.float (s_poly_weighed_0 g (fL t 0) (fL t 1)), AV.agg [AV.float (s_poly_weighed_1 g (fL t 0) (fL t 1)), AV.float (s_poly_weighed_2 g (fL t 0) (fL t 1))]])
  | _ => none
theorem ob_poly_weighed (g : Nat) (n p : Nat → Nat) (ho : o_poly_weighed g n p = true) : ((allB fun _ => true) && (E_poly_weighed_L0 g n p (V_poly_weighed_L0.mk 0 (1 : Int) 0 0))) = true := by
  unfold o_poly_weighed at ho
  simp only [allB_true, eqT_self, mrgB_self, Bool.true_and, Bool.and_true] at ho ⊢
  exact ho
theorem t_poly_weighed : SOkM Tryz.prog false (77, fun args => match S_poly_weighed args with | some (o, v) => some (o, v, []) | none => none) := SOkM.flat (N := 96) menv67_ok Tryz.func77 ann_poly_weighed Tryz.call77 fun args o v h ho => by
  unfold S_poly_weighed at h
  split at h
  · rename_i g t
    cases h
    rw [Ob.both_ok, Bool.and_eq_true] at ho
    obtain ⟨hn, ho2⟩ := ho
    have n0 := hn
    simp only [Ob.ok] at n0
    replace n0 := nrm_fun n0
    have this := show outB (evFnM Tryz.prog false menv67 [] [] 96 (Ann.two Ann.no (Ann.two (Ann.two Ann.no (Ann.one (Ann.loop F_poly_weighed_L0))) Ann.no)) Tryz.f77 [AV.view g 2 (fun i => mkN [Ck.f, Ck.f] (t i) 0)] []) = _ from e_poly_weighed g (fL t 0) (fL t 1)
    rw [(ob_poly_weighed g (fL t 0) (fL t 1) ho2)] at this
    rw [n0] at this
    exact ⟨this, rfl⟩
  · cases h
def c_poly_weighed : SFM := fun args => match S_poly_weighed args with | some (o, v) => some (o, v, []) | none => none
theorem c_poly_weighed_ok : SOkM Tryz.prog false (77, c_poly_weighed) := t_poly_weighed
def mss64 : List (FuncId × SFM) := (77, c_poly_weighed) :: mss63
def menv68 : EnvM := mkEnvM mxs mss64 mws5
theorem mss64_ok : All (SOkM Tryz.prog false) mss64 := All.cons c_poly_weighed_ok mss63_ok
theorem menv68_ok : menv68.Ok Tryz.prog false := mkEnvM_ok mxs_ok mss64_ok mws5_ok
-- tumble/poly.Area
theorem ann_poly_Area : FnOk Tryz.prog false 0 Tryz.f49 Ann.no := (fnNo _)
def s_poly_Area_0 (g : Nat) (n p : Nat → Nat) : Nat := (bif (!(ieq (s_poly_Check_0 g n p) (0 : Int))) then 0 else (bif (!(flt 0 (s_poly_weighed_0 g n p))) then 0 else (fmul (s_poly_weighed_0 g n p) 4602678819172646912)))
def s_poly_Area_1 (g : Nat) (n p : Nat → Nat) : Int := (bif (!(ieq (s_poly_Check_0 g n p) (0 : Int))) then (s_poly_Check_0 g n p) else (bif (!(flt 0 (s_poly_weighed_0 g n p))) then (61 : Int) else (0 : Int)))
def q_poly_Area (g : Nat) (n p : Nat → Nat) : Bool := (mrgB (!(ieq (s_poly_Check_0 g n p) (0 : Int))) ((allB fun _ => true) && (o_poly_Check g n p)) (mrgB (!(flt 0 (s_poly_weighed_0 g n p))) (((allB fun _ => true) && (o_poly_weighed g n p)) && ((allB fun _ => true) && (o_poly_Check g n p))) (((allB fun _ => true) && (o_poly_weighed g n p)) && ((allB fun _ => true) && (o_poly_Check g n p)))))
theorem e_poly_Area (g : Nat) (n p : Nat → Nat) : outB (evFnM Tryz.prog false menv68 [] [] 96 Ann.no Tryz.f49 [AV.view g 2 (fun i0 => [AV.float (n i0), AV.float (p i0)])] []) = some (q_poly_Area g n p, AV.tup [AV.float (s_poly_Area_0 g n p), AV.int .i64 (s_poly_Area_1 g n p)]) := by kernel_rfl
def o_poly_Area (g : Nat) (n p : Nat → Nat) : Bool := (mrgB (!(ieq (s_poly_Check_0 g n p) (0 : Int))) (o_poly_Check g n p) (mrgB (!(flt 0 (s_poly_weighed_0 g n p))) ((o_poly_weighed g n p) && (o_poly_Check g n p)) ((o_poly_weighed g n p) && (o_poly_Check g n p))))
def S_poly_Area : List AV → Option (Ob × AV)
  | [AV.view g 2 t] => some (Ob.both (Ob.bit (allB fun i => isNrm [Ck.f, Ck.f] (t i))) (Ob.bit (o_poly_Area g (fL t 0) (fL t 1))), AV.tup [AV.float (s_poly_Area_0 g (fL t 0) (fL t 1)), AV.int .i64 (s_poly_Area_1 g (fL t 0) (fL t 1))])
  | _ => none
theorem ob_poly_Area (g : Nat) (n p : Nat → Nat) (ho : o_poly_Area g n p = true) : q_poly_Area g n p = true := by
  unfold q_poly_Area
  unfold o_poly_Area at ho
  simp only [allB_true, eqT_self, mrgB_self, Bool.true_and, Bool.and_true] at ho ⊢
  exact ho
theorem t_poly_Area : SOkM Tryz.prog false (49, fun args => match S_poly_Area args with | some (o, v) => some (o, v, []) | none => none) := SOkM.flat (N := 96) menv68_ok Tryz.func49 ann_poly_Area Tryz.call49 fun args o v h ho => by
  unfold S_poly_Area at h
  split at h
  · rename_i g t
    cases h
    rw [Ob.both_ok, Bool.and_eq_true] at ho
    obtain ⟨hn, ho2⟩ := ho
    have n0 := hn
    simp only [Ob.ok] at n0
    replace n0 := nrm_fun n0
    have this := show outB (evFnM Tryz.prog false menv68 [] [] 96 Ann.no Tryz.f49 [AV.view g 2 (fun i => mkN [Ck.f, Ck.f] (t i) 0)] []) = _ from e_poly_Area g (fL t 0) (fL t 1)
    rw [(ob_poly_Area g (fL t 0) (fL t 1) ho2)] at this
    rw [n0] at this
    exact ⟨this, rfl⟩
  · cases h
def c_poly_Area : SFM := fun args => match S_poly_Area args with | some (o, v) => some (o, v, []) | none => none
theorem c_poly_Area_ok : SOkM Tryz.prog false (49, c_poly_Area) := t_poly_Area
def mss65 : List (FuncId × SFM) := (49, c_poly_Area) :: mss64
def menv69 : EnvM := mkEnvM mxs mss65 mws5
theorem mss65_ok : All (SOkM Tryz.prog false) mss65 := All.cons c_poly_Area_ok mss64_ok
theorem menv69_ok : menv69.Ok Tryz.prog false := mkEnvM_ok mxs_ok mss65_ok mws5_ok
-- tumble/poly.Centre
theorem ann_poly_Centre : FnOk Tryz.prog false 0 Tryz.f50 Ann.no := (fnNo _)
def s_poly_Centre_0 (g : Nat) (n p : Nat → Nat) : Nat := (bif (!(ieq (s_poly_Check_0 g n p) (0 : Int))) then 0 else (bif (!(flt 0 (s_poly_weighed_0 g n p))) then 0 else (s_vec_Add_0 (n 0) (p 0) (fdiv (s_poly_weighed_1 g n p) (fmul 4613937818241073152 (s_poly_weighed_0 g n p))) (fdiv (s_poly_weighed_2 g n p) (fmul 4613937818241073152 (s_poly_weighed_0 g n p))))))
def s_poly_Centre_1 (g : Nat) (n p : Nat → Nat) : Nat := (bif (!(ieq (s_poly_Check_0 g n p) (0 : Int))) then 0 else (bif (!(flt 0 (s_poly_weighed_0 g n p))) then 0 else (s_vec_Add_1 (n 0) (p 0) (fdiv (s_poly_weighed_1 g n p) (fmul 4613937818241073152 (s_poly_weighed_0 g n p))) (fdiv (s_poly_weighed_2 g n p) (fmul 4613937818241073152 (s_poly_weighed_0 g n p))))))
def s_poly_Centre_2 (g : Nat) (n p : Nat → Nat) : Int := (bif (!(ieq (s_poly_Check_0 g n p) (0 : Int))) then (s_poly_Check_0 g n p) else (bif (!(flt 0 (s_poly_weighed_0 g n p))) then (61 : Int) else (0 : Int)))
def q_poly_Centre (g : Nat) (n p : Nat → Nat) : Bool := (mrgB (!(ieq (s_poly_Check_0 g n p) (0 : Int))) ((allB fun _ => true) && (o_poly_Check g n p)) (mrgB (!(flt 0 (s_poly_weighed_0 g n p))) (((allB fun _ => true) && (o_poly_weighed g n p)) && ((allB fun _ => true) && (o_poly_Check g n p))) ((Nat.blt 0 g) && (((allB fun _ => true) && (o_poly_weighed g n p)) && ((allB fun _ => true) && (o_poly_Check g n p))))))
theorem e_poly_Centre (g : Nat) (n p : Nat → Nat) : outB (evFnM Tryz.prog false menv69 [] [] 96 Ann.no Tryz.f50 [AV.view g 2 (fun i0 => [AV.float (n i0), AV.float (p i0)])] []) = some (q_poly_Centre g n p, AV.tup [AV.agg [AV.float (s_poly_Centre_0 g n p), AV.float (s_poly_Centre_1 g n p)], AV.int .i64 (s_poly_Centre_2 g n p)]) := by kernel_rfl
def o_poly_Centre (g : Nat) (n p : Nat → Nat) : Bool := (mrgB (!(ieq (s_poly_Check_0 g n p) (0 : Int))) (o_poly_Check g n p) (mrgB (!(flt 0 (s_poly_weighed_0 g n p))) ((o_poly_weighed g n p) && (o_poly_Check g n p)) ((Nat.blt 0 g) && ((o_poly_weighed g n p) && (o_poly_Check g n p)))))
def S_poly_Centre : List AV → Option (Ob × AV)
  | [AV.view g 2 t] => some (Ob.both (Ob.bit (allB fun i => isNrm [Ck.f, Ck.f] (t i))) (Ob.bit (o_poly_Centre g (fL t 0) (fL t 1))), AV.tup [AV.agg [AV.float (s_poly_Centre_0 g (fL t 0) (fL t 1)), AV.float (s_poly_Centre_1 g (fL t 0) (fL t 1))], AV.int .i64 (s_poly_Centre_2 g (fL t 0) (fL t 1))])
  | _ => none
theorem ob_poly_Centre (g : Nat) (n p : Nat → Nat) (ho : o_poly_Centre g n p = true) : q_poly_Centre g n p = true := by
  unfold q_poly_Centre
  unfold o_poly_Centre at ho
  simp only [allB_true, eqT_self, mrgB_self, Bool.true_and, Bool.and_true] at ho ⊢
  exact ho
theorem t_poly_Centre : SOkM Tryz.prog false (50, fun args => match S_poly_Centre args with | some (o, v) => some (o, v, []) | none => none) := SOkM.flat (N := 96) menv69_ok Tryz.func50 ann_poly_Centre Tryz.call50 fun args o v h ho => by
  unfold S_poly_Centre at h
  split at h
  · rename_i g t
    cases h
    rw [Ob.both_ok, Bool.and_eq_true] at ho
    obtain ⟨hn, ho2⟩ := ho
    have n0 := hn
    simp only [Ob.ok] at n0
    replace n0 := nrm_fun n0
    have this := show outB (evFnM Tryz.prog false menv69 [] [] 96 Ann.no Tryz.f50 [AV.view g 2 (fun i => mkN [Ck.f, Ck.f] (t i) 0)] []) = _ from e_poly_Centre g (fL t 0) (fL t 1)
    rw [(ob_poly_Centre g (fL t 0) (fL t 1) ho2)] at this
    rw [n0] at this
    exact ⟨this, rfl⟩
  · cases h
def c_poly_Centre : SFM := fun args => match S_poly_Centre args with | some (o, v) => some (o, v, []) | none => none
theorem c_poly_Centre_ok : SOkM Tryz.prog false (50, c_poly_Centre) := t_poly_Centre
def mss66 : List (FuncId × SFM) := (50, c_poly_Centre) :: mss65
def menv70 : EnvM := mkEnvM mxs mss66 mws5
theorem mss66_ok : All (SOkM Tryz.prog false) mss66 := All.cons c_poly_Centre_ok mss65_ok
theorem menv70_ok : menv70.Ok Tryz.prog false := mkEnvM_ok mxs_ok mss66_ok mws5_ok
-- tumble/num.Sum
-- a loop of tumble/num.Sum
structure V_num_Sum_L0 where
  v0 : Nat
  v1 : Int
def tpl_num_Sum_L0 : List AV := (AV.top :: AV.top :: AV.top :: AV.nul :: tpA 9 (AV.nul :: AV.nul :: AV.nul :: tpA 8 ([])))
def cts_num_Sum_L0 : List CT := []
def phs_num_Sum_L0 : List Src := []
def T_num_Sum_L0 (j : Nat) (m : Nat → Nat) (l : Int) (x : V_num_Sum_L0) (F0 : Nat → List AV) : List AV × Heap := ((AV.top :: AV.top :: AV.top :: AV.float x.v0 :: tpA 9 (AV.view j 1 F0 :: AV.int .i64 l :: AV.int .i64 x.v1 :: tpA 8 ([]))), [])
def sh_num_Sum_L0 (j : Nat) (m : Nat → Nat) (l : Int) (x : V_num_Sum_L0) : List AV × Heap := T_num_Sum_L0 j m l x (fun j0 => [AV.float (m j0)])
def step_num_Sum_L0 (j : Nat) (m : Nat → Nat) (l : Int) (x : V_num_Sum_L0) : V_num_Sum_L0 := V_num_Sum_L0.mk (fadd x.v0 (m (Int.toNat x.v1))) (IntKind.wrap .i64 (x.v1 + (1 : Int)))
def go_num_Sum_L0 (j : Nat) (m : Nat → Nat) (l : Int) (x : V_num_Sum_L0) : Bool := (bif (!(ilt x.v1 l)) then false else true)
def ok_num_Sum_L0 (j : Nat) (m : Nat → Nat) (l : Int) (x : V_num_Sum_L0) : Bool := (mrgB (!(ilt x.v1 l)) true ((ile (0 : Int) x.v1) && (Nat.blt (Int.toNat x.v1) j)))
def L_num_Sum_L0 (j : Nat) (m : Nat → Nat) (l : Int) (x : V_num_Sum_L0) : V_num_Sum_L0 := lastL (ok_num_Sum_L0 j m l) (go_num_Sum_L0 j m l) (step_num_Sum_L0 j m l) x
def E_num_Sum_L0 (j : Nat) (m : Nat → Nat) (l : Int) (x : V_num_Sum_L0) : Bool := endsL (ok_num_Sum_L0 j m l) (go_num_Sum_L0 j m l) (step_num_Sum_L0 j m l) x
theorem all_num_Sum_L0 (j : Nat) (m : Nat → Nat) (l : Int) (x : V_num_Sum_L0) : rnd Tryz.prog false menv70 [] [] 96 Ann.no (subC [1, 1, 1, 0, 1, 0, 0] (codeOf Tryz.f53)) 0 [] tpl_num_Sum_L0 cts_num_Sum_L0 (tpB 13 (false :: false :: tpB 9 ([]))) [] (sh_num_Sum_L0 j m l x) = (true, true, go_num_Sum_L0 j m l x, ok_num_Sum_L0 j m l x, true, sh_num_Sum_L0 j m l (step_num_Sum_L0 j m l x), true) := by kernel_rfl
def fam_num_Sum_L0 (j : Nat) (m : Nat → Nat) (l : Int) : Fam Tryz.prog false menv70 [] [] 96 0 Ann.no (subC [1, 1, 1, 0, 1, 0, 0] (codeOf Tryz.f53)) V_num_Sum_L0 where
  sh := sh_num_Sum_L0 j m l
  ok := ok_num_Sum_L0 j m l
  go := go_num_Sum_L0 j m l
  step := step_num_Sum_L0 j m l
  chg := (tpB 13 (false :: false :: tpB 9 ([])))
  chgH := []
  tpl := tpl_num_Sum_L0
  cts := cts_num_Sum_L0
  keep := 0
  srcs := []
  ann := (annNo (subC [1, 1, 1, 0, 1, 0, 0] (codeOf Tryz.f53)))
  le := by kernel_rfl
  kept := by kernel_rfl
  keptB := by kernel_rfl
  all := all_num_Sum_L0 j m l
  len := fun x => by kernel_rfl
  head := fun x y => by kernel_rfl
  con := fun x y => by kernel_rfl
  conH := fun x y => by kernel_rfl
def F_num_Sum_L0 : St → Option Ch := fun s => cond (Nat.beq s.tm.length 24 && Nat.beq s.H.length 0) (tkTops 3 (alL tpl_num_Sum_L0 s.tm) fun t0 => tkCons t0 fun e t1 => tkF e fun s0 => tkTops 9 t1 fun t2 => tkCons t2 fun k t3 => tkView 1 k fun s1 f0 => tkCons t3 fun M t4 => tkI .i64 M fun s3 => tkCons t4 fun P t5 => tkI .i64 P fun s4 => tkTops 8 t5 fun t6 => tkNil t6 <| tkNil (alH cts_num_Sum_L0 (s.H ++ List.map phan phs_num_Sum_L0)) <| Fam.out (fam_num_Sum_L0 s1 (fL f0 0) s3) s (allB fun i => isNrm [Ck.f] (f0 i)) (V_num_Sum_L0.mk s0 s4)) none
theorem F_num_Sum_L0_ok : ∀ s ch, F_num_Sum_L0 s = some ch → AllI s ch ∧ LoopSpec Tryz.prog false 0 (subC [1, 1, 1, 0, 1, 0, 0] (codeOf Tryz.f53)) s (sel ch) := by
  intro s ch h
  unfold F_num_Sum_L0 at h
  obtain ⟨hl, h0⟩ := cond_some h rfl
  clear h
  obtain ⟨hl, hb⟩ := and_beq2 hl
  obtain ⟨t0, e0, h1⟩ := tkTops_some h0
  obtain ⟨e, t1, rfl, h2⟩ := tkCons_some h1
  obtain ⟨s0, rfl, h3⟩ := tkF_some h2
  obtain ⟨t2, rfl, h4⟩ := tkTops_some h3
  obtain ⟨k, t3, rfl, h5⟩ := tkCons_some h4
  obtain ⟨s1, f0, rfl, h6⟩ := tkView_some h5
  obtain ⟨M, t4, rfl, h7⟩ := tkCons_some h6
  obtain ⟨s3, rfl, h8⟩ := tkI_some h7
  obtain ⟨P, t5, rfl, h9⟩ := tkCons_some h8
  obtain ⟨s4, rfl, h10⟩ := tkI_some h9
  obtain ⟨t6, rfl, h11⟩ := tkTops_some h10
  obtain ⟨rfl, h12⟩ := tkNil_some h11
  obtain ⟨eH, h13⟩ := tkNil_some h12
  refine Fam.spec menv70_ok (fam_num_Sum_L0 s1 (fL f0 0) s3) (phs := phs_num_Sum_L0) (hl.trans (by kernel_rfl)) (hb.trans (by kernel_rfl)) ?_ ?_ h13
  · rw [← hdr_alH cts_num_Sum_L0 (s.H ++ List.map phan phs_num_Sum_L0), eH]; kernel_rfl
  · intro hq
    have hq0 := hq
    have n0 := nrm_fun hq0
    show sh_num_Sum_L0 s1 (fL f0 0) s3 (V_num_Sum_L0.mk s0 s4) = (alL tpl_num_Sum_L0 s.tm, alH cts_num_Sum_L0 (s.H ++ List.map phan phs_num_Sum_L0))
    rw [e0, eH]
    refine Eq.trans (show sh_num_Sum_L0 s1 (fL f0 0) s3 (V_num_Sum_L0.mk s0 s4) = T_num_Sum_L0 s1 (fL f0 0) s3 (V_num_Sum_L0.mk s0 s4) (fun i => mkN [Ck.f] (f0 i) 0) by kernel_rfl) ?_
    rw [n0]
    kernel_rfl
theorem ann_num_Sum : FnOk Tryz.prog false 0 Tryz.f53 (Ann.two Ann.no (Ann.two Ann.no (Ann.two Ann.no (Ann.two (Ann.two Ann.no (Ann.one (Ann.loop F_num_Sum_L0))) Ann.no)))) := (fnOk_of (c := codeOf Tryz.f53) (by kernel_rfl) (annSeq (a := (subC [0] (codeOf Tryz.f53))) (b := (subC [1] (codeOf Tryz.f53))) (by kernel_rfl) (annNo (subC [0] (codeOf Tryz.f53))) (annSeq (a := (subC [1, 0] (codeOf Tryz.f53))) (b := (subC [1, 1] (codeOf Tryz.f53))) (by kernel_rfl) (annNo (subC [1, 0] (codeOf Tryz.f53))) (annSeq (a := (subC [1, 1, 0] (codeOf Tryz.f53))) (b := (subC [1, 1, 1] (codeOf Tryz.f53))) (by kernel_rfl) (annNo (subC [1, 1, 0] (codeOf Tryz.f53))) (annSeq (a := (subC [1, 1, 1, 0] (codeOf Tryz.f53))) (b := (subC [1, 1, 1, 1] (codeOf Tryz.f53))) (by kernel_rfl) (annSeq (a := (subC [1, 1, 1, 0, 0] (codeOf Tryz.f53))) (b := (subC [1, 1, 1, 0, 1] (codeOf Tryz.f53))) (by kernel_rfl) (annNo (subC [1, 1, 1, 0, 0] (codeOf Tryz.f53))) (annBlock (a := (subC [1, 1, 1, 0, 1, 0] (codeOf Tryz.f53))) (i := 0) (by kernel_rfl) (annLoop (a := (subC [1, 1, 1, 0, 1, 0, 0] (codeOf Tryz.f53))) (by kernel_rfl) F_num_Sum_L0_ok))) (annNo (subC [1, 1, 1, 1] (codeOf Tryz.f53))))))))
def s_num_Sum_0 (g : Nat) (n : Nat → Nat) : Nat := (bif (ieq (Int.ofNat g) (0 : Int)) then 0 else ((L_num_Sum_L0 (g - 1) (fun j0 => (n (1 + j0))) (Int.ofNat (g - 1)) (V_num_Sum_L0.mk (n 0) (0 : Int))).v0))
def q_num_Sum (g : Nat) (n : Nat → Nat) : Bool := (mrgB (ieq (Int.ofNat g) (0 : Int)) true ((((Nat.ble 1 g) && (Nat.ble g g)) && (Nat.blt 0 g)) && ((allB fun _ => true) && (E_num_Sum_L0 (g - 1) (fun j0 => (n (1 + j0))) (Int.ofNat (g - 1)) (V_num_Sum_L0.mk (n 0) (0 : Int))))))
theorem e_num_Sum (g : Nat) (n : Nat → Nat) : outB (evFnM Tryz.prog false menv70 [] [] 96 (Ann.two Ann.no (Ann.two Ann.no (Ann.two Ann.no (Ann.two (Ann.two Ann.no (Ann.one (Ann.loop F_num_Sum_L0))) Ann.no)))) Tryz.f53 [AV.view g 1 (fun i0 => [AV.float (n i0)])] []) = some (q_num_Sum g n, AV.float (s_num_Sum_0 g n)) := by kernel_rfl
def o_num_Sum (g : Nat) (n : Nat → Nat) : Bool := (mrgB (ieq (Int.ofNat g) (0 : Int)) true ((((Nat.ble 1 g) && (Nat.ble g g)) && (Nat.blt 0 g)) && (E_num_Sum_L0 (g - 1) (fun j0 => (n (1 + j0))) (Int.ofNat (g - 1)) (V_num_Sum_L0.mk (n 0) (0 : Int)))))
def S_num_Sum : List AV → Option (Ob × AV)
  | [AV.view g 1 t] => some (Ob.both (Ob.bit (allB fun i => isNrm [Ck.f] (t i))) (Ob.bit (o_num_Sum g (fL t 0))), AV.float (s_num_Sum_0 g (fL t 0)))
  | _ => none
theorem ob_num_Sum (g : Nat) (n : Nat → Nat) (ho : o_num_Sum g n = true) : q_num_Sum g n = true := by
  unfold q_num_Sum
  unfold o_num_Sum at ho
  simp only [allB_true, eqT_self, mrgB_self, Bool.true_and, Bool.and_true] at ho ⊢
  exact ho
theorem t_num_Sum : SOkM Tryz.prog false (53, fun args => match S_num_Sum args with | some (o, v) => some (o, v, []) | none => none) := SOkM.flat (N := 96) menv70_ok Tryz.func53 ann_num_Sum Tryz.call53 fun args o v h ho => by
  unfold S_num_Sum at h
  split at h
  · rename_i g t
    cases h
    rw [Ob.both_ok, Bool.and_eq_true] at ho
    obtain ⟨hn, ho2⟩ := ho
    have n0 := hn
    simp only [Ob.ok] at n0
    replace n0 := nrm_fun n0
    have this := show outB (evFnM Tryz.prog false menv70 [] [] 96 (Ann.two Ann.no (Ann.two Ann.no (Ann.two Ann.no (Ann.two (Ann.two Ann.no (Ann.one (Ann.loop F_num_Sum_L0))) Ann.no)))) Tryz.f53 [AV.view g 1 (fun i => mkN [Ck.f] (t i) 0)] []) = _ from e_num_Sum g (fL t 0)
    rw [(ob_num_Sum g (fL t 0) ho2)] at this
    rw [n0] at this
    exact ⟨this, rfl⟩
  · cases h
def c_num_Sum : SFM := fun args => match S_num_Sum args with | some (o, v) => some (o, v, []) | none => none
theorem c_num_Sum_ok : SOkM Tryz.prog false (53, c_num_Sum) := t_num_Sum
def mss67 : List (FuncId × SFM) := (53, c_num_Sum) :: mss66
def menv71 : EnvM := mkEnvM mxs mss67 mws5
theorem mss67_ok : All (SOkM Tryz.prog false) mss67 := All.cons c_num_Sum_ok mss66_ok
theorem menv71_ok : menv71.Ok Tryz.prog false := mkEnvM_ok mxs_ok mss67_ok mws5_ok
-- tumble/mass.polygon
-- a loop of tumble/mass.polygon
structure V_mass_polygon_L0 where
  v0 : Int
  v1 : (Nat → Nat)
def tpl_mass_polygon_L0 : List AV := (AV.top :: AV.nul :: AV.nul :: AV.top :: AV.nul :: AV.top :: AV.nul :: AV.top :: AV.nul :: AV.nul :: tpA 28 (AV.nul :: AV.nul :: tpA 49 ([])))
def cts_mass_polygon_L0 : List CT := [CT.keep, CT.keep, CT.keep, CT.keep]
def phs_mass_polygon_L0 : List Src := []
def T_mass_polygon_L0 (j m l : Nat) (r C : Int) (D : Nat) (F I : Nat → Nat) (L K : Nat) (x : V_mass_polygon_L0) (F0 F1 : Nat → List AV) : List AV × Heap := ((AV.top :: AV.float j :: AV.ptr (some ⟨0, 0, .lit 0⟩) :: AV.top :: AV.ptr (some ⟨1, 0, .lit 0⟩) :: AV.top :: AV.float m :: AV.top :: AV.ptr (some ⟨2, 0, .lit 0⟩) :: AV.lst 3 0 1 l l :: tpA 28 (AV.int .i64 r :: AV.int .i64 x.v0 :: tpA 49 ([]))), [⟨.flat [AV.int .u8 C, AV.float D, AV.view l 2 F0], 25, 0⟩, ⟨.flat [AV.float 0, AV.float 0, AV.float 0, AV.float 0], 31, 0⟩, ⟨.flat [AV.float L, AV.float K], 29, 0⟩, ⟨.sym l 1 F1, 22, 0⟩])
def sh_mass_polygon_L0 (j m l : Nat) (r C : Int) (D : Nat) (F I : Nat → Nat) (L K : Nat) (x : V_mass_polygon_L0) : List AV × Heap := T_mass_polygon_L0 j m l r C D F I L K x (fun j0 => [AV.float (F j0), AV.float (I j0)]) (fun j0 => [AV.float (x.v1 j0)])
def step_mass_polygon_L0 (l : Nat) (r : Int) (F I : Nat → Nat) (L K : Nat) (x : V_mass_polygon_L0) : V_mass_polygon_L0 := V_mass_polygon_L0.mk (IntKind.wrap .i64 (x.v0 + (1 : Int))) (fun j0 => let x0 := Int.toNat (Int.tmod (IntKind.wrap .i64 (x.v0 + (1 : Int))) (Int.ofNat l)); let x1 := I x0; let x2 := F x0; let x3 := s_vec_Sub_1 x2 x1 L K; let x4 := s_vec_Sub_0 x2 x1 L K; let x5 := I (Int.toNat x.v0); let x6 := F (Int.toNat x.v0); let x7 := s_vec_Sub_1 x6 x5 L K; let x8 := s_vec_Sub_0 x6 x5 L K; (bif (Nat.beq j0 (Int.toNat x.v0)) then (fmul (s_vec_Cross_0 x8 x7 x4 x3) (fadd (fadd (s_vec_Dot_0 x8 x7 x8 x7) (s_vec_Dot_0 x8 x7 x4 x3)) (s_vec_Dot_0 x4 x3 x4 x3))) else (x.v1 j0)))
def go_mass_polygon_L0 (l : Nat) (r : Int) (F I : Nat → Nat) (L K : Nat) (x : V_mass_polygon_L0) : Bool := (bif (!(ilt x.v0 r)) then false else true)
def ok_mass_polygon_L0 (l : Nat) (r : Int) (F I : Nat → Nat) (L K : Nat) (x : V_mass_polygon_L0) : Bool := (mrgB (!(ilt x.v0 r)) true ((Nat.blt (Int.toNat x.v0) l) && (((ile (0 : Int) x.v0) && (Nat.blt (Int.toNat x.v0) l)) && (((ile (0 : Int) (Int.tmod (IntKind.wrap .i64 (x.v0 + (1 : Int))) (Int.ofNat l))) && (Nat.blt (Int.toNat (Int.tmod (IntKind.wrap .i64 (x.v0 + (1 : Int))) (Int.ofNat l))) l)) && ((!(ieq (Int.ofNat l) (0 : Int))) && ((ile (0 : Int) x.v0) && (Nat.blt (Int.toNat x.v0) l)))))))
def L_mass_polygon_L0 (l : Nat) (r : Int) (F I : Nat → Nat) (L K : Nat) (x : V_mass_polygon_L0) : V_mass_polygon_L0 := lastL (ok_mass_polygon_L0 l r F I L K) (go_mass_polygon_L0 l r F I L K) (step_mass_polygon_L0 l r F I L K) x
def E_mass_polygon_L0 (l : Nat) (r : Int) (F I : Nat → Nat) (L K : Nat) (x : V_mass_polygon_L0) : Bool := endsL (ok_mass_polygon_L0 l r F I L K) (go_mass_polygon_L0 l r F I L K) (step_mass_polygon_L0 l r F I L K) x
theorem all_mass_polygon_L0 (j m l : Nat) (r C : Int) (D : Nat) (F I : Nat → Nat) (L K : Nat) (x : V_mass_polygon_L0) : rnd Tryz.prog false menv71 [] [] 96 Ann.no (subC [1, 1, 1, 1, 1, 1, 0, 1, 0, 0] (codeOf Tryz.f24)) 0 [⟨some 0, 0, 0, []⟩, ⟨some 1, 0, 0, []⟩, ⟨some 2, 0, 0, []⟩, ⟨some 3, 0, 0, []⟩] tpl_mass_polygon_L0 cts_mass_polygon_L0 (true :: false :: false :: true :: false :: true :: false :: true :: false :: false :: tpB 28 (false :: tpB 50 ([]))) [false, false, false, true] (sh_mass_polygon_L0 j m l r C D F I L K x) = (true, true, go_mass_polygon_L0 l r F I L K x, ok_mass_polygon_L0 l r F I L K x, true, sh_mass_polygon_L0 j m l r C D F I L K (step_mass_polygon_L0 l r F I L K x), true) := by kernel_rfl
def fam_mass_polygon_L0 (j m l : Nat) (r C : Int) (D : Nat) (F I : Nat → Nat) (L K : Nat) : Fam Tryz.prog false menv71 [] [] 96 0 Ann.no (subC [1, 1, 1, 1, 1, 1, 0, 1, 0, 0] (codeOf Tryz.f24)) V_mass_polygon_L0 where
  sh := sh_mass_polygon_L0 j m l r C D F I L K
  ok := ok_mass_polygon_L0 l r F I L K
  go := go_mass_polygon_L0 l r F I L K
  step := step_mass_polygon_L0 l r F I L K
  chg := (true :: false :: false :: true :: false :: true :: false :: true :: false :: false :: tpB 28 (false :: tpB 50 ([])))
  chgH := [false, false, false, true]
  tpl := tpl_mass_polygon_L0
  cts := cts_mass_polygon_L0
  keep := 0
  srcs := [⟨some 0, 0, 0, []⟩, ⟨some 1, 0, 0, []⟩, ⟨some 2, 0, 0, []⟩, ⟨some 3, 0, 0, []⟩]
  ann := (annNo (subC [1, 1, 1, 1, 1, 1, 0, 1, 0, 0] (codeOf Tryz.f24)))
  le := by kernel_rfl
  kept := by kernel_rfl
  keptB := by kernel_rfl
  all := all_mass_polygon_L0 j m l r C D F I L K
  len := fun x => by kernel_rfl
  head := fun x y => by kernel_rfl
  con := fun x y => by kernel_rfl
  conH := fun x y => by kernel_rfl
def F_mass_polygon_L0 : St → Option Ch := fun s => cond (Nat.beq s.tm.length 89 && Nat.beq s.H.length 4) (tkTops 1 (alL tpl_mass_polygon_L0 s.tm) fun t0 => tkCons t0 fun e t1 => tkF e fun s0 => tkCons t1 fun u t2 => tkPtr 0 0 0 u <| tkTops 1 t2 fun t3 => tkCons t3 fun M t4 => tkPtr 1 0 0 M <| tkTops 1 t4 fun t5 => tkCons t5 fun Y t6 => tkF Y fun s1 => tkTops 1 t6 fun t7 => tkCons t7 fun aa t8 => tkPtr 2 0 0 aa <| tkCons t8 fun X t9 => tkLst 3 0 1 X fun s2 s3 => tkTops 28 t9 fun t10 => tkCons t10 fun ad t11 => tkI .i64 ad fun s4 => tkCons t11 fun af t12 => tkI .i64 af fun s5 => tkTops 49 t12 fun t13 => tkNil t13 <| tkCons (alH cts_mass_polygon_L0 (s.H ++ List.map phan phs_mass_polygon_L0)) fun b14 t14 => tkFlat 25 0 b14 fun m14 => tkCons m14 fun ag t15 => tkI .u8 ag fun s6 => tkCons t15 fun ah t16 => tkF ah fun s7 => tkCons t16 fun aj t17 => tkView 2 aj fun s8 f0 => tkNil t17 <| tkCons t14 fun b18 t18 => tkFlat 31 0 b18 fun m18 => tkCons m18 fun ak t19 => tkFL 0 ak <| tkCons t19 fun al t20 => tkFL 0 al <| tkCons t20 fun am t21 => tkFL 0 am <| tkCons t21 fun aq t22 => tkFL 0 aq <| tkNil t22 <| tkCons t18 fun b23 t23 => tkFlat 29 0 b23 fun m23 => tkCons m23 fun an t24 => tkF an fun s15 => tkCons t24 fun ar t25 => tkF ar fun s16 => tkNil t25 <| tkCons t23 fun b26 t26 => tkSym 22 0 1 b26 fun s17 f1 => tkNil t26 <| Fam.out (fam_mass_polygon_L0 s0 s1 s2 s4 s6 s7 (fL f0 0) (fL f0 1) s15 s16) s (((((allB fun i => isNrm [Ck.f, Ck.f] (f0 i)) && (allB fun i => isNrm [Ck.f] (f1 i))) && (eqT s3 s2)) && (eqT s8 s2)) && (eqT s17 s2)) (V_mass_polygon_L0.mk s5 (fL f1 0))) none
theorem F_mass_polygon_L0_ok : ∀ s ch, F_mass_polygon_L0 s = some ch → AllI s ch ∧ LoopSpec Tryz.prog false 0 (subC [1, 1, 1, 1, 1, 1, 0, 1, 0, 0] (codeOf Tryz.f24)) s (sel ch) := by
  intro s ch h
  unfold F_mass_polygon_L0 at h
  obtain ⟨hl, h0⟩ := cond_some h rfl
  clear h
  obtain ⟨hl, hb⟩ := and_beq2 hl
  obtain ⟨t0, e0, h1⟩ := tkTops_some h0
  obtain ⟨e, t1, rfl, h2⟩ := tkCons_some h1
  obtain ⟨s0, rfl, h3⟩ := tkF_some h2
  obtain ⟨u, t2, rfl, h4⟩ := tkCons_some h3
  obtain ⟨rfl, h5⟩ := tkPtr_some h4
  obtain ⟨t3, rfl, h6⟩ := tkTops_some h5
  obtain ⟨M, t4, rfl, h7⟩ := tkCons_some h6
  obtain ⟨rfl, h8⟩ := tkPtr_some h7
  obtain ⟨t5, rfl, h9⟩ := tkTops_some h8
  obtain ⟨Y, t6, rfl, h10⟩ := tkCons_some h9
  obtain ⟨s1, rfl, h11⟩ := tkF_some h10
  obtain ⟨t7, rfl, h12⟩ := tkTops_some h11
  obtain ⟨aa, t8, rfl, h13⟩ := tkCons_some h12
  obtain ⟨rfl, h14⟩ := tkPtr_some h13
  obtain ⟨X, t9, rfl, h15⟩ := tkCons_some h14
  obtain ⟨s2, s3, rfl, h16⟩ := tkLst_some h15
  obtain ⟨t10, rfl, h17⟩ := tkTops_some h16
  obtain ⟨ad, t11, rfl, h18⟩ := tkCons_some h17
  obtain ⟨s4, rfl, h19⟩ := tkI_some h18
  obtain ⟨af, t12, rfl, h20⟩ := tkCons_some h19
  obtain ⟨s5, rfl, h21⟩ := tkI_some h20
  obtain ⟨t13, rfl, h22⟩ := tkTops_some h21
  obtain ⟨rfl, h23⟩ := tkNil_some h22
  obtain ⟨b14, t14, eH, h24⟩ := tkCons_some h23
  obtain ⟨m14, rfl, h25⟩ := tkFlat_some h24
  obtain ⟨ag, t15, rfl, h26⟩ := tkCons_some h25
  obtain ⟨s6, rfl, h27⟩ := tkI_some h26
  obtain ⟨ah, t16, rfl, h28⟩ := tkCons_some h27
  obtain ⟨s7, rfl, h29⟩ := tkF_some h28
  obtain ⟨aj, t17, rfl, h30⟩ := tkCons_some h29
  obtain ⟨s8, f0, rfl, h31⟩ := tkView_some h30
  obtain ⟨rfl, h32⟩ := tkNil_some h31
  obtain ⟨b18, t18, rfl, h33⟩ := tkCons_some h32
  obtain ⟨m18, rfl, h34⟩ := tkFlat_some h33
  obtain ⟨ak, t19, rfl, h35⟩ := tkCons_some h34
  obtain ⟨rfl, h36⟩ := tkFL_some h35
  obtain ⟨al, t20, rfl, h37⟩ := tkCons_some h36
  obtain ⟨rfl, h38⟩ := tkFL_some h37
  obtain ⟨am, t21, rfl, h39⟩ := tkCons_some h38
  obtain ⟨rfl, h40⟩ := tkFL_some h39
  obtain ⟨aq, t22, rfl, h41⟩ := tkCons_some h40
  obtain ⟨rfl, h42⟩ := tkFL_some h41
  obtain ⟨rfl, h43⟩ := tkNil_some h42
  obtain ⟨b23, t23, rfl, h44⟩ := tkCons_some h43
  obtain ⟨m23, rfl, h45⟩ := tkFlat_some h44
  obtain ⟨an, t24, rfl, h46⟩ := tkCons_some h45
  obtain ⟨s15, rfl, h47⟩ := tkF_some h46
  obtain ⟨ar, t25, rfl, h48⟩ := tkCons_some h47
  obtain ⟨s16, rfl, h49⟩ := tkF_some h48
  obtain ⟨rfl, h50⟩ := tkNil_some h49
  obtain ⟨b26, t26, rfl, h51⟩ := tkCons_some h50
  obtain ⟨s17, f1, rfl, h52⟩ := tkSym_some h51
  obtain ⟨rfl, h53⟩ := tkNil_some h52
  refine Fam.spec menv71_ok (fam_mass_polygon_L0 s0 s1 s2 s4 s6 s7 (fL f0 0) (fL f0 1) s15 s16) (phs := phs_mass_polygon_L0) (hl.trans (by kernel_rfl)) (hb.trans (by kernel_rfl)) ?_ ?_ h53
  · rw [← hdr_alH cts_mass_polygon_L0 (s.H ++ List.map phan phs_mass_polygon_L0), eH]; kernel_rfl
  · intro hq
    simp only [Bool.and_eq_true] at hq
    obtain ⟨⟨⟨⟨hq0, hq1⟩, hq2⟩, hq3⟩, hq4⟩ := hq
    have n0 := nrm_fun hq0
    have n1 := nrm_fun hq1
    have hx := eqT_eq hq2; subst s3
    have hx := eqT_eq hq3; subst s8
    have hx := eqT_eq hq4; subst s17
    show sh_mass_polygon_L0 s0 s1 s2 s4 s6 s7 (fL f0 0) (fL f0 1) s15 s16 (V_mass_polygon_L0.mk s5 (fL f1 0)) = (alL tpl_mass_polygon_L0 s.tm, alH cts_mass_polygon_L0 (s.H ++ List.map phan phs_mass_polygon_L0))
    rw [e0, eH]
    refine Eq.trans (show sh_mass_polygon_L0 s0 s1 s2 s4 s6 s7 (fL f0 0) (fL f0 1) s15 s16 (V_mass_polygon_L0.mk s5 (fL f1 0)) = T_mass_polygon_L0 s0 s1 s2 s4 s6 s7 (fL f0 0) (fL f0 1) s15 s16 (V_mass_polygon_L0.mk s5 (fL f1 0)) (fun i => mkN [Ck.f, Ck.f] (f0 i) 0) (fun i => mkN [Ck.f] (f1 i) 0) by kernel_rfl) ?_
    rw [n0, n1]
    kernel_rfl
theorem ann_mass_polygon : FnOk Tryz.prog false 0 Tryz.f24 (Ann.two Ann.no (Ann.two Ann.no (Ann.two Ann.no (Ann.two Ann.no (Ann.two Ann.no (Ann.two Ann.no (Ann.two (Ann.two Ann.no (Ann.one (Ann.loop F_mass_polygon_L0))) Ann.no))))))) := (fnOk_of (c := codeOf Tryz.f24) (by kernel_rfl) (annSeq (a := (subC [0] (codeOf Tryz.f24))) (b := (subC [1] (codeOf Tryz.f24))) (by kernel_rfl) (annNo (subC [0] (codeOf Tryz.f24))) (annSeq (a := (subC [1, 0] (codeOf Tryz.f24))) (b := (subC [1, 1] (codeOf Tryz.f24))) (by kernel_rfl) (annNo (subC [1, 0] (codeOf Tryz.f24))) (annSeq (a := (subC [1, 1, 0] (codeOf Tryz.f24))) (b := (subC [1, 1, 1] (codeOf Tryz.f24))) (by kernel_rfl) (annNo (subC [1, 1, 0] (codeOf Tryz.f24))) (annSeq (a := (subC [1, 1, 1, 0] (codeOf Tryz.f24))) (b := (subC [1, 1, 1, 1] (codeOf Tryz.f24))) (by kernel_rfl) (annNo (subC [1, 1, 1, 0] (codeOf Tryz.f24))) (annSeq (a := (subC [1, 1, 1, 1, 0] (codeOf Tryz.f24))) (b := (subC [1, 1, 1, 1, 1] (codeOf Tryz.f24))) (by kernel_rfl) (annNo (subC [1, 1, 1, 1, 0] (codeOf Tryz.f24))) (annSeq (a := (subC [1, 1, 1, 1, 1, 0] (codeOf Tryz.f24))) (b := (subC [1, 1, 1, 1, 1, 1] (codeOf Tryz.f24))) (by kernel_rfl) (annNo (subC [1, 1, 1, 1, 1, 0] (codeOf Tryz.f24))) (annSeq (a := (subC [1, 1, 1, 1, 1, 1, 0] (codeOf Tryz.f24))) (b := (subC [1, 1, 1, 1, 1, 1, 1] (codeOf Tryz.f24))) (by kernel_rfl) (annSeq (a := (subC [1, 1, 1, 1, 1, 1, 0, 0] (codeOf Tryz.f24))) (b := (subC [1, 1, 1, 1, 1, 1, 0, 1] (codeOf Tryz.f24))) (by kernel_rfl) (annNo (subC [1, 1, 1, 1, 1, 1, 0, 0] (codeOf Tryz.f24))) (annBlock (a := (subC [1, 1, 1, 1, 1, 1, 0, 1, 0] (codeOf Tryz.f24))) (i := 0) (by kernel_rfl) (annLoop (a := (subC [1, 1, 1, 1, 1, 1, 0, 1, 0, 0] (codeOf Tryz.f24))) (by kernel_rfl) F_mass_polygon_L0_ok))) (annNo (subC [1, 1, 1, 1, 1, 1, 1] (codeOf Tryz.f24)))))))))))
def s_mass_polygon_0 (d : Int) (e q : Nat) (z B : Nat → Nat) (k : Nat) : Nat := (bif (!(ieq (s_poly_Area_1 q z B) (0 : Int))) then 0 else (bif (!(ieq (s_poly_Centre_2 q z B) (0 : Int))) then 0 else (fmul k (s_poly_Area_0 q z B))))
def s_mass_polygon_1 (d : Int) (e q : Nat) (z B : Nat → Nat) (k : Nat) : Nat := (bif (!(ieq (s_poly_Area_1 q z B) (0 : Int))) then 0 else (bif (!(ieq (s_poly_Centre_2 q z B) (0 : Int))) then 0 else (fmul k (fdiv (s_num_Sum_0 q ((L_mass_polygon_L0 q (Int.ofNat q) z B (s_poly_Centre_0 q z B) (s_poly_Centre_1 q z B) (V_mass_polygon_L0.mk (0 : Int) (fun j0 => 0))).v1)) 4622945017495814144))))
def s_mass_polygon_2 (d : Int) (e q : Nat) (z B : Nat → Nat) (k : Nat) : Nat := (bif (!(ieq (s_poly_Area_1 q z B) (0 : Int))) then 0 else (bif (!(ieq (s_poly_Centre_2 q z B) (0 : Int))) then 0 else (s_poly_Centre_0 q z B)))
def s_mass_polygon_3 (d : Int) (e q : Nat) (z B : Nat → Nat) (k : Nat) : Nat := (bif (!(ieq (s_poly_Area_1 q z B) (0 : Int))) then 0 else (bif (!(ieq (s_poly_Centre_2 q z B) (0 : Int))) then 0 else (s_poly_Centre_1 q z B)))
def s_mass_polygon_4 (d : Int) (e q : Nat) (z B : Nat → Nat) (k : Nat) : Int := (bif (!(ieq (s_poly_Area_1 q z B) (0 : Int))) then (s_poly_Area_1 q z B) else (bif (!(ieq (s_poly_Centre_2 q z B) (0 : Int))) then (s_poly_Centre_2 q z B) else (0 : Int)))
def q_mass_polygon (d : Int) (e q : Nat) (z B : Nat → Nat) (k : Nat) : Bool := (let x0 := s_poly_Centre_1 q z B; let x1 := s_poly_Centre_0 q z B; let x2 := (allB fun _ => true) && (o_poly_Area q z B); let x3 := ((allB fun _ => true) && (o_poly_Centre q z B)) && x2; (mrgB (!(ieq (s_poly_Area_1 q z B) (0 : Int))) x2 (mrgB (!(ieq (s_poly_Centre_2 q z B) (0 : Int))) x3 (((Nat.ble q q) && ((allB fun _ => true) && (o_num_Sum q ((L_mass_polygon_L0 q (Int.ofNat q) z B x1 x0 (V_mass_polygon_L0.mk (0 : Int) (fun j0 => 0))).v1)))) && ((((ile (Int.ofNat q) (Int.ofNat q)) && ((ile ((8 : Int) * (Int.ofNat q)) (281474976710656 : Int)) && (ile (Int.ofNat q) (9223372036854775807 : Int)))) && x3) && ((((((allB fun _ => true) && (allB fun _ => true)) && (eqT q q)) && (eqT q q)) && (eqT q q)) && (E_mass_polygon_L0 q (Int.ofNat q) z B x1 x0 (V_mass_polygon_L0.mk (0 : Int) (fun j0 => 0)))))))))
theorem e_mass_polygon (d : Int) (e q : Nat) (z B : Nat → Nat) (k : Nat) : outB (evFnM Tryz.prog false menv71 [] [] 96 (Ann.two Ann.no (Ann.two Ann.no (Ann.two Ann.no (Ann.two Ann.no (Ann.two Ann.no (Ann.two Ann.no (Ann.two (Ann.two Ann.no (Ann.one (Ann.loop F_mass_polygon_L0))) Ann.no))))))) Tryz.f24 [AV.agg [AV.int .u8 d, AV.float e, AV.view q 2 (fun i0 => [AV.float (z i0), AV.float (B i0)])], AV.float k] []) = some (q_mass_polygon d e q z B k, AV.tup [AV.agg [AV.float (s_mass_polygon_0 d e q z B k), AV.float (s_mass_polygon_1 d e q z B k), AV.float (s_mass_polygon_2 d e q z B k), AV.float (s_mass_polygon_3 d e q z B k)], AV.int .i64 (s_mass_polygon_4 d e q z B k)]) := by kernel_rfl
def o_mass_polygon (d : Int) (e q : Nat) (z B : Nat → Nat) (k : Nat) : Bool := let x0 := s_poly_Centre_1 q z B; let x1 := s_poly_Centre_0 q z B; let x2 := o_poly_Area q z B; let x3 := (o_poly_Centre q z B) && x2; (mrgB (!(ieq (s_poly_Area_1 q z B) (0 : Int))) x2 (mrgB (!(ieq (s_poly_Centre_2 q z B) (0 : Int))) x3 (((Nat.ble q q) && (o_num_Sum q ((L_mass_polygon_L0 q (Int.ofNat q) z B x1 x0 (V_mass_polygon_L0.mk (0 : Int) (fun j0 => 0))).v1))) && ((((ile (Int.ofNat q) (Int.ofNat q)) && ((ile ((8 : Int) * (Int.ofNat q)) (281474976710656 : Int)) && (ile (Int.ofNat q) (9223372036854775807 : Int)))) && x3) && (E_mass_polygon_L0 q (Int.ofNat q) z B x1 x0 (V_mass_polygon_L0.mk (0 : Int) (fun j0 => 0)))))))
def S_mass_polygon : List AV → Option (Ob × AV)
  | [AV.agg [AV.int .u8 d, AV.float e, AV.view q 2 J], AV.float k] => some (Ob.both (Ob.bit (allB fun i => isNrm [Ck.f, Ck.f] (J i))) (Ob.bit (o_mass_polygon d e q (fL J 0) (fL J 1) k)), AV.tup [AV.agg [AV.float (s_mass_polygon_0 d e q (fL J 0) (fL J 1) k), AV.float (s_mass_polygon_1 d e q (fL J 0) (fL J 1) k), AV.float (s_mass_polygon_2 d e q (fL J 0) (fL J 1) k), AV.float (s_mass_polygon_3 d e q (fL J 0) (fL J 1) k)], AV.int .i64 (s_mass_polygon_4 d e q (fL J 0) (fL J 1) k)])
  | _ => none
theorem ob_mass_polygon (d : Int) (e q : Nat) (z B : Nat → Nat) (k : Nat) (ho : o_mass_polygon d e q z B k = true) : q_mass_polygon d e q z B k = true := by
  unfold q_mass_polygon
  unfold o_mass_polygon at ho
  simp only [allB_true, eqT_self, mrgB_self, Bool.true_and, Bool.and_true] at ho ⊢
  exact ho
theorem t_mass_polygon : SOkM Tryz.prog false (24, fun args => match S_mass_polygon args with | some (o, v) => some (o, v, []) | none => none) := SOkM.flat (N := 96) menv71_ok Tryz.func24 ann_mass_polygon Tryz.call24 fun args o v h ho => by
  unfold S_mass_polygon at h
  split at h
  · rename_i d e q J k
    cases h
    rw [Ob.both_ok, Bool.and_eq_true] at ho
    obtain ⟨hn, ho2⟩ := ho
    have n0 := hn
    simp only [Ob.ok] at n0
    replace n0 := nrm_fun n0
    have this := show outB (evFnM Tryz.prog false menv71 [] [] 96 (Ann.two Ann.no (Ann.two Ann.no (Ann.two Ann.no (Ann.two Ann.no (Ann.two Ann.no (Ann.two Ann.no (Ann.two (Ann.two Ann.no (Ann.one (Ann.loop F_mass_polygon_L0))) Ann.no))))))) Tryz.f24 [AV.agg [AV.int .u8 d, AV.float e, AV.view q 2 (fun i => mkN [Ck.f, Ck.f] (J i) 0)], AV.float k] []) = _ from e_mass_polygon d e q (fL J 0) (fL J 1) k
    rw [(ob_mass_polygon d e q (fL J 0) (fL J 1) k ho2)] at this
    rw [n0] at this
    exact ⟨this, rfl⟩
  · cases h
def c_mass_polygon : SFM := fun args => match S_mass_polygon args with | some (o, v) => some (o, v, []) | none => none
theorem c_mass_polygon_ok : SOkM Tryz.prog false (24, c_mass_polygon) := t_mass_polygon
def mss68 : List (FuncId × SFM) := (24, c_mass_polygon) :: mss67
def menv72 : EnvM := mkEnvM mxs mss68 mws5
theorem mss68_ok : All (SOkM Tryz.prog false) mss68 := All.cons c_mass_polygon_ok mss67_ok
theorem menv72_ok : menv72.Ok Tryz.prog false := mkEnvM_ok mxs_ok mss68_ok mws5_ok
-- tumble/mass.disc
theorem ann_mass_disc : FnOk Tryz.prog false 0 Tryz.f45 Ann.no := (fnNo _)
def s_mass_disc_0 (d e : Nat) : Nat := (fmul e (fmul 4614256656552045848 (fmul d d)))
theorem e_mass_disc (d e : Nat) : outB (evFnM Tryz.prog false menv72 [] [] 96 Ann.no Tryz.f45 [AV.float d, AV.float e] []) = some (true, AV.float (s_mass_disc_0 d e)) := by kernel_rfl
def S_mass_disc : List AV → Option (Ob × AV)
  | [AV.float d, AV.float e] => some (Ob.tt, AV.float (s_mass_disc_0 d e))
  | _ => none
theorem t_mass_disc : SOkM Tryz.prog false (45, fun args => match S_mass_disc args with | some (o, v) => some (o, v, []) | none => none) := SOkM.flat (N := 96) menv72_ok Tryz.func45 ann_mass_disc Tryz.call45 fun args o v h ho => by
  unfold S_mass_disc at h
  split at h
  · rename_i d e
    cases h
    have ho2 := ho
    have this := show outB (evFnM Tryz.prog false menv72 [] [] 96 Ann.no Tryz.f45 [AV.float d, AV.float e] []) = _ from e_mass_disc d e
    exact ⟨this, rfl⟩
  · cases h
def c_mass_disc : SFM := fun args => match S_mass_disc args with | some (o, v) => some (o, v, []) | none => none
theorem c_mass_disc_ok : SOkM Tryz.prog false (45, c_mass_disc) := t_mass_disc
def mss69 : List (FuncId × SFM) := (45, c_mass_disc) :: mss68
def menv73 : EnvM := mkEnvM mxs mss69 mws5
theorem mss69_ok : All (SOkM Tryz.prog false) mss69 := All.cons c_mass_disc_ok mss68_ok
theorem menv73_ok : menv73.Ok Tryz.prog false := mkEnvM_ok mxs_ok mss69_ok mws5_ok
-- tumble/vec.Middle
theorem ann_vec_Middle : FnOk Tryz.prog false 0 Tryz.f48 Ann.no := (fnNo _)
def s_vec_Middle_0 (d e u k : Nat) : Nat := (s_vec_Scale_0 (s_vec_Add_0 d e u k) (s_vec_Add_1 d e u k) 4602678819172646912)
def s_vec_Middle_1 (d e u k : Nat) : Nat := (s_vec_Scale_1 (s_vec_Add_0 d e u k) (s_vec_Add_1 d e u k) 4602678819172646912)
theorem e_vec_Middle (d e u k : Nat) : outB (evFnM Tryz.prog false menv73 [] [] 96 Ann.no Tryz.f48 [AV.agg [AV.float d, AV.float e], AV.agg [AV.float u, AV.float k]] []) = some (true, AV.agg [AV.float (s_vec_Middle_0 d e u k), AV.float (s_vec_Middle_1 d e u k)]) := by kernel_rfl
def S_vec_Middle : List AV → Option (Ob × AV)
  | [AV.agg [AV.float d, AV.float e], AV.agg [AV.float u, AV.float k]] => some (Ob.tt, AV.agg [AV.float (s_vec_Middle_0 d e u k), AV.float (s_vec_Middle_1 d e u k)])
  | _ => none
theorem t_vec_Middle : SOkM Tryz.prog false (48, fun args => match S_vec_Middle args with | some (o, v) => some (o, v, []) | none => none) := SOkM.flat (N := 96) menv73_ok Tryz.func48 ann_vec_Middle Tryz.call48 fun args o v h ho => by
  unfold S_vec_Middle at h
  split at h
  · rename_i d e u k
    cases h
    have ho2 := ho
    have this := show outB (evFnM Tryz.prog false menv73 [] [] 96 Ann.no Tryz.f48 [AV.agg [AV.float d, AV.float e], AV.agg [AV.float u, AV.float k]] []) = _ from e_vec_Middle d e u k
    exact ⟨this, rfl⟩
  · cases h
def c_vec_Middle : SFM := fun args => match S_vec_Middle args with | some (o, v) => some (o, v, []) | none => none
theorem c_vec_Middle_ok : SOkM Tryz.prog false (48, c_vec_Middle) := t_vec_Middle
def mss70 : List (FuncId × SFM) := (48, c_vec_Middle) :: mss69
def menv74 : EnvM := mkEnvM mxs mss70 mws5
theorem mss70_ok : All (SOkM Tryz.prog false) mss70 := All.cons c_vec_Middle_ok mss69_ok
theorem menv74_ok : menv74.Ok Tryz.prog false := mkEnvM_ok mxs_ok mss70_ok mws5_ok
-- tumble/mass.capsule
theorem ann_mass_capsule : FnOk Tryz.prog false 0 Tryz.f23 Ann.no := (fnNo _)
def s_mass_capsule_0 (d : Int) (e q : Nat) (z B : Nat → Nat) (k : Nat) : Nat := (fadd (fmul k (fmul (fmul 4611686018427387904 e) (s_vec_Length_0 (s_vec_Sub_0 (z 1) (B 1) (z 0) (B 0)) (s_vec_Sub_1 (z 1) (B 1) (z 0) (B 0))))) (s_mass_disc_0 e k))
def s_mass_capsule_1 (d : Int) (e q : Nat) (z B : Nat → Nat) (k : Nat) : Nat := let x0 := s_vec_Length_0 (s_vec_Sub_0 (z 1) (B 1) (z 0) (B 0)) (s_vec_Sub_1 (z 1) (B 1) (z 0) (B 0)); let x1 := fmul x0 x0; (fadd (fdiv (fmul (fmul k (fmul (fmul 4611686018427387904 e) x0)) (fadd x1 (fmul (fmul 4616189618054758400 e) e))) 4622945017495814144) (fmul (s_mass_disc_0 e k) (fadd (fadd (fmul (fmul e e) 4602678819172646912) (fmul x1 4598175219545276416)) (fmul x0 (fdiv (fmul 4616189618054758400 e) 4621495296368779730)))))
def s_mass_capsule_2 (d : Int) (e q : Nat) (z B : Nat → Nat) (k : Nat) : Nat := (s_vec_Middle_0 (z 0) (B 0) (z 1) (B 1))
def s_mass_capsule_3 (d : Int) (e q : Nat) (z B : Nat → Nat) (k : Nat) : Nat := (s_vec_Middle_1 (z 0) (B 0) (z 1) (B 1))
def o_mass_capsule (d : Int) (e q : Nat) (z B : Nat → Nat) (k : Nat) : Bool := ((Nat.blt 1 q) && (Nat.blt 0 q))
theorem e_mass_capsule (d : Int) (e q : Nat) (z B : Nat → Nat) (k : Nat) : outB (evFnM Tryz.prog false menv74 [] [] 96 Ann.no Tryz.f23 [AV.agg [AV.int .u8 d, AV.float e, AV.view q 2 (fun i0 => [AV.float (z i0), AV.float (B i0)])], AV.float k] []) = some (o_mass_capsule d e q z B k, AV.agg [AV.float (s_mass_capsule_0 d e q z B k), AV.float (s_mass_capsule_1 d e q z B k), AV.float (s_mass_capsule_2 d e q z B k), AV.float (s_mass_capsule_3 d e q z B k)]) := by kernel_rfl
def S_mass_capsule : List AV → Option (Ob × AV)
  | [AV.agg [AV.int .u8 d, AV.float e, AV.view q 2 J], AV.float k] => some (Ob.both (Ob.bit (allB fun i => isNrm [Ck.f, Ck.f] (J i))) (Ob.bit (o_mass_capsule d e q (fL J 0) (fL J 1) k)), AV.agg [AV.float (s_mass_capsule_0 d e q (fL J 0) (fL J 1) k), AV.float (s_mass_capsule_1 d e q (fL J 0) (fL J 1) k), AV.float (s_mass_capsule_2 d e q (fL J 0) (fL J 1) k), AV.float (s_mass_capsule_3 d e q (fL J 0) (fL J 1) k)])
  | _ => none
theorem t_mass_capsule : SOkM Tryz.prog false (23, fun args => match S_mass_capsule args with | some (o, v) => some (o, v, []) | none => none) := SOkM.flat (N := 96) menv74_ok Tryz.func23 ann_mass_capsule Tryz.call23 fun args o v h ho => by
  unfold S_mass_capsule at h
  split at h
  · rename_i d e q J k
    cases h
    rw [Ob.both_ok, Bool.and_eq_true] at ho
    obtain ⟨hn, ho2⟩ := ho
    have n0 := hn
    simp only [Ob.ok] at n0
    replace n0 := nrm_fun n0
    have this := show outB (evFnM Tryz.prog false menv74 [] [] 96 Ann.no Tryz.f23 [AV.agg [AV.int .u8 d, AV.float e, AV.view q 2 (fun i => mkN [Ck.f, Ck.f] (J i) 0)], AV.float k] []) = _ from e_mass_capsule d e q (fL J 0) (fL J 1) k
    rw [show o_mass_capsule d e q (fL J 0) (fL J 1) k = true from ho2] at this
    rw [n0] at this
    exact ⟨this, rfl⟩
  · cases h
def c_mass_capsule : SFM := fun args => match S_mass_capsule args with | some (o, v) => some (o, v, []) | none => none
theorem c_mass_capsule_ok : SOkM Tryz.prog false (23, c_mass_capsule) := t_mass_capsule
def mss71 : List (FuncId × SFM) := (23, c_mass_capsule) :: mss70
def menv75 : EnvM := mkEnvM mxs mss71 mws5
theorem mss71_ok : All (SOkM Tryz.prog false) mss71 := All.cons c_mass_capsule_ok mss70_ok
theorem menv75_ok : menv75.Ok Tryz.prog false := mkEnvM_ok mxs_ok mss71_ok mws5_ok
-- tumble/mass.circle
theorem ann_mass_circle : FnOk Tryz.prog false 0 Tryz.f22 Ann.no := (fnNo _)
def s_mass_circle_0 (d : Int) (e q : Nat) (z B : Nat → Nat) (k : Nat) : Nat := (s_mass_disc_0 e k)
def s_mass_circle_1 (d : Int) (e q : Nat) (z B : Nat → Nat) (k : Nat) : Nat := (fmul (fmul (s_mass_disc_0 e k) (fmul e e)) 4602678819172646912)
def s_mass_circle_2 (d : Int) (e q : Nat) (z B : Nat → Nat) (k : Nat) : Nat := (z 0)
def s_mass_circle_3 (d : Int) (e q : Nat) (z B : Nat → Nat) (k : Nat) : Nat := (B 0)
def o_mass_circle (d : Int) (e q : Nat) (z B : Nat → Nat) (k : Nat) : Bool := (Nat.blt 0 q)
theorem e_mass_circle (d : Int) (e q : Nat) (z B : Nat → Nat) (k : Nat) : outB (evFnM Tryz.prog false menv75 [] [] 96 Ann.no Tryz.f22 [AV.agg [AV.int .u8 d, AV.float e, AV.view q 2 (fun i0 => [AV.float (z i0), AV.float (B i0)])], AV.float k] []) = some (o_mass_circle d e q z B k, AV.agg [AV.float (s_mass_circle_0 d e q z B k), AV.float (s_mass_circle_1 d e q z B k), AV.float (s_mass_circle_2 d e q z B k), AV.float (s_mass_circle_3 d e q z B k)]) := by kernel_rfl
def S_mass_circle : List AV → Option (Ob × AV)
  | [AV.agg [AV.int .u8 d, AV.float e, AV.view q 2 J], AV.float k] => some (Ob.both (Ob.bit (allB fun i => isNrm [Ck.f, Ck.f] (J i))) (Ob.bit (o_mass_circle d e q (fL J 0) (fL J 1) k)), AV.agg [AV.float (s_mass_circle_0 d e q (fL J 0) (fL J 1) k), AV.float (s_mass_circle_1 d e q (fL J 0) (fL J 1) k), AV.float (s_mass_circle_2 d e q (fL J 0) (fL J 1) k), AV.float (s_mass_circle_3 d e q (fL J 0) (fL J 1) k)])
  | _ => none
theorem t_mass_circle : SOkM Tryz.prog false (22, fun args => match S_mass_circle args with | some (o, v) => some (o, v, []) | none => none) := SOkM.flat (N := 96) menv75_ok Tryz.func22 ann_mass_circle Tryz.call22 fun args o v h ho => by
  unfold S_mass_circle at h
  split at h
  · rename_i d e q J k
    cases h
    rw [Ob.both_ok, Bool.and_eq_true] at ho
    obtain ⟨hn, ho2⟩ := ho
    have n0 := hn
    simp only [Ob.ok] at n0
    replace n0 := nrm_fun n0
    have this := show outB (evFnM Tryz.prog false menv75 [] [] 96 Ann.no Tryz.f22 [AV.agg [AV.int .u8 d, AV.float e, AV.view q 2 (fun i => mkN [Ck.f, Ck.f] (J i) 0)], AV.float k] []) = _ from e_mass_circle d e q (fL J 0) (fL J 1) k
    rw [show o_mass_circle d e q (fL J 0) (fL J 1) k = true from ho2] at this
    rw [n0] at this
    exact ⟨this, rfl⟩
  · cases h
def c_mass_circle : SFM := fun args => match S_mass_circle args with | some (o, v) => some (o, v, []) | none => none
theorem c_mass_circle_ok : SOkM Tryz.prog false (22, c_mass_circle) := t_mass_circle
def mss72 : List (FuncId × SFM) := (22, c_mass_circle) :: mss71
def menv76 : EnvM := mkEnvM mxs mss72 mws5
theorem mss72_ok : All (SOkM Tryz.prog false) mss72 := All.cons c_mass_circle_ok mss71_ok
theorem menv76_ok : menv76.Ok Tryz.prog false := mkEnvM_ok mxs_ok mss72_ok mws5_ok
-- tumble/num.Finite[float64]
theorem ann_num_Finite_float64_ : FnOk Tryz.prog false 0 Tryz.f71 Ann.no := (fnNo _)
def s_num_Finite_float64__0 (d : Nat) : Bool := (feq (fsub d d) 0)
theorem e_num_Finite_float64_ (d : Nat) : outB (evFnM Tryz.prog false menv76 [] [] 96 Ann.no Tryz.f71 [AV.float d] []) = some (true, AV.bool (s_num_Finite_float64__0 d)) := by kernel_rfl
def S_num_Finite_float64_ : List AV → Option (Ob × AV)
  | [AV.float d] => some (Ob.tt, AV.bool (s_num_Finite_float64__0 d))
  | _ => none
theorem t_num_Finite_float64_ : SOkM Tryz.prog false (71, fun args => match S_num_Finite_float64_ args with | some (o, v) => some (o, v, []) | none => none) := SOkM.flat (N := 96) menv76_ok Tryz.func71 ann_num_Finite_float64_ Tryz.call71 fun args o v h ho => by
  unfold S_num_Finite_float64_ at h
  split at h
  · rename_i d
    cases h
    have ho2 := ho
    have this := show outB (evFnM Tryz.prog false menv76 [] [] 96 Ann.no Tryz.f71 [AV.float d] []) = _ from e_num_Finite_float64_ d
    exact ⟨this, rfl⟩
  · cases h
def c_num_Finite_float64_ : SFM := fun args => match S_num_Finite_float64_ args with | some (o, v) => some (o, v, []) | none => none
theorem c_num_Finite_float64__ok : SOkM Tryz.prog false (71, c_num_Finite_float64_) := t_num_Finite_float64_
def mss73 : List (FuncId × SFM) := (71, c_num_Finite_float64_) :: mss72
def menv77 : EnvM := mkEnvM mxs mss73 mws5
theorem mss73_ok : All (SOkM Tryz.prog false) mss73 := All.cons c_num_Finite_float64__ok mss72_ok
theorem menv77_ok : menv77.Ok Tryz.prog false := mkEnvM_ok mxs_ok mss73_ok mws5_ok
-- tumble/mass.weight
theorem ann_mass_weight : FnOk Tryz.prog false 0 Tryz.f42 Ann.no := (fnNo _)
def s_mass_weight_0 (d : Nat) : Bool := ((s_num_Finite_float64__0 d) && (fle 0 d))
theorem e_mass_weight (d : Nat) : outB (evFnM Tryz.prog false menv77 [] [] 96 Ann.no Tryz.f42 [AV.float d] []) = some (true, AV.bool (s_mass_weight_0 d)) := by kernel_rfl
def S_mass_weight : List AV → Option (Ob × AV)
  | [AV.float d] => some (Ob.tt, AV.bool (s_mass_weight_0 d))
  | _ => none
theorem t_mass_weight : SOkM Tryz.prog false (42, fun args => match S_mass_weight args with | some (o, v) => some (o, v, []) | none => none) := SOkM.flat (N := 96) menv77_ok Tryz.func42 ann_mass_weight Tryz.call42 fun args o v h ho => by
  unfold S_mass_weight at h
  split at h
  · rename_i d
    cases h
    have ho2 := ho
    have this := show outB (evFnM Tryz.prog false menv77 [] [] 96 Ann.no Tryz.f42 [AV.float d] []) = _ from e_mass_weight d
    exact ⟨this, rfl⟩
  · cases h
def c_mass_weight : SFM := fun args => match S_mass_weight args with | some (o, v) => some (o, v, []) | none => none
theorem c_mass_weight_ok : SOkM Tryz.prog false (42, c_mass_weight) := t_mass_weight
def mss74 : List (FuncId × SFM) := (42, c_mass_weight) :: mss73
def menv78 : EnvM := mkEnvM mxs mss74 mws5
theorem mss74_ok : All (SOkM Tryz.prog false) mss74 := All.cons c_mass_weight_ok mss73_ok
theorem menv78_ok : menv78.Ok Tryz.prog false := mkEnvM_ok mxs_ok mss74_ok mws5_ok
-- tumble/mass.Check
theorem ann_mass_Check : FnOk Tryz.prog false 0 Tryz.f18 Ann.no := (fnNo _)
def s_mass_Check_0 (d e u k : Nat) : Int := (bif (((!(s_mass_weight_0 d)) || (!(s_mass_weight_0 e))) || (!(s_vec_Within_0 u k 4787326403894837248))) then (80 : Int) else (0 : Int))
theorem e_mass_Check (d e u k : Nat) : outB (evFnM Tryz.prog false menv78 [] [] 96 Ann.no Tryz.f18 [AV.agg [AV.float d, AV.float e, AV.float u, AV.float k]] []) = some (true, AV.int .i64 (s_mass_Check_0 d e u k)) := by kernel_rfl
def S_mass_Check : List AV → Option (Ob × AV)
  | [AV.agg [AV.float d, AV.float e, AV.float u, AV.float k]] => some (Ob.tt, AV.int .i64 (s_mass_Check_0 d e u k))
  | _ => none
theorem t_mass_Check : SOkM Tryz.prog false (18, fun args => match S_mass_Check args with | some (o, v) => some (o, v, []) | none => none) := SOkM.flat (N := 96) menv78_ok Tryz.func18 ann_mass_Check Tryz.call18 fun args o v h ho => by
  unfold S_mass_Check at h
  split at h
  · rename_i d e u k
    cases h
    have ho2 := ho
    have this := show outB (evFnM Tryz.prog false menv78 [] [] 96 Ann.no Tryz.f18 [AV.agg [AV.float d, AV.float e, AV.float u, AV.float k]] []) = _ from e_mass_Check d e u k
    exact ⟨this, rfl⟩
  · cases h
def c_mass_Check : SFM := fun args => match S_mass_Check args with | some (o, v) => some (o, v, []) | none => none
theorem c_mass_Check_ok : SOkM Tryz.prog false (18, c_mass_Check) := t_mass_Check
def mss75 : List (FuncId × SFM) := (18, c_mass_Check) :: mss74
def menv79 : EnvM := mkEnvM mxs mss75 mws5
theorem mss75_ok : All (SOkM Tryz.prog false) mss75 := All.cons c_mass_Check_ok mss74_ok
theorem menv79_ok : menv79.Ok Tryz.prog false := mkEnvM_ok mxs_ok mss75_ok mws5_ok
-- tumble/mass.checked
theorem ann_mass_checked : FnOk Tryz.prog false 0 Tryz.f25 Ann.no := (fnNo _)
def s_mass_checked_0 (d e u k : Nat) : Nat := (bif (!(ieq (s_mass_Check_0 d e u k) (0 : Int))) then 0 else d)
def s_mass_checked_1 (d e u k : Nat) : Nat := (bif (!(ieq (s_mass_Check_0 d e u k) (0 : Int))) then 0 else e)
def s_mass_checked_2 (d e u k : Nat) : Nat := (bif (!(ieq (s_mass_Check_0 d e u k) (0 : Int))) then 0 else u)
def s_mass_checked_3 (d e u k : Nat) : Nat := (bif (!(ieq (s_mass_Check_0 d e u k) (0 : Int))) then 0 else k)
def s_mass_checked_4 (d e u k : Nat) : Int := (bif (!(ieq (s_mass_Check_0 d e u k) (0 : Int))) then (s_mass_Check_0 d e u k) else (0 : Int))
theorem e_mass_checked (d e u k : Nat) : outB (evFnM Tryz.prog false menv79 [] [] 96 Ann.no Tryz.f25 [AV.agg [AV.float d, AV.float e, AV.float u, AV.float k]] []) = some (true, AV.tup [AV.agg [AV.float (s_mass_checked_0 d e u k), AV.float (s_mass_checked_1 d e u k), AV.float (s_mass_checked_2 d e u k), AV.float (s_mass_checked_3 d e u k)], AV.int .i64 (s_mass_checked_4 d e u k)]) := by kernel_rfl
def S_mass_checked : List AV → Option (Ob × AV)
  | [AV.agg [AV.float d, AV.float e, AV.float u, AV.float k]] => some (Ob.tt, AV.tup [AV.agg [AV.float (s_mass_checked_0 d e u k), AV.float (s_mass_checked_1 d e u k), AV.float (s_mass_checked_2 d e u k), AV.float (s_mass_checked_3 d e u k)], AV.int .i64 (s_mass_checked_4 d e u k)])
  | _ => none
theorem t_mass_checked : SOkM Tryz.prog false (25, fun args => match S_mass_checked args with | some (o, v) => some (o, v, []) | none => none) := SOkM.flat (N := 96) menv79_ok Tryz.func25 ann_mass_checked Tryz.call25 fun args o v h ho => by
  unfold S_mass_checked at h
  split at h
  · rename_i d e u k
    cases h
    have ho2 := ho
    have this := show outB (evFnM Tryz.prog false menv79 [] [] 96 Ann.no Tryz.f25 [AV.agg [AV.float d, AV.float e, AV.float u, AV.float k]] []) = _ from e_mass_checked d e u k
    exact ⟨this, rfl⟩
  · cases h
def c_mass_checked : SFM := fun args => match S_mass_checked args with | some (o, v) => some (o, v, []) | none => none
theorem c_mass_checked_ok : SOkM Tryz.prog false (25, c_mass_checked) := t_mass_checked
def mss76 : List (FuncId × SFM) := (25, c_mass_checked) :: mss75
def menv80 : EnvM := mkEnvM mxs mss76 mws5
theorem mss76_ok : All (SOkM Tryz.prog false) mss76 := All.cons c_mass_checked_ok mss75_ok
theorem menv80_ok : menv80.Ok Tryz.prog false := mkEnvM_ok mxs_ok mss76_ok mws5_ok
-- tumble/mass.Of
theorem ann_mass_Of : FnOk Tryz.prog false 0 Tryz.f7 Ann.no := (fnNo _)
def s_mass_Of_0 (d : Int) (e q : Nat) (z B : Nat → Nat) (k : Nat) : Nat := (bif (!(ieq (s_shape_Check_0 d e q z B) (0 : Int))) then 0 else (bif ((!(s_num_Within_float64__0 k 4787326403894837248)) || (flt k 0)) then 0 else (bif (!(ieq (bif (ieq d (1 : Int)) then (0 : Int) else (bif (ieq d (2 : Int)) then (0 : Int) else (s_mass_polygon_4 d e q z B k))) (0 : Int))) then 0 else (s_mass_checked_0 (bif (ieq d (1 : Int)) then (s_mass_circle_0 d e q z B k) else (bif (ieq d (2 : Int)) then (s_mass_capsule_0 d e q z B k) else (s_mass_polygon_0 d e q z B k))) (bif (ieq d (1 : Int)) then (s_mass_circle_1 d e q z B k) else (bif (ieq d (2 : Int)) then (s_mass_capsule_1 d e q z B k) else (s_mass_polygon_1 d e q z B k))) (bif (ieq d (1 : Int)) then (s_mass_circle_2 d e q z B k) else (bif (ieq d (2 : Int)) then (s_mass_capsule_2 d e q z B k) else (s_mass_polygon_2 d e q z B k))) (bif (ieq d (1 : Int)) then (s_mass_circle_3 d e q z B k) else (bif (ieq d (2 : Int)) then (s_mass_capsule_3 d e q z B k) else (s_mass_polygon_3 d e q z B k)))))))
def s_mass_Of_1 (d : Int) (e q : Nat) (z B : Nat → Nat) (k : Nat) : Nat := (bif (!(ieq (s_shape_Check_0 d e q z B) (0 : Int))) then 0 else (bif ((!(s_num_Within_float64__0 k 4787326403894837248)) || (flt k 0)) then 0 else (bif (!(ieq (bif (ieq d (1 : Int)) then (0 : Int) else (bif (ieq d (2 : Int)) then (0 : Int) else (s_mass_polygon_4 d e q z B k))) (0 : Int))) then 0 else (s_mass_checked_1 (bif (ieq d (1 : Int)) then (s_mass_circle_0 d e q z B k) else (bif (ieq d (2 : Int)) then (s_mass_capsule_0 d e q z B k) else (s_mass_polygon_0 d e q z B k))) (bif (ieq d (1 : Int)) then (s_mass_circle_1 d e q z B k) else (bif (ieq d (2 : Int)) then (s_mass_capsule_1 d e q z B k) else (s_mass_polygon_1 d e q z B k))) (bif (ieq d (1 : Int)) then (s_mass_circle_2 d e q z B k) else (bif (ieq d (2 : Int)) then (s_mass_capsule_2 d e q z B k) else (s_mass_polygon_2 d e q z B k))) (bif (ieq d (1 : Int)) then (s_mass_circle_3 d e q z B k) else (bif (ieq d (2 : Int)) then (s_mass_capsule_3 d e q z B k) else (s_mass_polygon_3 d e q z B k)))))))
def s_mass_Of_2 (d : Int) (e q : Nat) (z B : Nat → Nat) (k : Nat) : Nat := (bif (!(ieq (s_shape_Check_0 d e q z B) (0 : Int))) then 0 else (bif ((!(s_num_Within_float64__0 k 4787326403894837248)) || (flt k 0)) then 0 else (bif (!(ieq (bif (ieq d (1 : Int)) then (0 : Int) else (bif (ieq d (2 : Int)) then (0 : Int) else (s_mass_polygon_4 d e q z B k))) (0 : Int))) then 0 else (s_mass_checked_2 (bif (ieq d (1 : Int)) then (s_mass_circle_0 d e q z B k) else (bif (ieq d (2 : Int)) then (s_mass_capsule_0 d e q z B k) else (s_mass_polygon_0 d e q z B k))) (bif (ieq d (1 : Int)) then (s_mass_circle_1 d e q z B k) else (bif (ieq d (2 : Int)) then (s_mass_capsule_1 d e q z B k) else (s_mass_polygon_1 d e q z B k))) (bif (ieq d (1 : Int)) then (s_mass_circle_2 d e q z B k) else (bif (ieq d (2 : Int)) then (s_mass_capsule_2 d e q z B k) else (s_mass_polygon_2 d e q z B k))) (bif (ieq d (1 : Int)) then (s_mass_circle_3 d e q z B k) else (bif (ieq d (2 : Int)) then (s_mass_capsule_3 d e q z B k) else (s_mass_polygon_3 d e q z B k)))))))
def s_mass_Of_3 (d : Int) (e q : Nat) (z B : Nat → Nat) (k : Nat) : Nat := (bif (!(ieq (s_shape_Check_0 d e q z B) (0 : Int))) then 0 else (bif ((!(s_num_Within_float64__0 k 4787326403894837248)) || (flt k 0)) then 0 else (bif (!(ieq (bif (ieq d (1 : Int)) then (0 : Int) else (bif (ieq d (2 : Int)) then (0 : Int) else (s_mass_polygon_4 d e q z B k))) (0 : Int))) then 0 else (s_mass_checked_3 (bif (ieq d (1 : Int)) then (s_mass_circle_0 d e q z B k) else (bif (ieq d (2 : Int)) then (s_mass_capsule_0 d e q z B k) else (s_mass_polygon_0 d e q z B k))) (bif (ieq d (1 : Int)) then (s_mass_circle_1 d e q z B k) else (bif (ieq d (2 : Int)) then (s_mass_capsule_1 d e q z B k) else (s_mass_polygon_1 d e q z B k))) (bif (ieq d (1 : Int)) then (s_mass_circle_2 d e q z B k) else (bif (ieq d (2 : Int)) then (s_mass_capsule_2 d e q z B k) else (s_mass_polygon_2 d e q z B k))) (bif (ieq d (1 : Int)) then (s_mass_circle_3 d e q z B k) else (bif (ieq d (2 : Int)) then (s_mass_capsule_3 d e q z B k) else (s_mass_polygon_3 d e q z B k)))))))
def s_mass_Of_4 (d : Int) (e q : Nat) (z B : Nat → Nat) (k : Nat) : Int := let x0 := bif (ieq d (1 : Int)) then (0 : Int) else (bif (ieq d (2 : Int)) then (0 : Int) else (s_mass_polygon_4 d e q z B k)); let x1 := s_shape_Check_0 d e q z B; (bif (!(ieq x1 (0 : Int))) then x1 else (bif ((!(s_num_Within_float64__0 k 4787326403894837248)) || (flt k 0)) then (5 : Int) else (bif (!(ieq x0 (0 : Int))) then x0 else (s_mass_checked_4 (bif (ieq d (1 : Int)) then (s_mass_circle_0 d e q z B k) else (bif (ieq d (2 : Int)) then (s_mass_capsule_0 d e q z B k) else (s_mass_polygon_0 d e q z B k))) (bif (ieq d (1 : Int)) then (s_mass_circle_1 d e q z B k) else (bif (ieq d (2 : Int)) then (s_mass_capsule_1 d e q z B k) else (s_mass_polygon_1 d e q z B k))) (bif (ieq d (1 : Int)) then (s_mass_circle_2 d e q z B k) else (bif (ieq d (2 : Int)) then (s_mass_capsule_2 d e q z B k) else (s_mass_polygon_2 d e q z B k))) (bif (ieq d (1 : Int)) then (s_mass_circle_3 d e q z B k) else (bif (ieq d (2 : Int)) then (s_mass_capsule_3 d e q z B k) else (s_mass_polygon_3 d e q z B k)))))))
def q_mass_Of (d : Int) (e q : Nat) (z B : Nat → Nat) (k : Nat) : Bool := (let x0 := (allB fun _ => true) && (o_shape_Check d e q z B); let x1 := !(s_num_Within_float64__0 k 4787326403894837248); let x2 := mrgB x1 x0 x0; let x3 := mrgB (ieq d (1 : Int)) (((allB fun _ => true) && (Nat.blt 0 q)) && x2) (mrgB (ieq d (2 : Int)) (((allB fun _ => true) && ((Nat.blt 1 q) && (Nat.blt 0 q))) && x2) (((allB fun _ => true) && (o_mass_polygon d e q z B k)) && x2)); (mrgB (!(ieq (s_shape_Check_0 d e q z B) (0 : Int))) x0 (mrgB (x1 || (flt k 0)) x2 (mrgB (!(ieq (bif (ieq d (1 : Int)) then (0 : Int) else (bif (ieq d (2 : Int)) then (0 : Int) else (s_mass_polygon_4 d e q z B k))) (0 : Int))) x3 x3))))
theorem e_mass_Of (d : Int) (e q : Nat) (z B : Nat → Nat) (k : Nat) : outB (evFnM Tryz.prog false menv80 [] [] 96 Ann.no Tryz.f7 [AV.agg [AV.int .u8 d, AV.float e, AV.view q 2 (fun i0 => [AV.float (z i0), AV.float (B i0)])], AV.float k] []) = some (q_mass_Of d e q z B k, AV.tup [AV.agg [AV.float (s_mass_Of_0 d e q z B k), AV.float (s_mass_Of_1 d e q z B k), AV.float (s_mass_Of_2 d e q z B k), AV.float (s_mass_Of_3 d e q z B k)], AV.int .i64 (s_mass_Of_4 d e q z B k)]) := by kernel_rfl
def o_mass_Of (d : Int) (e q : Nat) (z B : Nat → Nat) (k : Nat) : Bool := let x0 := o_shape_Check d e q z B; let x1 := !(s_num_Within_float64__0 k 4787326403894837248); let x2 := mrgB x1 x0 x0; let x3 := mrgB (ieq d (1 : Int)) ((Nat.blt 0 q) && x2) (mrgB (ieq d (2 : Int)) (((Nat.blt 1 q) && (Nat.blt 0 q)) && x2) ((o_mass_polygon d e q z B k) && x2)); (mrgB (!(ieq (s_shape_Check_0 d e q z B) (0 : Int))) x0 (mrgB (x1 || (flt k 0)) x2 (mrgB (!(ieq (bif (ieq d (1 : Int)) then (0 : Int) else (bif (ieq d (2 : Int)) then (0 : Int) else (s_mass_polygon_4 d e q z B k))) (0 : Int))) x3 x3)))
def S_mass_Of : List AV → Option (Ob × AV)
  | [AV.agg [AV.int .u8 d, AV.float e, AV.view q 2 J], AV.float k] => some (Ob.both (Ob.bit (allB fun i => isNrm [Ck.f, Ck.f] (J i))) (Ob.bit (o_mass_Of d e q (fL J 0) (fL J 1) k)), AV.tup [AV.agg [AV.float (s_mass_Of_0 d e q (fL J 0) (fL J 1) k), AV.float (s_mass_Of_1 d e q (fL J 0) (fL J 1) k), AV.float (s_mass_Of_2 d e q (fL J 0) (fL J 1) k), AV.float (s_mass_Of_3 d e q (fL J 0) (fL J 1) k)], AV.int .i64 (s_mass_Of_4 d e q (fL J 0) (fL J 1) k)])
  | _ => none
theorem ob_mass_Of (d : Int) (e q : Nat) (z B : Nat → Nat) (k : Nat) (ho : o_mass_Of d e q z B k = true) : q_mass_Of d e q z B k = true := by
  unfold q_mass_Of
  unfold o_mass_Of at ho
  simp only [allB_true, eqT_self, mrgB_self, Bool.true_and, Bool.and_true] at ho ⊢
  exact ho
theorem t_mass_Of : SOkM Tryz.prog false (7, fun args => match S_mass_Of args with | some (o, v) => some (o, v, []) | none => none) := SOkM.flat (N := 96) menv80_ok Tryz.func7 ann_mass_Of Tryz.call7 fun args o v h ho => by
  unfold S_mass_Of at h
  split at h
  · rename_i d e q J k
    cases h
    rw [Ob.both_ok, Bool.and_eq_true] at ho
    obtain ⟨hn, ho2⟩ := ho
    have n0 := hn
    simp only [Ob.ok] at n0
    replace n0 := nrm_fun n0
    have this := show outB (evFnM Tryz.prog false menv80 [] [] 96 Ann.no Tryz.f7 [AV.agg [AV.int .u8 d, AV.float e, AV.view q 2 (fun i => mkN [Ck.f, Ck.f] (J i) 0)], AV.float k] []) = _ from e_mass_Of d e q (fL J 0) (fL J 1) k
    rw [(ob_mass_Of d e q (fL J 0) (fL J 1) k ho2)] at this
    rw [n0] at this
    exact ⟨this, rfl⟩
  · cases h
def c_mass_Of : SFM := fun args => match S_mass_Of args with | some (o, v) => some (o, v, []) | none => none
theorem c_mass_Of_ok : SOkM Tryz.prog false (7, c_mass_Of) := t_mass_Of
def mss77 : List (FuncId × SFM) := (7, c_mass_Of) :: mss76
def menv81 : EnvM := mkEnvM mxs mss77 mws5
theorem mss77_ok : All (SOkM Tryz.prog false) mss77 := All.cons c_mass_Of_ok mss76_ok
theorem menv81_ok : menv81.Ok Tryz.prog false := mkEnvM_ok mxs_ok mss77_ok mws5_ok
end Go.Proofs.YtbkogihigehjlaaGreat
end
