/- The contracts of the functions that these laws reach, loops too, printed by a program of this work: each says what the Go function gives, up to which NaN. -/
import Derived.Test.YtofpjfohijljgaaProg
import Derived.KernelRfl
import Derived.Test.YtofpjfohijljgaaLExact
set_option linter.unusedVariables false
set_option linter.unusedSimpArgs false
set_option maxRecDepth 100000
set_option maxHeartbeats 4000000
noncomputable section
namespace Go.Proofs.Ytofpjfohijljgaa
open Go.Lst
open Go.Sim (fadd fsub fmul fdiv fneg feq flt fle fsqrt cn nanb fabs fcps fsame feq_self cps_cn fabs_cn)
def fL (f : Nat → List AV) (k i : Nat) : Nat := flO (atL (f i) k)
def iL (f : Nat → List AV) (k i : Nat) : Int := inO (atL (f i) k)
def tpA : Nat → List AV → List AV
  | 0, l => l
  | n + 1, l => AV.top :: tpA n l
def tpB : Nat → List Bool → List Bool
  | 0, l => l
  | n + 1, l => true :: tpB n l
def xxs : List (FuncId × XFM) := [(58, xFM true .frombits), (77, xFM true .tobits)]
def xenv : EnvM := mkEnvM xxs [] []
theorem xxs_ok : All (XOkM Try.prog true) xxs := All.cons (xM_ok (ex := true) (f := 58) .frombits fun args w => run_callFunc_extern Try.func58 (by kernel_rfl) (by kernel_rfl) (by kernel_rfl) (by kernel_rfl) args w)
  (All.cons (xM_ok (ex := true) (f := 77) .tobits fun args w => run_callFunc_extern Try.func77 (by kernel_rfl) (by kernel_rfl) (by kernel_rfl) (by kernel_rfl) args w)
  (All.nil))
theorem xenv_ok : xenv.Ok Try.prog true := mkEnvM_ok xxs_ok All.nil All.nil
def mxs : List (FuncId × XFM) := [(58, xFM false .frombits), (77, xFM false .tobits)]
theorem mxs_ok : All (XOkM Try.prog false) mxs := All.cons (xM_ok (ex := false) (f := 58) .frombits fun args w => run_callFunc_extern Try.func58 (by kernel_rfl) (by kernel_rfl) (by kernel_rfl) (by kernel_rfl) args w)
  (All.cons (xM_ok (ex := false) (f := 77) .tobits fun args w => run_callFunc_extern Try.func77 (by kernel_rfl) (by kernel_rfl) (by kernel_rfl) (by kernel_rfl) args w)
  (All.nil))
def mss0 : List (FuncId × SFM) := []
def mws0 : List (FuncId × WFM) := []
def menv0 : EnvM := mkEnvM mxs mss0 mws0
theorem mss0_ok : All (SOkM Try.prog false) mss0 := All.nil
theorem mws0_ok : All (WOkM Try.prog false) mws0 := All.nil
theorem menv0_ok : menv0.Ok Try.prog false := mkEnvM_ok mxs_ok mss0_ok mws0_ok
-- slices.Clone[[]tumble/api.Row,tumble/api.Row]
theorem t_slices_Clone___api_Row_api_Row_ : SOkM Try.prog false (37, cloneS 14 112 56) := SOkM.clone (r0 := (subC [0] (codeOf Try.f37))) (r1 := (subC [1, 0, 0] (codeOf Try.f37))) (A := (subC [1, 0, 1, 0] (codeOf Try.f37))) (B := (subC [1, 0, 1, 1] (codeOf Try.f37))) (rest := (subC [1, 1] (codeOf Try.f37))) (t := 4) menv0_ok Try.func37 Try.call37 (by kernel_rfl) fun n g => by kernel_rfl
def c_slices_Clone___api_Row_api_Row_ : SFM := cloneS 14 112 56
theorem c_slices_Clone___api_Row_api_Row__ok : SOkM Try.prog false (37, c_slices_Clone___api_Row_api_Row_) := t_slices_Clone___api_Row_api_Row_
def mss1 : List (FuncId × SFM) := (37, c_slices_Clone___api_Row_api_Row_) :: mss0
def menv1 : EnvM := mkEnvM mxs mss1 mws0
theorem mss1_ok : All (SOkM Try.prog false) mss1 := All.cons c_slices_Clone___api_Row_api_Row__ok mss0_ok
theorem menv1_ok : menv1.Ok Try.prog false := mkEnvM_ok mxs_ok mss1_ok mws0_ok
-- slices.Clone[[]tumble/api.Still,tumble/api.Still]
theorem t_slices_Clone___api_Still_api_Still_ : SOkM Try.prog false (38, cloneS 5 40 50) := SOkM.clone (r0 := (subC [0] (codeOf Try.f38))) (r1 := (subC [1, 0, 0] (codeOf Try.f38))) (A := (subC [1, 0, 1, 0] (codeOf Try.f38))) (B := (subC [1, 0, 1, 1] (codeOf Try.f38))) (rest := (subC [1, 1] (codeOf Try.f38))) (t := 4) menv1_ok Try.func38 Try.call38 (by kernel_rfl) fun n g => by kernel_rfl
def c_slices_Clone___api_Still_api_Still_ : SFM := cloneS 5 40 50
theorem c_slices_Clone___api_Still_api_Still__ok : SOkM Try.prog false (38, c_slices_Clone___api_Still_api_Still_) := t_slices_Clone___api_Still_api_Still_
def mss2 : List (FuncId × SFM) := (38, c_slices_Clone___api_Still_api_Still_) :: mss1
def menv2 : EnvM := mkEnvM mxs mss2 mws0
theorem mss2_ok : All (SOkM Try.prog false) mss2 := All.cons c_slices_Clone___api_Still_api_Still__ok mss1_ok
theorem menv2_ok : menv2.Ok Try.prog false := mkEnvM_ok mxs_ok mss2_ok mws0_ok
-- math.Abs
def S_math_Abs : List AV → Option AV
  | [AV.float a] => some (AV.float (fabs a))
  | _ => none
theorem t_math_Abs : SOkM Try.prog false (46, pureS S_math_Abs) := exact1 (N := 96) (A := .no) (lits := []) (fk := []) xenv_ok Try.func46 (fnNo _) Try.call46 (fun a v => v = .float (fabs a)) (fun args v h => by
    unfold S_math_Abs at h
    split at h
    · cases h; exact ⟨_, rfl, rfl⟩
    · cases h) fun b v hb h => ⟨.float (absV b), (show outB (evFnM Try.prog true xenv [] [] 96 .no Try.f46 [.float b] []) = some (absOb b, .float (absV b)) by kernel_rfl).trans (by rw [abs_ob]), rfl, fun μ x hx => by subst h; exact toFloat hx (by rw [abs_val hb]; exact (fabs_cn b).symm)⟩
def c_math_Abs : SFM := pureS S_math_Abs
theorem c_math_Abs_ok : SOkM Try.prog false (46, c_math_Abs) := t_math_Abs
def mss3 : List (FuncId × SFM) := (46, c_math_Abs) :: mss2
def menv3 : EnvM := mkEnvM mxs mss3 mws0
theorem mss3_ok : All (SOkM Try.prog false) mss3 := All.cons c_math_Abs_ok mss2_ok
theorem menv3_ok : menv3.Ok Try.prog false := mkEnvM_ok mxs_ok mss3_ok mws0_ok
-- tumble/tumbleref01.None
def S_ref01_None : List AV → Option AV
  | [AV.float a] => some (AV.bool (nanb a))
  | _ => none
theorem t_ref01_None : SOkM Try.prog false (78, pureS S_ref01_None) := exact1 (N := 96) (A := .no) (lits := []) (fk := []) xenv_ok Try.func78 (fnNo _) Try.call78 (fun a v => v = .bool (nanb a)) (fun args v h => by
    unfold S_ref01_None at h
    split at h
    · cases h; exact ⟨_, rfl, rfl⟩
    · cases h) fun b v hb h => ⟨.bool (noneV b), by kernel_rfl, rfl, fun μ x hx => by subst h; exact toBool hx (none_val hb)⟩
def c_ref01_None : SFM := pureS S_ref01_None
theorem c_ref01_None_ok : SOkM Try.prog false (78, c_ref01_None) := t_ref01_None
def mss4 : List (FuncId × SFM) := (78, c_ref01_None) :: mss3
def menv4 : EnvM := mkEnvM mxs mss4 mws0
theorem mss4_ok : All (SOkM Try.prog false) mss4 := All.cons c_ref01_None_ok mss3_ok
theorem menv4_ok : menv4.Ok Try.prog false := mkEnvM_ok mxs_ok mss4_ok mws0_ok
-- tumble/tumblelaw21.awake
def mss5 : List (FuncId × SFM) := mss4
theorem mss5_ok : All (SOkM Try.prog false) mss5 := mss4_ok
def mss6 : List (FuncId × SFM) := (30, (inlSM Try.prog false menv4 [5] [] 96 .no Try.f30)) :: mss5
def menv5 : EnvM := mkEnvM mxs mss6 mws0
theorem mss6_ok : All (SOkM Try.prog false) mss6 := All.cons (SOkM.inl menv4_ok Try.func30 (fnNo _) Try.call30) mss5_ok
theorem menv5_ok : menv5.Ok Try.prog false := mkEnvM_ok mxs_ok mss6_ok mws0_ok
def mss7 : List (FuncId × SFM) := (35, (inlSM Try.prog false menv5 [] [] 96 .no Try.f35)) :: mss6
def menv6 : EnvM := mkEnvM mxs mss7 mws0
theorem mss7_ok : All (SOkM Try.prog false) mss7 := All.cons (SOkM.inl menv5_ok Try.func35 (fnNo _) Try.call35) mss6_ok
theorem menv6_ok : menv6.Ok Try.prog false := mkEnvM_ok mxs_ok mss7_ok mws0_ok
def mss8 : List (FuncId × SFM) := (89, (inlSM Try.prog false menv6 [] [] 96 .no Try.f89)) :: mss7
def menv7 : EnvM := mkEnvM mxs mss8 mws0
theorem mss8_ok : All (SOkM Try.prog false) mss8 := All.cons (SOkM.inl menv6_ok Try.func89 (fnNo _) Try.call89) mss7_ok
theorem menv7_ok : menv7.Ok Try.prog false := mkEnvM_ok mxs_ok mss8_ok mws0_ok
def mss9 : List (FuncId × SFM) := (99, (inlSM Try.prog false menv7 [] [] 96 .no Try.f99)) :: mss8
def menv8 : EnvM := mkEnvM mxs mss9 mws0
theorem mss9_ok : All (SOkM Try.prog false) mss9 := All.cons (SOkM.inl menv7_ok Try.func99 (fnNo _) Try.call99) mss8_ok
theorem menv8_ok : menv8.Ok Try.prog false := mkEnvM_ok mxs_ok mss9_ok mws0_ok
def mss10 : List (FuncId × SFM) := (102, (inlSM Try.prog false menv8 [] [] 96 .no Try.f102)) :: mss9
def menv9 : EnvM := mkEnvM mxs mss10 mws0
theorem mss10_ok : All (SOkM Try.prog false) mss10 := All.cons (SOkM.inl menv8_ok Try.func102 (fnNo _) Try.call102) mss9_ok
theorem menv9_ok : menv9.Ok Try.prog false := mkEnvM_ok mxs_ok mss10_ok mws0_ok
def mss11 : List (FuncId × SFM) := (105, (inlSM Try.prog false menv9 [9, 16] [] 96 .no Try.f105)) :: mss10
def menv10 : EnvM := mkEnvM mxs mss11 mws0
theorem mss11_ok : All (SOkM Try.prog false) mss11 := All.cons (SOkM.inl menv9_ok Try.func105 (fnNo _) Try.call105) mss10_ok
theorem menv10_ok : menv10.Ok Try.prog false := mkEnvM_ok mxs_ok mss11_ok mws0_ok
def mss12 : List (FuncId × SFM) := (101, (inlSM Try.prog false menv10 [] [] 96 .no Try.f101)) :: mss11
def menv11 : EnvM := mkEnvM mxs mss12 mws0
theorem mss12_ok : All (SOkM Try.prog false) mss12 := All.cons (SOkM.inl menv10_ok Try.func101 (fnNo _) Try.call101) mss11_ok
theorem menv11_ok : menv11.Ok Try.prog false := mkEnvM_ok mxs_ok mss12_ok mws0_ok
def mss13 : List (FuncId × SFM) := (91, (inlSM Try.prog false menv11 [] [] 96 .no Try.f91)) :: mss12
def menv12 : EnvM := mkEnvM mxs mss13 mws0
theorem mss13_ok : All (SOkM Try.prog false) mss13 := All.cons (SOkM.inl menv11_ok Try.func91 (fnNo _) Try.call91) mss12_ok
theorem menv12_ok : menv12.Ok Try.prog false := mkEnvM_ok mxs_ok mss13_ok mws0_ok
def mss14 : List (FuncId × SFM) := (82, (inlSM Try.prog false menv12 [] [] 96 .no Try.f82)) :: mss13
def menv13 : EnvM := mkEnvM mxs mss14 mws0
theorem mss14_ok : All (SOkM Try.prog false) mss14 := All.cons (SOkM.inl menv12_ok Try.func82 (fnNo _) Try.call82) mss13_ok
theorem menv13_ok : menv13.Ok Try.prog false := mkEnvM_ok mxs_ok mss14_ok mws0_ok
def mss15 : List (FuncId × SFM) := (53, (inlSM Try.prog false menv13 [24] [] 96 .no Try.f53)) :: mss14
def menv14 : EnvM := mkEnvM mxs mss15 mws0
theorem mss15_ok : All (SOkM Try.prog false) mss15 := All.cons (SOkM.inl menv13_ok Try.func53 (fnNo _) Try.call53) mss14_ok
theorem menv14_ok : menv14.Ok Try.prog false := mkEnvM_ok mxs_ok mss15_ok mws0_ok
def mss16 : List (FuncId × SFM) := (64, (inlSM Try.prog false menv14 [] [] 96 .no Try.f64)) :: mss15
def menv15 : EnvM := mkEnvM mxs mss16 mws0
theorem mss16_ok : All (SOkM Try.prog false) mss16 := All.cons (SOkM.inl menv14_ok Try.func64 (fnNo _) Try.call64) mss15_ok
theorem menv15_ok : menv15.Ok Try.prog false := mkEnvM_ok mxs_ok mss16_ok mws0_ok
def mss17 : List (FuncId × SFM) := (63, (inlSM Try.prog false menv15 [] [] 96 .no Try.f63)) :: mss16
def menv16 : EnvM := mkEnvM mxs mss17 mws0
theorem mss17_ok : All (SOkM Try.prog false) mss17 := All.cons (SOkM.inl menv15_ok Try.func63 (fnNo _) Try.call63) mss16_ok
theorem menv16_ok : menv16.Ok Try.prog false := mkEnvM_ok mxs_ok mss17_ok mws0_ok
def mss18 : List (FuncId × SFM) := (88, (inlSM Try.prog false menv16 [9, 16] [] 96 .no Try.f88)) :: mss17
def menv17 : EnvM := mkEnvM mxs mss18 mws0
theorem mss18_ok : All (SOkM Try.prog false) mss18 := All.cons (SOkM.inl menv16_ok Try.func88 (fnNo _) Try.call88) mss17_ok
theorem menv17_ok : menv17.Ok Try.prog false := mkEnvM_ok mxs_ok mss18_ok mws0_ok
def mss19 : List (FuncId × SFM) := (62, (inlSM Try.prog false menv17 [] [] 96 .no Try.f62)) :: mss18
def menv18 : EnvM := mkEnvM mxs mss19 mws0
theorem mss19_ok : All (SOkM Try.prog false) mss19 := All.cons (SOkM.inl menv17_ok Try.func62 (fnNo _) Try.call62) mss18_ok
theorem menv18_ok : menv18.Ok Try.prog false := mkEnvM_ok mxs_ok mss19_ok mws0_ok
def mss20 : List (FuncId × SFM) := (36, (inlSM Try.prog false menv18 [15, 19, 29, 34] [] 96 .no Try.f36)) :: mss19
def menv19 : EnvM := mkEnvM mxs mss20 mws0
theorem mss20_ok : All (SOkM Try.prog false) mss20 := All.cons (SOkM.inl menv18_ok Try.func36 (fnNo _) Try.call36) mss19_ok
theorem menv19_ok : menv19.Ok Try.prog false := mkEnvM_ok mxs_ok mss20_ok mws0_ok
def mss21 : List (FuncId × SFM) := (86, (inlSM Try.prog false menv19 [] [] 96 .no Try.f86)) :: mss20
def menv20 : EnvM := mkEnvM mxs mss21 mws0
theorem mss21_ok : All (SOkM Try.prog false) mss21 := All.cons (SOkM.inl menv19_ok Try.func86 (fnNo _) Try.call86) mss20_ok
theorem menv20_ok : menv20.Ok Try.prog false := mkEnvM_ok mxs_ok mss21_ok mws0_ok
def mss22 : List (FuncId × SFM) := (60, (inlSM Try.prog false menv20 [19] [] 96 .no Try.f60)) :: mss21
def menv21 : EnvM := mkEnvM mxs mss22 mws0
theorem mss22_ok : All (SOkM Try.prog false) mss22 := All.cons (SOkM.inl menv20_ok Try.func60 (fnNo _) Try.call60) mss21_ok
theorem menv21_ok : menv21.Ok Try.prog false := mkEnvM_ok mxs_ok mss22_ok mws0_ok
def mss23 : List (FuncId × SFM) := (90, (inlSM Try.prog false menv21 [] [] 96 .no Try.f90)) :: mss22
def menv22 : EnvM := mkEnvM mxs mss23 mws0
theorem mss23_ok : All (SOkM Try.prog false) mss23 := All.cons (SOkM.inl menv21_ok Try.func90 (fnNo _) Try.call90) mss22_ok
theorem menv22_ok : menv22.Ok Try.prog false := mkEnvM_ok mxs_ok mss23_ok mws0_ok
def mss24 : List (FuncId × SFM) := (65, (inlSM Try.prog false menv22 [23, 31, 53] [] 96 .no Try.f65)) :: mss23
def menv23 : EnvM := mkEnvM mxs mss24 mws0
theorem mss24_ok : All (SOkM Try.prog false) mss24 := All.cons (SOkM.inl menv22_ok Try.func65 (fnNo _) Try.call65) mss23_ok
theorem menv23_ok : menv23.Ok Try.prog false := mkEnvM_ok mxs_ok mss24_ok mws0_ok
def mss25 : List (FuncId × SFM) := (39, (inlSM Try.prog false menv23 [17] [] 96 .no Try.f39)) :: mss24
def menv24 : EnvM := mkEnvM mxs mss25 mws0
theorem mss25_ok : All (SOkM Try.prog false) mss25 := All.cons (SOkM.inl menv23_ok Try.func39 (fnNo _) Try.call39) mss24_ok
theorem menv24_ok : menv24.Ok Try.prog false := mkEnvM_ok mxs_ok mss25_ok mws0_ok
def mss26 : List (FuncId × SFM) := (98, (inlSM Try.prog false menv24 [] [] 96 .no Try.f98)) :: mss25
def menv25 : EnvM := mkEnvM mxs mss26 mws0
theorem mss26_ok : All (SOkM Try.prog false) mss26 := All.cons (SOkM.inl menv24_ok Try.func98 (fnNo _) Try.call98) mss25_ok
theorem menv25_ok : menv25.Ok Try.prog false := mkEnvM_ok mxs_ok mss26_ok mws0_ok
def mss27 : List (FuncId × SFM) := (87, (inlSM Try.prog false menv25 [] [] 96 .no Try.f87)) :: mss26
def menv26 : EnvM := mkEnvM mxs mss27 mws0
theorem mss27_ok : All (SOkM Try.prog false) mss27 := All.cons (SOkM.inl menv25_ok Try.func87 (fnNo _) Try.call87) mss26_ok
theorem menv26_ok : menv26.Ok Try.prog false := mkEnvM_ok mxs_ok mss27_ok mws0_ok
def mss28 : List (FuncId × SFM) := (61, (inlSM Try.prog false menv26 [] [] 96 .no Try.f61)) :: mss27
def menv27 : EnvM := mkEnvM mxs mss28 mws0
theorem mss28_ok : All (SOkM Try.prog false) mss28 := All.cons (SOkM.inl menv26_ok Try.func61 (fnNo _) Try.call61) mss27_ok
theorem menv27_ok : menv27.Ok Try.prog false := mkEnvM_ok mxs_ok mss28_ok mws0_ok
def mss29 : List (FuncId × SFM) := (74, (inlSM Try.prog false menv27 [] [] 96 .no Try.f74)) :: mss28
def menv28 : EnvM := mkEnvM mxs mss29 mws0
theorem mss29_ok : All (SOkM Try.prog false) mss29 := All.cons (SOkM.inl menv27_ok Try.func74 (fnNo _) Try.call74) mss28_ok
theorem menv28_ok : menv28.Ok Try.prog false := mkEnvM_ok mxs_ok mss29_ok mws0_ok
def mss30 : List (FuncId × SFM) := (92, (inlSM Try.prog false menv28 [7, 13] [] 96 .no Try.f92)) :: mss29
def menv29 : EnvM := mkEnvM mxs mss30 mws0
theorem mss30_ok : All (SOkM Try.prog false) mss30 := All.cons (SOkM.inl menv28_ok Try.func92 (fnNo _) Try.call92) mss29_ok
theorem menv29_ok : menv29.Ok Try.prog false := mkEnvM_ok mxs_ok mss30_ok mws0_ok
def mss31 : List (FuncId × SFM) := (66, (inlSM Try.prog false menv29 [21, 46, 68] [] 96 .no Try.f66)) :: mss30
def menv30 : EnvM := mkEnvM mxs mss31 mws0
theorem mss31_ok : All (SOkM Try.prog false) mss31 := All.cons (SOkM.inl menv29_ok Try.func66 (fnNo _) Try.call66) mss30_ok
theorem menv30_ok : menv30.Ok Try.prog false := mkEnvM_ok mxs_ok mss31_ok mws0_ok
def mws1 : List (FuncId × WFM) := (40, (inlWM Try.prog false menv30 [19, 69] [] 96 .no Try.f40 100000)) :: mws0
def menv31 : EnvM := mkEnvM mxs mss31 mws1
theorem mws1_ok : All (WOkM Try.prog false) mws1 := All.cons (WOkM.inl menv30_ok Try.func40 (fnNo _) Try.call40) mws0_ok
theorem menv31_ok : menv31.Ok Try.prog false := mkEnvM_ok mxs_ok mss31_ok mws1_ok
def mss32 : List (FuncId × SFM) := (12, (inlSM Try.prog false menv31 [20, 27, 35, 63, 81, 85] [] 96 .no Try.f12)) :: mss31
def menv32 : EnvM := mkEnvM mxs mss32 mws1
theorem mss32_ok : All (SOkM Try.prog false) mss32 := All.cons (SOkM.inl menv31_ok Try.func12 (fnNo _) Try.call12) mss31_ok
theorem menv32_ok : menv32.Ok Try.prog false := mkEnvM_ok mxs_ok mss32_ok mws1_ok
def mss33 : List (FuncId × SFM) := (44, (inlSM Try.prog false menv32 [14] [] 96 .no Try.f44)) :: mss32
def menv33 : EnvM := mkEnvM mxs mss33 mws1
theorem mss33_ok : All (SOkM Try.prog false) mss33 := All.cons (SOkM.inl menv32_ok Try.func44 (fnNo _) Try.call44) mss32_ok
theorem menv33_ok : menv33.Ok Try.prog false := mkEnvM_ok mxs_ok mss33_ok mws1_ok
def mss34 : List (FuncId × SFM) := (33, (inlSM Try.prog false menv33 [14] [] 96 .no Try.f33)) :: mss33
def menv34 : EnvM := mkEnvM mxs mss34 mws1
theorem mss34_ok : All (SOkM Try.prog false) mss34 := All.cons (SOkM.inl menv33_ok Try.func33 (fnNo _) Try.call33) mss33_ok
theorem menv34_ok : menv34.Ok Try.prog false := mkEnvM_ok mxs_ok mss34_ok mws1_ok
def mss35 : List (FuncId × SFM) := (75, (inlSM Try.prog false menv34 [] [] 96 .no Try.f75)) :: mss34
def menv35 : EnvM := mkEnvM mxs mss35 mws1
theorem mss35_ok : All (SOkM Try.prog false) mss35 := All.cons (SOkM.inl menv34_ok Try.func75 (fnNo _) Try.call75) mss34_ok
theorem menv35_ok : menv35.Ok Try.prog false := mkEnvM_ok mxs_ok mss35_ok mws1_ok
def mss36 : List (FuncId × SFM) := (76, (inlSM Try.prog false menv35 [] [] 96 .no Try.f76)) :: mss35
def menv36 : EnvM := mkEnvM mxs mss36 mws1
theorem mss36_ok : All (SOkM Try.prog false) mss36 := All.cons (SOkM.inl menv35_ok Try.func76 (fnNo _) Try.call76) mss35_ok
theorem menv36_ok : menv36.Ok Try.prog false := mkEnvM_ok mxs_ok mss36_ok mws1_ok
def mss37 : List (FuncId × SFM) := (45, (inlSM Try.prog false menv36 [23] [] 96 .no Try.f45)) :: mss36
def menv37 : EnvM := mkEnvM mxs mss37 mws1
theorem mss37_ok : All (SOkM Try.prog false) mss37 := All.cons (SOkM.inl menv36_ok Try.func45 (fnNo _) Try.call45) mss36_ok
theorem menv37_ok : menv37.Ok Try.prog false := mkEnvM_ok mxs_ok mss37_ok mws1_ok
def mss38 : List (FuncId × SFM) := (14, (inlSM Try.prog false menv37 [21, 26, 61] [] 96 .no Try.f14)) :: mss37
def menv38 : EnvM := mkEnvM mxs mss38 mws1
theorem mss38_ok : All (SOkM Try.prog false) mss38 := All.cons (SOkM.inl menv37_ok Try.func14 (fnNo _) Try.call14) mss37_ok
theorem menv38_ok : menv38.Ok Try.prog false := mkEnvM_ok mxs_ok mss38_ok mws1_ok
def mss39 : List (FuncId × SFM) := (50, (inlSM Try.prog false menv38 [16, 25] [] 96 .no Try.f50)) :: mss38
def menv39 : EnvM := mkEnvM mxs mss39 mws1
theorem mss39_ok : All (SOkM Try.prog false) mss39 := All.cons (SOkM.inl menv38_ok Try.func50 (fnNo _) Try.call50) mss38_ok
theorem menv39_ok : menv39.Ok Try.prog false := mkEnvM_ok mxs_ok mss39_ok mws1_ok
def mss40 : List (FuncId × SFM) := (21, (inlSM Try.prog false menv39 [19, 25, 37, 48] [] 96 .no Try.f21)) :: mss39
def menv40 : EnvM := mkEnvM mxs mss40 mws1
theorem mss40_ok : All (SOkM Try.prog false) mss40 := All.cons (SOkM.inl menv39_ok Try.func21 (fnNo _) Try.call21) mss39_ok
theorem menv40_ok : menv40.Ok Try.prog false := mkEnvM_ok mxs_ok mss40_ok mws1_ok
def mss41 : List (FuncId × SFM) := (83, (inlSM Try.prog false menv40 [9, 16] [] 96 .no Try.f83)) :: mss40
def menv41 : EnvM := mkEnvM mxs mss41 mws1
theorem mss41_ok : All (SOkM Try.prog false) mss41 := All.cons (SOkM.inl menv40_ok Try.func83 (fnNo _) Try.call83) mss40_ok
theorem menv41_ok : menv41.Ok Try.prog false := mkEnvM_ok mxs_ok mss41_ok mws1_ok
def mss42 : List (FuncId × SFM) := (54, (inlSM Try.prog false menv41 [] [] 96 .no Try.f54)) :: mss41
def menv42 : EnvM := mkEnvM mxs mss42 mws1
theorem mss42_ok : All (SOkM Try.prog false) mss42 := All.cons (SOkM.inl menv41_ok Try.func54 (fnNo _) Try.call54) mss41_ok
theorem menv42_ok : menv42.Ok Try.prog false := mkEnvM_ok mxs_ok mss42_ok mws1_ok
def mss43 : List (FuncId × SFM) := (23, (inlSM Try.prog false menv42 [24, 28, 36, 45, 58, 76, 84] [] 96 .no Try.f23)) :: mss42
def menv43 : EnvM := mkEnvM mxs mss43 mws1
theorem mss43_ok : All (SOkM Try.prog false) mss43 := All.cons (SOkM.inl menv42_ok Try.func23 (fnNo _) Try.call23) mss42_ok
theorem menv43_ok : menv43.Ok Try.prog false := mkEnvM_ok mxs_ok mss43_ok mws1_ok
theorem ann_law21_awake : FnOk Try.prog false 0 Try.f8 Ann.no := (fnNo _)
def s_law21_awake_0 : Bool := true
theorem e_law21_awake : outB (evFnM Try.prog false menv43 [42] [] 96 Ann.no Try.f8 [] []) = some (true, AV.bool (s_law21_awake_0)) := by kernel_rfl
def S_law21_awake : List AV → Option (Ob × AV)
  | [] => some (Ob.tt, AV.bool (s_law21_awake_0))
  | _ => none
theorem t_law21_awake : SOkM Try.prog false (8, fun args => match S_law21_awake args with | some (o, v) => some (o, v, []) | none => none) := SOkM.flat (N := 96) menv43_ok Try.func8 ann_law21_awake Try.call8 fun args o v h ho => by
  unfold S_law21_awake at h
  split at h
  · skip
    cases h
    have ho2 := ho
    have this := show outB (evFnM Try.prog false menv43 [42] [] 96 Ann.no Try.f8 [] []) = _ from e_law21_awake
    exact ⟨this, rfl⟩
  · cases h
def c_law21_awake : SFM := fun args => match S_law21_awake args with | some (o, v) => some (o, v, []) | none => none
theorem c_law21_awake_ok : SOkM Try.prog false (8, c_law21_awake) := t_law21_awake
def mss44 : List (FuncId × SFM) := (8, c_law21_awake) :: mss43
def menv44 : EnvM := mkEnvM mxs mss44 mws1
theorem mss44_ok : All (SOkM Try.prog false) mss44 := All.cons c_law21_awake_ok mss43_ok
theorem menv44_ok : menv44.Ok Try.prog false := mkEnvM_ok mxs_ok mss44_ok mws1_ok
-- math.Inf
theorem ann_math_Inf : FnOk Try.prog false 0 Try.f30 Ann.no := (fnNo _)
def s_math_Inf_0 (l : Int) : Nat := (cn (Int.toNat (bif (ile (0 : Int) l) then (9218868437227405312 : Int) else (18442240474082181120 : Int))))
theorem e_math_Inf (l : Int) : outB (evFnM Try.prog false menv44 [] [] 96 Ann.no Try.f30 [AV.int .i64 l] []) = some ((u64ok (bif (ile (0 : Int) l) then (9218868437227405312 : Int) else (18442240474082181120 : Int))), AV.float (s_math_Inf_0 l)) := by kernel_rfl
def S_math_Inf : List AV → Option (Ob × AV)
  | [AV.int .i64 l] => some (Ob.tt, AV.float (s_math_Inf_0 l))
  | _ => none
theorem ob_math_Inf (l : Int) : (u64ok (bif (ile (0 : Int) l) then (9218868437227405312 : Int) else (18442240474082181120 : Int))) = true := by show ((u64ok (bif (ile (0 : Int) l) then (9218868437227405312 : Int) else (18442240474082181120 : Int)))) = true; (generalize (ile (0 : Int) l) = q0; cases q0 <;> rfl)
theorem t_math_Inf : SOkM Try.prog false (30, fun args => match S_math_Inf args with | some (o, v) => some (o, v, []) | none => none) := SOkM.flat (N := 96) menv44_ok Try.func30 ann_math_Inf Try.call30 fun args o v h ho => by
  unfold S_math_Inf at h
  split at h
  · rename_i l
    cases h
    have ho2 := ho
    have this := show outB (evFnM Try.prog false menv44 [] [] 96 Ann.no Try.f30 [AV.int .i64 l] []) = _ from e_math_Inf l
    rw [(ob_math_Inf l)] at this
    exact ⟨this, rfl⟩
  · cases h
def c_math_Inf : SFM := fun args => match S_math_Inf args with | some (o, v) => some (o, v, []) | none => none
theorem c_math_Inf_ok : SOkM Try.prog false (30, c_math_Inf) := t_math_Inf
def mss45 : List (FuncId × SFM) := (30, c_math_Inf) :: mss44
def menv45 : EnvM := mkEnvM mxs mss45 mws1
theorem mss45_ok : All (SOkM Try.prog false) mss45 := All.cons c_math_Inf_ok mss44_ok
theorem menv45_ok : menv45.Ok Try.prog false := mkEnvM_ok mxs_ok mss45_ok mws1_ok
-- tumble/tumblelaw21.middling
theorem ann_law21_middling : FnOk Try.prog false 0 Try.f59 Ann.no := (fnNo _)
def s_law21_middling_0 (l : Nat) : Bool := ((feq (fabs l) 0) || ((fle 4517110426252607488 (fabs l)) && (fle (fabs l) 4697254411347427328)))
theorem e_law21_middling (l : Nat) : outB (evFnM Try.prog false menv45 [] [] 96 Ann.no Try.f59 [AV.float l] []) = some (true, AV.bool (s_law21_middling_0 l)) := by kernel_rfl
def S_law21_middling : List AV → Option (Ob × AV)
  | [AV.float l] => some (Ob.tt, AV.bool (s_law21_middling_0 l))
  | _ => none
theorem t_law21_middling : SOkM Try.prog false (59, fun args => match S_law21_middling args with | some (o, v) => some (o, v, []) | none => none) := SOkM.flat (N := 96) menv45_ok Try.func59 ann_law21_middling Try.call59 fun args o v h ho => by
  unfold S_law21_middling at h
  split at h
  · rename_i l
    cases h
    have ho2 := ho
    have this := show outB (evFnM Try.prog false menv45 [] [] 96 Ann.no Try.f59 [AV.float l] []) = _ from e_law21_middling l
    exact ⟨this, rfl⟩
  · cases h
def c_law21_middling : SFM := fun args => match S_law21_middling args with | some (o, v) => some (o, v, []) | none => none
theorem c_law21_middling_ok : SOkM Try.prog false (59, c_law21_middling) := t_law21_middling
def mss46 : List (FuncId × SFM) := (59, c_law21_middling) :: mss45
def menv46 : EnvM := mkEnvM mxs mss46 mws1
theorem mss46_ok : All (SOkM Try.prog false) mss46 := All.cons c_law21_middling_ok mss45_ok
theorem menv46_ok : menv46.Ok Try.prog false := mkEnvM_ok mxs_ok mss46_ok mws1_ok
-- tumble/tumblelaw21.mildRow
theorem ann_law21_mildRow : FnOk Try.prog false 0 Try.f31 Ann.no := (fnNo _)
def s_law21_mildRow_0 (l j : Int) (e L V Z aa ab W X Y M : Nat) (ad : Int) (ac : Nat) : Bool := ((((((((s_law21_middling_0 e) && (s_law21_middling_0 L)) && (s_law21_middling_0 V)) && (s_law21_middling_0 Z)) && (s_law21_middling_0 aa)) && (s_law21_middling_0 ab)) && (s_law21_middling_0 W)) && (s_law21_middling_0 M))
theorem e_law21_mildRow (l j : Int) (e L V Z aa ab W X Y M : Nat) (ad : Int) (ac : Nat) : outB (evFnM Try.prog false menv46 [] [] 96 Ann.no Try.f31 [AV.agg [AV.int .i64 l, AV.int .i64 j, AV.float e, AV.float L, AV.float V, AV.float Z, AV.float aa, AV.float ab, AV.float W, AV.float X, AV.float Y, AV.float M, AV.int .i64 ad, AV.float ac]] []) = some (true, AV.bool (s_law21_mildRow_0 l j e L V Z aa ab W X Y M ad ac)) := by kernel_rfl
def S_law21_mildRow : List AV → Option (Ob × AV)
  | [AV.agg [AV.int .i64 l, AV.int .i64 j, AV.float e, AV.float L, AV.float V, AV.float Z, AV.float aa, AV.float ab, AV.float W, AV.float X, AV.float Y, AV.float M, AV.int .i64 ad, AV.float ac]] => some (Ob.tt, AV.bool (s_law21_mildRow_0 l j e L V Z aa ab W X Y M ad ac))
  | _ => none
theorem t_law21_mildRow : SOkM Try.prog false (31, fun args => match S_law21_mildRow args with | some (o, v) => some (o, v, []) | none => none) := SOkM.flat (N := 96) menv46_ok Try.func31 ann_law21_mildRow Try.call31 fun args o v h ho => by
  unfold S_law21_mildRow at h
  split at h
  · rename_i l j e L V Z aa ab W X Y M ad ac
    cases h
    have ho2 := ho
    have this := show outB (evFnM Try.prog false menv46 [] [] 96 Ann.no Try.f31 [AV.agg [AV.int .i64 l, AV.int .i64 j, AV.float e, AV.float L, AV.float V, AV.float Z, AV.float aa, AV.float ab, AV.float W, AV.float X, AV.float Y, AV.float M, AV.int .i64 ad, AV.float ac]] []) = _ from e_law21_mildRow l j e L V Z aa ab W X Y M ad ac
    exact ⟨this, rfl⟩
  · cases h
def c_law21_mildRow : SFM := fun args => match S_law21_mildRow args with | some (o, v) => some (o, v, []) | none => none
theorem c_law21_mildRow_ok : SOkM Try.prog false (31, c_law21_mildRow) := t_law21_mildRow
def mss47 : List (FuncId × SFM) := (31, c_law21_mildRow) :: mss46
def menv47 : EnvM := mkEnvM mxs mss47 mws1
theorem mss47_ok : All (SOkM Try.prog false) mss47 := All.cons c_law21_mildRow_ok mss46_ok
theorem menv47_ok : menv47.Ok Try.prog false := mkEnvM_ok mxs_ok mss47_ok mws1_ok
-- tumble/tumblelaw21.mildStill
theorem ann_law21_mildStill : FnOk Try.prog false 0 Try.f32 Ann.no := (fnNo _)
def s_law21_mildStill_0 (l j e L V : Nat) : Bool := (((((((fle 0 l) && (fle 0 j)) && (s_law21_middling_0 l)) && (s_law21_middling_0 j)) && (s_law21_middling_0 e)) && (s_law21_middling_0 L)) && (s_law21_middling_0 V))
theorem e_law21_mildStill (l j e L V : Nat) : outB (evFnM Try.prog false menv47 [] [] 96 Ann.no Try.f32 [AV.agg [AV.float l, AV.float j, AV.float e, AV.float L, AV.float V]] []) = some (true, AV.bool (s_law21_mildStill_0 l j e L V)) := by kernel_rfl
def S_law21_mildStill : List AV → Option (Ob × AV)
  | [AV.agg [AV.float l, AV.float j, AV.float e, AV.float L, AV.float V]] => some (Ob.tt, AV.bool (s_law21_mildStill_0 l j e L V))
  | _ => none
theorem t_law21_mildStill : SOkM Try.prog false (32, fun args => match S_law21_mildStill args with | some (o, v) => some (o, v, []) | none => none) := SOkM.flat (N := 96) menv47_ok Try.func32 ann_law21_mildStill Try.call32 fun args o v h ho => by
  unfold S_law21_mildStill at h
  split at h
  · rename_i l j e L V
    cases h
    have ho2 := ho
    have this := show outB (evFnM Try.prog false menv47 [] [] 96 Ann.no Try.f32 [AV.agg [AV.float l, AV.float j, AV.float e, AV.float L, AV.float V]] []) = _ from e_law21_mildStill l j e L V
    exact ⟨this, rfl⟩
  · cases h
def c_law21_mildStill : SFM := fun args => match S_law21_mildStill args with | some (o, v) => some (o, v, []) | none => none
theorem c_law21_mildStill_ok : SOkM Try.prog false (32, c_law21_mildStill) := t_law21_mildStill
def mss48 : List (FuncId × SFM) := (32, c_law21_mildStill) :: mss47
def menv48 : EnvM := mkEnvM mxs mss48 mws1
theorem mss48_ok : All (SOkM Try.prog false) mss48 := All.cons c_law21_mildStill_ok mss47_ok
theorem menv48_ok : menv48.Ok Try.prog false := mkEnvM_ok mxs_ok mss48_ok mws1_ok
-- tumble/num.Finite[float64]
theorem ann_num_Finite_float64_ : FnOk Try.prog false 0 Try.f89 Ann.no := (fnNo _)
def s_num_Finite_float64__0 (l : Nat) : Bool := (feq (fsub l l) 0)
theorem e_num_Finite_float64_ (l : Nat) : outB (evFnM Try.prog false menv48 [] [] 96 Ann.no Try.f89 [AV.float l] []) = some (true, AV.bool (s_num_Finite_float64__0 l)) := by kernel_rfl
def S_num_Finite_float64_ : List AV → Option (Ob × AV)
  | [AV.float l] => some (Ob.tt, AV.bool (s_num_Finite_float64__0 l))
  | _ => none
theorem t_num_Finite_float64_ : SOkM Try.prog false (89, fun args => match S_num_Finite_float64_ args with | some (o, v) => some (o, v, []) | none => none) := SOkM.flat (N := 96) menv48_ok Try.func89 ann_num_Finite_float64_ Try.call89 fun args o v h ho => by
  unfold S_num_Finite_float64_ at h
  split at h
  · rename_i l
    cases h
    have ho2 := ho
    have this := show outB (evFnM Try.prog false menv48 [] [] 96 Ann.no Try.f89 [AV.float l] []) = _ from e_num_Finite_float64_ l
    exact ⟨this, rfl⟩
  · cases h
def c_num_Finite_float64_ : SFM := fun args => match S_num_Finite_float64_ args with | some (o, v) => some (o, v, []) | none => none
theorem c_num_Finite_float64__ok : SOkM Try.prog false (89, c_num_Finite_float64_) := t_num_Finite_float64_
def mss49 : List (FuncId × SFM) := (89, c_num_Finite_float64_) :: mss48
def menv49 : EnvM := mkEnvM mxs mss49 mws1
theorem mss49_ok : All (SOkM Try.prog false) mss49 := All.cons c_num_Finite_float64__ok mss48_ok
theorem menv49_ok : menv49.Ok Try.prog false := mkEnvM_ok mxs_ok mss49_ok mws1_ok
-- tumble/vec.Finite
theorem ann_vec_Finite : FnOk Try.prog false 0 Try.f99 Ann.no := (fnNo _)
def s_vec_Finite_0 (l j : Nat) : Bool := ((s_num_Finite_float64__0 l) && (s_num_Finite_float64__0 j))
theorem e_vec_Finite (l j : Nat) : outB (evFnM Try.prog false menv49 [] [] 96 Ann.no Try.f99 [AV.agg [AV.float l, AV.float j]] []) = some (true, AV.bool (s_vec_Finite_0 l j)) := by kernel_rfl
def S_vec_Finite : List AV → Option (Ob × AV)
  | [AV.agg [AV.float l, AV.float j]] => some (Ob.tt, AV.bool (s_vec_Finite_0 l j))
  | _ => none
theorem t_vec_Finite : SOkM Try.prog false (99, fun args => match S_vec_Finite args with | some (o, v) => some (o, v, []) | none => none) := SOkM.flat (N := 96) menv49_ok Try.func99 ann_vec_Finite Try.call99 fun args o v h ho => by
  unfold S_vec_Finite at h
  split at h
  · rename_i l j
    cases h
    have ho2 := ho
    have this := show outB (evFnM Try.prog false menv49 [] [] 96 Ann.no Try.f99 [AV.agg [AV.float l, AV.float j]] []) = _ from e_vec_Finite l j
    exact ⟨this, rfl⟩
  · cases h
def c_vec_Finite : SFM := fun args => match S_vec_Finite args with | some (o, v) => some (o, v, []) | none => none
theorem c_vec_Finite_ok : SOkM Try.prog false (99, c_vec_Finite) := t_vec_Finite
def mss50 : List (FuncId × SFM) := (99, c_vec_Finite) :: mss49
def menv50 : EnvM := mkEnvM mxs mss50 mws1
theorem mss50_ok : All (SOkM Try.prog false) mss50 := All.cons c_vec_Finite_ok mss49_ok
theorem menv50_ok : menv50.Ok Try.prog false := mkEnvM_ok mxs_ok mss50_ok mws1_ok
-- tumble/rows.finite$1
theorem ann_rows_finite_1 : FnOk Try.prog false 0 Try.f102 Ann.no := (fnNo _)
def s_rows_finite_1_0 (l : Nat) : Bool := (!(s_num_Finite_float64__0 l))
theorem e_rows_finite_1 (l : Nat) : outB (evFnM Try.prog false menv50 [] [] 96 Ann.no Try.f102 [AV.float l] []) = some (true, AV.bool (s_rows_finite_1_0 l)) := by kernel_rfl
def S_rows_finite_1 : List AV → Option (Ob × AV)
  | [AV.float l] => some (Ob.tt, AV.bool (s_rows_finite_1_0 l))
  | _ => none
theorem t_rows_finite_1 : SOkM Try.prog false (102, fun args => match S_rows_finite_1 args with | some (o, v) => some (o, v, []) | none => none) := SOkM.flat (N := 96) menv50_ok Try.func102 ann_rows_finite_1 Try.call102 fun args o v h ho => by
  unfold S_rows_finite_1 at h
  split at h
  · rename_i l
    cases h
    have ho2 := ho
    have this := show outB (evFnM Try.prog false menv50 [] [] 96 Ann.no Try.f102 [AV.float l] []) = _ from e_rows_finite_1 l
    exact ⟨this, rfl⟩
  · cases h
def c_rows_finite_1 : SFM := fun args => match S_rows_finite_1 args with | some (o, v) => some (o, v, []) | none => none
theorem c_rows_finite_1_ok : SOkM Try.prog false (102, c_rows_finite_1) := t_rows_finite_1
def mss51 : List (FuncId × SFM) := (102, c_rows_finite_1) :: mss50
def menv51 : EnvM := mkEnvM mxs mss51 mws1
theorem mss51_ok : All (SOkM Try.prog false) mss51 := All.cons c_rows_finite_1_ok mss50_ok
theorem menv51_ok : menv51.Ok Try.prog false := mkEnvM_ok mxs_ok mss51_ok mws1_ok
-- slices.IndexFunc[[]float64,float64]
theorem ann_slices_IndexFunc___float64_float64_ : FnOk Try.prog false 0 Try.f105 Ann.no := (fnNo _)
def s_slices_IndexFunc___float64_float64__0 (k : Nat → Nat) : Int := (bif ((s_rows_finite_1_0 (k 0)) || ((s_rows_finite_1_0 (k 1)) || ((s_rows_finite_1_0 (k 2)) || ((s_rows_finite_1_0 (k 3)) || (s_rows_finite_1_0 (k 4)))))) then (bif (s_rows_finite_1_0 (k 0)) then (0 : Int) else (bif (s_rows_finite_1_0 (k 1)) then (1 : Int) else (bif (s_rows_finite_1_0 (k 2)) then (2 : Int) else (bif (s_rows_finite_1_0 (k 3)) then (3 : Int) else (4 : Int))))) else (-1 : Int))
theorem e_slices_IndexFunc___float64_float64_ (k : Nat → Nat) : outB (evFnM Try.prog false menv51 [9] [] 96 Ann.no Try.f105 [AV.view 5 1 (fun i0 => [AV.float (k i0)]), AV.func 102 [] []] []) = some (true, AV.int .i64 (s_slices_IndexFunc___float64_float64__0 k)) := by kernel_rfl
def S_slices_IndexFunc___float64_float64_ : List AV → Option (Ob × AV)
  | [AV.view 5 1 an, AV.func 102 [] []] => some (Ob.bit (allB fun i => isNrm [Ck.f] (an i)), AV.int .i64 (s_slices_IndexFunc___float64_float64__0 (fL an 0)))
  | _ => none
theorem t_slices_IndexFunc___float64_float64_ : SOkM Try.prog false (105, fun args => match S_slices_IndexFunc___float64_float64_ args with | some (o, v) => some (o, v, []) | none => none) := SOkM.flat (N := 96) menv51_ok Try.func105 ann_slices_IndexFunc___float64_float64_ Try.call105 fun args o v h ho => by
  unfold S_slices_IndexFunc___float64_float64_ at h
  split at h
  · rename_i an
    cases h
    have hn := ho
    have n0 := hn
    simp only [Ob.ok] at n0
    replace n0 := nrm_fun n0
    have this := show outB (evFnM Try.prog false menv51 [9] [] 96 Ann.no Try.f105 [AV.view 5 1 (fun i => mkN [Ck.f] (an i) 0), AV.func 102 [] []] []) = _ from e_slices_IndexFunc___float64_float64_ (fL an 0)
    rw [n0] at this
    exact ⟨this, rfl⟩
  · cases h
def c_slices_IndexFunc___float64_float64_ : SFM := fun args => match S_slices_IndexFunc___float64_float64_ args with | some (o, v) => some (o, v, []) | none => none
theorem c_slices_IndexFunc___float64_float64__ok : SOkM Try.prog false (105, c_slices_IndexFunc___float64_float64_) := t_slices_IndexFunc___float64_float64_
def mss52 : List (FuncId × SFM) := (105, c_slices_IndexFunc___float64_float64_) :: mss51
def menv52 : EnvM := mkEnvM mxs mss52 mws1
theorem mss52_ok : All (SOkM Try.prog false) mss52 := All.cons c_slices_IndexFunc___float64_float64__ok mss51_ok
theorem menv52_ok : menv52.Ok Try.prog false := mkEnvM_ok mxs_ok mss52_ok mws1_ok
-- slices.ContainsFunc[[]float64,float64]
theorem ann_slices_ContainsFunc___float64_float64_ : FnOk Try.prog false 0 Try.f101 Ann.no := (fnNo _)
def s_slices_ContainsFunc___float64_float64__0 (k : Nat → Nat) : Bool := (ile (0 : Int) (s_slices_IndexFunc___float64_float64__0 k))
theorem e_slices_ContainsFunc___float64_float64_ (k : Nat → Nat) : outB (evFnM Try.prog false menv52 [] [] 96 Ann.no Try.f101 [AV.view 5 1 (fun i0 => [AV.float (k i0)]), AV.func 102 [] []] []) = some ((allB fun _ => true), AV.bool (s_slices_ContainsFunc___float64_float64__0 k)) := by kernel_rfl
def S_slices_ContainsFunc___float64_float64_ : List AV → Option (Ob × AV)
  | [AV.view 5 1 an, AV.func 102 [] []] => some (Ob.bit (allB fun i => isNrm [Ck.f] (an i)), AV.bool (s_slices_ContainsFunc___float64_float64__0 (fL an 0)))
  | _ => none
theorem ob_slices_ContainsFunc___float64_float64_ (k : Nat → Nat) : (allB fun _ => true) = true := by (try simp only [allB_true, eqT_self, mrgB_self, Bool.true_and, Bool.and_true]) <;> first | rfl | simp
theorem t_slices_ContainsFunc___float64_float64_ : SOkM Try.prog false (101, fun args => match S_slices_ContainsFunc___float64_float64_ args with | some (o, v) => some (o, v, []) | none => none) := SOkM.flat (N := 96) menv52_ok Try.func101 ann_slices_ContainsFunc___float64_float64_ Try.call101 fun args o v h ho => by
  unfold S_slices_ContainsFunc___float64_float64_ at h
  split at h
  · rename_i an
    cases h
    have hn := ho
    have n0 := hn
    simp only [Ob.ok] at n0
    replace n0 := nrm_fun n0
    have this := show outB (evFnM Try.prog false menv52 [] [] 96 Ann.no Try.f101 [AV.view 5 1 (fun i => mkN [Ck.f] (an i) 0), AV.func 102 [] []] []) = _ from e_slices_ContainsFunc___float64_float64_ (fL an 0)
    rw [(ob_slices_ContainsFunc___float64_float64_ (fL an 0))] at this
    rw [n0] at this
    exact ⟨this, rfl⟩
  · cases h
def c_slices_ContainsFunc___float64_float64_ : SFM := fun args => match S_slices_ContainsFunc___float64_float64_ args with | some (o, v) => some (o, v, []) | none => none
theorem c_slices_ContainsFunc___float64_float64__ok : SOkM Try.prog false (101, c_slices_ContainsFunc___float64_float64_) := t_slices_ContainsFunc___float64_float64_
def mss53 : List (FuncId × SFM) := (101, c_slices_ContainsFunc___float64_float64_) :: mss52
def menv53 : EnvM := mkEnvM mxs mss53 mws1
theorem mss53_ok : All (SOkM Try.prog false) mss53 := All.cons c_slices_ContainsFunc___float64_float64__ok mss52_ok
theorem menv53_ok : menv53.Ok Try.prog false := mkEnvM_ok mxs_ok mss53_ok mws1_ok
-- tumble/rows.finite
theorem ann_rows_finite : FnOk Try.prog false 0 Try.f91 Ann.no := (fnNo _)
def s_rows_finite_0 (k : Nat → Nat) : Bool := (!(s_slices_ContainsFunc___float64_float64__0 k))
theorem e_rows_finite (k : Nat → Nat) : outB (evFnM Try.prog false menv53 [] [] 96 Ann.no Try.f91 [AV.view 5 1 (fun i0 => [AV.float (k i0)])] []) = some ((allB fun _ => true), AV.bool (s_rows_finite_0 k)) := by kernel_rfl
def S_rows_finite : List AV → Option (Ob × AV)
  | [AV.view 5 1 an] => some (Ob.bit (allB fun i => isNrm [Ck.f] (an i)), AV.bool (s_rows_finite_0 (fL an 0)))
  | _ => none
theorem ob_rows_finite (k : Nat → Nat) : (allB fun _ => true) = true := by (try simp only [allB_true, eqT_self, mrgB_self, Bool.true_and, Bool.and_true]) <;> first | rfl | simp
theorem t_rows_finite : SOkM Try.prog false (91, fun args => match S_rows_finite args with | some (o, v) => some (o, v, []) | none => none) := SOkM.flat (N := 96) menv53_ok Try.func91 ann_rows_finite Try.call91 fun args o v h ho => by
  unfold S_rows_finite at h
  split at h
  · rename_i an
    cases h
    have hn := ho
    have n0 := hn
    simp only [Ob.ok] at n0
    replace n0 := nrm_fun n0
    have this := show outB (evFnM Try.prog false menv53 [] [] 96 Ann.no Try.f91 [AV.view 5 1 (fun i => mkN [Ck.f] (an i) 0)] []) = _ from e_rows_finite (fL an 0)
    rw [(ob_rows_finite (fL an 0))] at this
    rw [n0] at this
    exact ⟨this, rfl⟩
  · cases h
def c_rows_finite : SFM := fun args => match S_rows_finite args with | some (o, v) => some (o, v, []) | none => none
theorem c_rows_finite_ok : SOkM Try.prog false (91, c_rows_finite) := t_rows_finite
def mss54 : List (FuncId × SFM) := (91, c_rows_finite) :: mss53
def menv54 : EnvM := mkEnvM mxs mss54 mws1
theorem mss54_ok : All (SOkM Try.prog false) mss54 := All.cons c_rows_finite_ok mss53_ok
theorem menv54_ok : menv54.Ok Try.prog false := mkEnvM_ok mxs_ok mss54_ok mws1_ok
-- tumble/rows.fits
theorem ann_rows_fits : FnOk Try.prog false 0 Try.f82 Ann.no := (fnNo _)
def s_rows_fits_0 (l j : Int) (e L V Z aa ab W X Y M : Nat) (ad : Int) (ac : Nat) : Bool := ((((((ile (0 : Int) l) && (ile (0 : Int) j)) && (!(ieq l j))) && (s_vec_Finite_0 e L)) && (s_vec_Finite_0 V Z)) && ((((s_rows_finite_0 (fun j0 => (bif (Nat.beq j0 0) then aa else (bif (Nat.beq (j0 - 1) 0) then ab else (bif (Nat.beq ((j0 - 1) - 1) 0) then W else (bif (Nat.beq (((j0 - 1) - 1) - 1) 0) then M else ac)))))) && (fle 0 ac)) && (fle X Y)) && (ile (-1 : Int) ad)))
theorem e_rows_fits (l j : Int) (e L V Z aa ab W X Y M : Nat) (ad : Int) (ac : Nat) : outB (evFnM Try.prog false menv54 [] [] 96 Ann.no Try.f82 [AV.agg [AV.int .i64 l, AV.int .i64 j, AV.float e, AV.float L, AV.float V, AV.float Z, AV.float aa, AV.float ab, AV.float W, AV.float X, AV.float Y, AV.float M, AV.int .i64 ad, AV.float ac]] []) = some ((let x0 := s_rows_finite_0 (fun j0 => (bif (Nat.beq j0 0) then aa else (bif (Nat.beq (j0 - 1) 0) then ab else (bif (Nat.beq ((j0 - 1) - 1) 0) then W else (bif (Nat.beq (((j0 - 1) - 1) - 1) 0) then M else ac))))); let x1 := mrgB x0 (allB fun _ => true) (allB fun _ => true); let x2 := x0 && (fle 0 ac); let x3 := mrgB x2 x1 x1; (mrgB (((((ile (0 : Int) l) && (ile (0 : Int) j)) && (!(ieq l j))) && (s_vec_Finite_0 e L)) && (s_vec_Finite_0 V Z)) (mrgB (x2 && (fle X Y)) x3 x3) true)), AV.bool (s_rows_fits_0 l j e L V Z aa ab W X Y M ad ac)) := by kernel_rfl
def S_rows_fits : List AV → Option (Ob × AV)
  | [AV.agg [AV.int .i64 l, AV.int .i64 j, AV.float e, AV.float L, AV.float V, AV.float Z, AV.float aa, AV.float ab, AV.float W, AV.float X, AV.float Y, AV.float M, AV.int .i64 ad, AV.float ac]] => some (Ob.tt, AV.bool (s_rows_fits_0 l j e L V Z aa ab W X Y M ad ac))
  | _ => none
theorem ob_rows_fits (l j : Int) (e L V Z aa ab W X Y M : Nat) (ad : Int) (ac : Nat) : (let x0 := s_rows_finite_0 (fun j0 => (bif (Nat.beq j0 0) then aa else (bif (Nat.beq (j0 - 1) 0) then ab else (bif (Nat.beq ((j0 - 1) - 1) 0) then W else (bif (Nat.beq (((j0 - 1) - 1) - 1) 0) then M else ac))))); let x1 := mrgB x0 (allB fun _ => true) (allB fun _ => true); let x2 := x0 && (fle 0 ac); let x3 := mrgB x2 x1 x1; (mrgB (((((ile (0 : Int) l) && (ile (0 : Int) j)) && (!(ieq l j))) && (s_vec_Finite_0 e L)) && (s_vec_Finite_0 V Z)) (mrgB (x2 && (fle X Y)) x3 x3) true)) = true := by (try simp only [allB_true, eqT_self, mrgB_self, Bool.true_and, Bool.and_true]) <;> first | rfl | simp
theorem t_rows_fits : SOkM Try.prog false (82, fun args => match S_rows_fits args with | some (o, v) => some (o, v, []) | none => none) := SOkM.flat (N := 96) menv54_ok Try.func82 ann_rows_fits Try.call82 fun args o v h ho => by
  unfold S_rows_fits at h
  split at h
  · rename_i l j e L V Z aa ab W X Y M ad ac
    cases h
    have ho2 := ho
    have this := show outB (evFnM Try.prog false menv54 [] [] 96 Ann.no Try.f82 [AV.agg [AV.int .i64 l, AV.int .i64 j, AV.float e, AV.float L, AV.float V, AV.float Z, AV.float aa, AV.float ab, AV.float W, AV.float X, AV.float Y, AV.float M, AV.int .i64 ad, AV.float ac]] []) = _ from e_rows_fits l j e L V Z aa ab W X Y M ad ac
    rw [(ob_rows_fits l j e L V Z aa ab W X Y M ad ac)] at this
    exact ⟨this, rfl⟩
  · cases h
def c_rows_fits : SFM := fun args => match S_rows_fits args with | some (o, v) => some (o, v, []) | none => none
theorem c_rows_fits_ok : SOkM Try.prog false (82, c_rows_fits) := t_rows_fits
def mss55 : List (FuncId × SFM) := (82, c_rows_fits) :: mss54
def menv55 : EnvM := mkEnvM mxs mss55 mws1
theorem mss55_ok : All (SOkM Try.prog false) mss55 := All.cons c_rows_fits_ok mss54_ok
theorem menv55_ok : menv55.Ok Try.prog false := mkEnvM_ok mxs_ok mss55_ok mws1_ok
-- tumble/rows.Check
theorem ann_rows_Check : FnOk Try.prog false 0 Try.f53 Ann.no := (fnNo _)
def s_rows_Check_0 (l j : Int) (e L V Z aa ab W X Y M : Nat) (ad : Int) (ac : Nat) (ae af : Int) : Int := (bif (((!(s_rows_fits_0 l j e L V Z aa ab W X Y M ad ac)) || (ile af (if j > l then j else l))) || (ile ae ad)) then (200 : Int) else (0 : Int))
theorem e_rows_Check (l j : Int) (e L V Z aa ab W X Y M : Nat) (ad : Int) (ac : Nat) (ae af : Int) : outB (evFnM Try.prog false menv55 [] [] 96 Ann.no Try.f53 [AV.agg [AV.int .i64 l, AV.int .i64 j, AV.float e, AV.float L, AV.float V, AV.float Z, AV.float aa, AV.float ab, AV.float W, AV.float X, AV.float Y, AV.float M, AV.int .i64 ad, AV.float ac], AV.int .i64 ae, AV.int .i64 af] []) = some (true, AV.int .i64 (s_rows_Check_0 l j e L V Z aa ab W X Y M ad ac ae af)) := by kernel_rfl
def S_rows_Check : List AV → Option (Ob × AV)
  | [AV.agg [AV.int .i64 l, AV.int .i64 j, AV.float e, AV.float L, AV.float V, AV.float Z, AV.float aa, AV.float ab, AV.float W, AV.float X, AV.float Y, AV.float M, AV.int .i64 ad, AV.float ac], AV.int .i64 ae, AV.int .i64 af] => some (Ob.tt, AV.int .i64 (s_rows_Check_0 l j e L V Z aa ab W X Y M ad ac ae af))
  | _ => none
theorem t_rows_Check : SOkM Try.prog false (53, fun args => match S_rows_Check args with | some (o, v) => some (o, v, []) | none => none) := SOkM.flat (N := 96) menv55_ok Try.func53 ann_rows_Check Try.call53 fun args o v h ho => by
  unfold S_rows_Check at h
  split at h
  · rename_i l j e L V Z aa ab W X Y M ad ac ae af
    cases h
    have ho2 := ho
    have this := show outB (evFnM Try.prog false menv55 [] [] 96 Ann.no Try.f53 [AV.agg [AV.int .i64 l, AV.int .i64 j, AV.float e, AV.float L, AV.float V, AV.float Z, AV.float aa, AV.float ab, AV.float W, AV.float X, AV.float Y, AV.float M, AV.int .i64 ad, AV.float ac], AV.int .i64 ae, AV.int .i64 af] []) = _ from e_rows_Check l j e L V Z aa ab W X Y M ad ac ae af
    exact ⟨this, rfl⟩
  · cases h
def c_rows_Check : SFM := fun args => match S_rows_Check args with | some (o, v) => some (o, v, []) | none => none
theorem c_rows_Check_ok : SOkM Try.prog false (53, c_rows_Check) := t_rows_Check
def mss56 : List (FuncId × SFM) := (53, c_rows_Check) :: mss55
def menv56 : EnvM := mkEnvM mxs mss56 mws1
theorem mss56_ok : All (SOkM Try.prog false) mss56 := All.cons c_rows_Check_ok mss55_ok
theorem menv56_ok : menv56.Ok Try.prog false := mkEnvM_ok mxs_ok mss56_ok mws1_ok
-- tumble/solve.may
theorem ann_solve_may : FnOk Try.prog false 0 Try.f64 Ann.no := (fnNo _)
def s_solve_may_0 (l j e L V : Nat) : Bool := ((((s_num_Finite_float64__0 l) && (fle 0 l)) && (s_num_Finite_float64__0 j)) && (fle 0 j))
theorem e_solve_may (l j e L V : Nat) : outB (evFnM Try.prog false menv56 [] [] 96 Ann.no Try.f64 [AV.agg [AV.float l, AV.float j, AV.float e, AV.float L, AV.float V]] []) = some (true, AV.bool (s_solve_may_0 l j e L V)) := by kernel_rfl
def S_solve_may : List AV → Option (Ob × AV)
  | [AV.agg [AV.float l, AV.float j, AV.float e, AV.float L, AV.float V]] => some (Ob.tt, AV.bool (s_solve_may_0 l j e L V))
  | _ => none
theorem t_solve_may : SOkM Try.prog false (64, fun args => match S_solve_may args with | some (o, v) => some (o, v, []) | none => none) := SOkM.flat (N := 96) menv56_ok Try.func64 ann_solve_may Try.call64 fun args o v h ho => by
  unfold S_solve_may at h
  split at h
  · rename_i l j e L V
    cases h
    have ho2 := ho
    have this := show outB (evFnM Try.prog false menv56 [] [] 96 Ann.no Try.f64 [AV.agg [AV.float l, AV.float j, AV.float e, AV.float L, AV.float V]] []) = _ from e_solve_may l j e L V
    exact ⟨this, rfl⟩
  · cases h
def c_solve_may : SFM := fun args => match S_solve_may args with | some (o, v) => some (o, v, []) | none => none
theorem c_solve_may_ok : SOkM Try.prog false (64, c_solve_may) := t_solve_may
def mss57 : List (FuncId × SFM) := (64, c_solve_may) :: mss56
def menv57 : EnvM := mkEnvM mxs mss57 mws1
theorem mss57_ok : All (SOkM Try.prog false) mss57 := All.cons c_solve_may_ok mss56_ok
theorem menv57_ok : menv57.Ok Try.prog false := mkEnvM_ok mxs_ok mss57_ok mws1_ok
-- tumble/solve.asked$1
theorem ann_solve_asked_1 : FnOk Try.prog false 0 Try.f63 Ann.no := (fnNo _)
def s_solve_asked_1_0 (l j e L V : Nat) : Bool := (!(s_solve_may_0 l j e L V))
theorem e_solve_asked_1 (l j e L V : Nat) : outB (evFnM Try.prog false menv57 [] [] 96 Ann.no Try.f63 [AV.agg [AV.float l, AV.float j, AV.float e, AV.float L, AV.float V]] []) = some (true, AV.bool (s_solve_asked_1_0 l j e L V)) := by kernel_rfl
def S_solve_asked_1 : List AV → Option (Ob × AV)
  | [AV.agg [AV.float l, AV.float j, AV.float e, AV.float L, AV.float V]] => some (Ob.tt, AV.bool (s_solve_asked_1_0 l j e L V))
  | _ => none
theorem t_solve_asked_1 : SOkM Try.prog false (63, fun args => match S_solve_asked_1 args with | some (o, v) => some (o, v, []) | none => none) := SOkM.flat (N := 96) menv57_ok Try.func63 ann_solve_asked_1 Try.call63 fun args o v h ho => by
  unfold S_solve_asked_1 at h
  split at h
  · rename_i l j e L V
    cases h
    have ho2 := ho
    have this := show outB (evFnM Try.prog false menv57 [] [] 96 Ann.no Try.f63 [AV.agg [AV.float l, AV.float j, AV.float e, AV.float L, AV.float V]] []) = _ from e_solve_asked_1 l j e L V
    exact ⟨this, rfl⟩
  · cases h
def c_solve_asked_1 : SFM := fun args => match S_solve_asked_1 args with | some (o, v) => some (o, v, []) | none => none
theorem c_solve_asked_1_ok : SOkM Try.prog false (63, c_solve_asked_1) := t_solve_asked_1
def mss58 : List (FuncId × SFM) := (63, c_solve_asked_1) :: mss57
def menv58 : EnvM := mkEnvM mxs mss58 mws1
theorem mss58_ok : All (SOkM Try.prog false) mss58 := All.cons c_solve_asked_1_ok mss57_ok
theorem menv58_ok : menv58.Ok Try.prog false := mkEnvM_ok mxs_ok mss58_ok mws1_ok
-- slices.IndexFunc[[]tumble/api.Still,tumble/api.Still]
theorem ann_slices_IndexFunc___api_Still_api_Still_ : FnOk Try.prog false 0 Try.f88 Ann.no := (fnNo _)
def s_slices_IndexFunc___api_Still_api_Still__0 (k m p q r : Nat → Nat) : Int := (bif ((s_solve_asked_1_0 (k 0) (m 0) (p 0) (q 0) (r 0)) || (s_solve_asked_1_0 (k 1) (m 1) (p 1) (q 1) (r 1))) then (bif (s_solve_asked_1_0 (k 0) (m 0) (p 0) (q 0) (r 0)) then (0 : Int) else (1 : Int)) else (-1 : Int))
theorem e_slices_IndexFunc___api_Still_api_Still_ (k m p q r : Nat → Nat) : outB (evFnM Try.prog false menv58 [9] [] 96 Ann.no Try.f88 [AV.view 2 5 (fun i0 => [AV.float (k i0), AV.float (m i0), AV.float (p i0), AV.float (q i0), AV.float (r i0)]), AV.func 63 [] []] []) = some (true, AV.int .i64 (s_slices_IndexFunc___api_Still_api_Still__0 k m p q r)) := by kernel_rfl
def S_slices_IndexFunc___api_Still_api_Still_ : List AV → Option (Ob × AV)
  | [AV.view 2 5 an, AV.func 63 [] []] => some (Ob.bit (allB fun i => isNrm [Ck.f, Ck.f, Ck.f, Ck.f, Ck.f] (an i)), AV.int .i64 (s_slices_IndexFunc___api_Still_api_Still__0 (fL an 0) (fL an 1) (fL an 2) (fL an 3) (fL an 4)))
  | _ => none
theorem t_slices_IndexFunc___api_Still_api_Still_ : SOkM Try.prog false (88, fun args => match S_slices_IndexFunc___api_Still_api_Still_ args with | some (o, v) => some (o, v, []) | none => none) := SOkM.flat (N := 96) menv58_ok Try.func88 ann_slices_IndexFunc___api_Still_api_Still_ Try.call88 fun args o v h ho => by
  unfold S_slices_IndexFunc___api_Still_api_Still_ at h
  split at h
  · rename_i an
    cases h
    have hn := ho
    have n0 := hn
    simp only [Ob.ok] at n0
    replace n0 := nrm_fun n0
    have this := show outB (evFnM Try.prog false menv58 [9] [] 96 Ann.no Try.f88 [AV.view 2 5 (fun i => mkN [Ck.f, Ck.f, Ck.f, Ck.f, Ck.f] (an i) 0), AV.func 63 [] []] []) = _ from e_slices_IndexFunc___api_Still_api_Still_ (fL an 0) (fL an 1) (fL an 2) (fL an 3) (fL an 4)
    rw [n0] at this
    exact ⟨this, rfl⟩
  · cases h
def c_slices_IndexFunc___api_Still_api_Still_ : SFM := fun args => match S_slices_IndexFunc___api_Still_api_Still_ args with | some (o, v) => some (o, v, []) | none => none
theorem c_slices_IndexFunc___api_Still_api_Still__ok : SOkM Try.prog false (88, c_slices_IndexFunc___api_Still_api_Still_) := t_slices_IndexFunc___api_Still_api_Still_
def mss59 : List (FuncId × SFM) := (88, c_slices_IndexFunc___api_Still_api_Still_) :: mss58
def menv59 : EnvM := mkEnvM mxs mss59 mws1
theorem mss59_ok : All (SOkM Try.prog false) mss59 := All.cons c_slices_IndexFunc___api_Still_api_Still__ok mss58_ok
theorem menv59_ok : menv59.Ok Try.prog false := mkEnvM_ok mxs_ok mss59_ok mws1_ok
-- slices.ContainsFunc[[]tumble/api.Still,tumble/api.Still]
theorem ann_slices_ContainsFunc___api_Still_api_Still_ : FnOk Try.prog false 0 Try.f62 Ann.no := (fnNo _)
def s_slices_ContainsFunc___api_Still_api_Still__0 (k m p q r : Nat → Nat) : Bool := (ile (0 : Int) (s_slices_IndexFunc___api_Still_api_Still__0 k m p q r))
theorem e_slices_ContainsFunc___api_Still_api_Still_ (k m p q r : Nat → Nat) : outB (evFnM Try.prog false menv59 [] [] 96 Ann.no Try.f62 [AV.view 2 5 (fun i0 => [AV.float (k i0), AV.float (m i0), AV.float (p i0), AV.float (q i0), AV.float (r i0)]), AV.func 63 [] []] []) = some ((allB fun _ => true), AV.bool (s_slices_ContainsFunc___api_Still_api_Still__0 k m p q r)) := by kernel_rfl
def S_slices_ContainsFunc___api_Still_api_Still_ : List AV → Option (Ob × AV)
  | [AV.view 2 5 an, AV.func 63 [] []] => some (Ob.bit (allB fun i => isNrm [Ck.f, Ck.f, Ck.f, Ck.f, Ck.f] (an i)), AV.bool (s_slices_ContainsFunc___api_Still_api_Still__0 (fL an 0) (fL an 1) (fL an 2) (fL an 3) (fL an 4)))
  | _ => none
theorem ob_slices_ContainsFunc___api_Still_api_Still_ (k m p q r : Nat → Nat) : (allB fun _ => true) = true := by (try simp only [allB_true, eqT_self, mrgB_self, Bool.true_and, Bool.and_true]) <;> first | rfl | simp
theorem t_slices_ContainsFunc___api_Still_api_Still_ : SOkM Try.prog false (62, fun args => match S_slices_ContainsFunc___api_Still_api_Still_ args with | some (o, v) => some (o, v, []) | none => none) := SOkM.flat (N := 96) menv59_ok Try.func62 ann_slices_ContainsFunc___api_Still_api_Still_ Try.call62 fun args o v h ho => by
  unfold S_slices_ContainsFunc___api_Still_api_Still_ at h
  split at h
  · rename_i an
    cases h
    have hn := ho
    have n0 := hn
    simp only [Ob.ok] at n0
    replace n0 := nrm_fun n0
    have this := show outB (evFnM Try.prog false menv59 [] [] 96 Ann.no Try.f62 [AV.view 2 5 (fun i => mkN [Ck.f, Ck.f, Ck.f, Ck.f, Ck.f] (an i) 0), AV.func 63 [] []] []) = _ from e_slices_ContainsFunc___api_Still_api_Still_ (fL an 0) (fL an 1) (fL an 2) (fL an 3) (fL an 4)
    rw [(ob_slices_ContainsFunc___api_Still_api_Still_ (fL an 0) (fL an 1) (fL an 2) (fL an 3) (fL an 4))] at this
    rw [n0] at this
    exact ⟨this, rfl⟩
  · cases h
def c_slices_ContainsFunc___api_Still_api_Still_ : SFM := fun args => match S_slices_ContainsFunc___api_Still_api_Still_ args with | some (o, v) => some (o, v, []) | none => none
theorem c_slices_ContainsFunc___api_Still_api_Still__ok : SOkM Try.prog false (62, c_slices_ContainsFunc___api_Still_api_Still_) := t_slices_ContainsFunc___api_Still_api_Still_
def mss60 : List (FuncId × SFM) := (62, c_slices_ContainsFunc___api_Still_api_Still_) :: mss59
def menv60 : EnvM := mkEnvM mxs mss60 mws1
theorem mss60_ok : All (SOkM Try.prog false) mss60 := All.cons c_slices_ContainsFunc___api_Still_api_Still__ok mss59_ok
theorem menv60_ok : menv60.Ok Try.prog false := mkEnvM_ok mxs_ok mss60_ok mws1_ok
-- tumble/solve.asked
theorem ann_solve_asked : FnOk Try.prog false 0 Try.f36 Ann.no := (fnNo _)
def s_solve_asked_0 (k m : Nat → Int) (p q r F I J O P Q R : Nat → Nat) (S : Nat → Int) (U u E z C D : Nat → Nat) : Int := let x0 := s_rows_Check_0 (k 0) (m 0) (p 0) (q 0) (r 0) (F 0) (I 0) (J 0) (O 0) (P 0) (Q 0) (R 0) (S 0) (U 0) (1 : Int) (2 : Int); (bif (!(ieq x0 (0 : Int))) then x0 else (bif (!(s_slices_ContainsFunc___api_Still_api_Still__0 u E z C D)) then (0 : Int) else (200 : Int)))
theorem e_solve_asked (k m : Nat → Int) (p q r F I J O P Q R : Nat → Nat) (S : Nat → Int) (U u E z C D : Nat → Nat) : outB (evFnM Try.prog false menv60 [15, 19] [] 96 Ann.no Try.f36 [AV.view 1 14 (fun i0 => [AV.int .i64 (k i0), AV.int .i64 (m i0), AV.float (p i0), AV.float (q i0), AV.float (r i0), AV.float (F i0), AV.float (I i0), AV.float (J i0), AV.float (O i0), AV.float (P i0), AV.float (Q i0), AV.float (R i0), AV.int .i64 (S i0), AV.float (U i0)]), AV.view 2 5 (fun i0 => [AV.float (u i0), AV.float (E i0), AV.float (z i0), AV.float (C i0), AV.float (D i0)])] []) = some ((mrgB (!(ieq (s_rows_Check_0 (k 0) (m 0) (p 0) (q 0) (r 0) (F 0) (I 0) (J 0) (O 0) (P 0) (Q 0) (R 0) (S 0) (U 0) (1 : Int) (2 : Int)) (0 : Int))) true (mrgB (!(s_slices_ContainsFunc___api_Still_api_Still__0 u E z C D)) ((allB fun _ => true) && true) ((allB fun _ => true) && true))), AV.int .i64 (s_solve_asked_0 k m p q r F I J O P Q R S U u E z C D)) := by kernel_rfl
def S_solve_asked : List AV → Option (Ob × AV)
  | [AV.view 1 14 an, AV.view 2 5 ar] => some (Ob.bit ((allB fun i => isNrm [Ck.i .i64, Ck.i .i64, Ck.f, Ck.f, Ck.f, Ck.f, Ck.f, Ck.f, Ck.f, Ck.f, Ck.f, Ck.f, Ck.i .i64, Ck.f] (an i)) && (allB fun i => isNrm [Ck.f, Ck.f, Ck.f, Ck.f, Ck.f] (ar i))), AV.int .i64 (s_solve_asked_0 (iL an 0) (iL an 1) (fL an 2) (fL an 3) (fL an 4) (fL an 5) (fL an 6) (fL an 7) (fL an 8) (fL an 9) (fL an 10) (fL an 11) (iL an 12) (fL an 13) (fL ar 0) (fL ar 1) (fL ar 2) (fL ar 3) (fL ar 4)))
  | _ => none
theorem ob_solve_asked (k m : Nat → Int) (p q r F I J O P Q R : Nat → Nat) (S : Nat → Int) (U u E z C D : Nat → Nat) : (mrgB (!(ieq (s_rows_Check_0 (k 0) (m 0) (p 0) (q 0) (r 0) (F 0) (I 0) (J 0) (O 0) (P 0) (Q 0) (R 0) (S 0) (U 0) (1 : Int) (2 : Int)) (0 : Int))) true (mrgB (!(s_slices_ContainsFunc___api_Still_api_Still__0 u E z C D)) ((allB fun _ => true) && true) ((allB fun _ => true) && true))) = true := by (try simp only [allB_true, eqT_self, mrgB_self, Bool.true_and, Bool.and_true]) <;> first | rfl | simp
theorem t_solve_asked : SOkM Try.prog false (36, fun args => match S_solve_asked args with | some (o, v) => some (o, v, []) | none => none) := SOkM.flat (N := 96) menv60_ok Try.func36 ann_solve_asked Try.call36 fun args o v h ho => by
  unfold S_solve_asked at h
  split at h
  · rename_i an ar
    cases h
    have hn := ho
    simp only [Ob.ok, Bool.and_eq_true] at hn
    obtain ⟨n0, n1⟩ := hn
    replace n0 := nrm_fun n0
    replace n1 := nrm_fun n1
    have this := show outB (evFnM Try.prog false menv60 [15, 19] [] 96 Ann.no Try.f36 [AV.view 1 14 (fun i => mkN [Ck.i .i64, Ck.i .i64, Ck.f, Ck.f, Ck.f, Ck.f, Ck.f, Ck.f, Ck.f, Ck.f, Ck.f, Ck.f, Ck.i .i64, Ck.f] (an i) 0), AV.view 2 5 (fun i => mkN [Ck.f, Ck.f, Ck.f, Ck.f, Ck.f] (ar i) 0)] []) = _ from e_solve_asked (iL an 0) (iL an 1) (fL an 2) (fL an 3) (fL an 4) (fL an 5) (fL an 6) (fL an 7) (fL an 8) (fL an 9) (fL an 10) (fL an 11) (iL an 12) (fL an 13) (fL ar 0) (fL ar 1) (fL ar 2) (fL ar 3) (fL ar 4)
    rw [(ob_solve_asked (iL an 0) (iL an 1) (fL an 2) (fL an 3) (fL an 4) (fL an 5) (fL an 6) (fL an 7) (fL an 8) (fL an 9) (fL an 10) (fL an 11) (iL an 12) (fL an 13) (fL ar 0) (fL ar 1) (fL ar 2) (fL ar 3) (fL ar 4))] at this
    rw [n0, n1] at this
    exact ⟨this, rfl⟩
  · cases h
def c_solve_asked : SFM := fun args => match S_solve_asked args with | some (o, v) => some (o, v, []) | none => none
theorem c_solve_asked_ok : SOkM Try.prog false (36, c_solve_asked) := t_solve_asked
def mss61 : List (FuncId × SFM) := (36, c_solve_asked) :: mss60
def menv61 : EnvM := mkEnvM mxs mss61 mws1
theorem mss61_ok : All (SOkM Try.prog false) mss61 := All.cons c_solve_asked_ok mss60_ok
theorem menv61_ok : menv61.Ok Try.prog false := mkEnvM_ok mxs_ok mss61_ok mws1_ok
-- slices.IndexFunc[[]float64,float64]
theorem ann_slices_IndexFunc___float64_float64__v1 : FnOk Try.prog false 0 Try.f105 Ann.no := (fnNo _)
def s_slices_IndexFunc___float64_float64__v1_0 (k : Nat → Nat) : Int := (bif ((s_rows_finite_1_0 (k 0)) || (s_rows_finite_1_0 (k 1))) then (bif (s_rows_finite_1_0 (k 0)) then (0 : Int) else (1 : Int)) else (-1 : Int))
theorem e_slices_IndexFunc___float64_float64__v1 (k : Nat → Nat) : outB (evFnM Try.prog false menv61 [9] [] 96 Ann.no Try.f105 [AV.view 2 1 (fun i0 => [AV.float (k i0)]), AV.func 102 [] []] []) = some (true, AV.int .i64 (s_slices_IndexFunc___float64_float64__v1_0 k)) := by kernel_rfl
def S_slices_IndexFunc___float64_float64__v1 : List AV → Option (Ob × AV)
  | [AV.view 2 1 an, AV.func 102 [] []] => some (Ob.bit (allB fun i => isNrm [Ck.f] (an i)), AV.int .i64 (s_slices_IndexFunc___float64_float64__v1_0 (fL an 0)))
  | _ => none
theorem t_slices_IndexFunc___float64_float64__v1 : SOkM Try.prog false (105, fun args => match S_slices_IndexFunc___float64_float64__v1 args with | some (o, v) => some (o, v, []) | none => none) := SOkM.flat (N := 96) menv61_ok Try.func105 ann_slices_IndexFunc___float64_float64__v1 Try.call105 fun args o v h ho => by
  unfold S_slices_IndexFunc___float64_float64__v1 at h
  split at h
  · rename_i an
    cases h
    have hn := ho
    have n0 := hn
    simp only [Ob.ok] at n0
    replace n0 := nrm_fun n0
    have this := show outB (evFnM Try.prog false menv61 [9] [] 96 Ann.no Try.f105 [AV.view 2 1 (fun i => mkN [Ck.f] (an i) 0), AV.func 102 [] []] []) = _ from e_slices_IndexFunc___float64_float64__v1 (fL an 0)
    rw [n0] at this
    exact ⟨this, rfl⟩
  · cases h
def c_slices_IndexFunc___float64_float64__v1 : SFM := altS (fun args => match S_slices_IndexFunc___float64_float64__v1 args with | some (o, v) => some (o, v, []) | none => none) (c_slices_IndexFunc___float64_float64_)
theorem c_slices_IndexFunc___float64_float64__v1_ok : SOkM Try.prog false (105, c_slices_IndexFunc___float64_float64__v1) := (SOkM.alt t_slices_IndexFunc___float64_float64__v1 c_slices_IndexFunc___float64_float64__ok)
def mss62 : List (FuncId × SFM) := (105, c_slices_IndexFunc___float64_float64__v1) :: mss61
def menv62 : EnvM := mkEnvM mxs mss62 mws1
theorem mss62_ok : All (SOkM Try.prog false) mss62 := All.cons c_slices_IndexFunc___float64_float64__v1_ok mss61_ok
theorem menv62_ok : menv62.Ok Try.prog false := mkEnvM_ok mxs_ok mss62_ok mws1_ok
-- slices.ContainsFunc[[]float64,float64]
theorem ann_slices_ContainsFunc___float64_float64__v1 : FnOk Try.prog false 0 Try.f101 Ann.no := (fnNo _)
def s_slices_ContainsFunc___float64_float64__v1_0 (k : Nat → Nat) : Bool := (ile (0 : Int) (s_slices_IndexFunc___float64_float64__v1_0 k))
theorem e_slices_ContainsFunc___float64_float64__v1 (k : Nat → Nat) : outB (evFnM Try.prog false menv62 [] [] 96 Ann.no Try.f101 [AV.view 2 1 (fun i0 => [AV.float (k i0)]), AV.func 102 [] []] []) = some ((allB fun _ => true), AV.bool (s_slices_ContainsFunc___float64_float64__v1_0 k)) := by kernel_rfl
def S_slices_ContainsFunc___float64_float64__v1 : List AV → Option (Ob × AV)
  | [AV.view 2 1 an, AV.func 102 [] []] => some (Ob.bit (allB fun i => isNrm [Ck.f] (an i)), AV.bool (s_slices_ContainsFunc___float64_float64__v1_0 (fL an 0)))
  | _ => none
theorem ob_slices_ContainsFunc___float64_float64__v1 (k : Nat → Nat) : (allB fun _ => true) = true := by (try simp only [allB_true, eqT_self, mrgB_self, Bool.true_and, Bool.and_true]) <;> first | rfl | simp
theorem t_slices_ContainsFunc___float64_float64__v1 : SOkM Try.prog false (101, fun args => match S_slices_ContainsFunc___float64_float64__v1 args with | some (o, v) => some (o, v, []) | none => none) := SOkM.flat (N := 96) menv62_ok Try.func101 ann_slices_ContainsFunc___float64_float64__v1 Try.call101 fun args o v h ho => by
  unfold S_slices_ContainsFunc___float64_float64__v1 at h
  split at h
  · rename_i an
    cases h
    have hn := ho
    have n0 := hn
    simp only [Ob.ok] at n0
    replace n0 := nrm_fun n0
    have this := show outB (evFnM Try.prog false menv62 [] [] 96 Ann.no Try.f101 [AV.view 2 1 (fun i => mkN [Ck.f] (an i) 0), AV.func 102 [] []] []) = _ from e_slices_ContainsFunc___float64_float64__v1 (fL an 0)
    rw [(ob_slices_ContainsFunc___float64_float64__v1 (fL an 0))] at this
    rw [n0] at this
    exact ⟨this, rfl⟩
  · cases h
def c_slices_ContainsFunc___float64_float64__v1 : SFM := altS (fun args => match S_slices_ContainsFunc___float64_float64__v1 args with | some (o, v) => some (o, v, []) | none => none) (c_slices_ContainsFunc___float64_float64_)
theorem c_slices_ContainsFunc___float64_float64__v1_ok : SOkM Try.prog false (101, c_slices_ContainsFunc___float64_float64__v1) := (SOkM.alt t_slices_ContainsFunc___float64_float64__v1 c_slices_ContainsFunc___float64_float64__ok)
def mss63 : List (FuncId × SFM) := (101, c_slices_ContainsFunc___float64_float64__v1) :: mss62
def menv63 : EnvM := mkEnvM mxs mss63 mws1
theorem mss63_ok : All (SOkM Try.prog false) mss63 := All.cons c_slices_ContainsFunc___float64_float64__v1_ok mss62_ok
theorem menv63_ok : menv63.Ok Try.prog false := mkEnvM_ok mxs_ok mss63_ok mws1_ok
-- tumble/rows.finite
theorem ann_rows_finite_v1 : FnOk Try.prog false 0 Try.f91 Ann.no := (fnNo _)
def s_rows_finite_v1_0 (k : Nat → Nat) : Bool := (!(s_slices_ContainsFunc___float64_float64__v1_0 k))
theorem e_rows_finite_v1 (k : Nat → Nat) : outB (evFnM Try.prog false menv63 [] [] 96 Ann.no Try.f91 [AV.view 2 1 (fun i0 => [AV.float (k i0)])] []) = some ((allB fun _ => true), AV.bool (s_rows_finite_v1_0 k)) := by kernel_rfl
def S_rows_finite_v1 : List AV → Option (Ob × AV)
  | [AV.view 2 1 an] => some (Ob.bit (allB fun i => isNrm [Ck.f] (an i)), AV.bool (s_rows_finite_v1_0 (fL an 0)))
  | _ => none
theorem ob_rows_finite_v1 (k : Nat → Nat) : (allB fun _ => true) = true := by (try simp only [allB_true, eqT_self, mrgB_self, Bool.true_and, Bool.and_true]) <;> first | rfl | simp
theorem t_rows_finite_v1 : SOkM Try.prog false (91, fun args => match S_rows_finite_v1 args with | some (o, v) => some (o, v, []) | none => none) := SOkM.flat (N := 96) menv63_ok Try.func91 ann_rows_finite_v1 Try.call91 fun args o v h ho => by
  unfold S_rows_finite_v1 at h
  split at h
  · rename_i an
    cases h
    have hn := ho
    have n0 := hn
    simp only [Ob.ok] at n0
    replace n0 := nrm_fun n0
    have this := show outB (evFnM Try.prog false menv63 [] [] 96 Ann.no Try.f91 [AV.view 2 1 (fun i => mkN [Ck.f] (an i) 0)] []) = _ from e_rows_finite_v1 (fL an 0)
    rw [(ob_rows_finite_v1 (fL an 0))] at this
    rw [n0] at this
    exact ⟨this, rfl⟩
  · cases h
def c_rows_finite_v1 : SFM := altS (fun args => match S_rows_finite_v1 args with | some (o, v) => some (o, v, []) | none => none) (c_rows_finite)
theorem c_rows_finite_v1_ok : SOkM Try.prog false (91, c_rows_finite_v1) := (SOkM.alt t_rows_finite_v1 c_rows_finite_ok)
def mss64 : List (FuncId × SFM) := (91, c_rows_finite_v1) :: mss63
def menv64 : EnvM := mkEnvM mxs mss64 mws1
theorem mss64_ok : All (SOkM Try.prog false) mss64 := All.cons c_rows_finite_v1_ok mss63_ok
theorem menv64_ok : menv64.Ok Try.prog false := mkEnvM_ok mxs_ok mss64_ok mws1_ok
-- tumble/rows.rests
theorem ann_rows_rests : FnOk Try.prog false 0 Try.f86 Ann.no := (fnNo _)
def s_rows_rests_0 (l j e L V : Nat) : Bool := (((s_rows_finite_v1_0 (fun j0 => (bif (Nat.beq j0 0) then l else j))) && (fle 0 l)) && (fle 0 j))
theorem e_rows_rests (l j e L V : Nat) : outB (evFnM Try.prog false menv64 [] [] 96 Ann.no Try.f86 [AV.agg [AV.float l, AV.float j, AV.float e, AV.float L, AV.float V]] []) = some ((mrgB ((s_rows_finite_v1_0 (fun j0 => (bif (Nat.beq j0 0) then l else j))) && (fle 0 l)) (mrgB (s_rows_finite_v1_0 (fun j0 => (bif (Nat.beq j0 0) then l else j))) (allB fun _ => true) (allB fun _ => true)) (mrgB (s_rows_finite_v1_0 (fun j0 => (bif (Nat.beq j0 0) then l else j))) (allB fun _ => true) (allB fun _ => true))), AV.bool (s_rows_rests_0 l j e L V)) := by kernel_rfl
def S_rows_rests : List AV → Option (Ob × AV)
  | [AV.agg [AV.float l, AV.float j, AV.float e, AV.float L, AV.float V]] => some (Ob.tt, AV.bool (s_rows_rests_0 l j e L V))
  | _ => none
theorem ob_rows_rests (l j e L V : Nat) : (mrgB ((s_rows_finite_v1_0 (fun j0 => (bif (Nat.beq j0 0) then l else j))) && (fle 0 l)) (mrgB (s_rows_finite_v1_0 (fun j0 => (bif (Nat.beq j0 0) then l else j))) (allB fun _ => true) (allB fun _ => true)) (mrgB (s_rows_finite_v1_0 (fun j0 => (bif (Nat.beq j0 0) then l else j))) (allB fun _ => true) (allB fun _ => true))) = true := by (try simp only [allB_true, eqT_self, mrgB_self, Bool.true_and, Bool.and_true]) <;> first | rfl | simp
theorem t_rows_rests : SOkM Try.prog false (86, fun args => match S_rows_rests args with | some (o, v) => some (o, v, []) | none => none) := SOkM.flat (N := 96) menv64_ok Try.func86 ann_rows_rests Try.call86 fun args o v h ho => by
  unfold S_rows_rests at h
  split at h
  · rename_i l j e L V
    cases h
    have ho2 := ho
    have this := show outB (evFnM Try.prog false menv64 [] [] 96 Ann.no Try.f86 [AV.agg [AV.float l, AV.float j, AV.float e, AV.float L, AV.float V]] []) = _ from e_rows_rests l j e L V
    rw [(ob_rows_rests l j e L V)] at this
    exact ⟨this, rfl⟩
  · cases h
def c_rows_rests : SFM := fun args => match S_rows_rests args with | some (o, v) => some (o, v, []) | none => none
theorem c_rows_rests_ok : SOkM Try.prog false (86, c_rows_rests) := t_rows_rests
def mss65 : List (FuncId × SFM) := (86, c_rows_rests) :: mss64
def menv65 : EnvM := mkEnvM mxs mss65 mws1
theorem mss65_ok : All (SOkM Try.prog false) mss65 := All.cons c_rows_rests_ok mss64_ok
theorem menv65_ok : menv65.Ok Try.prog false := mkEnvM_ok mxs_ok mss65_ok mws1_ok
-- tumble/rows.asked
theorem ann_rows_asked : FnOk Try.prog false 0 Try.f60 Ann.no := (fnNo _)
def s_rows_asked_0 (l j : Int) (e L V Z aa ab W X Y M : Nat) (ad : Int) (ac ae af ah ai ak ag aj al am ao : Nat) : Int := (bif (((!(s_rows_fits_0 l j e L V Z aa ab W X Y M ad ac)) || (!(s_rows_rests_0 ae af ah ai ak))) || (!(s_rows_rests_0 ag aj al am ao))) then (200 : Int) else (0 : Int))
theorem e_rows_asked (l j : Int) (e L V Z aa ab W X Y M : Nat) (ad : Int) (ac ae af ah ai ak ag aj al am ao : Nat) : outB (evFnM Try.prog false menv65 [] [] 96 Ann.no Try.f60 [AV.agg [AV.int .i64 l, AV.int .i64 j, AV.float e, AV.float L, AV.float V, AV.float Z, AV.float aa, AV.float ab, AV.float W, AV.float X, AV.float Y, AV.float M, AV.int .i64 ad, AV.float ac], AV.agg [AV.float ae, AV.float af, AV.float ah, AV.float ai, AV.float ak], AV.agg [AV.float ag, AV.float aj, AV.float al, AV.float am, AV.float ao]] []) = some (true, AV.int .i64 (s_rows_asked_0 l j e L V Z aa ab W X Y M ad ac ae af ah ai ak ag aj al am ao)) := by kernel_rfl
def S_rows_asked : List AV → Option (Ob × AV)
  | [AV.agg [AV.int .i64 l, AV.int .i64 j, AV.float e, AV.float L, AV.float V, AV.float Z, AV.float aa, AV.float ab, AV.float W, AV.float X, AV.float Y, AV.float M, AV.int .i64 ad, AV.float ac], AV.agg [AV.float ae, AV.float af, AV.float ah, AV.float ai, AV.float ak], AV.agg [AV.float ag, AV.float aj, AV.float al, AV.float am, AV.float ao]] => some (Ob.tt, AV.int .i64 (s_rows_asked_0 l j e L V Z aa ab W X Y M ad ac ae af ah ai ak ag aj al am ao))
  | _ => none
theorem t_rows_asked : SOkM Try.prog false (60, fun args => match S_rows_asked args with | some (o, v) => some (o, v, []) | none => none) := SOkM.flat (N := 96) menv65_ok Try.func60 ann_rows_asked Try.call60 fun args o v h ho => by
  unfold S_rows_asked at h
  split at h
  · rename_i l j e L V Z aa ab W X Y M ad ac ae af ah ai ak ag aj al am ao
    cases h
    have ho2 := ho
    have this := show outB (evFnM Try.prog false menv65 [] [] 96 Ann.no Try.f60 [AV.agg [AV.int .i64 l, AV.int .i64 j, AV.float e, AV.float L, AV.float V, AV.float Z, AV.float aa, AV.float ab, AV.float W, AV.float X, AV.float Y, AV.float M, AV.int .i64 ad, AV.float ac], AV.agg [AV.float ae, AV.float af, AV.float ah, AV.float ai, AV.float ak], AV.agg [AV.float ag, AV.float aj, AV.float al, AV.float am, AV.float ao]] []) = _ from e_rows_asked l j e L V Z aa ab W X Y M ad ac ae af ah ai ak ag aj al am ao
    exact ⟨this, rfl⟩
  · cases h
def c_rows_asked : SFM := fun args => match S_rows_asked args with | some (o, v) => some (o, v, []) | none => none
theorem c_rows_asked_ok : SOkM Try.prog false (60, c_rows_asked) := t_rows_asked
def mss66 : List (FuncId × SFM) := (60, c_rows_asked) :: mss65
def menv66 : EnvM := mkEnvM mxs mss66 mws1
theorem mss66_ok : All (SOkM Try.prog false) mss66 := All.cons c_rows_asked_ok mss65_ok
theorem menv66_ok : menv66.Ok Try.prog false := mkEnvM_ok mxs_ok mss66_ok mws1_ok
-- tumble/vec.More
theorem ann_vec_More : FnOk Try.prog false 0 Try.f90 Ann.no := (fnNo _)
def s_vec_More_0 (l j e L V : Nat) : Nat := (fadd l (fmul e L))
def s_vec_More_1 (l j e L V : Nat) : Nat := (fadd j (fmul e V))
theorem e_vec_More (l j e L V : Nat) : outB (evFnM Try.prog false menv66 [] [] 96 Ann.no Try.f90 [AV.agg [AV.float l, AV.float j], AV.float e, AV.agg [AV.float L, AV.float V]] []) = some (true, AV.agg [AV.float (s_vec_More_0 l j e L V), AV.float (s_vec_More_1 l j e L V)]) := by kernel_rfl
def S_vec_More : List AV → Option (Ob × AV)
  | [AV.agg [AV.float l, AV.float j], AV.float e, AV.agg [AV.float L, AV.float V]] => some (Ob.tt, AV.agg [AV.float (s_vec_More_0 l j e L V), AV.float (s_vec_More_1 l j e L V)])
  | _ => none
theorem t_vec_More : SOkM Try.prog false (90, fun args => match S_vec_More args with | some (o, v) => some (o, v, []) | none => none) := SOkM.flat (N := 96) menv66_ok Try.func90 ann_vec_More Try.call90 fun args o v h ho => by
  unfold S_vec_More at h
  split at h
  · rename_i l j e L V
    cases h
    have ho2 := ho
    have this := show outB (evFnM Try.prog false menv66 [] [] 96 Ann.no Try.f90 [AV.agg [AV.float l, AV.float j], AV.float e, AV.agg [AV.float L, AV.float V]] []) = _ from e_vec_More l j e L V
    exact ⟨this, rfl⟩
  · cases h
def c_vec_More : SFM := fun args => match S_vec_More args with | some (o, v) => some (o, v, []) | none => none
theorem c_vec_More_ok : SOkM Try.prog false (90, c_vec_More) := t_vec_More
def mss67 : List (FuncId × SFM) := (90, c_vec_More) :: mss66
def menv67 : EnvM := mkEnvM mxs mss67 mws1
theorem mss67_ok : All (SOkM Try.prog false) mss67 := All.cons c_vec_More_ok mss66_ok
theorem menv67_ok : menv67.Ok Try.prog false := mkEnvM_ok mxs_ok mss67_ok mws1_ok
-- tumble/rows.pushed
theorem ann_rows_pushed : FnOk Try.prog false 0 Try.f65 Ann.no := (fnNo _)
def s_rows_pushed_0 (l j : Int) (e L V Z aa ab W X Y M : Nat) (ad : Int) (ac ae af ah ai ak ag aj al am ao bv : Nat) : Nat := ae
def s_rows_pushed_1 (l j : Int) (e L V Z aa ab W X Y M : Nat) (ad : Int) (ac ae af ah ai ak ag aj al am ao bv : Nat) : Nat := af
def s_rows_pushed_2 (l j : Int) (e L V Z aa ab W X Y M : Nat) (ad : Int) (ac ae af ah ai ak ag aj al am ao bv : Nat) : Nat := (bif (!(feq (bif (!(feq af 0)) then (bif (!(feq ae 0)) then ag else ag) else (bif (!(feq ae 0)) then ag else ag)) 0)) then (bif (!(feq ae 0)) then (s_vec_More_0 ah ai (fmul ae bv) e L) else ah) else (bif (!(feq ae 0)) then (s_vec_More_0 ah ai (fmul ae bv) e L) else ah))
def s_rows_pushed_3 (l j : Int) (e L V Z aa ab W X Y M : Nat) (ad : Int) (ac ae af ah ai ak ag aj al am ao bv : Nat) : Nat := (bif (!(feq (bif (!(feq af 0)) then (bif (!(feq ae 0)) then ag else ag) else (bif (!(feq ae 0)) then ag else ag)) 0)) then (bif (!(feq ae 0)) then (s_vec_More_1 ah ai (fmul ae bv) e L) else ai) else (bif (!(feq ae 0)) then (s_vec_More_1 ah ai (fmul ae bv) e L) else ai))
def s_rows_pushed_4 (l j : Int) (e L V Z aa ab W X Y M : Nat) (ad : Int) (ac ae af ah ai ak ag aj al am ao bv : Nat) : Nat := let x0 := !(feq ae 0); let x1 := bif x0 then ak else ak; let x2 := !(feq af 0); let x3 := bif x2 then (fadd x1 (fmul af (fmul bv aa))) else x1; let x4 := bif x0 then ag else ag; let x5 := !(feq (bif x2 then x4 else x4) 0); let x6 := bif x5 then x3 else x3; let x7 := bif x0 then aj else aj; let x8 := bif x2 then x7 else x7; (bif (!(feq (bif x5 then x8 else x8) 0)) then x6 else x6)
def s_rows_pushed_5 (l j : Int) (e L V Z aa ab W X Y M : Nat) (ad : Int) (ac ae af ah ai ak ag aj al am ao bv : Nat) : Nat := let x0 := !(feq ae 0); let x1 := bif x0 then ag else ag; let x2 := !(feq af 0); let x3 := bif x2 then x1 else x1; let x4 := !(feq x3 0); let x5 := bif x4 then x3 else x3; let x6 := bif x0 then aj else aj; let x7 := bif x2 then x6 else x6; (bif (!(feq (bif x4 then x7 else x7) 0)) then x5 else x5)
def s_rows_pushed_6 (l j : Int) (e L V Z aa ab W X Y M : Nat) (ad : Int) (ac ae af ah ai ak ag aj al am ao bv : Nat) : Nat := let x0 := !(feq ae 0); let x1 := bif x0 then aj else aj; let x2 := !(feq af 0); let x3 := bif x2 then x1 else x1; let x4 := bif x0 then ag else ag; let x5 := bif (!(feq (bif x2 then x4 else x4) 0)) then x3 else x3; (bif (!(feq x5 0)) then x5 else x5)
def s_rows_pushed_7 (l j : Int) (e L V Z aa ab W X Y M : Nat) (ad : Int) (ac ae af ah ai ak ag aj al am ao bv : Nat) : Nat := let x0 := !(feq ae 0); let x1 := bif x0 then al else al; let x2 := !(feq af 0); let x3 := bif x2 then x1 else x1; let x4 := bif x0 then ag else ag; let x5 := bif x2 then x4 else x4; let x6 := bif x0 then am else am; let x7 := !(feq x5 0); let x8 := bif x7 then (s_vec_More_0 x3 (bif x2 then x6 else x6) (fmul x5 bv) V Z) else x3; let x9 := bif x0 then aj else aj; let x10 := bif x2 then x9 else x9; (bif (!(feq (bif x7 then x10 else x10) 0)) then x8 else x8)
def s_rows_pushed_8 (l j : Int) (e L V Z aa ab W X Y M : Nat) (ad : Int) (ac ae af ah ai ak ag aj al am ao bv : Nat) : Nat := let x0 := !(feq ae 0); let x1 := bif x0 then am else am; let x2 := !(feq af 0); let x3 := bif x2 then x1 else x1; let x4 := bif x0 then ag else ag; let x5 := bif x2 then x4 else x4; let x6 := bif x0 then al else al; let x7 := !(feq x5 0); let x8 := bif x7 then (s_vec_More_1 (bif x2 then x6 else x6) x3 (fmul x5 bv) V Z) else x3; let x9 := bif x0 then aj else aj; let x10 := bif x2 then x9 else x9; (bif (!(feq (bif x7 then x10 else x10) 0)) then x8 else x8)
def s_rows_pushed_9 (l j : Int) (e L V Z aa ab W X Y M : Nat) (ad : Int) (ac ae af ah ai ak ag aj al am ao bv : Nat) : Nat := let x0 := !(feq ae 0); let x1 := bif x0 then ao else ao; let x2 := !(feq af 0); let x3 := bif x2 then x1 else x1; let x4 := bif x0 then ag else ag; let x5 := !(feq (bif x2 then x4 else x4) 0); let x6 := bif x5 then x3 else x3; let x7 := bif x0 then aj else aj; let x8 := bif x2 then x7 else x7; let x9 := bif x5 then x8 else x8; (bif (!(feq x9 0)) then (fadd x6 (fmul x9 (fmul bv ab))) else x6)
def r_rows_pushed (l j : Int) (e L V Z aa ab W X Y M : Nat) (ad : Int) (ac ae af ah ai ak ag aj al am ao bv : Nat) : AV := AV.tup [AV.agg [AV.float (s_rows_pushed_0 l j e L V Z aa ab W X Y M ad ac ae af ah ai ak ag aj al am ao bv), AV.float (s_rows_pushed_1 l j e L V Z aa ab W X Y M ad ac ae af ah ai ak ag aj al am ao bv), AV.float (s_rows_pushed_2 l j e L V Z aa ab W X Y M ad ac ae af ah ai ak ag aj al am ao bv), AV.float (s_rows_pushed_3 l j e L V Z aa ab W X Y M ad ac ae af ah ai ak ag aj al am ao bv), AV.float (s_rows_pushed_4 l j e L V Z aa ab W X Y M ad ac ae af ah ai ak ag aj al am ao bv)], AV.agg [AV.float (s_rows_pushed_5 l j e L V Z aa ab W X Y M ad ac ae af ah ai ak ag aj al am ao bv), AV.float (s_rows_pushed_6 l j e L V Z aa ab W X Y M ad ac ae af ah ai ak ag aj al am ao bv), AV.float (s_rows_pushed_7 l j e L V Z aa ab W X Y M ad ac ae af ah ai ak ag aj al am ao bv), AV.float (s_rows_pushed_8 l j e L V Z aa ab W X Y M ad ac ae af ah ai ak ag aj al am ao bv), AV.float (s_rows_pushed_9 l j e L V Z aa ab W X Y M ad ac ae af ah ai ak ag aj al am ao bv)]]
theorem e_rows_pushed (l j : Int) (e L V Z aa ab W X Y M : Nat) (ad : Int) (ac ae af ah ai ak ag aj al am ao bv : Nat) : outB (evFnM Try.prog false menv67 [23] [] 96 Ann.no Try.f65 [AV.agg [AV.int .i64 l, AV.int .i64 j, AV.float e, AV.float L, AV.float V, AV.float Z, AV.float aa, AV.float ab, AV.float W, AV.float X, AV.float Y, AV.float M, AV.int .i64 ad, AV.float ac], AV.agg [AV.float ae, AV.float af, AV.float ah, AV.float ai, AV.float ak, AV.float ag, AV.float aj, AV.float al, AV.float am, AV.float ao], AV.float bv] []) = some (true, r_rows_pushed l j e L V Z aa ab W X Y M ad ac ae af ah ai ak ag aj al am ao bv) := by kernel_rfl
def S_rows_pushed : List AV → Option (Ob × AV)
  | [AV.agg [AV.int .i64 l, AV.int .i64 j, AV.float e, AV.float L, AV.float V, AV.float Z, AV.float aa, AV.float ab, AV.float W, AV.float X, AV.float Y, AV.float M, AV.int .i64 ad, AV.float ac], AV.agg [AV.float ae, AV.float af, AV.float ah, AV.float ai, AV.float ak, AV.float ag, AV.float aj, AV.float al, AV.float am, AV.float ao], AV.float bv] => some (Ob.tt, r_rows_pushed l j e L V Z aa ab W X Y M ad ac ae af ah ai ak ag aj al am ao bv)
  | _ => none
theorem t_rows_pushed : SOkM Try.prog false (65, fun args => match S_rows_pushed args with | some (o, v) => some (o, v, []) | none => none) := SOkM.flat (N := 96) menv67_ok Try.func65 ann_rows_pushed Try.call65 fun args o v h ho => by
  unfold S_rows_pushed at h
  split at h
  · rename_i l j e L V Z aa ab W X Y M ad ac ae af ah ai ak ag aj al am ao bv
    unfold r_rows_pushed at h
    cases h
    have ho2 := ho
    have this := show outB (evFnM Try.prog false menv67 [23] [] 96 Ann.no Try.f65 [AV.agg [AV.int .i64 l, AV.int .i64 j, AV.float e, AV.float L, AV.float V, AV.float Z, AV.float aa, AV.float ab, AV.float W, AV.float X, AV.float Y, AV.float M, AV.int .i64 ad, AV.float ac], AV.agg [AV.float ae, AV.float af, AV.float ah, AV.float ai, AV.float ak, AV.float ag, AV.float aj, AV.float al, AV.float am, AV.float ao], AV.float bv] []) = _ from e_rows_pushed l j e L V Z aa ab W X Y M ad ac ae af ah ai ak ag aj al am ao bv
    exact ⟨this, rfl⟩
  · cases h
def c_rows_pushed : SFM := fun args => match S_rows_pushed args with | some (o, v) => some (o, v, []) | none => none
theorem c_rows_pushed_ok : SOkM Try.prog false (65, c_rows_pushed) := t_rows_pushed
def mss68 : List (FuncId × SFM) := (65, c_rows_pushed) :: mss67
def menv68 : EnvM := mkEnvM mxs mss68 mws1
theorem mss68_ok : All (SOkM Try.prog false) mss68 := All.cons c_rows_pushed_ok mss67_ok
theorem menv68_ok : menv68.Ok Try.prog false := mkEnvM_ok mxs_ok mss68_ok mws1_ok
-- tumble/rows.Warm
theorem ann_rows_Warm : FnOk Try.prog false 0 Try.f39 Ann.no := (fnNo _)
def s_rows_Warm_0 (l j : Int) (e L V Z aa ab W X Y M : Nat) (ad : Int) (ac ae af ah ai ak ag aj al am ao : Nat) : Nat := (bif (!(ieq (s_rows_asked_0 l j e L V Z aa ab W X Y M ad ac ae af ah ai ak ag aj al am ao) (0 : Int))) then 0 else (s_rows_pushed_0 l j e L V Z aa ab W X Y M ad ac ae af ah ai ak ag aj al am ao M))
def s_rows_Warm_1 (l j : Int) (e L V Z aa ab W X Y M : Nat) (ad : Int) (ac ae af ah ai ak ag aj al am ao : Nat) : Nat := (bif (!(ieq (s_rows_asked_0 l j e L V Z aa ab W X Y M ad ac ae af ah ai ak ag aj al am ao) (0 : Int))) then 0 else (s_rows_pushed_1 l j e L V Z aa ab W X Y M ad ac ae af ah ai ak ag aj al am ao M))
def s_rows_Warm_2 (l j : Int) (e L V Z aa ab W X Y M : Nat) (ad : Int) (ac ae af ah ai ak ag aj al am ao : Nat) : Nat := (bif (!(ieq (s_rows_asked_0 l j e L V Z aa ab W X Y M ad ac ae af ah ai ak ag aj al am ao) (0 : Int))) then 0 else (s_rows_pushed_2 l j e L V Z aa ab W X Y M ad ac ae af ah ai ak ag aj al am ao M))
def s_rows_Warm_3 (l j : Int) (e L V Z aa ab W X Y M : Nat) (ad : Int) (ac ae af ah ai ak ag aj al am ao : Nat) : Nat := (bif (!(ieq (s_rows_asked_0 l j e L V Z aa ab W X Y M ad ac ae af ah ai ak ag aj al am ao) (0 : Int))) then 0 else (s_rows_pushed_3 l j e L V Z aa ab W X Y M ad ac ae af ah ai ak ag aj al am ao M))
def s_rows_Warm_4 (l j : Int) (e L V Z aa ab W X Y M : Nat) (ad : Int) (ac ae af ah ai ak ag aj al am ao : Nat) : Nat := (bif (!(ieq (s_rows_asked_0 l j e L V Z aa ab W X Y M ad ac ae af ah ai ak ag aj al am ao) (0 : Int))) then 0 else (s_rows_pushed_4 l j e L V Z aa ab W X Y M ad ac ae af ah ai ak ag aj al am ao M))
def s_rows_Warm_5 (l j : Int) (e L V Z aa ab W X Y M : Nat) (ad : Int) (ac ae af ah ai ak ag aj al am ao : Nat) : Nat := (bif (!(ieq (s_rows_asked_0 l j e L V Z aa ab W X Y M ad ac ae af ah ai ak ag aj al am ao) (0 : Int))) then 0 else (s_rows_pushed_5 l j e L V Z aa ab W X Y M ad ac ae af ah ai ak ag aj al am ao M))
def s_rows_Warm_6 (l j : Int) (e L V Z aa ab W X Y M : Nat) (ad : Int) (ac ae af ah ai ak ag aj al am ao : Nat) : Nat := (bif (!(ieq (s_rows_asked_0 l j e L V Z aa ab W X Y M ad ac ae af ah ai ak ag aj al am ao) (0 : Int))) then 0 else (s_rows_pushed_6 l j e L V Z aa ab W X Y M ad ac ae af ah ai ak ag aj al am ao M))
def s_rows_Warm_7 (l j : Int) (e L V Z aa ab W X Y M : Nat) (ad : Int) (ac ae af ah ai ak ag aj al am ao : Nat) : Nat := (bif (!(ieq (s_rows_asked_0 l j e L V Z aa ab W X Y M ad ac ae af ah ai ak ag aj al am ao) (0 : Int))) then 0 else (s_rows_pushed_7 l j e L V Z aa ab W X Y M ad ac ae af ah ai ak ag aj al am ao M))
def s_rows_Warm_8 (l j : Int) (e L V Z aa ab W X Y M : Nat) (ad : Int) (ac ae af ah ai ak ag aj al am ao : Nat) : Nat := (bif (!(ieq (s_rows_asked_0 l j e L V Z aa ab W X Y M ad ac ae af ah ai ak ag aj al am ao) (0 : Int))) then 0 else (s_rows_pushed_8 l j e L V Z aa ab W X Y M ad ac ae af ah ai ak ag aj al am ao M))
def s_rows_Warm_9 (l j : Int) (e L V Z aa ab W X Y M : Nat) (ad : Int) (ac ae af ah ai ak ag aj al am ao : Nat) : Nat := (bif (!(ieq (s_rows_asked_0 l j e L V Z aa ab W X Y M ad ac ae af ah ai ak ag aj al am ao) (0 : Int))) then 0 else (s_rows_pushed_9 l j e L V Z aa ab W X Y M ad ac ae af ah ai ak ag aj al am ao M))
def s_rows_Warm_10 (l j : Int) (e L V Z aa ab W X Y M : Nat) (ad : Int) (ac ae af ah ai ak ag aj al am ao : Nat) : Int := (bif (!(ieq (s_rows_asked_0 l j e L V Z aa ab W X Y M ad ac ae af ah ai ak ag aj al am ao) (0 : Int))) then (s_rows_asked_0 l j e L V Z aa ab W X Y M ad ac ae af ah ai ak ag aj al am ao) else (0 : Int))
def r_rows_Warm (l j : Int) (e L V Z aa ab W X Y M : Nat) (ad : Int) (ac ae af ah ai ak ag aj al am ao : Nat) : AV := AV.tup [AV.agg [AV.float (s_rows_Warm_0 l j e L V Z aa ab W X Y M ad ac ae af ah ai ak ag aj al am ao), AV.float (s_rows_Warm_1 l j e L V Z aa ab W X Y M ad ac ae af ah ai ak ag aj al am ao), AV.float (s_rows_Warm_2 l j e L V Z aa ab W X Y M ad ac ae af ah ai ak ag aj al am ao), AV.float (s_rows_Warm_3 l j e L V Z aa ab W X Y M ad ac ae af ah ai ak ag aj al am ao), AV.float (s_rows_Warm_4 l j e L V Z aa ab W X Y M ad ac ae af ah ai ak ag aj al am ao)], AV.agg [AV.float (s_rows_Warm_5 l j e L V Z aa ab W X Y M ad ac ae af ah ai ak ag aj al am ao), AV.float (s_rows_Warm_6 l j e L V Z aa ab W X Y M ad ac ae af ah ai ak ag aj al am ao), AV.float (s_rows_Warm_7 l j e L V Z aa ab W X Y M ad ac ae af ah ai ak ag aj al am ao), AV.float (s_rows_Warm_8 l j e L V Z aa ab W X Y M ad ac ae af ah ai ak ag aj al am ao), AV.float (s_rows_Warm_9 l j e L V Z aa ab W X Y M ad ac ae af ah ai ak ag aj al am ao)], AV.int .i64 (s_rows_Warm_10 l j e L V Z aa ab W X Y M ad ac ae af ah ai ak ag aj al am ao)]
theorem e_rows_Warm (l j : Int) (e L V Z aa ab W X Y M : Nat) (ad : Int) (ac ae af ah ai ak ag aj al am ao : Nat) : outB (evFnM Try.prog false menv68 [] [] 96 Ann.no Try.f39 [AV.agg [AV.int .i64 l, AV.int .i64 j, AV.float e, AV.float L, AV.float V, AV.float Z, AV.float aa, AV.float ab, AV.float W, AV.float X, AV.float Y, AV.float M, AV.int .i64 ad, AV.float ac], AV.agg [AV.float ae, AV.float af, AV.float ah, AV.float ai, AV.float ak], AV.agg [AV.float ag, AV.float aj, AV.float al, AV.float am, AV.float ao]] []) = some (true, r_rows_Warm l j e L V Z aa ab W X Y M ad ac ae af ah ai ak ag aj al am ao) := by kernel_rfl
def S_rows_Warm : List AV → Option (Ob × AV)
  | [AV.agg [AV.int .i64 l, AV.int .i64 j, AV.float e, AV.float L, AV.float V, AV.float Z, AV.float aa, AV.float ab, AV.float W, AV.float X, AV.float Y, AV.float M, AV.int .i64 ad, AV.float ac], AV.agg [AV.float ae, AV.float af, AV.float ah, AV.float ai, AV.float ak], AV.agg [AV.float ag, AV.float aj, AV.float al, AV.float am, AV.float ao]] => some (Ob.tt, r_rows_Warm l j e L V Z aa ab W X Y M ad ac ae af ah ai ak ag aj al am ao)
  | _ => none
theorem t_rows_Warm : SOkM Try.prog false (39, fun args => match S_rows_Warm args with | some (o, v) => some (o, v, []) | none => none) := SOkM.flat (N := 96) menv68_ok Try.func39 ann_rows_Warm Try.call39 fun args o v h ho => by
  unfold S_rows_Warm at h
  split at h
  · rename_i l j e L V Z aa ab W X Y M ad ac ae af ah ai ak ag aj al am ao
    unfold r_rows_Warm at h
    cases h
    have ho2 := ho
    have this := show outB (evFnM Try.prog false menv68 [] [] 96 Ann.no Try.f39 [AV.agg [AV.int .i64 l, AV.int .i64 j, AV.float e, AV.float L, AV.float V, AV.float Z, AV.float aa, AV.float ab, AV.float W, AV.float X, AV.float Y, AV.float M, AV.int .i64 ad, AV.float ac], AV.agg [AV.float ae, AV.float af, AV.float ah, AV.float ai, AV.float ak], AV.agg [AV.float ag, AV.float aj, AV.float al, AV.float am, AV.float ao]] []) = _ from e_rows_Warm l j e L V Z aa ab W X Y M ad ac ae af ah ai ak ag aj al am ao
    exact ⟨this, rfl⟩
  · cases h
def c_rows_Warm : SFM := fun args => match S_rows_Warm args with | some (o, v) => some (o, v, []) | none => none
theorem c_rows_Warm_ok : SOkM Try.prog false (39, c_rows_Warm) := t_rows_Warm
def mss69 : List (FuncId × SFM) := (39, c_rows_Warm) :: mss68
def menv69 : EnvM := mkEnvM mxs mss69 mws1
theorem mss69_ok : All (SOkM Try.prog false) mss69 := All.cons c_rows_Warm_ok mss68_ok
theorem menv69_ok : menv69.Ok Try.prog false := mkEnvM_ok mxs_ok mss69_ok mws1_ok
-- tumble/vec.Dot
theorem ann_vec_Dot : FnOk Try.prog false 0 Try.f98 Ann.no := (fnNo _)
def s_vec_Dot_0 (l j e L : Nat) : Nat := (fadd (fmul l e) (fmul j L))
theorem e_vec_Dot (l j e L : Nat) : outB (evFnM Try.prog false menv69 [] [] 96 Ann.no Try.f98 [AV.agg [AV.float l, AV.float j], AV.agg [AV.float e, AV.float L]] []) = some (true, AV.float (s_vec_Dot_0 l j e L)) := by kernel_rfl
def S_vec_Dot : List AV → Option (Ob × AV)
  | [AV.agg [AV.float l, AV.float j], AV.agg [AV.float e, AV.float L]] => some (Ob.tt, AV.float (s_vec_Dot_0 l j e L))
  | _ => none
theorem t_vec_Dot : SOkM Try.prog false (98, fun args => match S_vec_Dot args with | some (o, v) => some (o, v, []) | none => none) := SOkM.flat (N := 96) menv69_ok Try.func98 ann_vec_Dot Try.call98 fun args o v h ho => by
  unfold S_vec_Dot at h
  split at h
  · rename_i l j e L
    cases h
    have ho2 := ho
    have this := show outB (evFnM Try.prog false menv69 [] [] 96 Ann.no Try.f98 [AV.agg [AV.float l, AV.float j], AV.agg [AV.float e, AV.float L]] []) = _ from e_vec_Dot l j e L
    exact ⟨this, rfl⟩
  · cases h
def c_vec_Dot : SFM := fun args => match S_vec_Dot args with | some (o, v) => some (o, v, []) | none => none
theorem c_vec_Dot_ok : SOkM Try.prog false (98, c_vec_Dot) := t_vec_Dot
def mss70 : List (FuncId × SFM) := (98, c_vec_Dot) :: mss69
def menv70 : EnvM := mkEnvM mxs mss70 mws1
theorem mss70_ok : All (SOkM Try.prog false) mss70 := All.cons c_vec_Dot_ok mss69_ok
theorem menv70_ok : menv70.Ok Try.prog false := mkEnvM_ok mxs_ok mss70_ok mws1_ok
-- tumble/vec.Square
theorem ann_vec_Square : FnOk Try.prog false 0 Try.f87 Ann.no := (fnNo _)
def s_vec_Square_0 (l j : Nat) : Nat := (s_vec_Dot_0 l j l j)
theorem e_vec_Square (l j : Nat) : outB (evFnM Try.prog false menv70 [] [] 96 Ann.no Try.f87 [AV.agg [AV.float l, AV.float j]] []) = some (true, AV.float (s_vec_Square_0 l j)) := by kernel_rfl
def S_vec_Square : List AV → Option (Ob × AV)
  | [AV.agg [AV.float l, AV.float j]] => some (Ob.tt, AV.float (s_vec_Square_0 l j))
  | _ => none
theorem t_vec_Square : SOkM Try.prog false (87, fun args => match S_vec_Square args with | some (o, v) => some (o, v, []) | none => none) := SOkM.flat (N := 96) menv70_ok Try.func87 ann_vec_Square Try.call87 fun args o v h ho => by
  unfold S_vec_Square at h
  split at h
  · rename_i l j
    cases h
    have ho2 := ho
    have this := show outB (evFnM Try.prog false menv70 [] [] 96 Ann.no Try.f87 [AV.agg [AV.float l, AV.float j]] []) = _ from e_vec_Square l j
    exact ⟨this, rfl⟩
  · cases h
def c_vec_Square : SFM := fun args => match S_vec_Square args with | some (o, v) => some (o, v, []) | none => none
theorem c_vec_Square_ok : SOkM Try.prog false (87, c_vec_Square) := t_vec_Square
def mss71 : List (FuncId × SFM) := (87, c_vec_Square) :: mss70
def menv71 : EnvM := mkEnvM mxs mss71 mws1
theorem mss71_ok : All (SOkM Try.prog false) mss71 := All.cons c_vec_Square_ok mss70_ok
theorem menv71_ok : menv71.Ok Try.prog false := mkEnvM_ok mxs_ok mss71_ok mws1_ok
-- tumble/rows.weight
theorem ann_rows_weight : FnOk Try.prog false 0 Try.f61 Ann.no := (fnNo _)
def s_rows_weight_0 (l j : Int) (e L V Z aa ab W X Y M : Nat) (ad : Int) (ac ae af ah ai ak ag aj al am ao : Nat) : Nat := (fadd (fadd (fadd (fmul ae (s_vec_Square_0 e L)) (fmul af (fmul aa aa))) (fmul ag (s_vec_Square_0 V Z))) (fmul aj (fmul ab ab)))
theorem e_rows_weight (l j : Int) (e L V Z aa ab W X Y M : Nat) (ad : Int) (ac ae af ah ai ak ag aj al am ao : Nat) : outB (evFnM Try.prog false menv71 [] [] 96 Ann.no Try.f61 [AV.agg [AV.int .i64 l, AV.int .i64 j, AV.float e, AV.float L, AV.float V, AV.float Z, AV.float aa, AV.float ab, AV.float W, AV.float X, AV.float Y, AV.float M, AV.int .i64 ad, AV.float ac], AV.agg [AV.float ae, AV.float af, AV.float ah, AV.float ai, AV.float ak], AV.agg [AV.float ag, AV.float aj, AV.float al, AV.float am, AV.float ao]] []) = some (true, AV.float (s_rows_weight_0 l j e L V Z aa ab W X Y M ad ac ae af ah ai ak ag aj al am ao)) := by kernel_rfl
def S_rows_weight : List AV → Option (Ob × AV)
  | [AV.agg [AV.int .i64 l, AV.int .i64 j, AV.float e, AV.float L, AV.float V, AV.float Z, AV.float aa, AV.float ab, AV.float W, AV.float X, AV.float Y, AV.float M, AV.int .i64 ad, AV.float ac], AV.agg [AV.float ae, AV.float af, AV.float ah, AV.float ai, AV.float ak], AV.agg [AV.float ag, AV.float aj, AV.float al, AV.float am, AV.float ao]] => some (Ob.tt, AV.float (s_rows_weight_0 l j e L V Z aa ab W X Y M ad ac ae af ah ai ak ag aj al am ao))
  | _ => none
theorem t_rows_weight : SOkM Try.prog false (61, fun args => match S_rows_weight args with | some (o, v) => some (o, v, []) | none => none) := SOkM.flat (N := 96) menv71_ok Try.func61 ann_rows_weight Try.call61 fun args o v h ho => by
  unfold S_rows_weight at h
  split at h
  · rename_i l j e L V Z aa ab W X Y M ad ac ae af ah ai ak ag aj al am ao
    cases h
    have ho2 := ho
    have this := show outB (evFnM Try.prog false menv71 [] [] 96 Ann.no Try.f61 [AV.agg [AV.int .i64 l, AV.int .i64 j, AV.float e, AV.float L, AV.float V, AV.float Z, AV.float aa, AV.float ab, AV.float W, AV.float X, AV.float Y, AV.float M, AV.int .i64 ad, AV.float ac], AV.agg [AV.float ae, AV.float af, AV.float ah, AV.float ai, AV.float ak], AV.agg [AV.float ag, AV.float aj, AV.float al, AV.float am, AV.float ao]] []) = _ from e_rows_weight l j e L V Z aa ab W X Y M ad ac ae af ah ai ak ag aj al am ao
    exact ⟨this, rfl⟩
  · cases h
def c_rows_weight : SFM := fun args => match S_rows_weight args with | some (o, v) => some (o, v, []) | none => none
theorem c_rows_weight_ok : SOkM Try.prog false (61, c_rows_weight) := t_rows_weight
def mss72 : List (FuncId × SFM) := (61, c_rows_weight) :: mss71
def menv72 : EnvM := mkEnvM mxs mss72 mws1
theorem mss72_ok : All (SOkM Try.prog false) mss72 := All.cons c_rows_weight_ok mss71_ok
theorem menv72_ok : menv72.Ok Try.prog false := mkEnvM_ok mxs_ok mss72_ok mws1_ok
-- tumble/rows.speed
theorem ann_rows_speed : FnOk Try.prog false 0 Try.f74 Ann.no := (fnNo _)
def s_rows_speed_0 (l j : Int) (e L V Z aa ab W X Y M : Nat) (ad : Int) (ac ae af ah ai ak ag aj al am ao : Nat) : Nat := (fadd (fadd (fadd (s_vec_Dot_0 e L ah ai) (fmul aa ak)) (s_vec_Dot_0 V Z al am)) (fmul ab ao))
theorem e_rows_speed (l j : Int) (e L V Z aa ab W X Y M : Nat) (ad : Int) (ac ae af ah ai ak ag aj al am ao : Nat) : outB (evFnM Try.prog false menv72 [] [] 96 Ann.no Try.f74 [AV.agg [AV.int .i64 l, AV.int .i64 j, AV.float e, AV.float L, AV.float V, AV.float Z, AV.float aa, AV.float ab, AV.float W, AV.float X, AV.float Y, AV.float M, AV.int .i64 ad, AV.float ac], AV.agg [AV.float ae, AV.float af, AV.float ah, AV.float ai, AV.float ak], AV.agg [AV.float ag, AV.float aj, AV.float al, AV.float am, AV.float ao]] []) = some (true, AV.float (s_rows_speed_0 l j e L V Z aa ab W X Y M ad ac ae af ah ai ak ag aj al am ao)) := by kernel_rfl
def S_rows_speed : List AV → Option (Ob × AV)
  | [AV.agg [AV.int .i64 l, AV.int .i64 j, AV.float e, AV.float L, AV.float V, AV.float Z, AV.float aa, AV.float ab, AV.float W, AV.float X, AV.float Y, AV.float M, AV.int .i64 ad, AV.float ac], AV.agg [AV.float ae, AV.float af, AV.float ah, AV.float ai, AV.float ak], AV.agg [AV.float ag, AV.float aj, AV.float al, AV.float am, AV.float ao]] => some (Ob.tt, AV.float (s_rows_speed_0 l j e L V Z aa ab W X Y M ad ac ae af ah ai ak ag aj al am ao))
  | _ => none
theorem t_rows_speed : SOkM Try.prog false (74, fun args => match S_rows_speed args with | some (o, v) => some (o, v, []) | none => none) := SOkM.flat (N := 96) menv72_ok Try.func74 ann_rows_speed Try.call74 fun args o v h ho => by
  unfold S_rows_speed at h
  split at h
  · rename_i l j e L V Z aa ab W X Y M ad ac ae af ah ai ak ag aj al am ao
    cases h
    have ho2 := ho
    have this := show outB (evFnM Try.prog false menv72 [] [] 96 Ann.no Try.f74 [AV.agg [AV.int .i64 l, AV.int .i64 j, AV.float e, AV.float L, AV.float V, AV.float Z, AV.float aa, AV.float ab, AV.float W, AV.float X, AV.float Y, AV.float M, AV.int .i64 ad, AV.float ac], AV.agg [AV.float ae, AV.float af, AV.float ah, AV.float ai, AV.float ak], AV.agg [AV.float ag, AV.float aj, AV.float al, AV.float am, AV.float ao]] []) = _ from e_rows_speed l j e L V Z aa ab W X Y M ad ac ae af ah ai ak ag aj al am ao
    exact ⟨this, rfl⟩
  · cases h
def c_rows_speed : SFM := fun args => match S_rows_speed args with | some (o, v) => some (o, v, []) | none => none
theorem c_rows_speed_ok : SOkM Try.prog false (74, c_rows_speed) := t_rows_speed
def mss73 : List (FuncId × SFM) := (74, c_rows_speed) :: mss72
def menv73 : EnvM := mkEnvM mxs mss73 mws1
theorem mss73_ok : All (SOkM Try.prog false) mss73 := All.cons c_rows_speed_ok mss72_ok
theorem menv73_ok : menv73.Ok Try.prog false := mkEnvM_ok mxs_ok mss73_ok mws1_ok
-- tumble/num.Clamp[float64]
theorem ann_num_Clamp_float64_ : FnOk Try.prog false 0 Try.f92 Ann.no := (fnNo _)
def s_num_Clamp_float64__0 (l j e : Nat) : Nat := (bif ((!(flt j l)) || (flt e l)) then (bif (!(flt j l)) then j else e) else l)
theorem e_num_Clamp_float64_ (l j e : Nat) : outB (evFnM Try.prog false menv73 [] [] 96 Ann.no Try.f92 [AV.float l, AV.float j, AV.float e] []) = some (true, AV.float (s_num_Clamp_float64__0 l j e)) := by kernel_rfl
def S_num_Clamp_float64_ : List AV → Option (Ob × AV)
  | [AV.float l, AV.float j, AV.float e] => some (Ob.tt, AV.float (s_num_Clamp_float64__0 l j e))
  | _ => none
theorem t_num_Clamp_float64_ : SOkM Try.prog false (92, fun args => match S_num_Clamp_float64_ args with | some (o, v) => some (o, v, []) | none => none) := SOkM.flat (N := 96) menv73_ok Try.func92 ann_num_Clamp_float64_ Try.call92 fun args o v h ho => by
  unfold S_num_Clamp_float64_ at h
  split at h
  · rename_i l j e
    cases h
    have ho2 := ho
    have this := show outB (evFnM Try.prog false menv73 [] [] 96 Ann.no Try.f92 [AV.float l, AV.float j, AV.float e] []) = _ from e_num_Clamp_float64_ l j e
    exact ⟨this, rfl⟩
  · cases h
def c_num_Clamp_float64_ : SFM := fun args => match S_num_Clamp_float64_ args with | some (o, v) => some (o, v, []) | none => none
theorem c_num_Clamp_float64__ok : SOkM Try.prog false (92, c_num_Clamp_float64_) := t_num_Clamp_float64_
def mss74 : List (FuncId × SFM) := (92, c_num_Clamp_float64_) :: mss73
def menv74 : EnvM := mkEnvM mxs mss74 mws1
theorem mss74_ok : All (SOkM Try.prog false) mss74 := All.cons c_num_Clamp_float64__ok mss73_ok
theorem menv74_ok : menv74.Ok Try.prog false := mkEnvM_ok mxs_ok mss74_ok mws1_ok
-- tumble/rows.One
theorem ann_rows_One : FnOk Try.prog false 0 Try.f66 Ann.no := (fnNo _)
def s_rows_One_0 (l j : Int) (e L V Z aa ab W X Y M : Nat) (ad : Int) (ac ae af ah ai ak ag aj al am ao : Nat) : Int := (bif (!(ieq (s_rows_asked_0 l j e L V Z aa ab W X Y M ad ac ae af ah ai ak ag aj al am ao) (0 : Int))) then (0 : Int) else (bif ((!(flt 0 (s_rows_weight_0 l j e L V Z aa ab W X Y M ad ac ae af ah ai ak ag aj al am ao))) || (!(s_rows_finite_v1_0 (fun j0 => (bif (Nat.beq j0 0) then (s_rows_weight_0 l j e L V Z aa ab W X Y M ad ac ae af ah ai ak ag aj al am ao) else (fsub W (s_rows_speed_0 l j e L V Z aa ab W X Y M ad ac ae af ah ai ak ag aj al am ao))))))) then l else (bif (!(s_rows_finite_v1_0 (fun j0 => let x0 := s_num_Clamp_float64__0 (fadd M (fdiv (fsub W (s_rows_speed_0 l j e L V Z aa ab W X Y M ad ac ae af ah ai ak ag aj al am ao)) (s_rows_weight_0 l j e L V Z aa ab W X Y M ad ac ae af ah ai ak ag aj al am ao))) X Y; (bif (Nat.beq j0 0) then x0 else (fsub x0 M))))) then l else l)))
def s_rows_One_1 (l j : Int) (e L V Z aa ab W X Y M : Nat) (ad : Int) (ac ae af ah ai ak ag aj al am ao : Nat) : Int := (bif (!(ieq (s_rows_asked_0 l j e L V Z aa ab W X Y M ad ac ae af ah ai ak ag aj al am ao) (0 : Int))) then (0 : Int) else (bif ((!(flt 0 (s_rows_weight_0 l j e L V Z aa ab W X Y M ad ac ae af ah ai ak ag aj al am ao))) || (!(s_rows_finite_v1_0 (fun j0 => (bif (Nat.beq j0 0) then (s_rows_weight_0 l j e L V Z aa ab W X Y M ad ac ae af ah ai ak ag aj al am ao) else (fsub W (s_rows_speed_0 l j e L V Z aa ab W X Y M ad ac ae af ah ai ak ag aj al am ao))))))) then j else (bif (!(s_rows_finite_v1_0 (fun j0 => let x0 := s_num_Clamp_float64__0 (fadd M (fdiv (fsub W (s_rows_speed_0 l j e L V Z aa ab W X Y M ad ac ae af ah ai ak ag aj al am ao)) (s_rows_weight_0 l j e L V Z aa ab W X Y M ad ac ae af ah ai ak ag aj al am ao))) X Y; (bif (Nat.beq j0 0) then x0 else (fsub x0 M))))) then j else j)))
def s_rows_One_2 (l j : Int) (e L V Z aa ab W X Y M : Nat) (ad : Int) (ac ae af ah ai ak ag aj al am ao : Nat) : Nat := (bif (!(ieq (s_rows_asked_0 l j e L V Z aa ab W X Y M ad ac ae af ah ai ak ag aj al am ao) (0 : Int))) then 0 else (bif ((!(flt 0 (s_rows_weight_0 l j e L V Z aa ab W X Y M ad ac ae af ah ai ak ag aj al am ao))) || (!(s_rows_finite_v1_0 (fun j0 => (bif (Nat.beq j0 0) then (s_rows_weight_0 l j e L V Z aa ab W X Y M ad ac ae af ah ai ak ag aj al am ao) else (fsub W (s_rows_speed_0 l j e L V Z aa ab W X Y M ad ac ae af ah ai ak ag aj al am ao))))))) then e else (bif (!(s_rows_finite_v1_0 (fun j0 => let x0 := s_num_Clamp_float64__0 (fadd M (fdiv (fsub W (s_rows_speed_0 l j e L V Z aa ab W X Y M ad ac ae af ah ai ak ag aj al am ao)) (s_rows_weight_0 l j e L V Z aa ab W X Y M ad ac ae af ah ai ak ag aj al am ao))) X Y; (bif (Nat.beq j0 0) then x0 else (fsub x0 M))))) then e else e)))
def s_rows_One_3 (l j : Int) (e L V Z aa ab W X Y M : Nat) (ad : Int) (ac ae af ah ai ak ag aj al am ao : Nat) : Nat := (bif (!(ieq (s_rows_asked_0 l j e L V Z aa ab W X Y M ad ac ae af ah ai ak ag aj al am ao) (0 : Int))) then 0 else (bif ((!(flt 0 (s_rows_weight_0 l j e L V Z aa ab W X Y M ad ac ae af ah ai ak ag aj al am ao))) || (!(s_rows_finite_v1_0 (fun j0 => (bif (Nat.beq j0 0) then (s_rows_weight_0 l j e L V Z aa ab W X Y M ad ac ae af ah ai ak ag aj al am ao) else (fsub W (s_rows_speed_0 l j e L V Z aa ab W X Y M ad ac ae af ah ai ak ag aj al am ao))))))) then L else (bif (!(s_rows_finite_v1_0 (fun j0 => let x0 := s_num_Clamp_float64__0 (fadd M (fdiv (fsub W (s_rows_speed_0 l j e L V Z aa ab W X Y M ad ac ae af ah ai ak ag aj al am ao)) (s_rows_weight_0 l j e L V Z aa ab W X Y M ad ac ae af ah ai ak ag aj al am ao))) X Y; (bif (Nat.beq j0 0) then x0 else (fsub x0 M))))) then L else L)))
def s_rows_One_4 (l j : Int) (e L V Z aa ab W X Y M : Nat) (ad : Int) (ac ae af ah ai ak ag aj al am ao : Nat) : Nat := (bif (!(ieq (s_rows_asked_0 l j e L V Z aa ab W X Y M ad ac ae af ah ai ak ag aj al am ao) (0 : Int))) then 0 else (bif ((!(flt 0 (s_rows_weight_0 l j e L V Z aa ab W X Y M ad ac ae af ah ai ak ag aj al am ao))) || (!(s_rows_finite_v1_0 (fun j0 => (bif (Nat.beq j0 0) then (s_rows_weight_0 l j e L V Z aa ab W X Y M ad ac ae af ah ai ak ag aj al am ao) else (fsub W (s_rows_speed_0 l j e L V Z aa ab W X Y M ad ac ae af ah ai ak ag aj al am ao))))))) then V else (bif (!(s_rows_finite_v1_0 (fun j0 => let x0 := s_num_Clamp_float64__0 (fadd M (fdiv (fsub W (s_rows_speed_0 l j e L V Z aa ab W X Y M ad ac ae af ah ai ak ag aj al am ao)) (s_rows_weight_0 l j e L V Z aa ab W X Y M ad ac ae af ah ai ak ag aj al am ao))) X Y; (bif (Nat.beq j0 0) then x0 else (fsub x0 M))))) then V else V)))
def s_rows_One_5 (l j : Int) (e L V Z aa ab W X Y M : Nat) (ad : Int) (ac ae af ah ai ak ag aj al am ao : Nat) : Nat := (bif (!(ieq (s_rows_asked_0 l j e L V Z aa ab W X Y M ad ac ae af ah ai ak ag aj al am ao) (0 : Int))) then 0 else (bif ((!(flt 0 (s_rows_weight_0 l j e L V Z aa ab W X Y M ad ac ae af ah ai ak ag aj al am ao))) || (!(s_rows_finite_v1_0 (fun j0 => (bif (Nat.beq j0 0) then (s_rows_weight_0 l j e L V Z aa ab W X Y M ad ac ae af ah ai ak ag aj al am ao) else (fsub W (s_rows_speed_0 l j e L V Z aa ab W X Y M ad ac ae af ah ai ak ag aj al am ao))))))) then Z else (bif (!(s_rows_finite_v1_0 (fun j0 => let x0 := s_num_Clamp_float64__0 (fadd M (fdiv (fsub W (s_rows_speed_0 l j e L V Z aa ab W X Y M ad ac ae af ah ai ak ag aj al am ao)) (s_rows_weight_0 l j e L V Z aa ab W X Y M ad ac ae af ah ai ak ag aj al am ao))) X Y; (bif (Nat.beq j0 0) then x0 else (fsub x0 M))))) then Z else Z)))
def s_rows_One_6 (l j : Int) (e L V Z aa ab W X Y M : Nat) (ad : Int) (ac ae af ah ai ak ag aj al am ao : Nat) : Nat := (bif (!(ieq (s_rows_asked_0 l j e L V Z aa ab W X Y M ad ac ae af ah ai ak ag aj al am ao) (0 : Int))) then 0 else (bif ((!(flt 0 (s_rows_weight_0 l j e L V Z aa ab W X Y M ad ac ae af ah ai ak ag aj al am ao))) || (!(s_rows_finite_v1_0 (fun j0 => (bif (Nat.beq j0 0) then (s_rows_weight_0 l j e L V Z aa ab W X Y M ad ac ae af ah ai ak ag aj al am ao) else (fsub W (s_rows_speed_0 l j e L V Z aa ab W X Y M ad ac ae af ah ai ak ag aj al am ao))))))) then aa else (bif (!(s_rows_finite_v1_0 (fun j0 => let x0 := s_num_Clamp_float64__0 (fadd M (fdiv (fsub W (s_rows_speed_0 l j e L V Z aa ab W X Y M ad ac ae af ah ai ak ag aj al am ao)) (s_rows_weight_0 l j e L V Z aa ab W X Y M ad ac ae af ah ai ak ag aj al am ao))) X Y; (bif (Nat.beq j0 0) then x0 else (fsub x0 M))))) then aa else aa)))
def s_rows_One_7 (l j : Int) (e L V Z aa ab W X Y M : Nat) (ad : Int) (ac ae af ah ai ak ag aj al am ao : Nat) : Nat := (bif (!(ieq (s_rows_asked_0 l j e L V Z aa ab W X Y M ad ac ae af ah ai ak ag aj al am ao) (0 : Int))) then 0 else (bif ((!(flt 0 (s_rows_weight_0 l j e L V Z aa ab W X Y M ad ac ae af ah ai ak ag aj al am ao))) || (!(s_rows_finite_v1_0 (fun j0 => (bif (Nat.beq j0 0) then (s_rows_weight_0 l j e L V Z aa ab W X Y M ad ac ae af ah ai ak ag aj al am ao) else (fsub W (s_rows_speed_0 l j e L V Z aa ab W X Y M ad ac ae af ah ai ak ag aj al am ao))))))) then ab else (bif (!(s_rows_finite_v1_0 (fun j0 => let x0 := s_num_Clamp_float64__0 (fadd M (fdiv (fsub W (s_rows_speed_0 l j e L V Z aa ab W X Y M ad ac ae af ah ai ak ag aj al am ao)) (s_rows_weight_0 l j e L V Z aa ab W X Y M ad ac ae af ah ai ak ag aj al am ao))) X Y; (bif (Nat.beq j0 0) then x0 else (fsub x0 M))))) then ab else ab)))
def s_rows_One_8 (l j : Int) (e L V Z aa ab W X Y M : Nat) (ad : Int) (ac ae af ah ai ak ag aj al am ao : Nat) : Nat := (bif (!(ieq (s_rows_asked_0 l j e L V Z aa ab W X Y M ad ac ae af ah ai ak ag aj al am ao) (0 : Int))) then 0 else (bif ((!(flt 0 (s_rows_weight_0 l j e L V Z aa ab W X Y M ad ac ae af ah ai ak ag aj al am ao))) || (!(s_rows_finite_v1_0 (fun j0 => (bif (Nat.beq j0 0) then (s_rows_weight_0 l j e L V Z aa ab W X Y M ad ac ae af ah ai ak ag aj al am ao) else (fsub W (s_rows_speed_0 l j e L V Z aa ab W X Y M ad ac ae af ah ai ak ag aj al am ao))))))) then W else (bif (!(s_rows_finite_v1_0 (fun j0 => let x0 := s_num_Clamp_float64__0 (fadd M (fdiv (fsub W (s_rows_speed_0 l j e L V Z aa ab W X Y M ad ac ae af ah ai ak ag aj al am ao)) (s_rows_weight_0 l j e L V Z aa ab W X Y M ad ac ae af ah ai ak ag aj al am ao))) X Y; (bif (Nat.beq j0 0) then x0 else (fsub x0 M))))) then W else W)))
def s_rows_One_9 (l j : Int) (e L V Z aa ab W X Y M : Nat) (ad : Int) (ac ae af ah ai ak ag aj al am ao : Nat) : Nat := (bif (!(ieq (s_rows_asked_0 l j e L V Z aa ab W X Y M ad ac ae af ah ai ak ag aj al am ao) (0 : Int))) then 0 else (bif ((!(flt 0 (s_rows_weight_0 l j e L V Z aa ab W X Y M ad ac ae af ah ai ak ag aj al am ao))) || (!(s_rows_finite_v1_0 (fun j0 => (bif (Nat.beq j0 0) then (s_rows_weight_0 l j e L V Z aa ab W X Y M ad ac ae af ah ai ak ag aj al am ao) else (fsub W (s_rows_speed_0 l j e L V Z aa ab W X Y M ad ac ae af ah ai ak ag aj al am ao))))))) then X else (bif (!(s_rows_finite_v1_0 (fun j0 => let x0 := s_num_Clamp_float64__0 (fadd M (fdiv (fsub W (s_rows_speed_0 l j e L V Z aa ab W X Y M ad ac ae af ah ai ak ag aj al am ao)) (s_rows_weight_0 l j e L V Z aa ab W X Y M ad ac ae af ah ai ak ag aj al am ao))) X Y; (bif (Nat.beq j0 0) then x0 else (fsub x0 M))))) then X else X)))
def s_rows_One_10 (l j : Int) (e L V Z aa ab W X Y M : Nat) (ad : Int) (ac ae af ah ai ak ag aj al am ao : Nat) : Nat := (bif (!(ieq (s_rows_asked_0 l j e L V Z aa ab W X Y M ad ac ae af ah ai ak ag aj al am ao) (0 : Int))) then 0 else (bif ((!(flt 0 (s_rows_weight_0 l j e L V Z aa ab W X Y M ad ac ae af ah ai ak ag aj al am ao))) || (!(s_rows_finite_v1_0 (fun j0 => (bif (Nat.beq j0 0) then (s_rows_weight_0 l j e L V Z aa ab W X Y M ad ac ae af ah ai ak ag aj al am ao) else (fsub W (s_rows_speed_0 l j e L V Z aa ab W X Y M ad ac ae af ah ai ak ag aj al am ao))))))) then Y else (bif (!(s_rows_finite_v1_0 (fun j0 => let x0 := s_num_Clamp_float64__0 (fadd M (fdiv (fsub W (s_rows_speed_0 l j e L V Z aa ab W X Y M ad ac ae af ah ai ak ag aj al am ao)) (s_rows_weight_0 l j e L V Z aa ab W X Y M ad ac ae af ah ai ak ag aj al am ao))) X Y; (bif (Nat.beq j0 0) then x0 else (fsub x0 M))))) then Y else Y)))
def s_rows_One_11 (l j : Int) (e L V Z aa ab W X Y M : Nat) (ad : Int) (ac ae af ah ai ak ag aj al am ao : Nat) : Nat := let x0 := s_rows_weight_0 l j e L V Z aa ab W X Y M ad ac ae af ah ai ak ag aj al am ao; (bif (!(ieq (s_rows_asked_0 l j e L V Z aa ab W X Y M ad ac ae af ah ai ak ag aj al am ao) (0 : Int))) then 0 else (bif ((!(flt 0 x0)) || (!(s_rows_finite_v1_0 (fun j0 => (bif (Nat.beq j0 0) then (s_rows_weight_0 l j e L V Z aa ab W X Y M ad ac ae af ah ai ak ag aj al am ao) else (fsub W (s_rows_speed_0 l j e L V Z aa ab W X Y M ad ac ae af ah ai ak ag aj al am ao))))))) then M else (bif (!(s_rows_finite_v1_0 (fun j0 => let x0 := s_num_Clamp_float64__0 (fadd M (fdiv (fsub W (s_rows_speed_0 l j e L V Z aa ab W X Y M ad ac ae af ah ai ak ag aj al am ao)) (s_rows_weight_0 l j e L V Z aa ab W X Y M ad ac ae af ah ai ak ag aj al am ao))) X Y; (bif (Nat.beq j0 0) then x0 else (fsub x0 M))))) then M else (s_num_Clamp_float64__0 (fadd M (fdiv (fsub W (s_rows_speed_0 l j e L V Z aa ab W X Y M ad ac ae af ah ai ak ag aj al am ao)) x0)) X Y))))
def s_rows_One_12 (l j : Int) (e L V Z aa ab W X Y M : Nat) (ad : Int) (ac ae af ah ai ak ag aj al am ao : Nat) : Int := (bif (!(ieq (s_rows_asked_0 l j e L V Z aa ab W X Y M ad ac ae af ah ai ak ag aj al am ao) (0 : Int))) then (0 : Int) else (bif ((!(flt 0 (s_rows_weight_0 l j e L V Z aa ab W X Y M ad ac ae af ah ai ak ag aj al am ao))) || (!(s_rows_finite_v1_0 (fun j0 => (bif (Nat.beq j0 0) then (s_rows_weight_0 l j e L V Z aa ab W X Y M ad ac ae af ah ai ak ag aj al am ao) else (fsub W (s_rows_speed_0 l j e L V Z aa ab W X Y M ad ac ae af ah ai ak ag aj al am ao))))))) then ad else (bif (!(s_rows_finite_v1_0 (fun j0 => let x0 := s_num_Clamp_float64__0 (fadd M (fdiv (fsub W (s_rows_speed_0 l j e L V Z aa ab W X Y M ad ac ae af ah ai ak ag aj al am ao)) (s_rows_weight_0 l j e L V Z aa ab W X Y M ad ac ae af ah ai ak ag aj al am ao))) X Y; (bif (Nat.beq j0 0) then x0 else (fsub x0 M))))) then ad else ad)))
def s_rows_One_13 (l j : Int) (e L V Z aa ab W X Y M : Nat) (ad : Int) (ac ae af ah ai ak ag aj al am ao : Nat) : Nat := (bif (!(ieq (s_rows_asked_0 l j e L V Z aa ab W X Y M ad ac ae af ah ai ak ag aj al am ao) (0 : Int))) then 0 else (bif ((!(flt 0 (s_rows_weight_0 l j e L V Z aa ab W X Y M ad ac ae af ah ai ak ag aj al am ao))) || (!(s_rows_finite_v1_0 (fun j0 => (bif (Nat.beq j0 0) then (s_rows_weight_0 l j e L V Z aa ab W X Y M ad ac ae af ah ai ak ag aj al am ao) else (fsub W (s_rows_speed_0 l j e L V Z aa ab W X Y M ad ac ae af ah ai ak ag aj al am ao))))))) then ac else (bif (!(s_rows_finite_v1_0 (fun j0 => let x0 := s_num_Clamp_float64__0 (fadd M (fdiv (fsub W (s_rows_speed_0 l j e L V Z aa ab W X Y M ad ac ae af ah ai ak ag aj al am ao)) (s_rows_weight_0 l j e L V Z aa ab W X Y M ad ac ae af ah ai ak ag aj al am ao))) X Y; (bif (Nat.beq j0 0) then x0 else (fsub x0 M))))) then ac else ac)))
def s_rows_One_14 (l j : Int) (e L V Z aa ab W X Y M : Nat) (ad : Int) (ac ae af ah ai ak ag aj al am ao : Nat) : Nat := let x0 := s_rows_weight_0 l j e L V Z aa ab W X Y M ad ac ae af ah ai ak ag aj al am ao; (bif (!(ieq (s_rows_asked_0 l j e L V Z aa ab W X Y M ad ac ae af ah ai ak ag aj al am ao) (0 : Int))) then 0 else (bif ((!(flt 0 x0)) || (!(s_rows_finite_v1_0 (fun j0 => (bif (Nat.beq j0 0) then (s_rows_weight_0 l j e L V Z aa ab W X Y M ad ac ae af ah ai ak ag aj al am ao) else (fsub W (s_rows_speed_0 l j e L V Z aa ab W X Y M ad ac ae af ah ai ak ag aj al am ao))))))) then ae else (bif (!(s_rows_finite_v1_0 (fun j0 => let x0 := s_num_Clamp_float64__0 (fadd M (fdiv (fsub W (s_rows_speed_0 l j e L V Z aa ab W X Y M ad ac ae af ah ai ak ag aj al am ao)) (s_rows_weight_0 l j e L V Z aa ab W X Y M ad ac ae af ah ai ak ag aj al am ao))) X Y; (bif (Nat.beq j0 0) then x0 else (fsub x0 M))))) then ae else (s_rows_pushed_0 l j e L V Z aa ab W X Y M ad ac ae af ah ai ak ag aj al am ao (fsub (s_num_Clamp_float64__0 (fadd M (fdiv (fsub W (s_rows_speed_0 l j e L V Z aa ab W X Y M ad ac ae af ah ai ak ag aj al am ao)) x0)) X Y) M)))))
def s_rows_One_15 (l j : Int) (e L V Z aa ab W X Y M : Nat) (ad : Int) (ac ae af ah ai ak ag aj al am ao : Nat) : Nat := let x0 := s_rows_weight_0 l j e L V Z aa ab W X Y M ad ac ae af ah ai ak ag aj al am ao; (bif (!(ieq (s_rows_asked_0 l j e L V Z aa ab W X Y M ad ac ae af ah ai ak ag aj al am ao) (0 : Int))) then 0 else (bif ((!(flt 0 x0)) || (!(s_rows_finite_v1_0 (fun j0 => (bif (Nat.beq j0 0) then (s_rows_weight_0 l j e L V Z aa ab W X Y M ad ac ae af ah ai ak ag aj al am ao) else (fsub W (s_rows_speed_0 l j e L V Z aa ab W X Y M ad ac ae af ah ai ak ag aj al am ao))))))) then af else (bif (!(s_rows_finite_v1_0 (fun j0 => let x0 := s_num_Clamp_float64__0 (fadd M (fdiv (fsub W (s_rows_speed_0 l j e L V Z aa ab W X Y M ad ac ae af ah ai ak ag aj al am ao)) (s_rows_weight_0 l j e L V Z aa ab W X Y M ad ac ae af ah ai ak ag aj al am ao))) X Y; (bif (Nat.beq j0 0) then x0 else (fsub x0 M))))) then af else (s_rows_pushed_1 l j e L V Z aa ab W X Y M ad ac ae af ah ai ak ag aj al am ao (fsub (s_num_Clamp_float64__0 (fadd M (fdiv (fsub W (s_rows_speed_0 l j e L V Z aa ab W X Y M ad ac ae af ah ai ak ag aj al am ao)) x0)) X Y) M)))))
def s_rows_One_16 (l j : Int) (e L V Z aa ab W X Y M : Nat) (ad : Int) (ac ae af ah ai ak ag aj al am ao : Nat) : Nat := let x0 := s_rows_weight_0 l j e L V Z aa ab W X Y M ad ac ae af ah ai ak ag aj al am ao; (bif (!(ieq (s_rows_asked_0 l j e L V Z aa ab W X Y M ad ac ae af ah ai ak ag aj al am ao) (0 : Int))) then 0 else (bif ((!(flt 0 x0)) || (!(s_rows_finite_v1_0 (fun j0 => (bif (Nat.beq j0 0) then (s_rows_weight_0 l j e L V Z aa ab W X Y M ad ac ae af ah ai ak ag aj al am ao) else (fsub W (s_rows_speed_0 l j e L V Z aa ab W X Y M ad ac ae af ah ai ak ag aj al am ao))))))) then ah else (bif (!(s_rows_finite_v1_0 (fun j0 => let x0 := s_num_Clamp_float64__0 (fadd M (fdiv (fsub W (s_rows_speed_0 l j e L V Z aa ab W X Y M ad ac ae af ah ai ak ag aj al am ao)) (s_rows_weight_0 l j e L V Z aa ab W X Y M ad ac ae af ah ai ak ag aj al am ao))) X Y; (bif (Nat.beq j0 0) then x0 else (fsub x0 M))))) then ah else (s_rows_pushed_2 l j e L V Z aa ab W X Y M ad ac ae af ah ai ak ag aj al am ao (fsub (s_num_Clamp_float64__0 (fadd M (fdiv (fsub W (s_rows_speed_0 l j e L V Z aa ab W X Y M ad ac ae af ah ai ak ag aj al am ao)) x0)) X Y) M)))))
def s_rows_One_17 (l j : Int) (e L V Z aa ab W X Y M : Nat) (ad : Int) (ac ae af ah ai ak ag aj al am ao : Nat) : Nat := let x0 := s_rows_weight_0 l j e L V Z aa ab W X Y M ad ac ae af ah ai ak ag aj al am ao; (bif (!(ieq (s_rows_asked_0 l j e L V Z aa ab W X Y M ad ac ae af ah ai ak ag aj al am ao) (0 : Int))) then 0 else (bif ((!(flt 0 x0)) || (!(s_rows_finite_v1_0 (fun j0 => (bif (Nat.beq j0 0) then (s_rows_weight_0 l j e L V Z aa ab W X Y M ad ac ae af ah ai ak ag aj al am ao) else (fsub W (s_rows_speed_0 l j e L V Z aa ab W X Y M ad ac ae af ah ai ak ag aj al am ao))))))) then ai else (bif (!(s_rows_finite_v1_0 (fun j0 => let x0 := s_num_Clamp_float64__0 (fadd M (fdiv (fsub W (s_rows_speed_0 l j e L V Z aa ab W X Y M ad ac ae af ah ai ak ag aj al am ao)) (s_rows_weight_0 l j e L V Z aa ab W X Y M ad ac ae af ah ai ak ag aj al am ao))) X Y; (bif (Nat.beq j0 0) then x0 else (fsub x0 M))))) then ai else (s_rows_pushed_3 l j e L V Z aa ab W X Y M ad ac ae af ah ai ak ag aj al am ao (fsub (s_num_Clamp_float64__0 (fadd M (fdiv (fsub W (s_rows_speed_0 l j e L V Z aa ab W X Y M ad ac ae af ah ai ak ag aj al am ao)) x0)) X Y) M)))))
def s_rows_One_18 (l j : Int) (e L V Z aa ab W X Y M : Nat) (ad : Int) (ac ae af ah ai ak ag aj al am ao : Nat) : Nat := let x0 := s_rows_weight_0 l j e L V Z aa ab W X Y M ad ac ae af ah ai ak ag aj al am ao; (bif (!(ieq (s_rows_asked_0 l j e L V Z aa ab W X Y M ad ac ae af ah ai ak ag aj al am ao) (0 : Int))) then 0 else (bif ((!(flt 0 x0)) || (!(s_rows_finite_v1_0 (fun j0 => (bif (Nat.beq j0 0) then (s_rows_weight_0 l j e L V Z aa ab W X Y M ad ac ae af ah ai ak ag aj al am ao) else (fsub W (s_rows_speed_0 l j e L V Z aa ab W X Y M ad ac ae af ah ai ak ag aj al am ao))))))) then ak else (bif (!(s_rows_finite_v1_0 (fun j0 => let x0 := s_num_Clamp_float64__0 (fadd M (fdiv (fsub W (s_rows_speed_0 l j e L V Z aa ab W X Y M ad ac ae af ah ai ak ag aj al am ao)) (s_rows_weight_0 l j e L V Z aa ab W X Y M ad ac ae af ah ai ak ag aj al am ao))) X Y; (bif (Nat.beq j0 0) then x0 else (fsub x0 M))))) then ak else (s_rows_pushed_4 l j e L V Z aa ab W X Y M ad ac ae af ah ai ak ag aj al am ao (fsub (s_num_Clamp_float64__0 (fadd M (fdiv (fsub W (s_rows_speed_0 l j e L V Z aa ab W X Y M ad ac ae af ah ai ak ag aj al am ao)) x0)) X Y) M)))))
def s_rows_One_19 (l j : Int) (e L V Z aa ab W X Y M : Nat) (ad : Int) (ac ae af ah ai ak ag aj al am ao : Nat) : Nat := let x0 := s_rows_weight_0 l j e L V Z aa ab W X Y M ad ac ae af ah ai ak ag aj al am ao; (bif (!(ieq (s_rows_asked_0 l j e L V Z aa ab W X Y M ad ac ae af ah ai ak ag aj al am ao) (0 : Int))) then 0 else (bif ((!(flt 0 x0)) || (!(s_rows_finite_v1_0 (fun j0 => (bif (Nat.beq j0 0) then (s_rows_weight_0 l j e L V Z aa ab W X Y M ad ac ae af ah ai ak ag aj al am ao) else (fsub W (s_rows_speed_0 l j e L V Z aa ab W X Y M ad ac ae af ah ai ak ag aj al am ao))))))) then ag else (bif (!(s_rows_finite_v1_0 (fun j0 => let x0 := s_num_Clamp_float64__0 (fadd M (fdiv (fsub W (s_rows_speed_0 l j e L V Z aa ab W X Y M ad ac ae af ah ai ak ag aj al am ao)) (s_rows_weight_0 l j e L V Z aa ab W X Y M ad ac ae af ah ai ak ag aj al am ao))) X Y; (bif (Nat.beq j0 0) then x0 else (fsub x0 M))))) then ag else (s_rows_pushed_5 l j e L V Z aa ab W X Y M ad ac ae af ah ai ak ag aj al am ao (fsub (s_num_Clamp_float64__0 (fadd M (fdiv (fsub W (s_rows_speed_0 l j e L V Z aa ab W X Y M ad ac ae af ah ai ak ag aj al am ao)) x0)) X Y) M)))))
def s_rows_One_20 (l j : Int) (e L V Z aa ab W X Y M : Nat) (ad : Int) (ac ae af ah ai ak ag aj al am ao : Nat) : Nat := let x0 := s_rows_weight_0 l j e L V Z aa ab W X Y M ad ac ae af ah ai ak ag aj al am ao; (bif (!(ieq (s_rows_asked_0 l j e L V Z aa ab W X Y M ad ac ae af ah ai ak ag aj al am ao) (0 : Int))) then 0 else (bif ((!(flt 0 x0)) || (!(s_rows_finite_v1_0 (fun j0 => (bif (Nat.beq j0 0) then (s_rows_weight_0 l j e L V Z aa ab W X Y M ad ac ae af ah ai ak ag aj al am ao) else (fsub W (s_rows_speed_0 l j e L V Z aa ab W X Y M ad ac ae af ah ai ak ag aj al am ao))))))) then aj else (bif (!(s_rows_finite_v1_0 (fun j0 => let x0 := s_num_Clamp_float64__0 (fadd M (fdiv (fsub W (s_rows_speed_0 l j e L V Z aa ab W X Y M ad ac ae af ah ai ak ag aj al am ao)) (s_rows_weight_0 l j e L V Z aa ab W X Y M ad ac ae af ah ai ak ag aj al am ao))) X Y; (bif (Nat.beq j0 0) then x0 else (fsub x0 M))))) then aj else (s_rows_pushed_6 l j e L V Z aa ab W X Y M ad ac ae af ah ai ak ag aj al am ao (fsub (s_num_Clamp_float64__0 (fadd M (fdiv (fsub W (s_rows_speed_0 l j e L V Z aa ab W X Y M ad ac ae af ah ai ak ag aj al am ao)) x0)) X Y) M)))))
def s_rows_One_21 (l j : Int) (e L V Z aa ab W X Y M : Nat) (ad : Int) (ac ae af ah ai ak ag aj al am ao : Nat) : Nat := let x0 := s_rows_weight_0 l j e L V Z aa ab W X Y M ad ac ae af ah ai ak ag aj al am ao; (bif (!(ieq (s_rows_asked_0 l j e L V Z aa ab W X Y M ad ac ae af ah ai ak ag aj al am ao) (0 : Int))) then 0 else (bif ((!(flt 0 x0)) || (!(s_rows_finite_v1_0 (fun j0 => (bif (Nat.beq j0 0) then (s_rows_weight_0 l j e L V Z aa ab W X Y M ad ac ae af ah ai ak ag aj al am ao) else (fsub W (s_rows_speed_0 l j e L V Z aa ab W X Y M ad ac ae af ah ai ak ag aj al am ao))))))) then al else (bif (!(s_rows_finite_v1_0 (fun j0 => let x0 := s_num_Clamp_float64__0 (fadd M (fdiv (fsub W (s_rows_speed_0 l j e L V Z aa ab W X Y M ad ac ae af ah ai ak ag aj al am ao)) (s_rows_weight_0 l j e L V Z aa ab W X Y M ad ac ae af ah ai ak ag aj al am ao))) X Y; (bif (Nat.beq j0 0) then x0 else (fsub x0 M))))) then al else (s_rows_pushed_7 l j e L V Z aa ab W X Y M ad ac ae af ah ai ak ag aj al am ao (fsub (s_num_Clamp_float64__0 (fadd M (fdiv (fsub W (s_rows_speed_0 l j e L V Z aa ab W X Y M ad ac ae af ah ai ak ag aj al am ao)) x0)) X Y) M)))))
def s_rows_One_22 (l j : Int) (e L V Z aa ab W X Y M : Nat) (ad : Int) (ac ae af ah ai ak ag aj al am ao : Nat) : Nat := let x0 := s_rows_weight_0 l j e L V Z aa ab W X Y M ad ac ae af ah ai ak ag aj al am ao; (bif (!(ieq (s_rows_asked_0 l j e L V Z aa ab W X Y M ad ac ae af ah ai ak ag aj al am ao) (0 : Int))) then 0 else (bif ((!(flt 0 x0)) || (!(s_rows_finite_v1_0 (fun j0 => (bif (Nat.beq j0 0) then (s_rows_weight_0 l j e L V Z aa ab W X Y M ad ac ae af ah ai ak ag aj al am ao) else (fsub W (s_rows_speed_0 l j e L V Z aa ab W X Y M ad ac ae af ah ai ak ag aj al am ao))))))) then am else (bif (!(s_rows_finite_v1_0 (fun j0 => let x0 := s_num_Clamp_float64__0 (fadd M (fdiv (fsub W (s_rows_speed_0 l j e L V Z aa ab W X Y M ad ac ae af ah ai ak ag aj al am ao)) (s_rows_weight_0 l j e L V Z aa ab W X Y M ad ac ae af ah ai ak ag aj al am ao))) X Y; (bif (Nat.beq j0 0) then x0 else (fsub x0 M))))) then am else (s_rows_pushed_8 l j e L V Z aa ab W X Y M ad ac ae af ah ai ak ag aj al am ao (fsub (s_num_Clamp_float64__0 (fadd M (fdiv (fsub W (s_rows_speed_0 l j e L V Z aa ab W X Y M ad ac ae af ah ai ak ag aj al am ao)) x0)) X Y) M)))))
def s_rows_One_23 (l j : Int) (e L V Z aa ab W X Y M : Nat) (ad : Int) (ac ae af ah ai ak ag aj al am ao : Nat) : Nat := let x0 := s_rows_weight_0 l j e L V Z aa ab W X Y M ad ac ae af ah ai ak ag aj al am ao; (bif (!(ieq (s_rows_asked_0 l j e L V Z aa ab W X Y M ad ac ae af ah ai ak ag aj al am ao) (0 : Int))) then 0 else (bif ((!(flt 0 x0)) || (!(s_rows_finite_v1_0 (fun j0 => (bif (Nat.beq j0 0) then (s_rows_weight_0 l j e L V Z aa ab W X Y M ad ac ae af ah ai ak ag aj al am ao) else (fsub W (s_rows_speed_0 l j e L V Z aa ab W X Y M ad ac ae af ah ai ak ag aj al am ao))))))) then ao else (bif (!(s_rows_finite_v1_0 (fun j0 => let x0 := s_num_Clamp_float64__0 (fadd M (fdiv (fsub W (s_rows_speed_0 l j e L V Z aa ab W X Y M ad ac ae af ah ai ak ag aj al am ao)) (s_rows_weight_0 l j e L V Z aa ab W X Y M ad ac ae af ah ai ak ag aj al am ao))) X Y; (bif (Nat.beq j0 0) then x0 else (fsub x0 M))))) then ao else (s_rows_pushed_9 l j e L V Z aa ab W X Y M ad ac ae af ah ai ak ag aj al am ao (fsub (s_num_Clamp_float64__0 (fadd M (fdiv (fsub W (s_rows_speed_0 l j e L V Z aa ab W X Y M ad ac ae af ah ai ak ag aj al am ao)) x0)) X Y) M)))))
def s_rows_One_24 (l j : Int) (e L V Z aa ab W X Y M : Nat) (ad : Int) (ac ae af ah ai ak ag aj al am ao : Nat) : Int := let x0 := s_rows_asked_0 l j e L V Z aa ab W X Y M ad ac ae af ah ai ak ag aj al am ao; (bif (!(ieq x0 (0 : Int))) then x0 else (bif ((!(flt 0 (s_rows_weight_0 l j e L V Z aa ab W X Y M ad ac ae af ah ai ak ag aj al am ao))) || (!(s_rows_finite_v1_0 (fun j0 => (bif (Nat.beq j0 0) then (s_rows_weight_0 l j e L V Z aa ab W X Y M ad ac ae af ah ai ak ag aj al am ao) else (fsub W (s_rows_speed_0 l j e L V Z aa ab W X Y M ad ac ae af ah ai ak ag aj al am ao))))))) then (0 : Int) else (bif (!(s_rows_finite_v1_0 (fun j0 => let x0 := s_num_Clamp_float64__0 (fadd M (fdiv (fsub W (s_rows_speed_0 l j e L V Z aa ab W X Y M ad ac ae af ah ai ak ag aj al am ao)) (s_rows_weight_0 l j e L V Z aa ab W X Y M ad ac ae af ah ai ak ag aj al am ao))) X Y; (bif (Nat.beq j0 0) then x0 else (fsub x0 M))))) then (0 : Int) else (0 : Int))))
def r_rows_One (l j : Int) (e L V Z aa ab W X Y M : Nat) (ad : Int) (ac ae af ah ai ak ag aj al am ao : Nat) : AV := AV.tup [AV.agg [AV.int .i64 (s_rows_One_0 l j e L V Z aa ab W X Y M ad ac ae af ah ai ak ag aj al am ao), AV.int .i64 (s_rows_One_1 l j e L V Z aa ab W X Y M ad ac ae af ah ai ak ag aj al am ao), AV.float (s_rows_One_2 l j e L V Z aa ab W X Y M ad ac ae af ah ai ak ag aj al am ao), AV.float (s_rows_One_3 l j e L V Z aa ab W X Y M ad ac ae af ah ai ak ag aj al am ao), AV.float (s_rows_One_4 l j e L V Z aa ab W X Y M ad ac ae af ah ai ak ag aj al am ao), AV.float (s_rows_One_5 l j e L V Z aa ab W X Y M ad ac ae af ah ai ak ag aj al am ao), AV.float (s_rows_One_6 l j e L V Z aa ab W X Y M ad ac ae af ah ai ak ag aj al am ao), AV.float (s_rows_One_7 l j e L V Z aa ab W X Y M ad ac ae af ah ai ak ag aj al am ao), AV.float (s_rows_One_8 l j e L V Z aa ab W X Y M ad ac ae af ah ai ak ag aj al am ao), AV.float (s_rows_One_9 l j e L V Z aa ab W X Y M ad ac ae af ah ai ak ag aj al am ao), AV.float (s_rows_One_10 l j e L V Z aa ab W X Y M ad ac ae af ah ai ak ag aj al am ao), AV.float (s_rows_One_11 l j e L V Z aa ab W X Y M ad ac ae af ah ai ak ag aj al am ao), AV.int .i64 (s_rows_One_12 l j e L V Z aa ab W X Y M ad ac ae af ah ai ak ag aj al am ao), AV.float (s_rows_One_13 l j e L V Z aa ab W X Y M ad ac ae af ah ai ak ag aj al am ao)], AV.agg [AV.float (s_rows_One_14 l j e L V Z aa ab W X Y M ad ac ae af ah ai ak ag aj al am ao), AV.float (s_rows_One_15 l j e L V Z aa ab W X Y M ad ac ae af ah ai ak ag aj al am ao), AV.float (s_rows_One_16 l j e L V Z aa ab W X Y M ad ac ae af ah ai ak ag aj al am ao), AV.float (s_rows_One_17 l j e L V Z aa ab W X Y M ad ac ae af ah ai ak ag aj al am ao), AV.float (s_rows_One_18 l j e L V Z aa ab W X Y M ad ac ae af ah ai ak ag aj al am ao)], AV.agg [AV.float (s_rows_One_19 l j e L V Z aa ab W X Y M ad ac ae af ah ai ak ag aj al am ao), AV.float (s_rows_One_20 l j e L V Z aa ab W X Y M ad ac ae af ah ai ak ag aj al am ao), AV.float (s_rows_One_21 l j e L V Z aa ab W X Y M ad ac ae af ah ai ak ag aj al am ao), AV.float (s_rows_One_22 l j e L V Z aa ab W X Y M ad ac ae af ah ai ak ag aj al am ao), AV.float (s_rows_One_23 l j e L V Z aa ab W X Y M ad ac ae af ah ai ak ag aj al am ao)], AV.int .i64 (s_rows_One_24 l j e L V Z aa ab W X Y M ad ac ae af ah ai ak ag aj al am ao)]
theorem e_rows_One (l j : Int) (e L V Z aa ab W X Y M : Nat) (ad : Int) (ac ae af ah ai ak ag aj al am ao : Nat) : outB (evFnM Try.prog false menv74 [] [] 96 Ann.no Try.f66 [AV.agg [AV.int .i64 l, AV.int .i64 j, AV.float e, AV.float L, AV.float V, AV.float Z, AV.float aa, AV.float ab, AV.float W, AV.float X, AV.float Y, AV.float M, AV.int .i64 ad, AV.float ac], AV.agg [AV.float ae, AV.float af, AV.float ah, AV.float ai, AV.float ak], AV.agg [AV.float ag, AV.float aj, AV.float al, AV.float am, AV.float ao]] []) = some ((let x0 := !(flt 0 (s_rows_weight_0 l j e L V Z aa ab W X Y M ad ac ae af ah ai ak ag aj al am ao)); let x1 := mrgB x0 true (allB fun _ => true); let x2 := (allB fun _ => true) && x1; (mrgB (!(ieq (s_rows_asked_0 l j e L V Z aa ab W X Y M ad ac ae af ah ai ak ag aj al am ao) (0 : Int))) true (mrgB (x0 || (!(s_rows_finite_v1_0 (fun j0 => (bif (Nat.beq j0 0) then (s_rows_weight_0 l j e L V Z aa ab W X Y M ad ac ae af ah ai ak ag aj al am ao) else (fsub W (s_rows_speed_0 l j e L V Z aa ab W X Y M ad ac ae af ah ai ak ag aj al am ao))))))) x1 (mrgB (!(s_rows_finite_v1_0 (fun j0 => let x0 := s_num_Clamp_float64__0 (fadd M (fdiv (fsub W (s_rows_speed_0 l j e L V Z aa ab W X Y M ad ac ae af ah ai ak ag aj al am ao)) (s_rows_weight_0 l j e L V Z aa ab W X Y M ad ac ae af ah ai ak ag aj al am ao))) X Y; (bif (Nat.beq j0 0) then x0 else (fsub x0 M))))) x2 x2)))), r_rows_One l j e L V Z aa ab W X Y M ad ac ae af ah ai ak ag aj al am ao) := by kernel_rfl
def S_rows_One : List AV → Option (Ob × AV)
  | [AV.agg [AV.int .i64 l, AV.int .i64 j, AV.float e, AV.float L, AV.float V, AV.float Z, AV.float aa, AV.float ab, AV.float W, AV.float X, AV.float Y, AV.float M, AV.int .i64 ad, AV.float ac], AV.agg [AV.float ae, AV.float af, AV.float ah, AV.float ai, AV.float ak], AV.agg [AV.float ag, AV.float aj, AV.float al, AV.float am, AV.float ao]] => some (Ob.tt, r_rows_One l j e L V Z aa ab W X Y M ad ac ae af ah ai ak ag aj al am ao)
  | _ => none
theorem ob_rows_One (l j : Int) (e L V Z aa ab W X Y M : Nat) (ad : Int) (ac ae af ah ai ak ag aj al am ao : Nat) : (let x0 := !(flt 0 (s_rows_weight_0 l j e L V Z aa ab W X Y M ad ac ae af ah ai ak ag aj al am ao)); let x1 := mrgB x0 true (allB fun _ => true); let x2 := (allB fun _ => true) && x1; (mrgB (!(ieq (s_rows_asked_0 l j e L V Z aa ab W X Y M ad ac ae af ah ai ak ag aj al am ao) (0 : Int))) true (mrgB (x0 || (!(s_rows_finite_v1_0 (fun j0 => (bif (Nat.beq j0 0) then (s_rows_weight_0 l j e L V Z aa ab W X Y M ad ac ae af ah ai ak ag aj al am ao) else (fsub W (s_rows_speed_0 l j e L V Z aa ab W X Y M ad ac ae af ah ai ak ag aj al am ao))))))) x1 (mrgB (!(s_rows_finite_v1_0 (fun j0 => let x0 := s_num_Clamp_float64__0 (fadd M (fdiv (fsub W (s_rows_speed_0 l j e L V Z aa ab W X Y M ad ac ae af ah ai ak ag aj al am ao)) (s_rows_weight_0 l j e L V Z aa ab W X Y M ad ac ae af ah ai ak ag aj al am ao))) X Y; (bif (Nat.beq j0 0) then x0 else (fsub x0 M))))) x2 x2)))) = true := by (try simp only [allB_true, eqT_self, mrgB_self, Bool.true_and, Bool.and_true]) <;> first | rfl | simp
theorem t_rows_One : SOkM Try.prog false (66, fun args => match S_rows_One args with | some (o, v) => some (o, v, []) | none => none) := SOkM.flat (N := 96) menv74_ok Try.func66 ann_rows_One Try.call66 fun args o v h ho => by
  unfold S_rows_One at h
  split at h
  · rename_i l j e L V Z aa ab W X Y M ad ac ae af ah ai ak ag aj al am ao
    unfold r_rows_One at h
    cases h
    have ho2 := ho
    have this := show outB (evFnM Try.prog false menv74 [] [] 96 Ann.no Try.f66 [AV.agg [AV.int .i64 l, AV.int .i64 j, AV.float e, AV.float L, AV.float V, AV.float Z, AV.float aa, AV.float ab, AV.float W, AV.float X, AV.float Y, AV.float M, AV.int .i64 ad, AV.float ac], AV.agg [AV.float ae, AV.float af, AV.float ah, AV.float ai, AV.float ak], AV.agg [AV.float ag, AV.float aj, AV.float al, AV.float am, AV.float ao]] []) = _ from e_rows_One l j e L V Z aa ab W X Y M ad ac ae af ah ai ak ag aj al am ao
    rw [(ob_rows_One l j e L V Z aa ab W X Y M ad ac ae af ah ai ak ag aj al am ao)] at this
    exact ⟨this, rfl⟩
  · cases h
def c_rows_One : SFM := fun args => match S_rows_One args with | some (o, v) => some (o, v, []) | none => none
theorem c_rows_One_ok : SOkM Try.prog false (66, c_rows_One) := t_rows_One
def mss75 : List (FuncId × SFM) := (66, c_rows_One) :: mss74
def menv75 : EnvM := mkEnvM mxs mss75 mws1
theorem mss75_ok : All (SOkM Try.prog false) mss75 := All.cons c_rows_One_ok mss74_ok
theorem menv75_ok : menv75.Ok Try.prog false := mkEnvM_ok mxs_ok mss75_ok mws1_ok
end Go.Proofs.Ytofpjfohijljgaa
end
