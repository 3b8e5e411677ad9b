/- The contracts of the functions that these laws reach, loops too, printed by a program of this work: each says what the Go function gives, up to which NaN. -/
import Derived.Test.YtofpjfohijljgaaProg
import Derived.KernelRfl
import Derived.Test.YtofpjfohijljgaaLExact
set_option linter.unusedVariables false
set_option linter.unusedSimpArgs false
set_option maxRecDepth 100000
set_option maxHeartbeats 4000000
noncomputable section
namespace Go.Proofs.Ytofpjfohijljgaa
open Go.Lst
open Go.Sim (fadd fsub fmul fdiv fneg feq flt fle fsqrt cn nanb fabs fcps fsame feq_self cps_cn fabs_cn)
def fL (f : Nat → List AV) (k i : Nat) : Nat := flO (atL (f i) k)
def iL (f : Nat → List AV) (k i : Nat) : Int := inO (atL (f i) k)
def tpA : Nat → List AV → List AV
  | 0, l => l
  | n + 1, l => AV.top :: tpA n l
def tpB : Nat → List Bool → List Bool
  | 0, l => l
  | n + 1, l => true :: tpB n l
def xxs : List (FuncId × XFM) := [(58, xFM true .frombits), (77, xFM true .tobits)]
def xenv : EnvM := mkEnvM xxs [] []
theorem xxs_ok : All (XOkM Try.prog true) xxs := All.cons (xM_ok (ex := true) (f := 58) .frombits fun args w => run_callFunc_extern Try.func58 (by kernel_rfl) (by kernel_rfl) (by kernel_rfl) (by kernel_rfl) args w)
  (All.cons (xM_ok (ex := true) (f := 77) .tobits fun args w => run_callFunc_extern Try.func77 (by kernel_rfl) (by kernel_rfl) (by kernel_rfl) (by kernel_rfl) args w)
  (All.nil))
theorem xenv_ok : xenv.Ok Try.prog true := mkEnvM_ok xxs_ok All.nil All.nil
def mxs : List (FuncId × XFM) := [(58, xFM false .frombits), (77, xFM false .tobits)]
theorem mxs_ok : All (XOkM Try.prog false) mxs := All.cons (xM_ok (ex := false) (f := 58) .frombits fun args w => run_callFunc_extern Try.func58 (by kernel_rfl) (by kernel_rfl) (by kernel_rfl) (by kernel_rfl) args w)
  (All.cons (xM_ok (ex := false) (f := 77) .tobits fun args w => run_callFunc_extern Try.func77 (by kernel_rfl) (by kernel_rfl) (by kernel_rfl) (by kernel_rfl) args w)
  (All.nil))
def mss0 : List (FuncId × SFM) := []
def mws0 : List (FuncId × WFM) := []
def menv0 : EnvM := mkEnvM mxs mss0 mws0
theorem mss0_ok : All (SOkM Try.prog false) mss0 := All.nil
theorem mws0_ok : All (WOkM Try.prog false) mws0 := All.nil
theorem menv0_ok : menv0.Ok Try.prog false := mkEnvM_ok mxs_ok mss0_ok mws0_ok
-- slices.Clone[[]tumble/api.Row,tumble/api.Row]
theorem t_slices_Clone___api_Row_api_Row_ : SOkM Try.prog false (37, cloneS 14 112 56) := SOkM.clone (r0 := (subC [0] (codeOf Try.f37))) (r1 := (subC [1, 0, 0] (codeOf Try.f37))) (A := (subC [1, 0, 1, 0] (codeOf Try.f37))) (B := (subC [1, 0, 1, 1] (codeOf Try.f37))) (rest := (subC [1, 1] (codeOf Try.f37))) (t := 4) menv0_ok Try.func37 Try.call37 (by kernel_rfl) fun n g => by kernel_rfl
def c_slices_Clone___api_Row_api_Row_ : SFM := cloneS 14 112 56
theorem c_slices_Clone___api_Row_api_Row__ok : SOkM Try.prog false (37, c_slices_Clone___api_Row_api_Row_) := t_slices_Clone___api_Row_api_Row_
def mss1 : List (FuncId × SFM) := (37, c_slices_Clone___api_Row_api_Row_) :: mss0
def menv1 : EnvM := mkEnvM mxs mss1 mws0
theorem mss1_ok : All (SOkM Try.prog false) mss1 := All.cons c_slices_Clone___api_Row_api_Row__ok mss0_ok
theorem menv1_ok : menv1.Ok Try.prog false := mkEnvM_ok mxs_ok mss1_ok mws0_ok
-- slices.Clone[[]tumble/api.Still,tumble/api.Still]
theorem t_slices_Clone___api_Still_api_Still_ : SOkM Try.prog false (38, cloneS 5 40 50) := SOkM.clone (r0 := (subC [0] (codeOf Try.f38))) (r1 := (subC [1, 0, 0] (codeOf Try.f38))) (A := (subC [1, 0, 1, 0] (codeOf Try.f38))) (B := (subC [1, 0, 1, 1] (codeOf Try.f38))) (rest := (subC [1, 1] (codeOf Try.f38))) (t := 4) menv1_ok Try.func38 Try.call38 (by kernel_rfl) fun n g => by kernel_rfl
def c_slices_Clone___api_Still_api_Still_ : SFM := cloneS 5 40 50
theorem c_slices_Clone___api_Still_api_Still__ok : SOkM Try.prog false (38, c_slices_Clone___api_Still_api_Still_) := t_slices_Clone___api_Still_api_Still_
def mss2 : List (FuncId × SFM) := (38, c_slices_Clone___api_Still_api_Still_) :: mss1
def menv2 : EnvM := mkEnvM mxs mss2 mws0
theorem mss2_ok : All (SOkM Try.prog false) mss2 := All.cons c_slices_Clone___api_Still_api_Still__ok mss1_ok
theorem menv2_ok : menv2.Ok Try.prog false := mkEnvM_ok mxs_ok mss2_ok mws0_ok
-- math.Abs
def S_math_Abs : List AV → Option AV
  | [AV.float a] => some (AV.float (fabs a))
  | _ => none
theorem t_math_Abs : SOkM Try.prog false (46, pureS S_math_Abs) := exact1 (N := 96) (A := .no) (lits := []) (fk := []) xenv_ok Try.func46 (fnNo _) Try.call46 (fun a v => v = .float (fabs a)) (fun args v h => by
    unfold S_math_Abs at h
    split at h
    · cases h; exact ⟨_, rfl, rfl⟩
    · cases h) fun b v hb h => ⟨.float (absV b), (show outB (evFnM Try.prog true xenv [] [] 96 .no Try.f46 [.float b] []) = some (absOb b, .float (absV b)) by kernel_rfl).trans (by rw [abs_ob]), rfl, fun μ x hx => by subst h; exact toFloat hx (by rw [abs_val hb]; exact (fabs_cn b).symm)⟩
def c_math_Abs : SFM := pureS S_math_Abs
theorem c_math_Abs_ok : SOkM Try.prog false (46, c_math_Abs) := t_math_Abs
def mss3 : List (FuncId × SFM) := (46, c_math_Abs) :: mss2
def menv3 : EnvM := mkEnvM mxs mss3 mws0
theorem mss3_ok : All (SOkM Try.prog false) mss3 := All.cons c_math_Abs_ok mss2_ok
theorem menv3_ok : menv3.Ok Try.prog false := mkEnvM_ok mxs_ok mss3_ok mws0_ok
-- tumble/tumbleref01.None
def S_ref01_None : List AV → Option AV
  | [AV.float a] => some (AV.bool (nanb a))
  | _ => none
theorem t_ref01_None : SOkM Try.prog false (78, pureS S_ref01_None) := exact1 (N := 96) (A := .no) (lits := []) (fk := []) xenv_ok Try.func78 (fnNo _) Try.call78 (fun a v => v = .bool (nanb a)) (fun args v h => by
    unfold S_ref01_None at h
    split at h
    · cases h; exact ⟨_, rfl, rfl⟩
    · cases h) fun b v hb h => ⟨.bool (noneV b), by kernel_rfl, rfl, fun μ x hx => by subst h; exact toBool hx (none_val hb)⟩
def c_ref01_None : SFM := pureS S_ref01_None
theorem c_ref01_None_ok : SOkM Try.prog false (78, c_ref01_None) := t_ref01_None
def mss4 : List (FuncId × SFM) := (78, c_ref01_None) :: mss3
def menv4 : EnvM := mkEnvM mxs mss4 mws0
theorem mss4_ok : All (SOkM Try.prog false) mss4 := All.cons c_ref01_None_ok mss3_ok
theorem menv4_ok : menv4.Ok Try.prog false := mkEnvM_ok mxs_ok mss4_ok mws0_ok
-- tumble/tumblelaw21.awake
def mss5 : List (FuncId × SFM) := mss4
theorem mss5_ok : All (SOkM Try.prog false) mss5 := mss4_ok
def mss6 : List (FuncId × SFM) := (30, (inlSM Try.prog false menv4 [5] [] 96 .no Try.f30)) :: mss5
def menv5 : EnvM := mkEnvM mxs mss6 mws0
theorem mss6_ok : All (SOkM Try.prog false) mss6 := All.cons (SOkM.inl menv4_ok Try.func30 (fnNo _) Try.call30) mss5_ok
theorem menv5_ok : menv5.Ok Try.prog false := mkEnvM_ok mxs_ok mss6_ok mws0_ok
def mss7 : List (FuncId × SFM) := (35, (inlSM Try.prog false menv5 [] [] 96 .no Try.f35)) :: mss6
def menv6 : EnvM := mkEnvM mxs mss7 mws0
theorem mss7_ok : All (SOkM Try.prog false) mss7 := All.cons (SOkM.inl menv5_ok Try.func35 (fnNo _) Try.call35) mss6_ok
theorem menv6_ok : menv6.Ok Try.prog false := mkEnvM_ok mxs_ok mss7_ok mws0_ok
def mss8 : List (FuncId × SFM) := (89, (inlSM Try.prog false menv6 [] [] 96 .no Try.f89)) :: mss7
def menv7 : EnvM := mkEnvM mxs mss8 mws0
theorem mss8_ok : All (SOkM Try.prog false) mss8 := All.cons (SOkM.inl menv6_ok Try.func89 (fnNo _) Try.call89) mss7_ok
theorem menv7_ok : menv7.Ok Try.prog false := mkEnvM_ok mxs_ok mss8_ok mws0_ok
def mss9 : List (FuncId × SFM) := (99, (inlSM Try.prog false menv7 [] [] 96 .no Try.f99)) :: mss8
def menv8 : EnvM := mkEnvM mxs mss9 mws0
theorem mss9_ok : All (SOkM Try.prog false) mss9 := All.cons (SOkM.inl menv7_ok Try.func99 (fnNo _) Try.call99) mss8_ok
theorem menv8_ok : menv8.Ok Try.prog false := mkEnvM_ok mxs_ok mss9_ok mws0_ok
def mss10 : List (FuncId × SFM) := (102, (inlSM Try.prog false menv8 [] [] 96 .no Try.f102)) :: mss9
def menv9 : EnvM := mkEnvM mxs mss10 mws0
theorem mss10_ok : All (SOkM Try.prog false) mss10 := All.cons (SOkM.inl menv8_ok Try.func102 (fnNo _) Try.call102) mss9_ok
theorem menv9_ok : menv9.Ok Try.prog false := mkEnvM_ok mxs_ok mss10_ok mws0_ok
def mss11 : List (FuncId × SFM) := (105, (inlSM Try.prog false menv9 [9, 16] [] 96 .no Try.f105)) :: mss10
def menv10 : EnvM := mkEnvM mxs mss11 mws0
theorem mss11_ok : All (SOkM Try.prog false) mss11 := All.cons (SOkM.inl menv9_ok Try.func105 (fnNo _) Try.call105) mss10_ok
theorem menv10_ok : menv10.Ok Try.prog false := mkEnvM_ok mxs_ok mss11_ok mws0_ok
def mss12 : List (FuncId × SFM) := (101, (inlSM Try.prog false menv10 [] [] 96 .no Try.f101)) :: mss11
def menv11 : EnvM := mkEnvM mxs mss12 mws0
theorem mss12_ok : All (SOkM Try.prog false) mss12 := All.cons (SOkM.inl menv10_ok Try.func101 (fnNo _) Try.call101) mss11_ok
theorem menv11_ok : menv11.Ok Try.prog false := mkEnvM_ok mxs_ok mss12_ok mws0_ok
def mss13 : List (FuncId × SFM) := (91, (inlSM Try.prog false menv11 [] [] 96 .no Try.f91)) :: mss12
def menv12 : EnvM := mkEnvM mxs mss13 mws0
theorem mss13_ok : All (SOkM Try.prog false) mss13 := All.cons (SOkM.inl menv11_ok Try.func91 (fnNo _) Try.call91) mss12_ok
theorem menv12_ok : menv12.Ok Try.prog false := mkEnvM_ok mxs_ok mss13_ok mws0_ok
def mss14 : List (FuncId × SFM) := (82, (inlSM Try.prog false menv12 [] [] 96 .no Try.f82)) :: mss13
def menv13 : EnvM := mkEnvM mxs mss14 mws0
theorem mss14_ok : All (SOkM Try.prog false) mss14 := All.cons (SOkM.inl menv12_ok Try.func82 (fnNo _) Try.call82) mss13_ok
theorem menv13_ok : menv13.Ok Try.prog false := mkEnvM_ok mxs_ok mss14_ok mws0_ok
def mss15 : List (FuncId × SFM) := (53, (inlSM Try.prog false menv13 [24] [] 96 .no Try.f53)) :: mss14
def menv14 : EnvM := mkEnvM mxs mss15 mws0
theorem mss15_ok : All (SOkM Try.prog false) mss15 := All.cons (SOkM.inl menv13_ok Try.func53 (fnNo _) Try.call53) mss14_ok
theorem menv14_ok : menv14.Ok Try.prog false := mkEnvM_ok mxs_ok mss15_ok mws0_ok
def mss16 : List (FuncId × SFM) := (64, (inlSM Try.prog false menv14 [] [] 96 .no Try.f64)) :: mss15
def menv15 : EnvM := mkEnvM mxs mss16 mws0
theorem mss16_ok : All (SOkM Try.prog false) mss16 := All.cons (SOkM.inl menv14_ok Try.func64 (fnNo _) Try.call64) mss15_ok
theorem menv15_ok : menv15.Ok Try.prog false := mkEnvM_ok mxs_ok mss16_ok mws0_ok
def mss17 : List (FuncId × SFM) := (63, (inlSM Try.prog false menv15 [] [] 96 .no Try.f63)) :: mss16
def menv16 : EnvM := mkEnvM mxs mss17 mws0
theorem mss17_ok : All (SOkM Try.prog false) mss17 := All.cons (SOkM.inl menv15_ok Try.func63 (fnNo _) Try.call63) mss16_ok
theorem menv16_ok : menv16.Ok Try.prog false := mkEnvM_ok mxs_ok mss17_ok mws0_ok
def mss18 : List (FuncId × SFM) := (88, (inlSM Try.prog false menv16 [9, 16] [] 96 .no Try.f88)) :: mss17
def menv17 : EnvM := mkEnvM mxs mss18 mws0
theorem mss18_ok : All (SOkM Try.prog false) mss18 := All.cons (SOkM.inl menv16_ok Try.func88 (fnNo _) Try.call88) mss17_ok
theorem menv17_ok : menv17.Ok Try.prog false := mkEnvM_ok mxs_ok mss18_ok mws0_ok
def mss19 : List (FuncId × SFM) := (62, (inlSM Try.prog false menv17 [] [] 96 .no Try.f62)) :: mss18
def menv18 : EnvM := mkEnvM mxs mss19 mws0
theorem mss19_ok : All (SOkM Try.prog false) mss19 := All.cons (SOkM.inl menv17_ok Try.func62 (fnNo _) Try.call62) mss18_ok
theorem menv18_ok : menv18.Ok Try.prog false := mkEnvM_ok mxs_ok mss19_ok mws0_ok
def mss20 : List (FuncId × SFM) := (36, (inlSM Try.prog false menv18 [15, 19, 29, 34] [] 96 .no Try.f36)) :: mss19
def menv19 : EnvM := mkEnvM mxs mss20 mws0
theorem mss20_ok : All (SOkM Try.prog false) mss20 := All.cons (SOkM.inl menv18_ok Try.func36 (fnNo _) Try.call36) mss19_ok
theorem menv19_ok : menv19.Ok Try.prog false := mkEnvM_ok mxs_ok mss20_ok mws0_ok
def mss21 : List (FuncId × SFM) := (86, (inlSM Try.prog false menv19 [] [] 96 .no Try.f86)) :: mss20
def menv20 : EnvM := mkEnvM mxs mss21 mws0
theorem mss21_ok : All (SOkM Try.prog false) mss21 := All.cons (SOkM.inl menv19_ok Try.func86 (fnNo _) Try.call86) mss20_ok
theorem menv20_ok : menv20.Ok Try.prog false := mkEnvM_ok mxs_ok mss21_ok mws0_ok
def mss22 : List (FuncId × SFM) := (60, (inlSM Try.prog false menv20 [19] [] 96 .no Try.f60)) :: mss21
def menv21 : EnvM := mkEnvM mxs mss22 mws0
theorem mss22_ok : All (SOkM Try.prog false) mss22 := All.cons (SOkM.inl menv20_ok Try.func60 (fnNo _) Try.call60) mss21_ok
theorem menv21_ok : menv21.Ok Try.prog false := mkEnvM_ok mxs_ok mss22_ok mws0_ok
def mss23 : List (FuncId × SFM) := (90, (inlSM Try.prog false menv21 [] [] 96 .no Try.f90)) :: mss22
def menv22 : EnvM := mkEnvM mxs mss23 mws0
theorem mss23_ok : All (SOkM Try.prog false) mss23 := All.cons (SOkM.inl menv21_ok Try.func90 (fnNo _) Try.call90) mss22_ok
theorem menv22_ok : menv22.Ok Try.prog false := mkEnvM_ok mxs_ok mss23_ok mws0_ok
def mss24 : List (FuncId × SFM) := (65, (inlSM Try.prog false menv22 [23, 31, 53] [] 96 .no Try.f65)) :: mss23
def menv23 : EnvM := mkEnvM mxs mss24 mws0
theorem mss24_ok : All (SOkM Try.prog false) mss24 := All.cons (SOkM.inl menv22_ok Try.func65 (fnNo _) Try.call65) mss23_ok
theorem menv23_ok : menv23.Ok Try.prog false := mkEnvM_ok mxs_ok mss24_ok mws0_ok
def mss25 : List (FuncId × SFM) := (39, (inlSM Try.prog false menv23 [17] [] 96 .no Try.f39)) :: mss24
def menv24 : EnvM := mkEnvM mxs mss25 mws0
theorem mss25_ok : All (SOkM Try.prog false) mss25 := All.cons (SOkM.inl menv23_ok Try.func39 (fnNo _) Try.call39) mss24_ok
theorem menv24_ok : menv24.Ok Try.prog false := mkEnvM_ok mxs_ok mss25_ok mws0_ok
def mss26 : List (FuncId × SFM) := (98, (inlSM Try.prog false menv24 [] [] 96 .no Try.f98)) :: mss25
def menv25 : EnvM := mkEnvM mxs mss26 mws0
theorem mss26_ok : All (SOkM Try.prog false) mss26 := All.cons (SOkM.inl menv24_ok Try.func98 (fnNo _) Try.call98) mss25_ok
theorem menv25_ok : menv25.Ok Try.prog false := mkEnvM_ok mxs_ok mss26_ok mws0_ok
def mss27 : List (FuncId × SFM) := (87, (inlSM Try.prog false menv25 [] [] 96 .no Try.f87)) :: mss26
def menv26 : EnvM := mkEnvM mxs mss27 mws0
theorem mss27_ok : All (SOkM Try.prog false) mss27 := All.cons (SOkM.inl menv25_ok Try.func87 (fnNo _) Try.call87) mss26_ok
theorem menv26_ok : menv26.Ok Try.prog false := mkEnvM_ok mxs_ok mss27_ok mws0_ok
def mss28 : List (FuncId × SFM) := (61, (inlSM Try.prog false menv26 [] [] 96 .no Try.f61)) :: mss27
def menv27 : EnvM := mkEnvM mxs mss28 mws0
theorem mss28_ok : All (SOkM Try.prog false) mss28 := All.cons (SOkM.inl menv26_ok Try.func61 (fnNo _) Try.call61) mss27_ok
theorem menv27_ok : menv27.Ok Try.prog false := mkEnvM_ok mxs_ok mss28_ok mws0_ok
def mss29 : List (FuncId × SFM) := (74, (inlSM Try.prog false menv27 [] [] 96 .no Try.f74)) :: mss28
def menv28 : EnvM := mkEnvM mxs mss29 mws0
theorem mss29_ok : All (SOkM Try.prog false) mss29 := All.cons (SOkM.inl menv27_ok Try.func74 (fnNo _) Try.call74) mss28_ok
theorem menv28_ok : menv28.Ok Try.prog false := mkEnvM_ok mxs_ok mss29_ok mws0_ok
def mss30 : List (FuncId × SFM) := (92, (inlSM Try.prog false menv28 [7, 13] [] 96 .no Try.f92)) :: mss29
def menv29 : EnvM := mkEnvM mxs mss30 mws0
theorem mss30_ok : All (SOkM Try.prog false) mss30 := All.cons (SOkM.inl menv28_ok Try.func92 (fnNo _) Try.call92) mss29_ok
theorem menv29_ok : menv29.Ok Try.prog false := mkEnvM_ok mxs_ok mss30_ok mws0_ok
def mss31 : List (FuncId × SFM) := (66, (inlSM Try.prog false menv29 [21, 46, 68] [] 96 .no Try.f66)) :: mss30
def menv30 : EnvM := mkEnvM mxs mss31 mws0
theorem mss31_ok : All (SOkM Try.prog false) mss31 := All.cons (SOkM.inl menv29_ok Try.func66 (fnNo _) Try.call66) mss30_ok
theorem menv30_ok : menv30.Ok Try.prog false := mkEnvM_ok mxs_ok mss31_ok mws0_ok
def mws1 : List (FuncId × WFM) := (40, (inlWM Try.prog false menv30 [19, 69] [] 96 .no Try.f40 100000)) :: mws0
def menv31 : EnvM := mkEnvM mxs mss31 mws1
theorem mws1_ok : All (WOkM Try.prog false) mws1 := All.cons (WOkM.inl menv30_ok Try.func40 (fnNo _) Try.call40) mws0_ok
theorem menv31_ok : menv31.Ok Try.prog false := mkEnvM_ok mxs_ok mss31_ok mws1_ok
def mss32 : List (FuncId × SFM) := (12, (inlSM Try.prog false menv31 [20, 27, 35, 63, 81, 85] [] 96 .no Try.f12)) :: mss31
def menv32 : EnvM := mkEnvM mxs mss32 mws1
theorem mss32_ok : All (SOkM Try.prog false) mss32 := All.cons (SOkM.inl menv31_ok Try.func12 (fnNo _) Try.call12) mss31_ok
theorem menv32_ok : menv32.Ok Try.prog false := mkEnvM_ok mxs_ok mss32_ok mws1_ok
def mss33 : List (FuncId × SFM) := (44, (inlSM Try.prog false menv32 [14] [] 96 .no Try.f44)) :: mss32
def menv33 : EnvM := mkEnvM mxs mss33 mws1
theorem mss33_ok : All (SOkM Try.prog false) mss33 := All.cons (SOkM.inl menv32_ok Try.func44 (fnNo _) Try.call44) mss32_ok
theorem menv33_ok : menv33.Ok Try.prog false := mkEnvM_ok mxs_ok mss33_ok mws1_ok
def mss34 : List (FuncId × SFM) := (33, (inlSM Try.prog false menv33 [14] [] 96 .no Try.f33)) :: mss33
def menv34 : EnvM := mkEnvM mxs mss34 mws1
theorem mss34_ok : All (SOkM Try.prog false) mss34 := All.cons (SOkM.inl menv33_ok Try.func33 (fnNo _) Try.call33) mss33_ok
theorem menv34_ok : menv34.Ok Try.prog false := mkEnvM_ok mxs_ok mss34_ok mws1_ok
def mss35 : List (FuncId × SFM) := (75, (inlSM Try.prog false menv34 [] [] 96 .no Try.f75)) :: mss34
def menv35 : EnvM := mkEnvM mxs mss35 mws1
theorem mss35_ok : All (SOkM Try.prog false) mss35 := All.cons (SOkM.inl menv34_ok Try.func75 (fnNo _) Try.call75) mss34_ok
theorem menv35_ok : menv35.Ok Try.prog false := mkEnvM_ok mxs_ok mss35_ok mws1_ok
def mss36 : List (FuncId × SFM) := (76, (inlSM Try.prog false menv35 [] [] 96 .no Try.f76)) :: mss35
def menv36 : EnvM := mkEnvM mxs mss36 mws1
theorem mss36_ok : All (SOkM Try.prog false) mss36 := All.cons (SOkM.inl menv35_ok Try.func76 (fnNo _) Try.call76) mss35_ok
theorem menv36_ok : menv36.Ok Try.prog false := mkEnvM_ok mxs_ok mss36_ok mws1_ok
def mss37 : List (FuncId × SFM) := (45, (inlSM Try.prog false menv36 [23] [] 96 .no Try.f45)) :: mss36
def menv37 : EnvM := mkEnvM mxs mss37 mws1
theorem mss37_ok : All (SOkM Try.prog false) mss37 := All.cons (SOkM.inl menv36_ok Try.func45 (fnNo _) Try.call45) mss36_ok
theorem menv37_ok : menv37.Ok Try.prog false := mkEnvM_ok mxs_ok mss37_ok mws1_ok
def mss38 : List (FuncId × SFM) := (14, (inlSM Try.prog false menv37 [21, 26, 61] [] 96 .no Try.f14)) :: mss37
def menv38 : EnvM := mkEnvM mxs mss38 mws1
theorem mss38_ok : All (SOkM Try.prog false) mss38 := All.cons (SOkM.inl menv37_ok Try.func14 (fnNo _) Try.call14) mss37_ok
theorem menv38_ok : menv38.Ok Try.prog false := mkEnvM_ok mxs_ok mss38_ok mws1_ok
def mss39 : List (FuncId × SFM) := (50, (inlSM Try.prog false menv38 [16, 25] [] 96 .no Try.f50)) :: mss38
def menv39 : EnvM := mkEnvM mxs mss39 mws1
theorem mss39_ok : All (SOkM Try.prog false) mss39 := All.cons (SOkM.inl menv38_ok Try.func50 (fnNo _) Try.call50) mss38_ok
theorem menv39_ok : menv39.Ok Try.prog false := mkEnvM_ok mxs_ok mss39_ok mws1_ok
def mss40 : List (FuncId × SFM) := (21, (inlSM Try.prog false menv39 [19, 25, 37, 48] [] 96 .no Try.f21)) :: mss39
def menv40 : EnvM := mkEnvM mxs mss40 mws1
theorem mss40_ok : All (SOkM Try.prog false) mss40 := All.cons (SOkM.inl menv39_ok Try.func21 (fnNo _) Try.call21) mss39_ok
theorem menv40_ok : menv40.Ok Try.prog false := mkEnvM_ok mxs_ok mss40_ok mws1_ok
def mss41 : List (FuncId × SFM) := (83, (inlSM Try.prog false menv40 [9, 16] [] 96 .no Try.f83)) :: mss40
def menv41 : EnvM := mkEnvM mxs mss41 mws1
theorem mss41_ok : All (SOkM Try.prog false) mss41 := All.cons (SOkM.inl menv40_ok Try.func83 (fnNo _) Try.call83) mss40_ok
theorem menv41_ok : menv41.Ok Try.prog false := mkEnvM_ok mxs_ok mss41_ok mws1_ok
def mss42 : List (FuncId × SFM) := (54, (inlSM Try.prog false menv41 [] [] 96 .no Try.f54)) :: mss41
def menv42 : EnvM := mkEnvM mxs mss42 mws1
theorem mss42_ok : All (SOkM Try.prog false) mss42 := All.cons (SOkM.inl menv41_ok Try.func54 (fnNo _) Try.call54) mss41_ok
theorem menv42_ok : menv42.Ok Try.prog false := mkEnvM_ok mxs_ok mss42_ok mws1_ok
def mss43 : List (FuncId × SFM) := (23, (inlSM Try.prog false menv42 [24, 28, 36, 45, 58, 76, 84] [] 96 .no Try.f23)) :: mss42
def menv43 : EnvM := mkEnvM mxs mss43 mws1
theorem mss43_ok : All (SOkM Try.prog false) mss43 := All.cons (SOkM.inl menv42_ok Try.func23 (fnNo _) Try.call23) mss42_ok
theorem menv43_ok : menv43.Ok Try.prog false := mkEnvM_ok mxs_ok mss43_ok mws1_ok
theorem ann_law21_awake : FnOk Try.prog false 0 Try.f8 Ann.no := (fnNo _)
def s_law21_awake_0 : Bool := true
theorem e_law21_awake : outB (evFnM Try.prog false menv43 [42] [] 96 Ann.no Try.f8 [] []) = some (true, AV.bool (s_law21_awake_0)) := by kernel_rfl
def S_law21_awake : List AV → Option (Ob × AV)
  | [] => some (Ob.tt, AV.bool (s_law21_awake_0))
  | _ => none
theorem t_law21_awake : SOkM Try.prog false (8, fun args => match S_law21_awake args with | some (o, v) => some (o, v, []) | none => none) := SOkM.flat (N := 96) menv43_ok Try.func8 ann_law21_awake Try.call8 fun args o v h ho => by
  unfold S_law21_awake at h
  split at h
  · skip
    cases h
    have ho2 := ho
    have this := show outB (evFnM Try.prog false menv43 [42] [] 96 Ann.no Try.f8 [] []) = _ from e_law21_awake
    exact ⟨this, rfl⟩
  · cases h
def c_law21_awake : SFM := fun args => match S_law21_awake args with | some (o, v) => some (o, v, []) | none => none
theorem c_law21_awake_ok : SOkM Try.prog false (8, c_law21_awake) := t_law21_awake
def mss44 : List (FuncId × SFM) := (8, c_law21_awake) :: mss43
def menv44 : EnvM := mkEnvM mxs mss44 mws1
theorem mss44_ok : All (SOkM Try.prog false) mss44 := All.cons c_law21_awake_ok mss43_ok
theorem menv44_ok : menv44.Ok Try.prog false := mkEnvM_ok mxs_ok mss44_ok mws1_ok
-- tumble/num.Finite[float64]
theorem ann_num_Finite_float64_ : FnOk Try.prog false 0 Try.f89 Ann.no := (fnNo _)
def s_num_Finite_float64__0 (m : Nat) : Bool := (feq (fsub m m) 0)
theorem e_num_Finite_float64_ (m : Nat) : outB (evFnM Try.prog false menv44 [] [] 96 Ann.no Try.f89 [AV.float m] []) = some (true, AV.bool (s_num_Finite_float64__0 m)) := by kernel_rfl
def S_num_Finite_float64_ : List AV → Option (Ob × AV)
  | [AV.float m] => some (Ob.tt, AV.bool (s_num_Finite_float64__0 m))
  | _ => none
theorem t_num_Finite_float64_ : SOkM Try.prog false (89, fun args => match S_num_Finite_float64_ args with | some (o, v) => some (o, v, []) | none => none) := SOkM.flat (N := 96) menv44_ok Try.func89 ann_num_Finite_float64_ Try.call89 fun args o v h ho => by
  unfold S_num_Finite_float64_ at h
  split at h
  · rename_i m
    cases h
    have ho2 := ho
    have this := show outB (evFnM Try.prog false menv44 [] [] 96 Ann.no Try.f89 [AV.float m] []) = _ from e_num_Finite_float64_ m
    exact ⟨this, rfl⟩
  · cases h
def c_num_Finite_float64_ : SFM := fun args => match S_num_Finite_float64_ args with | some (o, v) => some (o, v, []) | none => none
theorem c_num_Finite_float64__ok : SOkM Try.prog false (89, c_num_Finite_float64_) := t_num_Finite_float64_
def mss45 : List (FuncId × SFM) := (89, c_num_Finite_float64_) :: mss44
def menv45 : EnvM := mkEnvM mxs mss45 mws1
theorem mss45_ok : All (SOkM Try.prog false) mss45 := All.cons c_num_Finite_float64__ok mss44_ok
theorem menv45_ok : menv45.Ok Try.prog false := mkEnvM_ok mxs_ok mss45_ok mws1_ok
-- tumble/vec.Finite
theorem ann_vec_Finite : FnOk Try.prog false 0 Try.f99 Ann.no := (fnNo _)
def s_vec_Finite_0 (m j : Nat) : Bool := ((s_num_Finite_float64__0 m) && (s_num_Finite_float64__0 j))
theorem e_vec_Finite (m j : Nat) : outB (evFnM Try.prog false menv45 [] [] 96 Ann.no Try.f99 [AV.agg [AV.float m, AV.float j]] []) = some (true, AV.bool (s_vec_Finite_0 m j)) := by kernel_rfl
def S_vec_Finite : List AV → Option (Ob × AV)
  | [AV.agg [AV.float m, AV.float j]] => some (Ob.tt, AV.bool (s_vec_Finite_0 m j))
  | _ => none
theorem t_vec_Finite : SOkM Try.prog false (99, fun args => match S_vec_Finite args with | some (o, v) => some (o, v, []) | none => none) := SOkM.flat (N := 96) menv45_ok Try.func99 ann_vec_Finite Try.call99 fun args o v h ho => by
  unfold S_vec_Finite at h
  split at h
  · rename_i m j
    cases h
    have ho2 := ho
    have this := show outB (evFnM Try.prog false menv45 [] [] 96 Ann.no Try.f99 [AV.agg [AV.float m, AV.float j]] []) = _ from e_vec_Finite m j
    exact ⟨this, rfl⟩
  · cases h
def c_vec_Finite : SFM := fun args => match S_vec_Finite args with | some (o, v) => some (o, v, []) | none => none
theorem c_vec_Finite_ok : SOkM Try.prog false (99, c_vec_Finite) := t_vec_Finite
def mss46 : List (FuncId × SFM) := (99, c_vec_Finite) :: mss45
def menv46 : EnvM := mkEnvM mxs mss46 mws1
theorem mss46_ok : All (SOkM Try.prog false) mss46 := All.cons c_vec_Finite_ok mss45_ok
theorem menv46_ok : menv46.Ok Try.prog false := mkEnvM_ok mxs_ok mss46_ok mws1_ok
-- tumble/rows.finite$1
theorem ann_rows_finite_1 : FnOk Try.prog false 0 Try.f102 Ann.no := (fnNo _)
def s_rows_finite_1_0 (m : Nat) : Bool := (!(s_num_Finite_float64__0 m))
theorem e_rows_finite_1 (m : Nat) : outB (evFnM Try.prog false menv46 [] [] 96 Ann.no Try.f102 [AV.float m] []) = some (true, AV.bool (s_rows_finite_1_0 m)) := by kernel_rfl
def S_rows_finite_1 : List AV → Option (Ob × AV)
  | [AV.float m] => some (Ob.tt, AV.bool (s_rows_finite_1_0 m))
  | _ => none
theorem t_rows_finite_1 : SOkM Try.prog false (102, fun args => match S_rows_finite_1 args with | some (o, v) => some (o, v, []) | none => none) := SOkM.flat (N := 96) menv46_ok Try.func102 ann_rows_finite_1 Try.call102 fun args o v h ho => by
  unfold S_rows_finite_1 at h
  split at h
  · rename_i m
    cases h
    have ho2 := ho
    have this := show outB (evFnM Try.prog false menv46 [] [] 96 Ann.no Try.f102 [AV.float m] []) = _ from e_rows_finite_1 m
    exact ⟨this, rfl⟩
  · cases h
def c_rows_finite_1 : SFM := fun args => match S_rows_finite_1 args with | some (o, v) => some (o, v, []) | none => none
theorem c_rows_finite_1_ok : SOkM Try.prog false (102, c_rows_finite_1) := t_rows_finite_1
def mss47 : List (FuncId × SFM) := (102, c_rows_finite_1) :: mss46
def menv47 : EnvM := mkEnvM mxs mss47 mws1
theorem mss47_ok : All (SOkM Try.prog false) mss47 := All.cons c_rows_finite_1_ok mss46_ok
theorem menv47_ok : menv47.Ok Try.prog false := mkEnvM_ok mxs_ok mss47_ok mws1_ok
-- slices.IndexFunc[[]float64,float64]
theorem ann_slices_IndexFunc___float64_float64_ : FnOk Try.prog false 0 Try.f105 Ann.no := (fnNo _)
def s_slices_IndexFunc___float64_float64__0 (Z : Nat → Nat) : Int := (bif ((s_rows_finite_1_0 (Z 0)) || ((s_rows_finite_1_0 (Z 1)) || ((s_rows_finite_1_0 (Z 2)) || ((s_rows_finite_1_0 (Z 3)) || (s_rows_finite_1_0 (Z 4)))))) then (bif (s_rows_finite_1_0 (Z 0)) then (0 : Int) else (bif (s_rows_finite_1_0 (Z 1)) then (1 : Int) else (bif (s_rows_finite_1_0 (Z 2)) then (2 : Int) else (bif (s_rows_finite_1_0 (Z 3)) then (3 : Int) else (4 : Int))))) else (-1 : Int))
theorem e_slices_IndexFunc___float64_float64_ (Z : Nat → Nat) : outB (evFnM Try.prog false menv47 [9] [] 96 Ann.no Try.f105 [AV.view 5 1 (fun i0 => [AV.float (Z i0)]), AV.func 102 [] []] []) = some (true, AV.int .i64 (s_slices_IndexFunc___float64_float64__0 Z)) := by kernel_rfl
def S_slices_IndexFunc___float64_float64_ : List AV → Option (Ob × AV)
  | [AV.view 5 1 e, AV.func 102 [] []] => some (Ob.bit (allB fun i => isNrm [Ck.f] (e i)), AV.int .i64 (s_slices_IndexFunc___float64_float64__0 (fL e 0)))
  | _ => none
theorem t_slices_IndexFunc___float64_float64_ : SOkM Try.prog false (105, fun args => match S_slices_IndexFunc___float64_float64_ args with | some (o, v) => some (o, v, []) | none => none) := SOkM.flat (N := 96) menv47_ok Try.func105 ann_slices_IndexFunc___float64_float64_ Try.call105 fun args o v h ho => by
  unfold S_slices_IndexFunc___float64_float64_ at h
  split at h
  · rename_i e
    cases h
    have hn := ho
    have n0 := hn
    simp only [Ob.ok] at n0
    replace n0 := nrm_fun n0
    have this := show outB (evFnM Try.prog false menv47 [9] [] 96 Ann.no Try.f105 [AV.view 5 1 (fun i => mkN [Ck.f] (e i) 0), AV.func 102 [] []] []) = _ from e_slices_IndexFunc___float64_float64_ (fL e 0)
    rw [n0] at this
    exact ⟨this, rfl⟩
  · cases h
def c_slices_IndexFunc___float64_float64_ : SFM := fun args => match S_slices_IndexFunc___float64_float64_ args with | some (o, v) => some (o, v, []) | none => none
theorem c_slices_IndexFunc___float64_float64__ok : SOkM Try.prog false (105, c_slices_IndexFunc___float64_float64_) := t_slices_IndexFunc___float64_float64_
def mss48 : List (FuncId × SFM) := (105, c_slices_IndexFunc___float64_float64_) :: mss47
def menv48 : EnvM := mkEnvM mxs mss48 mws1
theorem mss48_ok : All (SOkM Try.prog false) mss48 := All.cons c_slices_IndexFunc___float64_float64__ok mss47_ok
theorem menv48_ok : menv48.Ok Try.prog false := mkEnvM_ok mxs_ok mss48_ok mws1_ok
-- slices.ContainsFunc[[]float64,float64]
theorem ann_slices_ContainsFunc___float64_float64_ : FnOk Try.prog false 0 Try.f101 Ann.no := (fnNo _)
def s_slices_ContainsFunc___float64_float64__0 (Z : Nat → Nat) : Bool := (ile (0 : Int) (s_slices_IndexFunc___float64_float64__0 Z))
theorem e_slices_ContainsFunc___float64_float64_ (Z : Nat → Nat) : outB (evFnM Try.prog false menv48 [] [] 96 Ann.no Try.f101 [AV.view 5 1 (fun i0 => [AV.float (Z i0)]), AV.func 102 [] []] []) = some ((allB fun _ => true), AV.bool (s_slices_ContainsFunc___float64_float64__0 Z)) := by kernel_rfl
def S_slices_ContainsFunc___float64_float64_ : List AV → Option (Ob × AV)
  | [AV.view 5 1 e, AV.func 102 [] []] => some (Ob.bit (allB fun i => isNrm [Ck.f] (e i)), AV.bool (s_slices_ContainsFunc___float64_float64__0 (fL e 0)))
  | _ => none
theorem ob_slices_ContainsFunc___float64_float64_ (Z : Nat → Nat) : (allB fun _ => true) = true := by (try simp only [allB_true, eqT_self, mrgB_self, Bool.true_and, Bool.and_true]) <;> first | rfl | simp
theorem t_slices_ContainsFunc___float64_float64_ : SOkM Try.prog false (101, fun args => match S_slices_ContainsFunc___float64_float64_ args with | some (o, v) => some (o, v, []) | none => none) := SOkM.flat (N := 96) menv48_ok Try.func101 ann_slices_ContainsFunc___float64_float64_ Try.call101 fun args o v h ho => by
  unfold S_slices_ContainsFunc___float64_float64_ at h
  split at h
  · rename_i e
    cases h
    have hn := ho
    have n0 := hn
    simp only [Ob.ok] at n0
    replace n0 := nrm_fun n0
    have this := show outB (evFnM Try.prog false menv48 [] [] 96 Ann.no Try.f101 [AV.view 5 1 (fun i => mkN [Ck.f] (e i) 0), AV.func 102 [] []] []) = _ from e_slices_ContainsFunc___float64_float64_ (fL e 0)
    rw [(ob_slices_ContainsFunc___float64_float64_ (fL e 0))] at this
    rw [n0] at this
    exact ⟨this, rfl⟩
  · cases h
def c_slices_ContainsFunc___float64_float64_ : SFM := fun args => match S_slices_ContainsFunc___float64_float64_ args with | some (o, v) => some (o, v, []) | none => none
theorem c_slices_ContainsFunc___float64_float64__ok : SOkM Try.prog false (101, c_slices_ContainsFunc___float64_float64_) := t_slices_ContainsFunc___float64_float64_
def mss49 : List (FuncId × SFM) := (101, c_slices_ContainsFunc___float64_float64_) :: mss48
def menv49 : EnvM := mkEnvM mxs mss49 mws1
theorem mss49_ok : All (SOkM Try.prog false) mss49 := All.cons c_slices_ContainsFunc___float64_float64__ok mss48_ok
theorem menv49_ok : menv49.Ok Try.prog false := mkEnvM_ok mxs_ok mss49_ok mws1_ok
-- tumble/rows.finite
theorem ann_rows_finite : FnOk Try.prog false 0 Try.f91 Ann.no := (fnNo _)
def s_rows_finite_0 (Z : Nat → Nat) : Bool := (!(s_slices_ContainsFunc___float64_float64__0 Z))
theorem e_rows_finite (Z : Nat → Nat) : outB (evFnM Try.prog false menv49 [] [] 96 Ann.no Try.f91 [AV.view 5 1 (fun i0 => [AV.float (Z i0)])] []) = some ((allB fun _ => true), AV.bool (s_rows_finite_0 Z)) := by kernel_rfl
def S_rows_finite : List AV → Option (Ob × AV)
  | [AV.view 5 1 e] => some (Ob.bit (allB fun i => isNrm [Ck.f] (e i)), AV.bool (s_rows_finite_0 (fL e 0)))
  | _ => none
theorem ob_rows_finite (Z : Nat → Nat) : (allB fun _ => true) = true := by (try simp only [allB_true, eqT_self, mrgB_self, Bool.true_and, Bool.and_true]) <;> first | rfl | simp
theorem t_rows_finite : SOkM Try.prog false (91, fun args => match S_rows_finite args with | some (o, v) => some (o, v, []) | none => none) := SOkM.flat (N := 96) menv49_ok Try.func91 ann_rows_finite Try.call91 fun args o v h ho => by
  unfold S_rows_finite at h
  split at h
  · rename_i e
    cases h
    have hn := ho
    have n0 := hn
    simp only [Ob.ok] at n0
    replace n0 := nrm_fun n0
    have this := show outB (evFnM Try.prog false menv49 [] [] 96 Ann.no Try.f91 [AV.view 5 1 (fun i => mkN [Ck.f] (e i) 0)] []) = _ from e_rows_finite (fL e 0)
    rw [(ob_rows_finite (fL e 0))] at this
    rw [n0] at this
    exact ⟨this, rfl⟩
  · cases h
def c_rows_finite : SFM := fun args => match S_rows_finite args with | some (o, v) => some (o, v, []) | none => none
theorem c_rows_finite_ok : SOkM Try.prog false (91, c_rows_finite) := t_rows_finite
def mss50 : List (FuncId × SFM) := (91, c_rows_finite) :: mss49
def menv50 : EnvM := mkEnvM mxs mss50 mws1
theorem mss50_ok : All (SOkM Try.prog false) mss50 := All.cons c_rows_finite_ok mss49_ok
theorem menv50_ok : menv50.Ok Try.prog false := mkEnvM_ok mxs_ok mss50_ok mws1_ok
-- tumble/rows.fits
theorem ann_rows_fits : FnOk Try.prog false 0 Try.f82 Ann.no := (fnNo _)
def s_rows_fits_0 (m j : Int) (l q C E J K z D I r : Nat) (O : Int) (L : Nat) : Bool := ((((((ile (0 : Int) m) && (ile (0 : Int) j)) && (!(ieq m j))) && (s_vec_Finite_0 l q)) && (s_vec_Finite_0 C E)) && ((((s_rows_finite_0 (fun j0 => (bif (Nat.beq j0 0) then J else (bif (Nat.beq (j0 - 1) 0) then K else (bif (Nat.beq ((j0 - 1) - 1) 0) then z else (bif (Nat.beq (((j0 - 1) - 1) - 1) 0) then r else L)))))) && (fle 0 L)) && (fle D I)) && (ile (-1 : Int) O)))
theorem e_rows_fits (m j : Int) (l q C E J K z D I r : Nat) (O : Int) (L : Nat) : outB (evFnM Try.prog false menv50 [] [] 96 Ann.no Try.f82 [AV.agg [AV.int .i64 m, AV.int .i64 j, AV.float l, AV.float q, AV.float C, AV.float E, AV.float J, AV.float K, AV.float z, AV.float D, AV.float I, AV.float r, AV.int .i64 O, AV.float L]] []) = some ((let x0 := s_rows_finite_0 (fun j0 => (bif (Nat.beq j0 0) then J else (bif (Nat.beq (j0 - 1) 0) then K else (bif (Nat.beq ((j0 - 1) - 1) 0) then z else (bif (Nat.beq (((j0 - 1) - 1) - 1) 0) then r else L))))); let x1 := mrgB x0 (allB fun _ => true) (allB fun _ => true); let x2 := x0 && (fle 0 L); let x3 := mrgB x2 x1 x1; (mrgB (((((ile (0 : Int) m) && (ile (0 : Int) j)) && (!(ieq m j))) && (s_vec_Finite_0 l q)) && (s_vec_Finite_0 C E)) (mrgB (x2 && (fle D I)) x3 x3) true)), AV.bool (s_rows_fits_0 m j l q C E J K z D I r O L)) := by kernel_rfl
def S_rows_fits : List AV → Option (Ob × AV)
  | [AV.agg [AV.int .i64 m, AV.int .i64 j, AV.float l, AV.float q, AV.float C, AV.float E, AV.float J, AV.float K, AV.float z, AV.float D, AV.float I, AV.float r, AV.int .i64 O, AV.float L]] => some (Ob.tt, AV.bool (s_rows_fits_0 m j l q C E J K z D I r O L))
  | _ => none
theorem ob_rows_fits (m j : Int) (l q C E J K z D I r : Nat) (O : Int) (L : Nat) : (let x0 := s_rows_finite_0 (fun j0 => (bif (Nat.beq j0 0) then J else (bif (Nat.beq (j0 - 1) 0) then K else (bif (Nat.beq ((j0 - 1) - 1) 0) then z else (bif (Nat.beq (((j0 - 1) - 1) - 1) 0) then r else L))))); let x1 := mrgB x0 (allB fun _ => true) (allB fun _ => true); let x2 := x0 && (fle 0 L); let x3 := mrgB x2 x1 x1; (mrgB (((((ile (0 : Int) m) && (ile (0 : Int) j)) && (!(ieq m j))) && (s_vec_Finite_0 l q)) && (s_vec_Finite_0 C E)) (mrgB (x2 && (fle D I)) x3 x3) true)) = true := by (try simp only [allB_true, eqT_self, mrgB_self, Bool.true_and, Bool.and_true]) <;> first | rfl | simp
theorem t_rows_fits : SOkM Try.prog false (82, fun args => match S_rows_fits args with | some (o, v) => some (o, v, []) | none => none) := SOkM.flat (N := 96) menv50_ok Try.func82 ann_rows_fits Try.call82 fun args o v h ho => by
  unfold S_rows_fits at h
  split at h
  · rename_i m j l q C E J K z D I r O L
    cases h
    have ho2 := ho
    have this := show outB (evFnM Try.prog false menv50 [] [] 96 Ann.no Try.f82 [AV.agg [AV.int .i64 m, AV.int .i64 j, AV.float l, AV.float q, AV.float C, AV.float E, AV.float J, AV.float K, AV.float z, AV.float D, AV.float I, AV.float r, AV.int .i64 O, AV.float L]] []) = _ from e_rows_fits m j l q C E J K z D I r O L
    rw [(ob_rows_fits m j l q C E J K z D I r O L)] at this
    exact ⟨this, rfl⟩
  · cases h
def c_rows_fits : SFM := fun args => match S_rows_fits args with | some (o, v) => some (o, v, []) | none => none
theorem c_rows_fits_ok : SOkM Try.prog false (82, c_rows_fits) := t_rows_fits
def mss51 : List (FuncId × SFM) := (82, c_rows_fits) :: mss50
def menv51 : EnvM := mkEnvM mxs mss51 mws1
theorem mss51_ok : All (SOkM Try.prog false) mss51 := All.cons c_rows_fits_ok mss50_ok
theorem menv51_ok : menv51.Ok Try.prog false := mkEnvM_ok mxs_ok mss51_ok mws1_ok
-- tumble/rows.Check
theorem ann_rows_Check : FnOk Try.prog false 0 Try.f53 Ann.no := (fnNo _)
def s_rows_Check_0 (m j : Int) (l q C E J K z D I r : Nat) (O : Int) (L : Nat) (M P : Int) : Int := (bif (((!(s_rows_fits_0 m j l q C E J K z D I r O L)) || (ile P (if j > m then j else m))) || (ile M O)) then (200 : Int) else (0 : Int))
theorem e_rows_Check (m j : Int) (l q C E J K z D I r : Nat) (O : Int) (L : Nat) (M P : Int) : outB (evFnM Try.prog false menv51 [] [] 96 Ann.no Try.f53 [AV.agg [AV.int .i64 m, AV.int .i64 j, AV.float l, AV.float q, AV.float C, AV.float E, AV.float J, AV.float K, AV.float z, AV.float D, AV.float I, AV.float r, AV.int .i64 O, AV.float L], AV.int .i64 M, AV.int .i64 P] []) = some (true, AV.int .i64 (s_rows_Check_0 m j l q C E J K z D I r O L M P)) := by kernel_rfl
def S_rows_Check : List AV → Option (Ob × AV)
  | [AV.agg [AV.int .i64 m, AV.int .i64 j, AV.float l, AV.float q, AV.float C, AV.float E, AV.float J, AV.float K, AV.float z, AV.float D, AV.float I, AV.float r, AV.int .i64 O, AV.float L], AV.int .i64 M, AV.int .i64 P] => some (Ob.tt, AV.int .i64 (s_rows_Check_0 m j l q C E J K z D I r O L M P))
  | _ => none
theorem t_rows_Check : SOkM Try.prog false (53, fun args => match S_rows_Check args with | some (o, v) => some (o, v, []) | none => none) := SOkM.flat (N := 96) menv51_ok Try.func53 ann_rows_Check Try.call53 fun args o v h ho => by
  unfold S_rows_Check at h
  split at h
  · rename_i m j l q C E J K z D I r O L M P
    cases h
    have ho2 := ho
    have this := show outB (evFnM Try.prog false menv51 [] [] 96 Ann.no Try.f53 [AV.agg [AV.int .i64 m, AV.int .i64 j, AV.float l, AV.float q, AV.float C, AV.float E, AV.float J, AV.float K, AV.float z, AV.float D, AV.float I, AV.float r, AV.int .i64 O, AV.float L], AV.int .i64 M, AV.int .i64 P] []) = _ from e_rows_Check m j l q C E J K z D I r O L M P
    exact ⟨this, rfl⟩
  · cases h
def c_rows_Check : SFM := fun args => match S_rows_Check args with | some (o, v) => some (o, v, []) | none => none
theorem c_rows_Check_ok : SOkM Try.prog false (53, c_rows_Check) := t_rows_Check
def mss52 : List (FuncId × SFM) := (53, c_rows_Check) :: mss51
def menv52 : EnvM := mkEnvM mxs mss52 mws1
theorem mss52_ok : All (SOkM Try.prog false) mss52 := All.cons c_rows_Check_ok mss51_ok
theorem menv52_ok : menv52.Ok Try.prog false := mkEnvM_ok mxs_ok mss52_ok mws1_ok
-- slices.Index[[]int,int]
-- a loop of slices.Index[[]int,int]
structure V_slices_Index___int_int__L0 where
  v0 : Int
def tpl_slices_Index___int_int__L0 : List AV := (AV.nul :: AV.nul :: AV.top :: AV.top :: AV.top :: AV.top :: AV.top :: AV.nul :: AV.nul :: tpA 10 ([]))
def cts_slices_Index___int_int__L0 : List CT := []
def phs_slices_Index___int_int__L0 : List Src := []
def T_slices_Index___int_int__L0 (u : Nat) (F : Nat → Int) (aa ac : Int) (x : V_slices_Index___int_int__L0) (F0 : Nat → List AV) : List AV × Heap := ((AV.view u 1 F0 :: AV.int .i64 aa :: AV.top :: AV.top :: AV.top :: AV.top :: AV.top :: AV.int .i64 ac :: AV.int .i64 x.v0 :: tpA 10 ([])), [])
def sh_slices_Index___int_int__L0 (u : Nat) (F : Nat → Int) (aa ac : Int) (x : V_slices_Index___int_int__L0) : List AV × Heap := T_slices_Index___int_int__L0 u F aa ac x (fun j0 => [AV.int .i64 (F j0)])
def step_slices_Index___int_int__L0 (u : Nat) (F : Nat → Int) (aa ac : Int) (x : V_slices_Index___int_int__L0) : V_slices_Index___int_int__L0 := V_slices_Index___int_int__L0.mk (IntKind.wrap .i64 (x.v0 + (1 : Int)))
def go_slices_Index___int_int__L0 (u : Nat) (F : Nat → Int) (aa ac : Int) (x : V_slices_Index___int_int__L0) : Bool := (bif (bif (!(ilt x.v0 ac)) then false else (ieq aa (F (Int.toNat x.v0)))) then false else (bif (!(ilt x.v0 ac)) then false else true))
def ok_slices_Index___int_int__L0 (u : Nat) (F : Nat → Int) (aa ac : Int) (x : V_slices_Index___int_int__L0) : Bool := (mrgB (bif (!(ilt x.v0 ac)) then false else (ieq aa (F (Int.toNat x.v0)))) ((ile (0 : Int) x.v0) && (Nat.blt (Int.toNat x.v0) u)) (mrgB (!(ilt x.v0 ac)) true ((ile (0 : Int) x.v0) && (Nat.blt (Int.toNat x.v0) u))))
def L_slices_Index___int_int__L0 (u : Nat) (F : Nat → Int) (aa ac : Int) (x : V_slices_Index___int_int__L0) : V_slices_Index___int_int__L0 := lastL (ok_slices_Index___int_int__L0 u F aa ac) (go_slices_Index___int_int__L0 u F aa ac) (step_slices_Index___int_int__L0 u F aa ac) x
def E_slices_Index___int_int__L0 (u : Nat) (F : Nat → Int) (aa ac : Int) (x : V_slices_Index___int_int__L0) : Bool := endsL (ok_slices_Index___int_int__L0 u F aa ac) (go_slices_Index___int_int__L0 u F aa ac) (step_slices_Index___int_int__L0 u F aa ac) x
theorem all_slices_Index___int_int__L0 (u : Nat) (F : Nat → Int) (aa ac : Int) (x : V_slices_Index___int_int__L0) : rnd Try.prog false menv52 [] [] 96 Ann.no (subC [1, 0, 1, 0, 0] (codeOf Try.f83)) 0 [] tpl_slices_Index___int_int__L0 cts_slices_Index___int_int__L0 (false :: false :: true :: true :: true :: true :: true :: false :: tpB 11 ([])) [] (sh_slices_Index___int_int__L0 u F aa ac x) = (true, true, go_slices_Index___int_int__L0 u F aa ac x, ok_slices_Index___int_int__L0 u F aa ac x, true, sh_slices_Index___int_int__L0 u F aa ac (step_slices_Index___int_int__L0 u F aa ac x), true) := by kernel_rfl
def fam_slices_Index___int_int__L0 (u : Nat) (F : Nat → Int) (aa ac : Int) : Fam Try.prog false menv52 [] [] 96 0 Ann.no (subC [1, 0, 1, 0, 0] (codeOf Try.f83)) V_slices_Index___int_int__L0 where
  sh := sh_slices_Index___int_int__L0 u F aa ac
  ok := ok_slices_Index___int_int__L0 u F aa ac
  go := go_slices_Index___int_int__L0 u F aa ac
  step := step_slices_Index___int_int__L0 u F aa ac
  chg := (false :: false :: true :: true :: true :: true :: true :: false :: tpB 11 ([]))
  chgH := []
  tpl := tpl_slices_Index___int_int__L0
  cts := cts_slices_Index___int_int__L0
  keep := 0
  srcs := []
  ann := (annNo (subC [1, 0, 1, 0, 0] (codeOf Try.f83)))
  le := by kernel_rfl
  kept := by kernel_rfl
  keptB := by kernel_rfl
  all := all_slices_Index___int_int__L0 u F aa ac
  len := fun x => by kernel_rfl
  head := fun x y => by kernel_rfl
  con := fun x y => by kernel_rfl
  conH := fun x y => by kernel_rfl
def F_slices_Index___int_int__L0 : St → Option Ch := fun s => cond (Nat.beq s.tm.length 19 && Nat.beq s.H.length 0) (tkCons (alL tpl_slices_Index___int_int__L0 s.tm) fun m t0 => tkView 1 m fun s0 f0 => tkCons t0 fun j t1 => tkI .i64 j fun s2 => tkTops 5 t1 fun t2 => tkCons t2 fun q t3 => tkI .i64 q fun s3 => tkCons t3 fun C t4 => tkI .i64 C fun s4 => tkTops 10 t4 fun t5 => tkNil t5 <| tkNil (alH cts_slices_Index___int_int__L0 (s.H ++ List.map phan phs_slices_Index___int_int__L0)) <| Fam.out (fam_slices_Index___int_int__L0 s0 (iL f0 0) s2 s3) s (allB fun i => isNrm [Ck.i .i64] (f0 i)) (V_slices_Index___int_int__L0.mk s4)) none
theorem F_slices_Index___int_int__L0_ok : ∀ s ch, F_slices_Index___int_int__L0 s = some ch → AllI s ch ∧ LoopSpec Try.prog false 0 (subC [1, 0, 1, 0, 0] (codeOf Try.f83)) s (sel ch) := by
  intro s ch h
  unfold F_slices_Index___int_int__L0 at h
  obtain ⟨hl, h0⟩ := cond_some h rfl
  clear h
  obtain ⟨hl, hb⟩ := and_beq2 hl
  obtain ⟨m, t0, e0, h1⟩ := tkCons_some h0
  obtain ⟨s0, f0, rfl, h2⟩ := tkView_some h1
  obtain ⟨j, t1, rfl, h3⟩ := tkCons_some h2
  obtain ⟨s2, rfl, h4⟩ := tkI_some h3
  obtain ⟨t2, rfl, h5⟩ := tkTops_some h4
  obtain ⟨q, t3, rfl, h6⟩ := tkCons_some h5
  obtain ⟨s3, rfl, h7⟩ := tkI_some h6
  obtain ⟨C, t4, rfl, h8⟩ := tkCons_some h7
  obtain ⟨s4, rfl, h9⟩ := tkI_some h8
  obtain ⟨t5, rfl, h10⟩ := tkTops_some h9
  obtain ⟨rfl, h11⟩ := tkNil_some h10
  obtain ⟨eH, h12⟩ := tkNil_some h11
  refine Fam.spec menv52_ok (fam_slices_Index___int_int__L0 s0 (iL f0 0) s2 s3) (phs := phs_slices_Index___int_int__L0) (hl.trans (by kernel_rfl)) (hb.trans (by kernel_rfl)) ?_ ?_ h12
  · rw [← hdr_alH cts_slices_Index___int_int__L0 (s.H ++ List.map phan phs_slices_Index___int_int__L0), eH]; kernel_rfl
  · intro hq
    have hq0 := hq
    have n0 := nrm_fun hq0
    show sh_slices_Index___int_int__L0 s0 (iL f0 0) s2 s3 (V_slices_Index___int_int__L0.mk s4) = (alL tpl_slices_Index___int_int__L0 s.tm, alH cts_slices_Index___int_int__L0 (s.H ++ List.map phan phs_slices_Index___int_int__L0))
    rw [e0, eH]
    refine Eq.trans (show sh_slices_Index___int_int__L0 s0 (iL f0 0) s2 s3 (V_slices_Index___int_int__L0.mk s4) = T_slices_Index___int_int__L0 s0 (iL f0 0) s2 s3 (V_slices_Index___int_int__L0.mk s4) (fun i => mkN [Ck.i .i64] (f0 i) 0) by kernel_rfl) ?_
    rw [n0]
    kernel_rfl
theorem ann_slices_Index___int_int_ : FnOk Try.prog false 0 Try.f83 (Ann.two Ann.no (Ann.two (Ann.two Ann.no (Ann.one (Ann.loop F_slices_Index___int_int__L0))) Ann.no)) := (fnOk_of (c := codeOf Try.f83) (by kernel_rfl) (annSeq (a := (subC [0] (codeOf Try.f83))) (b := (subC [1] (codeOf Try.f83))) (by kernel_rfl) (annNo (subC [0] (codeOf Try.f83))) (annSeq (a := (subC [1, 0] (codeOf Try.f83))) (b := (subC [1, 1] (codeOf Try.f83))) (by kernel_rfl) (annSeq (a := (subC [1, 0, 0] (codeOf Try.f83))) (b := (subC [1, 0, 1] (codeOf Try.f83))) (by kernel_rfl) (annNo (subC [1, 0, 0] (codeOf Try.f83))) (annBlock (a := (subC [1, 0, 1, 0] (codeOf Try.f83))) (i := 0) (by kernel_rfl) (annLoop (a := (subC [1, 0, 1, 0, 0] (codeOf Try.f83))) (by kernel_rfl) F_slices_Index___int_int__L0_ok))) (annNo (subC [1, 1] (codeOf Try.f83))))))
def s_slices_Index___int_int__0 (k : Nat) (Z : Nat → Int) (j : Int) : Int := (bif (bif (!(ilt ((L_slices_Index___int_int__L0 k Z j (Int.ofNat k) (V_slices_Index___int_int__L0.mk (0 : Int))).v0) (Int.ofNat k))) then false else (ieq j (Z (Int.toNat ((L_slices_Index___int_int__L0 k Z j (Int.ofNat k) (V_slices_Index___int_int__L0.mk (0 : Int))).v0))))) then ((L_slices_Index___int_int__L0 k Z j (Int.ofNat k) (V_slices_Index___int_int__L0.mk (0 : Int))).v0) else (-1 : Int))
def q_slices_Index___int_int_ (k : Nat) (Z : Nat → Int) (j : Int) : Bool := (mrgB (bif (!(ilt ((L_slices_Index___int_int__L0 k Z j (Int.ofNat k) (V_slices_Index___int_int__L0.mk (0 : Int))).v0) (Int.ofNat k))) then false else (ieq j (Z (Int.toNat ((L_slices_Index___int_int__L0 k Z j (Int.ofNat k) (V_slices_Index___int_int__L0.mk (0 : Int))).v0))))) ((allB fun _ => true) && (E_slices_Index___int_int__L0 k Z j (Int.ofNat k) (V_slices_Index___int_int__L0.mk (0 : Int)))) ((allB fun _ => true) && (E_slices_Index___int_int__L0 k Z j (Int.ofNat k) (V_slices_Index___int_int__L0.mk (0 : Int)))))
theorem e_slices_Index___int_int_ (k : Nat) (Z : Nat → Int) (j : Int) : outB (evFnM Try.prog false menv52 [] [] 96 (Ann.two Ann.no (Ann.two (Ann.two Ann.no (Ann.one (Ann.loop F_slices_Index___int_int__L0))) Ann.no)) Try.f83 [AV.view k 1 (fun i0 => [AV.int .i64 (Z i0)]), AV.int .i64 j] []) = some (q_slices_Index___int_int_ k Z j, AV.int .i64 (s_slices_Index___int_int__0 k Z j)) := by kernel_rfl
def o_slices_Index___int_int_ (k : Nat) (Z : Nat → Int) (j : Int) : Bool := (mrgB (bif (!(ilt ((L_slices_Index___int_int__L0 k Z j (Int.ofNat k) (V_slices_Index___int_int__L0.mk (0 : Int))).v0) (Int.ofNat k))) then false else (ieq j (Z (Int.toNat ((L_slices_Index___int_int__L0 k Z j (Int.ofNat k) (V_slices_Index___int_int__L0.mk (0 : Int))).v0))))) (E_slices_Index___int_int__L0 k Z j (Int.ofNat k) (V_slices_Index___int_int__L0.mk (0 : Int))) (E_slices_Index___int_int__L0 k Z j (Int.ofNat k) (V_slices_Index___int_int__L0.mk (0 : Int))))
def S_slices_Index___int_int_ : List AV → Option (Ob × AV)
  | [AV.view k 1 e, AV.int .i64 j] => some (Ob.both (Ob.bit (allB fun i => isNrm [Ck.i .i64] (e i))) (Ob.bit (o_slices_Index___int_int_ k (iL e 0) j)), AV.int .i64 (s_slices_Index___int_int__0 k (iL e 0) j))
  | _ => none
theorem ob_slices_Index___int_int_ (k : Nat) (Z : Nat → Int) (j : Int) (ho : o_slices_Index___int_int_ k Z j = true) : q_slices_Index___int_int_ k Z j = true := by
  unfold q_slices_Index___int_int_
  unfold o_slices_Index___int_int_ at ho
  simp only [allB_true, eqT_self, mrgB_self, Bool.true_and, Bool.and_true] at ho ⊢
  exact ho
theorem t_slices_Index___int_int_ : SOkM Try.prog false (83, fun args => match S_slices_Index___int_int_ args with | some (o, v) => some (o, v, []) | none => none) := SOkM.flat (N := 96) menv52_ok Try.func83 ann_slices_Index___int_int_ Try.call83 fun args o v h ho => by
  unfold S_slices_Index___int_int_ at h
  split at h
  · rename_i k e j
    cases h
    rw [Ob.both_ok, Bool.and_eq_true] at ho
    obtain ⟨hn, ho2⟩ := ho
    have n0 := hn
    simp only [Ob.ok] at n0
    replace n0 := nrm_fun n0
    have this := show outB (evFnM Try.prog false menv52 [] [] 96 (Ann.two Ann.no (Ann.two (Ann.two Ann.no (Ann.one (Ann.loop F_slices_Index___int_int__L0))) Ann.no)) Try.f83 [AV.view k 1 (fun i => mkN [Ck.i .i64] (e i) 0), AV.int .i64 j] []) = _ from e_slices_Index___int_int_ k (iL e 0) j
    rw [(ob_slices_Index___int_int_ k (iL e 0) j ho2)] at this
    rw [n0] at this
    exact ⟨this, rfl⟩
  · cases h
def c_slices_Index___int_int_ : SFM := fun args => match S_slices_Index___int_int_ args with | some (o, v) => some (o, v, []) | none => none
theorem c_slices_Index___int_int__ok : SOkM Try.prog false (83, c_slices_Index___int_int_) := t_slices_Index___int_int_
def mss53 : List (FuncId × SFM) := (83, c_slices_Index___int_int_) :: mss52
def menv53 : EnvM := mkEnvM mxs mss53 mws1
theorem mss53_ok : All (SOkM Try.prog false) mss53 := All.cons c_slices_Index___int_int__ok mss52_ok
theorem menv53_ok : menv53.Ok Try.prog false := mkEnvM_ok mxs_ok mss53_ok mws1_ok
-- slices.Contains[[]int,int]
theorem ann_slices_Contains___int_int_ : FnOk Try.prog false 0 Try.f54 Ann.no := (fnNo _)
def s_slices_Contains___int_int__0 (k : Nat) (Z : Nat → Int) (j : Int) : Bool := (ile (0 : Int) (s_slices_Index___int_int__0 k Z j))
theorem e_slices_Contains___int_int_ (k : Nat) (Z : Nat → Int) (j : Int) : outB (evFnM Try.prog false menv53 [] [] 96 Ann.no Try.f54 [AV.view k 1 (fun i0 => [AV.int .i64 (Z i0)]), AV.int .i64 j] []) = some (((allB fun _ => true) && (o_slices_Index___int_int_ k Z j)), AV.bool (s_slices_Contains___int_int__0 k Z j)) := by kernel_rfl
def o_slices_Contains___int_int_ (k : Nat) (Z : Nat → Int) (j : Int) : Bool := (o_slices_Index___int_int_ k Z j)
def S_slices_Contains___int_int_ : List AV → Option (Ob × AV)
  | [AV.view k 1 e, AV.int .i64 j] => some (Ob.both (Ob.bit (allB fun i => isNrm [Ck.i .i64] (e i))) (Ob.bit (o_slices_Contains___int_int_ k (iL e 0) j)), AV.bool (s_slices_Contains___int_int__0 k (iL e 0) j))
  | _ => none
theorem ob_slices_Contains___int_int_ (k : Nat) (Z : Nat → Int) (j : Int) (ho : o_slices_Contains___int_int_ k Z j = true) : ((allB fun _ => true) && (o_slices_Index___int_int_ k Z j)) = true := by
  unfold o_slices_Contains___int_int_ at ho
  simp only [allB_true, eqT_self, mrgB_self, Bool.true_and, Bool.and_true] at ho ⊢
  exact ho
theorem t_slices_Contains___int_int_ : SOkM Try.prog false (54, fun args => match S_slices_Contains___int_int_ args with | some (o, v) => some (o, v, []) | none => none) := SOkM.flat (N := 96) menv53_ok Try.func54 ann_slices_Contains___int_int_ Try.call54 fun args o v h ho => by
  unfold S_slices_Contains___int_int_ at h
  split at h
  · rename_i k e j
    cases h
    rw [Ob.both_ok, Bool.and_eq_true] at ho
    obtain ⟨hn, ho2⟩ := ho
    have n0 := hn
    simp only [Ob.ok] at n0
    replace n0 := nrm_fun n0
    have this := show outB (evFnM Try.prog false menv53 [] [] 96 Ann.no Try.f54 [AV.view k 1 (fun i => mkN [Ck.i .i64] (e i) 0), AV.int .i64 j] []) = _ from e_slices_Contains___int_int_ k (iL e 0) j
    rw [(ob_slices_Contains___int_int_ k (iL e 0) j ho2)] at this
    rw [n0] at this
    exact ⟨this, rfl⟩
  · cases h
def c_slices_Contains___int_int_ : SFM := fun args => match S_slices_Contains___int_int_ args with | some (o, v) => some (o, v, []) | none => none
theorem c_slices_Contains___int_int__ok : SOkM Try.prog false (54, c_slices_Contains___int_int_) := t_slices_Contains___int_int_
def mss54 : List (FuncId × SFM) := (54, c_slices_Contains___int_int_) :: mss53
def menv54 : EnvM := mkEnvM mxs mss54 mws1
theorem mss54_ok : All (SOkM Try.prog false) mss54 := All.cons c_slices_Contains___int_int__ok mss53_ok
theorem menv54_ok : menv54.Ok Try.prog false := mkEnvM_ok mxs_ok mss54_ok mws1_ok
-- tumble/solve.Only
-- a loop of tumble/solve.Only
structure V_solve_Only_L0 where
  v0 : Int
def tpl_solve_Only_L0 : List AV := (AV.nul :: AV.nul :: tpA 23 (AV.nul :: AV.nul :: AV.nul :: tpA 69 ([])))
def cts_solve_Only_L0 : List CT := []
def phs_solve_Only_L0 : List Src := []
def T_solve_Only_L0 (u : Nat) (F aa : Nat → Int) (ac ah au ar av ay aC aD aA aE : Nat → Nat) (az : Nat → Int) (aB : Nat → Nat) (aG : Nat) (aN : Nat → Int) (aM : Int) (x : V_solve_Only_L0) (F0 F1 F2 : Nat → List AV) : List AV × Heap := ((AV.view u 14 F0 :: AV.view aG 1 F1 :: tpA 23 (AV.view u 14 F2 :: AV.int .i64 aM :: AV.int .i64 x.v0 :: tpA 69 ([]))), [])
def sh_solve_Only_L0 (u : Nat) (F aa : Nat → Int) (ac ah au ar av ay aC aD aA aE : Nat → Nat) (az : Nat → Int) (aB : Nat → Nat) (aG : Nat) (aN : Nat → Int) (aM : Int) (x : V_solve_Only_L0) : List AV × Heap := T_solve_Only_L0 u F aa ac ah au ar av ay aC aD aA aE az aB aG aN aM x (fun j0 => [AV.int .i64 (F j0), AV.int .i64 (aa j0), AV.float (ac j0), AV.float (ah j0), AV.float (au j0), AV.float (ar j0), AV.float (av j0), AV.float (ay j0), AV.float (aC j0), AV.float (aD j0), AV.float (aA j0), AV.float (aE j0), AV.int .i64 (az j0), AV.float (aB j0)]) (fun j0 => [AV.int .i64 (aN j0)]) (fun j0 => [AV.int .i64 (F j0), AV.int .i64 (aa j0), AV.float (ac j0), AV.float (ah j0), AV.float (au j0), AV.float (ar j0), AV.float (av j0), AV.float (ay j0), AV.float (aC j0), AV.float (aD j0), AV.float (aA j0), AV.float (aE j0), AV.int .i64 (az j0), AV.float (aB j0)])
def step_solve_Only_L0 (u : Nat) (F aa : Nat → Int) (ac ah au ar av ay aC aD aA aE : Nat → Nat) (az : Nat → Int) (aB : Nat → Nat) (aM : Int) (x : V_solve_Only_L0) : V_solve_Only_L0 := V_solve_Only_L0.mk (IntKind.wrap .i64 (x.v0 + (1 : Int)))
def go_solve_Only_L0 (u : Nat) (F aa : Nat → Int) (ac ah au ar av ay aC aD aA aE : Nat → Nat) (az : Nat → Int) (aB : Nat → Nat) (aM : Int) (x : V_solve_Only_L0) : Bool := let x0 := !(ilt x.v0 aM); (bif (bif x0 then false else (!(ieq (s_rows_Check_0 (F (Int.toNat x.v0)) (aa (Int.toNat x.v0)) (ac (Int.toNat x.v0)) (ah (Int.toNat x.v0)) (au (Int.toNat x.v0)) (ar (Int.toNat x.v0)) (av (Int.toNat x.v0)) (ay (Int.toNat x.v0)) (aC (Int.toNat x.v0)) (aD (Int.toNat x.v0)) (aA (Int.toNat x.v0)) (aE (Int.toNat x.v0)) (az (Int.toNat x.v0)) (aB (Int.toNat x.v0)) (Int.ofNat u) (1024 : Int)) (0 : Int)))) then false else (bif x0 then false else true))
def ok_solve_Only_L0 (u : Nat) (F aa : Nat → Int) (ac ah au ar av ay aC aD aA aE : Nat → Nat) (az : Nat → Int) (aB : Nat → Nat) (aM : Int) (x : V_solve_Only_L0) : Bool := let x0 := (ile (0 : Int) x.v0) && (Nat.blt (Int.toNat x.v0) u); let x1 := !(ilt x.v0 aM); (mrgB (bif x1 then false else (!(ieq (s_rows_Check_0 (F (Int.toNat x.v0)) (aa (Int.toNat x.v0)) (ac (Int.toNat x.v0)) (ah (Int.toNat x.v0)) (au (Int.toNat x.v0)) (ar (Int.toNat x.v0)) (av (Int.toNat x.v0)) (ay (Int.toNat x.v0)) (aC (Int.toNat x.v0)) (aD (Int.toNat x.v0)) (aA (Int.toNat x.v0)) (aE (Int.toNat x.v0)) (az (Int.toNat x.v0)) (aB (Int.toNat x.v0)) (Int.ofNat u) (1024 : Int)) (0 : Int)))) x0 (mrgB x1 true x0))
def L_solve_Only_L0 (u : Nat) (F aa : Nat → Int) (ac ah au ar av ay aC aD aA aE : Nat → Nat) (az : Nat → Int) (aB : Nat → Nat) (aM : Int) (x : V_solve_Only_L0) : V_solve_Only_L0 := lastL (ok_solve_Only_L0 u F aa ac ah au ar av ay aC aD aA aE az aB aM) (go_solve_Only_L0 u F aa ac ah au ar av ay aC aD aA aE az aB aM) (step_solve_Only_L0 u F aa ac ah au ar av ay aC aD aA aE az aB aM) x
def E_solve_Only_L0 (u : Nat) (F aa : Nat → Int) (ac ah au ar av ay aC aD aA aE : Nat → Nat) (az : Nat → Int) (aB : Nat → Nat) (aM : Int) (x : V_solve_Only_L0) : Bool := endsL (ok_solve_Only_L0 u F aa ac ah au ar av ay aC aD aA aE az aB aM) (go_solve_Only_L0 u F aa ac ah au ar av ay aC aD aA aE az aB aM) (step_solve_Only_L0 u F aa ac ah au ar av ay aC aD aA aE az aB aM) x
theorem all_solve_Only_L0 (u : Nat) (F aa : Nat → Int) (ac ah au ar av ay aC aD aA aE : Nat → Nat) (az : Nat → Int) (aB : Nat → Nat) (aG : Nat) (aN : Nat → Int) (aM : Int) (x : V_solve_Only_L0) : rnd Try.prog false menv54 [] [] 96 Ann.no (subC [1, 1, 0, 1, 0, 0] (codeOf Try.f23)) 0 [] tpl_solve_Only_L0 cts_solve_Only_L0 (false :: false :: tpB 23 (false :: false :: tpB 70 ([]))) [] (sh_solve_Only_L0 u F aa ac ah au ar av ay aC aD aA aE az aB aG aN aM x) = (true, true, go_solve_Only_L0 u F aa ac ah au ar av ay aC aD aA aE az aB aM x, ok_solve_Only_L0 u F aa ac ah au ar av ay aC aD aA aE az aB aM x, true, sh_solve_Only_L0 u F aa ac ah au ar av ay aC aD aA aE az aB aG aN aM (step_solve_Only_L0 u F aa ac ah au ar av ay aC aD aA aE az aB aM x), true) := by kernel_rfl
def fam_solve_Only_L0 (u : Nat) (F aa : Nat → Int) (ac ah au ar av ay aC aD aA aE : Nat → Nat) (az : Nat → Int) (aB : Nat → Nat) (aG : Nat) (aN : Nat → Int) (aM : Int) : Fam Try.prog false menv54 [] [] 96 0 Ann.no (subC [1, 1, 0, 1, 0, 0] (codeOf Try.f23)) V_solve_Only_L0 where
  sh := sh_solve_Only_L0 u F aa ac ah au ar av ay aC aD aA aE az aB aG aN aM
  ok := ok_solve_Only_L0 u F aa ac ah au ar av ay aC aD aA aE az aB aM
  go := go_solve_Only_L0 u F aa ac ah au ar av ay aC aD aA aE az aB aM
  step := step_solve_Only_L0 u F aa ac ah au ar av ay aC aD aA aE az aB aM
  chg := (false :: false :: tpB 23 (false :: false :: tpB 70 ([])))
  chgH := []
  tpl := tpl_solve_Only_L0
  cts := cts_solve_Only_L0
  keep := 0
  srcs := []
  ann := (annNo (subC [1, 1, 0, 1, 0, 0] (codeOf Try.f23)))
  le := by kernel_rfl
  kept := by kernel_rfl
  keptB := by kernel_rfl
  all := all_solve_Only_L0 u F aa ac ah au ar av ay aC aD aA aE az aB aG aN aM
  len := fun x => by kernel_rfl
  head := fun x y => by kernel_rfl
  con := fun x y => by kernel_rfl
  conH := fun x y => by kernel_rfl
def F_solve_Only_L0 : St → Option Ch := fun s => cond (Nat.beq s.tm.length 97 && Nat.beq s.H.length 0) (tkCons (alL tpl_solve_Only_L0 s.tm) fun m t0 => tkView 14 m fun s0 f0 => tkCons t0 fun j t1 => tkView 1 j fun s15 f1 => tkTops 23 t1 fun t2 => tkCons t2 fun q t3 => tkView 14 q fun s17 f2 => tkCons t3 fun C t4 => tkI .i64 C fun s32 => tkCons t4 fun E t5 => tkI .i64 E fun s33 => tkTops 69 t5 fun t6 => tkNil t6 <| tkNil (alH cts_solve_Only_L0 (s.H ++ List.map phan phs_solve_Only_L0)) <| Fam.out (fam_solve_Only_L0 s0 (iL f0 0) (iL f0 1) (fL f0 2) (fL f0 3) (fL f0 4) (fL f0 5) (fL f0 6) (fL f0 7) (fL f0 8) (fL f0 9) (fL f0 10) (fL f0 11) (iL f0 12) (fL f0 13) s15 (iL f1 0) s32) s ((((allB fun i => isNrm [Ck.i .i64, Ck.i .i64, Ck.f, Ck.f, Ck.f, Ck.f, Ck.f, Ck.f, Ck.f, Ck.f, Ck.f, Ck.f, Ck.i .i64, Ck.f] (f0 i)) && (allB fun i => isNrm [Ck.i .i64] (f1 i))) && (eqT f2 f0)) && (eqT s17 s0)) (V_solve_Only_L0.mk s33)) none
theorem F_solve_Only_L0_ok : ∀ s ch, F_solve_Only_L0 s = some ch → AllI s ch ∧ LoopSpec Try.prog false 0 (subC [1, 1, 0, 1, 0, 0] (codeOf Try.f23)) s (sel ch) := by
  intro s ch h
  unfold F_solve_Only_L0 at h
  obtain ⟨hl, h0⟩ := cond_some h rfl
  clear h
  obtain ⟨hl, hb⟩ := and_beq2 hl
  obtain ⟨m, t0, e0, h1⟩ := tkCons_some h0
  obtain ⟨s0, f0, rfl, h2⟩ := tkView_some h1
  obtain ⟨j, t1, rfl, h3⟩ := tkCons_some h2
  obtain ⟨s15, f1, rfl, h4⟩ := tkView_some h3
  obtain ⟨t2, rfl, h5⟩ := tkTops_some h4
  obtain ⟨q, t3, rfl, h6⟩ := tkCons_some h5
  obtain ⟨s17, f2, rfl, h7⟩ := tkView_some h6
  obtain ⟨C, t4, rfl, h8⟩ := tkCons_some h7
  obtain ⟨s32, rfl, h9⟩ := tkI_some h8
  obtain ⟨E, t5, rfl, h10⟩ := tkCons_some h9
  obtain ⟨s33, rfl, h11⟩ := tkI_some h10
  obtain ⟨t6, rfl, h12⟩ := tkTops_some h11
  obtain ⟨rfl, h13⟩ := tkNil_some h12
  obtain ⟨eH, h14⟩ := tkNil_some h13
  refine Fam.spec menv54_ok (fam_solve_Only_L0 s0 (iL f0 0) (iL f0 1) (fL f0 2) (fL f0 3) (fL f0 4) (fL f0 5) (fL f0 6) (fL f0 7) (fL f0 8) (fL f0 9) (fL f0 10) (fL f0 11) (iL f0 12) (fL f0 13) s15 (iL f1 0) s32) (phs := phs_solve_Only_L0) (hl.trans (by kernel_rfl)) (hb.trans (by kernel_rfl)) ?_ ?_ h14
  · rw [← hdr_alH cts_solve_Only_L0 (s.H ++ List.map phan phs_solve_Only_L0), eH]; kernel_rfl
  · intro hq
    simp only [Bool.and_eq_true] at hq
    obtain ⟨⟨⟨hq0, hq1⟩, hq2⟩, hq3⟩ := hq
    have n0 := nrm_fun hq0
    have n1 := nrm_fun hq1
    have hx := eqT_eq hq2; subst f2
    have hx := eqT_eq hq3; subst s17
    show sh_solve_Only_L0 s0 (iL f0 0) (iL f0 1) (fL f0 2) (fL f0 3) (fL f0 4) (fL f0 5) (fL f0 6) (fL f0 7) (fL f0 8) (fL f0 9) (fL f0 10) (fL f0 11) (iL f0 12) (fL f0 13) s15 (iL f1 0) s32 (V_solve_Only_L0.mk s33) = (alL tpl_solve_Only_L0 s.tm, alH cts_solve_Only_L0 (s.H ++ List.map phan phs_solve_Only_L0))
    rw [e0, eH]
    refine Eq.trans (show sh_solve_Only_L0 s0 (iL f0 0) (iL f0 1) (fL f0 2) (fL f0 3) (fL f0 4) (fL f0 5) (fL f0 6) (fL f0 7) (fL f0 8) (fL f0 9) (fL f0 10) (fL f0 11) (iL f0 12) (fL f0 13) s15 (iL f1 0) s32 (V_solve_Only_L0.mk s33) = T_solve_Only_L0 s0 (iL f0 0) (iL f0 1) (fL f0 2) (fL f0 3) (fL f0 4) (fL f0 5) (fL f0 6) (fL f0 7) (fL f0 8) (fL f0 9) (fL f0 10) (fL f0 11) (iL f0 12) (fL f0 13) s15 (iL f1 0) s32 (V_solve_Only_L0.mk s33) (fun i => mkN [Ck.i .i64, Ck.i .i64, Ck.f, Ck.f, Ck.f, Ck.f, Ck.f, Ck.f, Ck.f, Ck.f, Ck.f, Ck.f, Ck.i .i64, Ck.f] (f0 i) 0) (fun i => mkN [Ck.i .i64] (f1 i) 0) (fun i => mkN [Ck.i .i64, Ck.i .i64, Ck.f, Ck.f, Ck.f, Ck.f, Ck.f, Ck.f, Ck.f, Ck.f, Ck.f, Ck.f, Ck.i .i64, Ck.f] (f0 i) 0) by kernel_rfl) ?_
    rw [n0, n1]
    kernel_rfl
-- a loop of tumble/solve.Only
structure V_solve_Only_L1 where
  v0 : Nat
  v1 : Int
  v2 : (Nat → Int)
  v3 : (Nat → Int)
  v4 : (Nat → Int)
  v5 : (Nat → Nat)
  v6 : (Nat → Nat)
  v7 : (Nat → Nat)
  v8 : (Nat → Nat)
  v9 : (Nat → Nat)
  v10 : (Nat → Nat)
  v11 : (Nat → Nat)
  v12 : (Nat → Nat)
  v13 : (Nat → Nat)
  v14 : (Nat → Nat)
  v15 : (Nat → Int)
  v16 : (Nat → Nat)
  v17 : (Nat → Int)
def tpl_solve_Only_L1 : List AV := (AV.top :: AV.nul :: tpA 8 (AV.lst 1 0 14 0 0 :: AV.lst 2 0 1 0 0 :: AV.nul :: tpA 29 (AV.nul :: AV.nul :: AV.nul :: tpA 52 ([]))))
def cts_solve_Only_L1 : List CT := [CT.keep, CT.keep, CT.keep]
def phs_solve_Only_L1 : List Src := [⟨none, 0, 56, [AV.int .i64 (0 : Int), AV.int .i64 (0 : Int), AV.float 0, AV.float 0, AV.float 0, AV.float 0, AV.float 0, AV.float 0, AV.float 0, AV.float 0, AV.float 0, AV.float 0, AV.int .i64 (0 : Int), AV.float 0]⟩, ⟨none, 0, 3, [AV.int .i64 (0 : Int)]⟩]
def T_solve_Only_L1 (u : Nat) (F : Nat → Int) (aa : Nat) (ac ah : Nat → Int) (au ar av ay aC aD aA aE az aB : Nat → Nat) (aG : Nat → Int) (aN : Nat → Nat) (aM : Int) (x : V_solve_Only_L1) (F0 F1 F2 F3 F4 : Nat → List AV) : List AV × Heap := ((AV.top :: AV.view u 1 F0 :: tpA 8 (AV.lst 1 0 14 x.v0 x.v0 :: AV.lst 2 0 1 x.v0 x.v0 :: AV.lst 0 0 1 aa aa :: tpA 29 (AV.view aa 14 F1 :: AV.int .i64 aM :: AV.int .i64 x.v1 :: tpA 52 ([])))), [⟨.sym aa 1 F2, 3, 0⟩, ⟨.sym x.v0 14 F3, 56, 0⟩, ⟨.sym x.v0 1 F4, 3, 0⟩])
def sh_solve_Only_L1 (u : Nat) (F : Nat → Int) (aa : Nat) (ac ah : Nat → Int) (au ar av ay aC aD aA aE az aB : Nat → Nat) (aG : Nat → Int) (aN : Nat → Nat) (aM : Int) (x : V_solve_Only_L1) : List AV × Heap := T_solve_Only_L1 u F aa ac ah au ar av ay aC aD aA aE az aB aG aN aM x (fun j0 => [AV.int .i64 (F j0)]) (fun j0 => [AV.int .i64 (ac j0), AV.int .i64 (ah j0), AV.float (au j0), AV.float (ar j0), AV.float (av j0), AV.float (ay j0), AV.float (aC j0), AV.float (aD j0), AV.float (aA j0), AV.float (aE j0), AV.float (az j0), AV.float (aB j0), AV.int .i64 (aG j0), AV.float (aN j0)]) (fun j0 => [AV.int .i64 (x.v2 j0)]) (fun j0 => [AV.int .i64 (x.v3 j0), AV.int .i64 (x.v4 j0), AV.float (x.v5 j0), AV.float (x.v6 j0), AV.float (x.v7 j0), AV.float (x.v8 j0), AV.float (x.v9 j0), AV.float (x.v10 j0), AV.float (x.v11 j0), AV.float (x.v12 j0), AV.float (x.v13 j0), AV.float (x.v14 j0), AV.int .i64 (x.v15 j0), AV.float (x.v16 j0)]) (fun j0 => [AV.int .i64 (x.v17 j0)])
def step_solve_Only_L1 (u : Nat) (F : Nat → Int) (aa : Nat) (ac ah : Nat → Int) (au ar av ay aC aD aA aE az aB : Nat → Nat) (aG : Nat → Int) (aN : Nat → Nat) (aM : Int) (x : V_solve_Only_L1) : V_solve_Only_L1 := V_solve_Only_L1.mk (csame ((s_slices_Contains___int_int__0 u F (ac (Int.toNat x.v1))) || (s_slices_Contains___int_int__0 u F (ah (Int.toNat x.v1)))) (x.v0 + 1) x.v0) (IntKind.wrap .i64 (x.v1 + (1 : Int))) (fun j0 => (bif ((s_slices_Contains___int_int__0 u F (ac (Int.toNat x.v1))) || (s_slices_Contains___int_int__0 u F (ah (Int.toNat x.v1)))) then (bif (Nat.beq j0 (Int.toNat x.v1)) then (Int.ofNat (x.v0 + 1)) else (x.v2 j0)) else (x.v2 j0))) (fun j0 => (bif ((s_slices_Contains___int_int__0 u F (ac (Int.toNat x.v1))) || (s_slices_Contains___int_int__0 u F (ah (Int.toNat x.v1)))) then (bif (Nat.blt j0 x.v0) then (x.v3 j0) else (ac (Int.toNat x.v1))) else (x.v3 j0))) (fun j0 => (bif ((s_slices_Contains___int_int__0 u F (ac (Int.toNat x.v1))) || (s_slices_Contains___int_int__0 u F (ah (Int.toNat x.v1)))) then (bif (Nat.blt j0 x.v0) then (x.v4 j0) else (ah (Int.toNat x.v1))) else (x.v4 j0))) (fun j0 => (bif ((s_slices_Contains___int_int__0 u F (ac (Int.toNat x.v1))) || (s_slices_Contains___int_int__0 u F (ah (Int.toNat x.v1)))) then (bif (Nat.blt j0 x.v0) then (x.v5 j0) else (au (Int.toNat x.v1))) else (x.v5 j0))) (fun j0 => (bif ((s_slices_Contains___int_int__0 u F (ac (Int.toNat x.v1))) || (s_slices_Contains___int_int__0 u F (ah (Int.toNat x.v1)))) then (bif (Nat.blt j0 x.v0) then (x.v6 j0) else (ar (Int.toNat x.v1))) else (x.v6 j0))) (fun j0 => (bif ((s_slices_Contains___int_int__0 u F (ac (Int.toNat x.v1))) || (s_slices_Contains___int_int__0 u F (ah (Int.toNat x.v1)))) then (bif (Nat.blt j0 x.v0) then (x.v7 j0) else (av (Int.toNat x.v1))) else (x.v7 j0))) (fun j0 => (bif ((s_slices_Contains___int_int__0 u F (ac (Int.toNat x.v1))) || (s_slices_Contains___int_int__0 u F (ah (Int.toNat x.v1)))) then (bif (Nat.blt j0 x.v0) then (x.v8 j0) else (ay (Int.toNat x.v1))) else (x.v8 j0))) (fun j0 => (bif ((s_slices_Contains___int_int__0 u F (ac (Int.toNat x.v1))) || (s_slices_Contains___int_int__0 u F (ah (Int.toNat x.v1)))) then (bif (Nat.blt j0 x.v0) then (x.v9 j0) else (aC (Int.toNat x.v1))) else (x.v9 j0))) (fun j0 => (bif ((s_slices_Contains___int_int__0 u F (ac (Int.toNat x.v1))) || (s_slices_Contains___int_int__0 u F (ah (Int.toNat x.v1)))) then (bif (Nat.blt j0 x.v0) then (x.v10 j0) else (aD (Int.toNat x.v1))) else (x.v10 j0))) (fun j0 => (bif ((s_slices_Contains___int_int__0 u F (ac (Int.toNat x.v1))) || (s_slices_Contains___int_int__0 u F (ah (Int.toNat x.v1)))) then (bif (Nat.blt j0 x.v0) then (x.v11 j0) else (aA (Int.toNat x.v1))) else (x.v11 j0))) (fun j0 => (bif ((s_slices_Contains___int_int__0 u F (ac (Int.toNat x.v1))) || (s_slices_Contains___int_int__0 u F (ah (Int.toNat x.v1)))) then (bif (Nat.blt j0 x.v0) then (x.v12 j0) else (aE (Int.toNat x.v1))) else (x.v12 j0))) (fun j0 => (bif ((s_slices_Contains___int_int__0 u F (ac (Int.toNat x.v1))) || (s_slices_Contains___int_int__0 u F (ah (Int.toNat x.v1)))) then (bif (Nat.blt j0 x.v0) then (x.v13 j0) else (az (Int.toNat x.v1))) else (x.v13 j0))) (fun j0 => (bif ((s_slices_Contains___int_int__0 u F (ac (Int.toNat x.v1))) || (s_slices_Contains___int_int__0 u F (ah (Int.toNat x.v1)))) then (bif (Nat.blt j0 x.v0) then (x.v14 j0) else (aB (Int.toNat x.v1))) else (x.v14 j0))) (fun j0 => (bif ((s_slices_Contains___int_int__0 u F (ac (Int.toNat x.v1))) || (s_slices_Contains___int_int__0 u F (ah (Int.toNat x.v1)))) then (bif (Nat.blt j0 x.v0) then (x.v15 j0) else (aG (Int.toNat x.v1))) else (x.v15 j0))) (fun j0 => (bif ((s_slices_Contains___int_int__0 u F (ac (Int.toNat x.v1))) || (s_slices_Contains___int_int__0 u F (ah (Int.toNat x.v1)))) then (bif (Nat.blt j0 x.v0) then (x.v16 j0) else (aN (Int.toNat x.v1))) else (x.v16 j0))) (fun j0 => (bif ((s_slices_Contains___int_int__0 u F (ac (Int.toNat x.v1))) || (s_slices_Contains___int_int__0 u F (ah (Int.toNat x.v1)))) then (bif (Nat.blt j0 x.v0) then (x.v17 j0) else x.v1) else (x.v17 j0)))
def go_solve_Only_L1 (u : Nat) (F : Nat → Int) (aa : Nat) (ac ah : Nat → Int) (au ar av ay aC aD aA aE az aB : Nat → Nat) (aG : Nat → Int) (aN : Nat → Nat) (aM : Int) (x : V_solve_Only_L1) : Bool := (bif (!(ilt x.v1 aM)) then false else true)
def ok_solve_Only_L1 (u : Nat) (F : Nat → Int) (aa : Nat) (ac ah : Nat → Int) (au ar av ay aC aD aA aE az aB : Nat → Nat) (aG : Nat → Int) (aN : Nat → Nat) (aM : Int) (x : V_solve_Only_L1) : Bool := let x0 := Nat.blt (Int.toNat x.v1) aa; let x1 := (ile (0 : Int) x.v1) && x0; let x2 := ac (Int.toNat x.v1); let x3 := ((allB fun _ => true) && (o_slices_Contains___int_int_ u F x2)) && x1; let x4 := ah (Int.toNat x.v1); let x5 := s_slices_Contains___int_int__0 u F x2; let x6 := mrgB x5 x3 (((allB fun _ => true) && (o_slices_Contains___int_int_ u F x4)) && x3); (mrgB (!(ilt x.v1 aM)) true (mrgB (x5 || (s_slices_Contains___int_int__0 u F x4)) (x0 && (x1 && (((Nat.ble x.v0 x.v0) && (Nat.ble ((x.v0 + 1) * 8) 140737488355328)) && (((Nat.ble x.v0 x.v0) && (Nat.ble ((x.v0 + 1) * 112) 140737488355328)) && x6)))) x6))
def L_solve_Only_L1 (u : Nat) (F : Nat → Int) (aa : Nat) (ac ah : Nat → Int) (au ar av ay aC aD aA aE az aB : Nat → Nat) (aG : Nat → Int) (aN : Nat → Nat) (aM : Int) (x : V_solve_Only_L1) : V_solve_Only_L1 := lastL (ok_solve_Only_L1 u F aa ac ah au ar av ay aC aD aA aE az aB aG aN aM) (go_solve_Only_L1 u F aa ac ah au ar av ay aC aD aA aE az aB aG aN aM) (step_solve_Only_L1 u F aa ac ah au ar av ay aC aD aA aE az aB aG aN aM) x
def E_solve_Only_L1 (u : Nat) (F : Nat → Int) (aa : Nat) (ac ah : Nat → Int) (au ar av ay aC aD aA aE az aB : Nat → Nat) (aG : Nat → Int) (aN : Nat → Nat) (aM : Int) (x : V_solve_Only_L1) : Bool := endsL (ok_solve_Only_L1 u F aa ac ah au ar av ay aC aD aA aE az aB aG aN aM) (go_solve_Only_L1 u F aa ac ah au ar av ay aC aD aA aE az aB aG aN aM) (step_solve_Only_L1 u F aa ac ah au ar av ay aC aD aA aE az aB aG aN aM) x
theorem all_solve_Only_L1 (u : Nat) (F : Nat → Int) (aa : Nat) (ac ah : Nat → Int) (au ar av ay aC aD aA aE az aB : Nat → Nat) (aG : Nat → Int) (aN : Nat → Nat) (aM : Int) (x : V_solve_Only_L1) : rnd Try.prog false menv54 [] [] 96 Ann.no (subC [1, 1, 1, 1, 1, 1, 0, 1, 0, 0] (codeOf Try.f23)) 0 [⟨some 0, 0, 0, []⟩, ⟨some 1, 0, 0, []⟩, ⟨some 2, 0, 0, []⟩] tpl_solve_Only_L1 cts_solve_Only_L1 (true :: false :: tpB 10 (false :: tpB 29 (false :: false :: tpB 53 ([])))) [true] (sh_solve_Only_L1 u F aa ac ah au ar av ay aC aD aA aE az aB aG aN aM x) = (true, true, go_solve_Only_L1 u F aa ac ah au ar av ay aC aD aA aE az aB aG aN aM x, ok_solve_Only_L1 u F aa ac ah au ar av ay aC aD aA aE az aB aG aN aM x, true, sh_solve_Only_L1 u F aa ac ah au ar av ay aC aD aA aE az aB aG aN aM (step_solve_Only_L1 u F aa ac ah au ar av ay aC aD aA aE az aB aG aN aM x), true) := by kernel_rfl
def fam_solve_Only_L1 (u : Nat) (F : Nat → Int) (aa : Nat) (ac ah : Nat → Int) (au ar av ay aC aD aA aE az aB : Nat → Nat) (aG : Nat → Int) (aN : Nat → Nat) (aM : Int) : Fam Try.prog false menv54 [] [] 96 0 Ann.no (subC [1, 1, 1, 1, 1, 1, 0, 1, 0, 0] (codeOf Try.f23)) V_solve_Only_L1 where
  sh := sh_solve_Only_L1 u F aa ac ah au ar av ay aC aD aA aE az aB aG aN aM
  ok := ok_solve_Only_L1 u F aa ac ah au ar av ay aC aD aA aE az aB aG aN aM
  go := go_solve_Only_L1 u F aa ac ah au ar av ay aC aD aA aE az aB aG aN aM
  step := step_solve_Only_L1 u F aa ac ah au ar av ay aC aD aA aE az aB aG aN aM
  chg := (true :: false :: tpB 10 (false :: tpB 29 (false :: false :: tpB 53 ([]))))
  chgH := [true]
  tpl := tpl_solve_Only_L1
  cts := cts_solve_Only_L1
  keep := 0
  srcs := [⟨some 0, 0, 0, []⟩, ⟨some 1, 0, 0, []⟩, ⟨some 2, 0, 0, []⟩]
  ann := (annNo (subC [1, 1, 1, 1, 1, 1, 0, 1, 0, 0] (codeOf Try.f23)))
  le := by kernel_rfl
  kept := by kernel_rfl
  keptB := by kernel_rfl
  all := all_solve_Only_L1 u F aa ac ah au ar av ay aC aD aA aE az aB aG aN aM
  len := fun x => by kernel_rfl
  head := fun x y => by kernel_rfl
  con := fun x y => by kernel_rfl
  conH := fun x y => by kernel_rfl
def F_solve_Only_L1 : St → Option Ch := fun s => cond (Nat.beq s.tm.length 97 && Nat.beq s.H.length 1) (tkTops 1 (alL tpl_solve_Only_L1 s.tm) fun t0 => tkCons t0 fun j t1 => tkView 1 j fun s0 f0 => tkTops 8 t1 fun t2 => tkCons t2 fun q t3 => tkLst 1 0 14 q fun s2 s3 => tkCons t3 fun C t4 => tkLst 2 0 1 C fun s4 s5 => tkCons t4 fun E t5 => tkLst 0 0 1 E fun s6 s7 => tkTops 29 t5 fun t6 => tkCons t6 fun K t7 => tkView 14 K fun s8 f1 => tkCons t7 fun z t8 => tkI .i64 z fun s23 => tkCons t8 fun D t9 => tkI .i64 D fun s24 => tkTops 52 t9 fun t10 => tkNil t10 <| tkCons (alH cts_solve_Only_L1 (s.H ++ List.map phan phs_solve_Only_L1)) fun b11 t11 => tkSym 3 0 1 b11 fun s25 f2 => tkCons t11 fun b12 t12 => tkSym 56 0 14 b12 fun s27 f3 => tkCons t12 fun b13 t13 => tkSym 3 0 1 b13 fun s42 f4 => tkNil t13 <| Fam.out (fam_solve_Only_L1 s0 (iL f0 0) s6 (iL f1 0) (iL f1 1) (fL f1 2) (fL f1 3) (fL f1 4) (fL f1 5) (fL f1 6) (fL f1 7) (fL f1 8) (fL f1 9) (fL f1 10) (fL f1 11) (iL f1 12) (fL f1 13) s23) s (((((((((((((allB fun i => isNrm [Ck.i .i64] (f0 i)) && (allB fun i => isNrm [Ck.i .i64, Ck.i .i64, Ck.f, Ck.f, Ck.f, Ck.f, Ck.f, Ck.f, Ck.f, Ck.f, Ck.f, Ck.f, Ck.i .i64, Ck.f] (f1 i))) && (allB fun i => isNrm [Ck.i .i64] (f2 i))) && (allB fun i => isNrm [Ck.i .i64, Ck.i .i64, Ck.f, Ck.f, Ck.f, Ck.f, Ck.f, Ck.f, Ck.f, Ck.f, Ck.f, Ck.f, Ck.i .i64, Ck.f] (f3 i))) && (allB fun i => isNrm [Ck.i .i64] (f4 i))) && (eqT s3 s2)) && (eqT s4 s2)) && (eqT s5 s2)) && (eqT s7 s6)) && (eqT s8 s6)) && (eqT s25 s6)) && (eqT s27 s2)) && (eqT s42 s2)) (V_solve_Only_L1.mk s2 s24 (iL f2 0) (iL f3 0) (iL f3 1) (fL f3 2) (fL f3 3) (fL f3 4) (fL f3 5) (fL f3 6) (fL f3 7) (fL f3 8) (fL f3 9) (fL f3 10) (fL f3 11) (iL f3 12) (fL f3 13) (iL f4 0))) none
theorem F_solve_Only_L1_ok : ∀ s ch, F_solve_Only_L1 s = some ch → AllI s ch ∧ LoopSpec Try.prog false 0 (subC [1, 1, 1, 1, 1, 1, 0, 1, 0, 0] (codeOf Try.f23)) s (sel ch) := by
  intro s ch h
  unfold F_solve_Only_L1 at h
  obtain ⟨hl, h0⟩ := cond_some h rfl
  clear h
  obtain ⟨hl, hb⟩ := and_beq2 hl
  obtain ⟨t0, e0, h1⟩ := tkTops_some h0
  obtain ⟨j, t1, rfl, h2⟩ := tkCons_some h1
  obtain ⟨s0, f0, rfl, h3⟩ := tkView_some h2
  obtain ⟨t2, rfl, h4⟩ := tkTops_some h3
  obtain ⟨q, t3, rfl, h5⟩ := tkCons_some h4
  obtain ⟨s2, s3, rfl, h6⟩ := tkLst_some h5
  obtain ⟨C, t4, rfl, h7⟩ := tkCons_some h6
  obtain ⟨s4, s5, rfl, h8⟩ := tkLst_some h7
  obtain ⟨E, t5, rfl, h9⟩ := tkCons_some h8
  obtain ⟨s6, s7, rfl, h10⟩ := tkLst_some h9
  obtain ⟨t6, rfl, h11⟩ := tkTops_some h10
  obtain ⟨K, t7, rfl, h12⟩ := tkCons_some h11
  obtain ⟨s8, f1, rfl, h13⟩ := tkView_some h12
  obtain ⟨z, t8, rfl, h14⟩ := tkCons_some h13
  obtain ⟨s23, rfl, h15⟩ := tkI_some h14
  obtain ⟨D, t9, rfl, h16⟩ := tkCons_some h15
  obtain ⟨s24, rfl, h17⟩ := tkI_some h16
  obtain ⟨t10, rfl, h18⟩ := tkTops_some h17
  obtain ⟨rfl, h19⟩ := tkNil_some h18
  obtain ⟨b11, t11, eH, h20⟩ := tkCons_some h19
  obtain ⟨s25, f2, rfl, h21⟩ := tkSym_some h20
  obtain ⟨b12, t12, rfl, h22⟩ := tkCons_some h21
  obtain ⟨s27, f3, rfl, h23⟩ := tkSym_some h22
  obtain ⟨b13, t13, rfl, h24⟩ := tkCons_some h23
  obtain ⟨s42, f4, rfl, h25⟩ := tkSym_some h24
  obtain ⟨rfl, h26⟩ := tkNil_some h25
  refine Fam.spec menv54_ok (fam_solve_Only_L1 s0 (iL f0 0) s6 (iL f1 0) (iL f1 1) (fL f1 2) (fL f1 3) (fL f1 4) (fL f1 5) (fL f1 6) (fL f1 7) (fL f1 8) (fL f1 9) (fL f1 10) (fL f1 11) (iL f1 12) (fL f1 13) s23) (phs := phs_solve_Only_L1) (hl.trans (by kernel_rfl)) (hb.trans (by kernel_rfl)) ?_ ?_ h26
  · rw [← hdr_alH cts_solve_Only_L1 (s.H ++ List.map phan phs_solve_Only_L1), eH]; kernel_rfl
  · intro hq
    simp only [Bool.and_eq_true] at hq
    obtain ⟨⟨⟨⟨⟨⟨⟨⟨⟨⟨⟨⟨hq0, hq1⟩, hq2⟩, hq3⟩, hq4⟩, hq5⟩, hq6⟩, hq7⟩, hq8⟩, hq9⟩, hq10⟩, hq11⟩, hq12⟩ := hq
    have n0 := nrm_fun hq0
    have n1 := nrm_fun hq1
    have n2 := nrm_fun hq2
    have n3 := nrm_fun hq3
    have n4 := nrm_fun hq4
    have hx := eqT_eq hq5; subst s3
    have hx := eqT_eq hq6; subst s4
    have hx := eqT_eq hq7; subst s5
    have hx := eqT_eq hq8; subst s7
    have hx := eqT_eq hq9; subst s8
    have hx := eqT_eq hq10; subst s25
    have hx := eqT_eq hq11; subst s27
    have hx := eqT_eq hq12; subst s42
    show sh_solve_Only_L1 s0 (iL f0 0) s6 (iL f1 0) (iL f1 1) (fL f1 2) (fL f1 3) (fL f1 4) (fL f1 5) (fL f1 6) (fL f1 7) (fL f1 8) (fL f1 9) (fL f1 10) (fL f1 11) (iL f1 12) (fL f1 13) s23 (V_solve_Only_L1.mk s2 s24 (iL f2 0) (iL f3 0) (iL f3 1) (fL f3 2) (fL f3 3) (fL f3 4) (fL f3 5) (fL f3 6) (fL f3 7) (fL f3 8) (fL f3 9) (fL f3 10) (fL f3 11) (iL f3 12) (fL f3 13) (iL f4 0)) = (alL tpl_solve_Only_L1 s.tm, alH cts_solve_Only_L1 (s.H ++ List.map phan phs_solve_Only_L1))
    rw [e0, eH]
    refine Eq.trans (show sh_solve_Only_L1 s0 (iL f0 0) s6 (iL f1 0) (iL f1 1) (fL f1 2) (fL f1 3) (fL f1 4) (fL f1 5) (fL f1 6) (fL f1 7) (fL f1 8) (fL f1 9) (fL f1 10) (fL f1 11) (iL f1 12) (fL f1 13) s23 (V_solve_Only_L1.mk s2 s24 (iL f2 0) (iL f3 0) (iL f3 1) (fL f3 2) (fL f3 3) (fL f3 4) (fL f3 5) (fL f3 6) (fL f3 7) (fL f3 8) (fL f3 9) (fL f3 10) (fL f3 11) (iL f3 12) (fL f3 13) (iL f4 0)) = T_solve_Only_L1 s0 (iL f0 0) s6 (iL f1 0) (iL f1 1) (fL f1 2) (fL f1 3) (fL f1 4) (fL f1 5) (fL f1 6) (fL f1 7) (fL f1 8) (fL f1 9) (fL f1 10) (fL f1 11) (iL f1 12) (fL f1 13) s23 (V_solve_Only_L1.mk s2 s24 (iL f2 0) (iL f3 0) (iL f3 1) (fL f3 2) (fL f3 3) (fL f3 4) (fL f3 5) (fL f3 6) (fL f3 7) (fL f3 8) (fL f3 9) (fL f3 10) (fL f3 11) (iL f3 12) (fL f3 13) (iL f4 0)) (fun i => mkN [Ck.i .i64] (f0 i) 0) (fun i => mkN [Ck.i .i64, Ck.i .i64, Ck.f, Ck.f, Ck.f, Ck.f, Ck.f, Ck.f, Ck.f, Ck.f, Ck.f, Ck.f, Ck.i .i64, Ck.f] (f1 i) 0) (fun i => mkN [Ck.i .i64] (f2 i) 0) (fun i => mkN [Ck.i .i64, Ck.i .i64, Ck.f, Ck.f, Ck.f, Ck.f, Ck.f, Ck.f, Ck.f, Ck.f, Ck.f, Ck.f, Ck.i .i64, Ck.f] (f3 i) 0) (fun i => mkN [Ck.i .i64] (f4 i) 0) by kernel_rfl) ?_
    rw [n0, n1, n2, n3, n4]
    kernel_rfl
-- a loop of tumble/solve.Only
structure V_solve_Only_L2 where
  v0 : Int
  v1 : (Nat → Int)
  v2 : (Nat → Int)
  v3 : (Nat → Nat)
  v4 : (Nat → Nat)
  v5 : (Nat → Nat)
  v6 : (Nat → Nat)
  v7 : (Nat → Nat)
  v8 : (Nat → Nat)
  v9 : (Nat → Nat)
  v10 : (Nat → Nat)
  v11 : (Nat → Nat)
  v12 : (Nat → Nat)
  v13 : (Nat → Int)
  v14 : (Nat → Nat)
def tpl_solve_Only_L2 : List AV := (tpA 10 (AV.nul :: AV.nul :: AV.nul :: tpA 61 (AV.nul :: AV.nul :: tpA 21 ([]))))
def cts_solve_Only_L2 : List CT := [CT.keep, CT.keep, CT.keep]
def phs_solve_Only_L2 : List Src := []
def T_solve_Only_L2 (u F : Nat) (aa : Int) (ac ah : Nat → Int) (x : V_solve_Only_L2) (F0 F1 F2 : Nat → List AV) : List AV × Heap := ((tpA 10 (AV.lst 1 0 14 u u :: AV.lst 2 0 1 u u :: AV.lst 0 0 1 F F :: tpA 61 (AV.int .i64 aa :: AV.int .i64 x.v0 :: tpA 21 ([])))), [⟨.sym F 1 F0, 3, 0⟩, ⟨.sym u 14 F1, 56, 0⟩, ⟨.sym u 1 F2, 3, 0⟩])
def sh_solve_Only_L2 (u F : Nat) (aa : Int) (ac ah : Nat → Int) (x : V_solve_Only_L2) : List AV × Heap := T_solve_Only_L2 u F aa ac ah x (fun j0 => [AV.int .i64 (ac j0)]) (fun j0 => [AV.int .i64 (x.v1 j0), AV.int .i64 (x.v2 j0), AV.float (x.v3 j0), AV.float (x.v4 j0), AV.float (x.v5 j0), AV.float (x.v6 j0), AV.float (x.v7 j0), AV.float (x.v8 j0), AV.float (x.v9 j0), AV.float (x.v10 j0), AV.float (x.v11 j0), AV.float (x.v12 j0), AV.int .i64 (x.v13 j0), AV.float (x.v14 j0)]) (fun j0 => [AV.int .i64 (ah j0)])
def step_solve_Only_L2 (u F : Nat) (aa : Int) (ac : Nat → Int) (x : V_solve_Only_L2) : V_solve_Only_L2 := V_solve_Only_L2.mk (IntKind.wrap .i64 (x.v0 + (1 : Int))) (fun j0 => (bif (ile (0 : Int) (x.v13 (Int.toNat x.v0))) then (x.v1 j0) else (x.v1 j0))) (fun j0 => (bif (ile (0 : Int) (x.v13 (Int.toNat x.v0))) then (x.v2 j0) else (x.v2 j0))) (fun j0 => (bif (ile (0 : Int) (x.v13 (Int.toNat x.v0))) then (x.v3 j0) else (x.v3 j0))) (fun j0 => (bif (ile (0 : Int) (x.v13 (Int.toNat x.v0))) then (x.v4 j0) else (x.v4 j0))) (fun j0 => (bif (ile (0 : Int) (x.v13 (Int.toNat x.v0))) then (x.v5 j0) else (x.v5 j0))) (fun j0 => (bif (ile (0 : Int) (x.v13 (Int.toNat x.v0))) then (x.v6 j0) else (x.v6 j0))) (fun j0 => (bif (ile (0 : Int) (x.v13 (Int.toNat x.v0))) then (x.v7 j0) else (x.v7 j0))) (fun j0 => (bif (ile (0 : Int) (x.v13 (Int.toNat x.v0))) then (x.v8 j0) else (x.v8 j0))) (fun j0 => (bif (ile (0 : Int) (x.v13 (Int.toNat x.v0))) then (x.v9 j0) else (x.v9 j0))) (fun j0 => (bif (ile (0 : Int) (x.v13 (Int.toNat x.v0))) then (x.v10 j0) else (x.v10 j0))) (fun j0 => (bif (ile (0 : Int) (x.v13 (Int.toNat x.v0))) then (x.v11 j0) else (x.v11 j0))) (fun j0 => (bif (ile (0 : Int) (x.v13 (Int.toNat x.v0))) then (x.v12 j0) else (x.v12 j0))) (fun j0 => (bif (ile (0 : Int) (x.v13 (Int.toNat x.v0))) then (bif (Nat.beq j0 (Int.toNat x.v0)) then (IntKind.wrap .i64 ((ac (Int.toNat (x.v13 (Int.toNat x.v0)))) - (1 : Int))) else (x.v13 j0)) else (x.v13 j0))) (fun j0 => (bif (ile (0 : Int) (x.v13 (Int.toNat x.v0))) then (x.v14 j0) else (x.v14 j0)))
def go_solve_Only_L2 (u F : Nat) (aa : Int) (ac : Nat → Int) (x : V_solve_Only_L2) : Bool := (bif (!(ilt x.v0 aa)) then false else true)
def ok_solve_Only_L2 (u F : Nat) (aa : Int) (ac : Nat → Int) (x : V_solve_Only_L2) : Bool := let x0 := Nat.blt (Int.toNat x.v0) u; let x1 := (ile (0 : Int) x.v0) && x0; let x2 := x0 && x1; let x3 := x.v13 (Int.toNat x.v0); let x4 := Nat.blt (Int.toNat x3) F; let x5 := ile (0 : Int) x3; (mrgB (!(ilt x.v0 aa)) true (mrgB x5 (x0 && (x1 && (x4 && ((x5 && x4) && x2)))) x2))
def L_solve_Only_L2 (u F : Nat) (aa : Int) (ac : Nat → Int) (x : V_solve_Only_L2) : V_solve_Only_L2 := lastL (ok_solve_Only_L2 u F aa ac) (go_solve_Only_L2 u F aa ac) (step_solve_Only_L2 u F aa ac) x
def E_solve_Only_L2 (u F : Nat) (aa : Int) (ac : Nat → Int) (x : V_solve_Only_L2) : Bool := endsL (ok_solve_Only_L2 u F aa ac) (go_solve_Only_L2 u F aa ac) (step_solve_Only_L2 u F aa ac) x
theorem all_solve_Only_L2 (u F : Nat) (aa : Int) (ac ah : Nat → Int) (x : V_solve_Only_L2) : rnd Try.prog false menv54 [] [] 96 Ann.no (subC [1, 1, 1, 1, 1, 1, 1, 0, 1, 0, 0] (codeOf Try.f23)) 0 [⟨some 0, 0, 0, []⟩, ⟨some 1, 0, 0, []⟩, ⟨some 2, 0, 0, []⟩] tpl_solve_Only_L2 cts_solve_Only_L2 (tpB 10 (false :: false :: false :: tpB 61 (false :: tpB 22 ([])))) [false, true, false] (sh_solve_Only_L2 u F aa ac ah x) = (true, true, go_solve_Only_L2 u F aa ac x, ok_solve_Only_L2 u F aa ac x, true, sh_solve_Only_L2 u F aa ac ah (step_solve_Only_L2 u F aa ac x), true) := by kernel_rfl
def fam_solve_Only_L2 (u F : Nat) (aa : Int) (ac ah : Nat → Int) : Fam Try.prog false menv54 [] [] 96 0 Ann.no (subC [1, 1, 1, 1, 1, 1, 1, 0, 1, 0, 0] (codeOf Try.f23)) V_solve_Only_L2 where
  sh := sh_solve_Only_L2 u F aa ac ah
  ok := ok_solve_Only_L2 u F aa ac
  go := go_solve_Only_L2 u F aa ac
  step := step_solve_Only_L2 u F aa ac
  chg := (tpB 10 (false :: false :: false :: tpB 61 (false :: tpB 22 ([]))))
  chgH := [false, true, false]
  tpl := tpl_solve_Only_L2
  cts := cts_solve_Only_L2
  keep := 0
  srcs := [⟨some 0, 0, 0, []⟩, ⟨some 1, 0, 0, []⟩, ⟨some 2, 0, 0, []⟩]
  ann := (annNo (subC [1, 1, 1, 1, 1, 1, 1, 0, 1, 0, 0] (codeOf Try.f23)))
  le := by kernel_rfl
  kept := by kernel_rfl
  keptB := by kernel_rfl
  all := all_solve_Only_L2 u F aa ac ah
  len := fun x => by kernel_rfl
  head := fun x y => by kernel_rfl
  con := fun x y => by kernel_rfl
  conH := fun x y => by kernel_rfl
def F_solve_Only_L2 : St → Option Ch := fun s => cond (Nat.beq s.tm.length 97 && Nat.beq s.H.length 3) (tkTops 10 (alL tpl_solve_Only_L2 s.tm) fun t0 => tkCons t0 fun j t1 => tkLst 1 0 14 j fun s0 s1 => tkCons t1 fun l t2 => tkLst 2 0 1 l fun s2 s3 => tkCons t2 fun q t3 => tkLst 0 0 1 q fun s4 s5 => tkTops 61 t3 fun t4 => tkCons t4 fun E t5 => tkI .i64 E fun s6 => tkCons t5 fun J t6 => tkI .i64 J fun s7 => tkTops 21 t6 fun t7 => tkNil t7 <| tkCons (alH cts_solve_Only_L2 (s.H ++ List.map phan phs_solve_Only_L2)) fun b8 t8 => tkSym 3 0 1 b8 fun s8 f0 => tkCons t8 fun b9 t9 => tkSym 56 0 14 b9 fun s10 f1 => tkCons t9 fun b10 t10 => tkSym 3 0 1 b10 fun s25 f2 => tkNil t10 <| Fam.out (fam_solve_Only_L2 s0 s4 s6 (iL f0 0) (iL f2 0)) s ((((((((((allB fun i => isNrm [Ck.i .i64] (f0 i)) && (allB fun i => isNrm [Ck.i .i64, Ck.i .i64, Ck.f, Ck.f, Ck.f, Ck.f, Ck.f, Ck.f, Ck.f, Ck.f, Ck.f, Ck.f, Ck.i .i64, Ck.f] (f1 i))) && (allB fun i => isNrm [Ck.i .i64] (f2 i))) && (eqT s1 s0)) && (eqT s2 s0)) && (eqT s3 s0)) && (eqT s5 s4)) && (eqT s8 s4)) && (eqT s10 s0)) && (eqT s25 s0)) (V_solve_Only_L2.mk s7 (iL f1 0) (iL f1 1) (fL f1 2) (fL f1 3) (fL f1 4) (fL f1 5) (fL f1 6) (fL f1 7) (fL f1 8) (fL f1 9) (fL f1 10) (fL f1 11) (iL f1 12) (fL f1 13))) none
theorem F_solve_Only_L2_ok : ∀ s ch, F_solve_Only_L2 s = some ch → AllI s ch ∧ LoopSpec Try.prog false 0 (subC [1, 1, 1, 1, 1, 1, 1, 0, 1, 0, 0] (codeOf Try.f23)) s (sel ch) := by
  intro s ch h
  unfold F_solve_Only_L2 at h
  obtain ⟨hl, h0⟩ := cond_some h rfl
  clear h
  obtain ⟨hl, hb⟩ := and_beq2 hl
  obtain ⟨t0, e0, h1⟩ := tkTops_some h0
  obtain ⟨j, t1, rfl, h2⟩ := tkCons_some h1
  obtain ⟨s0, s1, rfl, h3⟩ := tkLst_some h2
  obtain ⟨l, t2, rfl, h4⟩ := tkCons_some h3
  obtain ⟨s2, s3, rfl, h5⟩ := tkLst_some h4
  obtain ⟨q, t3, rfl, h6⟩ := tkCons_some h5
  obtain ⟨s4, s5, rfl, h7⟩ := tkLst_some h6
  obtain ⟨t4, rfl, h8⟩ := tkTops_some h7
  obtain ⟨E, t5, rfl, h9⟩ := tkCons_some h8
  obtain ⟨s6, rfl, h10⟩ := tkI_some h9
  obtain ⟨J, t6, rfl, h11⟩ := tkCons_some h10
  obtain ⟨s7, rfl, h12⟩ := tkI_some h11
  obtain ⟨t7, rfl, h13⟩ := tkTops_some h12
  obtain ⟨rfl, h14⟩ := tkNil_some h13
  obtain ⟨b8, t8, eH, h15⟩ := tkCons_some h14
  obtain ⟨s8, f0, rfl, h16⟩ := tkSym_some h15
  obtain ⟨b9, t9, rfl, h17⟩ := tkCons_some h16
  obtain ⟨s10, f1, rfl, h18⟩ := tkSym_some h17
  obtain ⟨b10, t10, rfl, h19⟩ := tkCons_some h18
  obtain ⟨s25, f2, rfl, h20⟩ := tkSym_some h19
  obtain ⟨rfl, h21⟩ := tkNil_some h20
  refine Fam.spec menv54_ok (fam_solve_Only_L2 s0 s4 s6 (iL f0 0) (iL f2 0)) (phs := phs_solve_Only_L2) (hl.trans (by kernel_rfl)) (hb.trans (by kernel_rfl)) ?_ ?_ h21
  · rw [← hdr_alH cts_solve_Only_L2 (s.H ++ List.map phan phs_solve_Only_L2), eH]; kernel_rfl
  · intro hq
    simp only [Bool.and_eq_true] at hq
    obtain ⟨⟨⟨⟨⟨⟨⟨⟨⟨hq0, hq1⟩, hq2⟩, hq3⟩, hq4⟩, hq5⟩, hq6⟩, hq7⟩, hq8⟩, hq9⟩ := hq
    have n0 := nrm_fun hq0
    have n1 := nrm_fun hq1
    have n2 := nrm_fun hq2
    have hx := eqT_eq hq3; subst s1
    have hx := eqT_eq hq4; subst s2
    have hx := eqT_eq hq5; subst s3
    have hx := eqT_eq hq6; subst s5
    have hx := eqT_eq hq7; subst s8
    have hx := eqT_eq hq8; subst s10
    have hx := eqT_eq hq9; subst s25
    show sh_solve_Only_L2 s0 s4 s6 (iL f0 0) (iL f2 0) (V_solve_Only_L2.mk s7 (iL f1 0) (iL f1 1) (fL f1 2) (fL f1 3) (fL f1 4) (fL f1 5) (fL f1 6) (fL f1 7) (fL f1 8) (fL f1 9) (fL f1 10) (fL f1 11) (iL f1 12) (fL f1 13)) = (alL tpl_solve_Only_L2 s.tm, alH cts_solve_Only_L2 (s.H ++ List.map phan phs_solve_Only_L2))
    rw [e0, eH]
    refine Eq.trans (show sh_solve_Only_L2 s0 s4 s6 (iL f0 0) (iL f2 0) (V_solve_Only_L2.mk s7 (iL f1 0) (iL f1 1) (fL f1 2) (fL f1 3) (fL f1 4) (fL f1 5) (fL f1 6) (fL f1 7) (fL f1 8) (fL f1 9) (fL f1 10) (fL f1 11) (iL f1 12) (fL f1 13)) = T_solve_Only_L2 s0 s4 s6 (iL f0 0) (iL f2 0) (V_solve_Only_L2.mk s7 (iL f1 0) (iL f1 1) (fL f1 2) (fL f1 3) (fL f1 4) (fL f1 5) (fL f1 6) (fL f1 7) (fL f1 8) (fL f1 9) (fL f1 10) (fL f1 11) (iL f1 12) (fL f1 13)) (fun i => mkN [Ck.i .i64] (f0 i) 0) (fun i => mkN [Ck.i .i64, Ck.i .i64, Ck.f, Ck.f, Ck.f, Ck.f, Ck.f, Ck.f, Ck.f, Ck.f, Ck.f, Ck.f, Ck.i .i64, Ck.f] (f1 i) 0) (fun i => mkN [Ck.i .i64] (f2 i) 0) by kernel_rfl) ?_
    rw [n0, n1, n2]
    kernel_rfl
theorem ann_solve_Only : FnOk Try.prog false 0 Try.f23 (Ann.two Ann.no (Ann.two Ann.no (Ann.two (Ann.two Ann.no (Ann.one (Ann.loop F_solve_Only_L0))) (Ann.two Ann.no (Ann.two Ann.no (Ann.two Ann.no (Ann.two (Ann.two Ann.no (Ann.one (Ann.loop F_solve_Only_L1))) (Ann.two (Ann.two Ann.no (Ann.one (Ann.loop F_solve_Only_L2))) Ann.no)))))))) := (fnOk_of (c := codeOf Try.f23) (by kernel_rfl) (annSeq (a := (subC [0] (codeOf Try.f23))) (b := (subC [1] (codeOf Try.f23))) (by kernel_rfl) (annNo (subC [0] (codeOf Try.f23))) (annSeq (a := (subC [1, 0] (codeOf Try.f23))) (b := (subC [1, 1] (codeOf Try.f23))) (by kernel_rfl) (annNo (subC [1, 0] (codeOf Try.f23))) (annSeq (a := (subC [1, 1, 0] (codeOf Try.f23))) (b := (subC [1, 1, 1] (codeOf Try.f23))) (by kernel_rfl) (annSeq (a := (subC [1, 1, 0, 0] (codeOf Try.f23))) (b := (subC [1, 1, 0, 1] (codeOf Try.f23))) (by kernel_rfl) (annNo (subC [1, 1, 0, 0] (codeOf Try.f23))) (annBlock (a := (subC [1, 1, 0, 1, 0] (codeOf Try.f23))) (i := 0) (by kernel_rfl) (annLoop (a := (subC [1, 1, 0, 1, 0, 0] (codeOf Try.f23))) (by kernel_rfl) F_solve_Only_L0_ok))) (annSeq (a := (subC [1, 1, 1, 0] (codeOf Try.f23))) (b := (subC [1, 1, 1, 1] (codeOf Try.f23))) (by kernel_rfl) (annNo (subC [1, 1, 1, 0] (codeOf Try.f23))) (annSeq (a := (subC [1, 1, 1, 1, 0] (codeOf Try.f23))) (b := (subC [1, 1, 1, 1, 1] (codeOf Try.f23))) (by kernel_rfl) (annNo (subC [1, 1, 1, 1, 0] (codeOf Try.f23))) (annSeq (a := (subC [1, 1, 1, 1, 1, 0] (codeOf Try.f23))) (b := (subC [1, 1, 1, 1, 1, 1] (codeOf Try.f23))) (by kernel_rfl) (annNo (subC [1, 1, 1, 1, 1, 0] (codeOf Try.f23))) (annSeq (a := (subC [1, 1, 1, 1, 1, 1, 0] (codeOf Try.f23))) (b := (subC [1, 1, 1, 1, 1, 1, 1] (codeOf Try.f23))) (by kernel_rfl) (annSeq (a := (subC [1, 1, 1, 1, 1, 1, 0, 0] (codeOf Try.f23))) (b := (subC [1, 1, 1, 1, 1, 1, 0, 1] (codeOf Try.f23))) (by kernel_rfl) (annNo (subC [1, 1, 1, 1, 1, 1, 0, 0] (codeOf Try.f23))) (annBlock (a := (subC [1, 1, 1, 1, 1, 1, 0, 1, 0] (codeOf Try.f23))) (i := 2) (by kernel_rfl) (annLoop (a := (subC [1, 1, 1, 1, 1, 1, 0, 1, 0, 0] (codeOf Try.f23))) (by kernel_rfl) F_solve_Only_L1_ok))) (annSeq (a := (subC [1, 1, 1, 1, 1, 1, 1, 0] (codeOf Try.f23))) (b := (subC [1, 1, 1, 1, 1, 1, 1, 1] (codeOf Try.f23))) (by kernel_rfl) (annSeq (a := (subC [1, 1, 1, 1, 1, 1, 1, 0, 0] (codeOf Try.f23))) (b := (subC [1, 1, 1, 1, 1, 1, 1, 0, 1] (codeOf Try.f23))) (by kernel_rfl) (annNo (subC [1, 1, 1, 1, 1, 1, 1, 0, 0] (codeOf Try.f23))) (annBlock (a := (subC [1, 1, 1, 1, 1, 1, 1, 0, 1, 0] (codeOf Try.f23))) (i := 4) (by kernel_rfl) (annLoop (a := (subC [1, 1, 1, 1, 1, 1, 1, 0, 1, 0, 0] (codeOf Try.f23))) (by kernel_rfl) F_solve_Only_L2_ok))) (annNo (subC [1, 1, 1, 1, 1, 1, 1, 1] (codeOf Try.f23))))))))))))
def s_solve_Only_0 (k : Nat) (Z ad : Nat → Int) (ae af ag ai aj ak al am an ao : Nat → Nat) (ap : Nat → Int) (aq : Nat → Nat) (X : Nat) (aw : Nat → Int) : Nat := let x0 := (L_solve_Only_L0 k Z ad ae af ag ai aj ak al am an ao ap aq (Int.ofNat k) (V_solve_Only_L0.mk (0 : Int))).v0; let x1 := Int.toNat x0; (csame ((ilt (1048576 : Int) (Int.ofNat k)) || (ilt (1024 : Int) (Int.ofNat X))) 0 (csame (bif (!(ilt x0 (Int.ofNat k))) then false else (!(ieq (s_rows_Check_0 (Z x1) (ad x1) (ae x1) (af x1) (ag x1) (ai x1) (aj x1) (ak x1) (al x1) (am x1) (an x1) (ao x1) (ap x1) (aq x1) (Int.ofNat k) (1024 : Int)) (0 : Int)))) 0 ((L_solve_Only_L1 X aw k Z ad ae af ag ai aj ak al am an ao ap aq (Int.ofNat k) (V_solve_Only_L1.mk 0 (0 : Int) (fun j0 => (0 : Int)) (fun j0 => (0 : Int)) (fun j0 => (0 : Int)) (fun j0 => 0) (fun j0 => 0) (fun j0 => 0) (fun j0 => 0) (fun j0 => 0) (fun j0 => 0) (fun j0 => 0) (fun j0 => 0) (fun j0 => 0) (fun j0 => 0) (fun j0 => (0 : Int)) (fun j0 => 0) (fun j0 => (0 : Int)))).v0)))
def s_solve_Only_1 (k : Nat) (Z ad : Nat → Int) (ae af ag ai aj ak al am an ao : Nat → Nat) (ap : Nat → Int) (aq : Nat → Nat) (X : Nat) (aw : Nat → Int) : Nat := let x0 := (L_solve_Only_L0 k Z ad ae af ag ai aj ak al am an ao ap aq (Int.ofNat k) (V_solve_Only_L0.mk (0 : Int))).v0; let x1 := Int.toNat x0; (csame ((ilt (1048576 : Int) (Int.ofNat k)) || (ilt (1024 : Int) (Int.ofNat X))) 0 (csame (bif (!(ilt x0 (Int.ofNat k))) then false else (!(ieq (s_rows_Check_0 (Z x1) (ad x1) (ae x1) (af x1) (ag x1) (ai x1) (aj x1) (ak x1) (al x1) (am x1) (an x1) (ao x1) (ap x1) (aq x1) (Int.ofNat k) (1024 : Int)) (0 : Int)))) 0 ((L_solve_Only_L1 X aw k Z ad ae af ag ai aj ak al am an ao ap aq (Int.ofNat k) (V_solve_Only_L1.mk 0 (0 : Int) (fun j0 => (0 : Int)) (fun j0 => (0 : Int)) (fun j0 => (0 : Int)) (fun j0 => 0) (fun j0 => 0) (fun j0 => 0) (fun j0 => 0) (fun j0 => 0) (fun j0 => 0) (fun j0 => 0) (fun j0 => 0) (fun j0 => 0) (fun j0 => 0) (fun j0 => (0 : Int)) (fun j0 => 0) (fun j0 => (0 : Int)))).v0)))
def s_solve_Only_2 (k : Nat) (Z ad : Nat → Int) (ae af ag ai aj ak al am an ao : Nat → Nat) (ap : Nat → Int) (aq : Nat → Nat) (X : Nat) (aw : Nat → Int) : Nat := let x0 := (L_solve_Only_L0 k Z ad ae af ag ai aj ak al am an ao ap aq (Int.ofNat k) (V_solve_Only_L0.mk (0 : Int))).v0; let x1 := Int.toNat x0; (csame ((ilt (1048576 : Int) (Int.ofNat k)) || (ilt (1024 : Int) (Int.ofNat X))) 0 (csame (bif (!(ilt x0 (Int.ofNat k))) then false else (!(ieq (s_rows_Check_0 (Z x1) (ad x1) (ae x1) (af x1) (ag x1) (ai x1) (aj x1) (ak x1) (al x1) (am x1) (an x1) (ao x1) (ap x1) (aq x1) (Int.ofNat k) (1024 : Int)) (0 : Int)))) 0 ((L_solve_Only_L1 X aw k Z ad ae af ag ai aj ak al am an ao ap aq (Int.ofNat k) (V_solve_Only_L1.mk 0 (0 : Int) (fun j0 => (0 : Int)) (fun j0 => (0 : Int)) (fun j0 => (0 : Int)) (fun j0 => 0) (fun j0 => 0) (fun j0 => 0) (fun j0 => 0) (fun j0 => 0) (fun j0 => 0) (fun j0 => 0) (fun j0 => 0) (fun j0 => 0) (fun j0 => 0) (fun j0 => (0 : Int)) (fun j0 => 0) (fun j0 => (0 : Int)))).v0)))
def s_solve_Only_3 (k : Nat) (Z ad : Nat → Int) (ae af ag ai aj ak al am an ao : Nat → Nat) (ap : Nat → Int) (aq : Nat → Nat) (X : Nat) (aw : Nat → Int) : Nat := let x0 := (L_solve_Only_L0 k Z ad ae af ag ai aj ak al am an ao ap aq (Int.ofNat k) (V_solve_Only_L0.mk (0 : Int))).v0; let x1 := Int.toNat x0; (csame ((ilt (1048576 : Int) (Int.ofNat k)) || (ilt (1024 : Int) (Int.ofNat X))) 0 (csame (bif (!(ilt x0 (Int.ofNat k))) then false else (!(ieq (s_rows_Check_0 (Z x1) (ad x1) (ae x1) (af x1) (ag x1) (ai x1) (aj x1) (ak x1) (al x1) (am x1) (an x1) (ao x1) (ap x1) (aq x1) (Int.ofNat k) (1024 : Int)) (0 : Int)))) 0 ((L_solve_Only_L1 X aw k Z ad ae af ag ai aj ak al am an ao ap aq (Int.ofNat k) (V_solve_Only_L1.mk 0 (0 : Int) (fun j0 => (0 : Int)) (fun j0 => (0 : Int)) (fun j0 => (0 : Int)) (fun j0 => 0) (fun j0 => 0) (fun j0 => 0) (fun j0 => 0) (fun j0 => 0) (fun j0 => 0) (fun j0 => 0) (fun j0 => 0) (fun j0 => 0) (fun j0 => 0) (fun j0 => (0 : Int)) (fun j0 => 0) (fun j0 => (0 : Int)))).v0)))
def s_solve_Only_4 (k : Nat) (Z ad : Nat → Int) (ae af ag ai aj ak al am an ao : Nat → Nat) (ap : Nat → Int) (aq : Nat → Nat) (X : Nat) (aw : Nat → Int) : Int := let x0 := (L_solve_Only_L0 k Z ad ae af ag ai aj ak al am an ao ap aq (Int.ofNat k) (V_solve_Only_L0.mk (0 : Int))).v0; let x1 := Int.toNat x0; let x2 := s_rows_Check_0 (Z x1) (ad x1) (ae x1) (af x1) (ag x1) (ai x1) (aj x1) (ak x1) (al x1) (am x1) (an x1) (ao x1) (ap x1) (aq x1) (Int.ofNat k) (1024 : Int); (bif ((ilt (1048576 : Int) (Int.ofNat k)) || (ilt (1024 : Int) (Int.ofNat X))) then (4 : Int) else (bif (bif (!(ilt x0 (Int.ofNat k))) then false else (!(ieq x2 (0 : Int)))) then x2 else (0 : Int)))
def s_solve_Only_5 (k : Nat) (Z ad : Nat → Int) (ae af ag ai aj ak al am an ao : Nat → Nat) (ap : Nat → Int) (aq : Nat → Nat) (X : Nat) (aw : Nat → Int) : Nat := ((L_solve_Only_L1 X aw k Z ad ae af ag ai aj ak al am an ao ap aq (Int.ofNat k) (V_solve_Only_L1.mk 0 (0 : Int) (fun j0 => (0 : Int)) (fun j0 => (0 : Int)) (fun j0 => (0 : Int)) (fun j0 => 0) (fun j0 => 0) (fun j0 => 0) (fun j0 => 0) (fun j0 => 0) (fun j0 => 0) (fun j0 => 0) (fun j0 => 0) (fun j0 => 0) (fun j0 => 0) (fun j0 => (0 : Int)) (fun j0 => 0) (fun j0 => (0 : Int)))).v0)
def s_solve_Only_6 (k : Nat) (Z ad : Nat → Int) (ae af ag ai aj ak al am an ao : Nat → Nat) (ap : Nat → Int) (aq : Nat → Nat) (X : Nat) (aw : Nat → Int) : (Nat → Int) := let x0 : V_solve_Only_L1 := (L_solve_Only_L1 X aw k Z ad ae af ag ai aj ak al am an ao ap aq (Int.ofNat k) (V_solve_Only_L1.mk 0 (0 : Int) (fun j0 => (0 : Int)) (fun j0 => (0 : Int)) (fun j0 => (0 : Int)) (fun j0 => 0) (fun j0 => 0) (fun j0 => 0) (fun j0 => 0) (fun j0 => 0) (fun j0 => 0) (fun j0 => 0) (fun j0 => 0) (fun j0 => 0) (fun j0 => 0) (fun j0 => (0 : Int)) (fun j0 => 0) (fun j0 => (0 : Int)))); let x1 := x0.v0; ((L_solve_Only_L2 x1 k (Int.ofNat x1) (x0.v2) (V_solve_Only_L2.mk (0 : Int) (x0.v3) (x0.v4) (x0.v5) (x0.v6) (x0.v7) (x0.v8) (x0.v9) (x0.v10) (x0.v11) (x0.v12) (x0.v13) (x0.v14) (x0.v15) (x0.v16))).v1)
def s_solve_Only_7 (k : Nat) (Z ad : Nat → Int) (ae af ag ai aj ak al am an ao : Nat → Nat) (ap : Nat → Int) (aq : Nat → Nat) (X : Nat) (aw : Nat → Int) : (Nat → Int) := let x0 : V_solve_Only_L1 := (L_solve_Only_L1 X aw k Z ad ae af ag ai aj ak al am an ao ap aq (Int.ofNat k) (V_solve_Only_L1.mk 0 (0 : Int) (fun j0 => (0 : Int)) (fun j0 => (0 : Int)) (fun j0 => (0 : Int)) (fun j0 => 0) (fun j0 => 0) (fun j0 => 0) (fun j0 => 0) (fun j0 => 0) (fun j0 => 0) (fun j0 => 0) (fun j0 => 0) (fun j0 => 0) (fun j0 => 0) (fun j0 => (0 : Int)) (fun j0 => 0) (fun j0 => (0 : Int)))); let x1 := x0.v0; ((L_solve_Only_L2 x1 k (Int.ofNat x1) (x0.v2) (V_solve_Only_L2.mk (0 : Int) (x0.v3) (x0.v4) (x0.v5) (x0.v6) (x0.v7) (x0.v8) (x0.v9) (x0.v10) (x0.v11) (x0.v12) (x0.v13) (x0.v14) (x0.v15) (x0.v16))).v2)
def s_solve_Only_8 (k : Nat) (Z ad : Nat → Int) (ae af ag ai aj ak al am an ao : Nat → Nat) (ap : Nat → Int) (aq : Nat → Nat) (X : Nat) (aw : Nat → Int) : (Nat → Nat) := let x0 : V_solve_Only_L1 := (L_solve_Only_L1 X aw k Z ad ae af ag ai aj ak al am an ao ap aq (Int.ofNat k) (V_solve_Only_L1.mk 0 (0 : Int) (fun j0 => (0 : Int)) (fun j0 => (0 : Int)) (fun j0 => (0 : Int)) (fun j0 => 0) (fun j0 => 0) (fun j0 => 0) (fun j0 => 0) (fun j0 => 0) (fun j0 => 0) (fun j0 => 0) (fun j0 => 0) (fun j0 => 0) (fun j0 => 0) (fun j0 => (0 : Int)) (fun j0 => 0) (fun j0 => (0 : Int)))); let x1 := x0.v0; ((L_solve_Only_L2 x1 k (Int.ofNat x1) (x0.v2) (V_solve_Only_L2.mk (0 : Int) (x0.v3) (x0.v4) (x0.v5) (x0.v6) (x0.v7) (x0.v8) (x0.v9) (x0.v10) (x0.v11) (x0.v12) (x0.v13) (x0.v14) (x0.v15) (x0.v16))).v3)
def s_solve_Only_9 (k : Nat) (Z ad : Nat → Int) (ae af ag ai aj ak al am an ao : Nat → Nat) (ap : Nat → Int) (aq : Nat → Nat) (X : Nat) (aw : Nat → Int) : (Nat → Nat) := let x0 : V_solve_Only_L1 := (L_solve_Only_L1 X aw k Z ad ae af ag ai aj ak al am an ao ap aq (Int.ofNat k) (V_solve_Only_L1.mk 0 (0 : Int) (fun j0 => (0 : Int)) (fun j0 => (0 : Int)) (fun j0 => (0 : Int)) (fun j0 => 0) (fun j0 => 0) (fun j0 => 0) (fun j0 => 0) (fun j0 => 0) (fun j0 => 0) (fun j0 => 0) (fun j0 => 0) (fun j0 => 0) (fun j0 => 0) (fun j0 => (0 : Int)) (fun j0 => 0) (fun j0 => (0 : Int)))); let x1 := x0.v0; ((L_solve_Only_L2 x1 k (Int.ofNat x1) (x0.v2) (V_solve_Only_L2.mk (0 : Int) (x0.v3) (x0.v4) (x0.v5) (x0.v6) (x0.v7) (x0.v8) (x0.v9) (x0.v10) (x0.v11) (x0.v12) (x0.v13) (x0.v14) (x0.v15) (x0.v16))).v4)
def s_solve_Only_10 (k : Nat) (Z ad : Nat → Int) (ae af ag ai aj ak al am an ao : Nat → Nat) (ap : Nat → Int) (aq : Nat → Nat) (X : Nat) (aw : Nat → Int) : (Nat → Nat) := let x0 : V_solve_Only_L1 := (L_solve_Only_L1 X aw k Z ad ae af ag ai aj ak al am an ao ap aq (Int.ofNat k) (V_solve_Only_L1.mk 0 (0 : Int) (fun j0 => (0 : Int)) (fun j0 => (0 : Int)) (fun j0 => (0 : Int)) (fun j0 => 0) (fun j0 => 0) (fun j0 => 0) (fun j0 => 0) (fun j0 => 0) (fun j0 => 0) (fun j0 => 0) (fun j0 => 0) (fun j0 => 0) (fun j0 => 0) (fun j0 => (0 : Int)) (fun j0 => 0) (fun j0 => (0 : Int)))); let x1 := x0.v0; ((L_solve_Only_L2 x1 k (Int.ofNat x1) (x0.v2) (V_solve_Only_L2.mk (0 : Int) (x0.v3) (x0.v4) (x0.v5) (x0.v6) (x0.v7) (x0.v8) (x0.v9) (x0.v10) (x0.v11) (x0.v12) (x0.v13) (x0.v14) (x0.v15) (x0.v16))).v5)
def s_solve_Only_11 (k : Nat) (Z ad : Nat → Int) (ae af ag ai aj ak al am an ao : Nat → Nat) (ap : Nat → Int) (aq : Nat → Nat) (X : Nat) (aw : Nat → Int) : (Nat → Nat) := let x0 : V_solve_Only_L1 := (L_solve_Only_L1 X aw k Z ad ae af ag ai aj ak al am an ao ap aq (Int.ofNat k) (V_solve_Only_L1.mk 0 (0 : Int) (fun j0 => (0 : Int)) (fun j0 => (0 : Int)) (fun j0 => (0 : Int)) (fun j0 => 0) (fun j0 => 0) (fun j0 => 0) (fun j0 => 0) (fun j0 => 0) (fun j0 => 0) (fun j0 => 0) (fun j0 => 0) (fun j0 => 0) (fun j0 => 0) (fun j0 => (0 : Int)) (fun j0 => 0) (fun j0 => (0 : Int)))); let x1 := x0.v0; ((L_solve_Only_L2 x1 k (Int.ofNat x1) (x0.v2) (V_solve_Only_L2.mk (0 : Int) (x0.v3) (x0.v4) (x0.v5) (x0.v6) (x0.v7) (x0.v8) (x0.v9) (x0.v10) (x0.v11) (x0.v12) (x0.v13) (x0.v14) (x0.v15) (x0.v16))).v6)
def s_solve_Only_12 (k : Nat) (Z ad : Nat → Int) (ae af ag ai aj ak al am an ao : Nat → Nat) (ap : Nat → Int) (aq : Nat → Nat) (X : Nat) (aw : Nat → Int) : (Nat → Nat) := let x0 : V_solve_Only_L1 := (L_solve_Only_L1 X aw k Z ad ae af ag ai aj ak al am an ao ap aq (Int.ofNat k) (V_solve_Only_L1.mk 0 (0 : Int) (fun j0 => (0 : Int)) (fun j0 => (0 : Int)) (fun j0 => (0 : Int)) (fun j0 => 0) (fun j0 => 0) (fun j0 => 0) (fun j0 => 0) (fun j0 => 0) (fun j0 => 0) (fun j0 => 0) (fun j0 => 0) (fun j0 => 0) (fun j0 => 0) (fun j0 => (0 : Int)) (fun j0 => 0) (fun j0 => (0 : Int)))); let x1 := x0.v0; ((L_solve_Only_L2 x1 k (Int.ofNat x1) (x0.v2) (V_solve_Only_L2.mk (0 : Int) (x0.v3) (x0.v4) (x0.v5) (x0.v6) (x0.v7) (x0.v8) (x0.v9) (x0.v10) (x0.v11) (x0.v12) (x0.v13) (x0.v14) (x0.v15) (x0.v16))).v7)
def s_solve_Only_13 (k : Nat) (Z ad : Nat → Int) (ae af ag ai aj ak al am an ao : Nat → Nat) (ap : Nat → Int) (aq : Nat → Nat) (X : Nat) (aw : Nat → Int) : (Nat → Nat) := let x0 : V_solve_Only_L1 := (L_solve_Only_L1 X aw k Z ad ae af ag ai aj ak al am an ao ap aq (Int.ofNat k) (V_solve_Only_L1.mk 0 (0 : Int) (fun j0 => (0 : Int)) (fun j0 => (0 : Int)) (fun j0 => (0 : Int)) (fun j0 => 0) (fun j0 => 0) (fun j0 => 0) (fun j0 => 0) (fun j0 => 0) (fun j0 => 0) (fun j0 => 0) (fun j0 => 0) (fun j0 => 0) (fun j0 => 0) (fun j0 => (0 : Int)) (fun j0 => 0) (fun j0 => (0 : Int)))); let x1 := x0.v0; ((L_solve_Only_L2 x1 k (Int.ofNat x1) (x0.v2) (V_solve_Only_L2.mk (0 : Int) (x0.v3) (x0.v4) (x0.v5) (x0.v6) (x0.v7) (x0.v8) (x0.v9) (x0.v10) (x0.v11) (x0.v12) (x0.v13) (x0.v14) (x0.v15) (x0.v16))).v8)
def s_solve_Only_14 (k : Nat) (Z ad : Nat → Int) (ae af ag ai aj ak al am an ao : Nat → Nat) (ap : Nat → Int) (aq : Nat → Nat) (X : Nat) (aw : Nat → Int) : (Nat → Nat) := let x0 : V_solve_Only_L1 := (L_solve_Only_L1 X aw k Z ad ae af ag ai aj ak al am an ao ap aq (Int.ofNat k) (V_solve_Only_L1.mk 0 (0 : Int) (fun j0 => (0 : Int)) (fun j0 => (0 : Int)) (fun j0 => (0 : Int)) (fun j0 => 0) (fun j0 => 0) (fun j0 => 0) (fun j0 => 0) (fun j0 => 0) (fun j0 => 0) (fun j0 => 0) (fun j0 => 0) (fun j0 => 0) (fun j0 => 0) (fun j0 => (0 : Int)) (fun j0 => 0) (fun j0 => (0 : Int)))); let x1 := x0.v0; ((L_solve_Only_L2 x1 k (Int.ofNat x1) (x0.v2) (V_solve_Only_L2.mk (0 : Int) (x0.v3) (x0.v4) (x0.v5) (x0.v6) (x0.v7) (x0.v8) (x0.v9) (x0.v10) (x0.v11) (x0.v12) (x0.v13) (x0.v14) (x0.v15) (x0.v16))).v9)
def s_solve_Only_15 (k : Nat) (Z ad : Nat → Int) (ae af ag ai aj ak al am an ao : Nat → Nat) (ap : Nat → Int) (aq : Nat → Nat) (X : Nat) (aw : Nat → Int) : (Nat → Nat) := let x0 : V_solve_Only_L1 := (L_solve_Only_L1 X aw k Z ad ae af ag ai aj ak al am an ao ap aq (Int.ofNat k) (V_solve_Only_L1.mk 0 (0 : Int) (fun j0 => (0 : Int)) (fun j0 => (0 : Int)) (fun j0 => (0 : Int)) (fun j0 => 0) (fun j0 => 0) (fun j0 => 0) (fun j0 => 0) (fun j0 => 0) (fun j0 => 0) (fun j0 => 0) (fun j0 => 0) (fun j0 => 0) (fun j0 => 0) (fun j0 => (0 : Int)) (fun j0 => 0) (fun j0 => (0 : Int)))); let x1 := x0.v0; ((L_solve_Only_L2 x1 k (Int.ofNat x1) (x0.v2) (V_solve_Only_L2.mk (0 : Int) (x0.v3) (x0.v4) (x0.v5) (x0.v6) (x0.v7) (x0.v8) (x0.v9) (x0.v10) (x0.v11) (x0.v12) (x0.v13) (x0.v14) (x0.v15) (x0.v16))).v10)
def s_solve_Only_16 (k : Nat) (Z ad : Nat → Int) (ae af ag ai aj ak al am an ao : Nat → Nat) (ap : Nat → Int) (aq : Nat → Nat) (X : Nat) (aw : Nat → Int) : (Nat → Nat) := let x0 : V_solve_Only_L1 := (L_solve_Only_L1 X aw k Z ad ae af ag ai aj ak al am an ao ap aq (Int.ofNat k) (V_solve_Only_L1.mk 0 (0 : Int) (fun j0 => (0 : Int)) (fun j0 => (0 : Int)) (fun j0 => (0 : Int)) (fun j0 => 0) (fun j0 => 0) (fun j0 => 0) (fun j0 => 0) (fun j0 => 0) (fun j0 => 0) (fun j0 => 0) (fun j0 => 0) (fun j0 => 0) (fun j0 => 0) (fun j0 => (0 : Int)) (fun j0 => 0) (fun j0 => (0 : Int)))); let x1 := x0.v0; ((L_solve_Only_L2 x1 k (Int.ofNat x1) (x0.v2) (V_solve_Only_L2.mk (0 : Int) (x0.v3) (x0.v4) (x0.v5) (x0.v6) (x0.v7) (x0.v8) (x0.v9) (x0.v10) (x0.v11) (x0.v12) (x0.v13) (x0.v14) (x0.v15) (x0.v16))).v11)
def s_solve_Only_17 (k : Nat) (Z ad : Nat → Int) (ae af ag ai aj ak al am an ao : Nat → Nat) (ap : Nat → Int) (aq : Nat → Nat) (X : Nat) (aw : Nat → Int) : (Nat → Nat) := let x0 : V_solve_Only_L1 := (L_solve_Only_L1 X aw k Z ad ae af ag ai aj ak al am an ao ap aq (Int.ofNat k) (V_solve_Only_L1.mk 0 (0 : Int) (fun j0 => (0 : Int)) (fun j0 => (0 : Int)) (fun j0 => (0 : Int)) (fun j0 => 0) (fun j0 => 0) (fun j0 => 0) (fun j0 => 0) (fun j0 => 0) (fun j0 => 0) (fun j0 => 0) (fun j0 => 0) (fun j0 => 0) (fun j0 => 0) (fun j0 => (0 : Int)) (fun j0 => 0) (fun j0 => (0 : Int)))); let x1 := x0.v0; ((L_solve_Only_L2 x1 k (Int.ofNat x1) (x0.v2) (V_solve_Only_L2.mk (0 : Int) (x0.v3) (x0.v4) (x0.v5) (x0.v6) (x0.v7) (x0.v8) (x0.v9) (x0.v10) (x0.v11) (x0.v12) (x0.v13) (x0.v14) (x0.v15) (x0.v16))).v12)
def s_solve_Only_18 (k : Nat) (Z ad : Nat → Int) (ae af ag ai aj ak al am an ao : Nat → Nat) (ap : Nat → Int) (aq : Nat → Nat) (X : Nat) (aw : Nat → Int) : (Nat → Int) := let x0 : V_solve_Only_L1 := (L_solve_Only_L1 X aw k Z ad ae af ag ai aj ak al am an ao ap aq (Int.ofNat k) (V_solve_Only_L1.mk 0 (0 : Int) (fun j0 => (0 : Int)) (fun j0 => (0 : Int)) (fun j0 => (0 : Int)) (fun j0 => 0) (fun j0 => 0) (fun j0 => 0) (fun j0 => 0) (fun j0 => 0) (fun j0 => 0) (fun j0 => 0) (fun j0 => 0) (fun j0 => 0) (fun j0 => 0) (fun j0 => (0 : Int)) (fun j0 => 0) (fun j0 => (0 : Int)))); let x1 := x0.v0; ((L_solve_Only_L2 x1 k (Int.ofNat x1) (x0.v2) (V_solve_Only_L2.mk (0 : Int) (x0.v3) (x0.v4) (x0.v5) (x0.v6) (x0.v7) (x0.v8) (x0.v9) (x0.v10) (x0.v11) (x0.v12) (x0.v13) (x0.v14) (x0.v15) (x0.v16))).v13)
def s_solve_Only_19 (k : Nat) (Z ad : Nat → Int) (ae af ag ai aj ak al am an ao : Nat → Nat) (ap : Nat → Int) (aq : Nat → Nat) (X : Nat) (aw : Nat → Int) : (Nat → Nat) := let x0 : V_solve_Only_L1 := (L_solve_Only_L1 X aw k Z ad ae af ag ai aj ak al am an ao ap aq (Int.ofNat k) (V_solve_Only_L1.mk 0 (0 : Int) (fun j0 => (0 : Int)) (fun j0 => (0 : Int)) (fun j0 => (0 : Int)) (fun j0 => 0) (fun j0 => 0) (fun j0 => 0) (fun j0 => 0) (fun j0 => 0) (fun j0 => 0) (fun j0 => 0) (fun j0 => 0) (fun j0 => 0) (fun j0 => 0) (fun j0 => (0 : Int)) (fun j0 => 0) (fun j0 => (0 : Int)))); let x1 := x0.v0; ((L_solve_Only_L2 x1 k (Int.ofNat x1) (x0.v2) (V_solve_Only_L2.mk (0 : Int) (x0.v3) (x0.v4) (x0.v5) (x0.v6) (x0.v7) (x0.v8) (x0.v9) (x0.v10) (x0.v11) (x0.v12) (x0.v13) (x0.v14) (x0.v15) (x0.v16))).v14)
def s_solve_Only_20 (k : Nat) (Z ad : Nat → Int) (ae af ag ai aj ak al am an ao : Nat → Nat) (ap : Nat → Int) (aq : Nat → Nat) (X : Nat) (aw : Nat → Int) : Nat := ((L_solve_Only_L1 X aw k Z ad ae af ag ai aj ak al am an ao ap aq (Int.ofNat k) (V_solve_Only_L1.mk 0 (0 : Int) (fun j0 => (0 : Int)) (fun j0 => (0 : Int)) (fun j0 => (0 : Int)) (fun j0 => 0) (fun j0 => 0) (fun j0 => 0) (fun j0 => 0) (fun j0 => 0) (fun j0 => 0) (fun j0 => 0) (fun j0 => 0) (fun j0 => 0) (fun j0 => 0) (fun j0 => (0 : Int)) (fun j0 => 0) (fun j0 => (0 : Int)))).v0)
def s_solve_Only_21 (k : Nat) (Z ad : Nat → Int) (ae af ag ai aj ak al am an ao : Nat → Nat) (ap : Nat → Int) (aq : Nat → Nat) (X : Nat) (aw : Nat → Int) : (Nat → Int) := ((L_solve_Only_L1 X aw k Z ad ae af ag ai aj ak al am an ao ap aq (Int.ofNat k) (V_solve_Only_L1.mk 0 (0 : Int) (fun j0 => (0 : Int)) (fun j0 => (0 : Int)) (fun j0 => (0 : Int)) (fun j0 => 0) (fun j0 => 0) (fun j0 => 0) (fun j0 => 0) (fun j0 => 0) (fun j0 => 0) (fun j0 => 0) (fun j0 => 0) (fun j0 => 0) (fun j0 => 0) (fun j0 => (0 : Int)) (fun j0 => 0) (fun j0 => (0 : Int)))).v17)
def q_solve_Only (k : Nat) (Z ad : Nat → Int) (ae af ag ai aj ak al am an ao : Nat → Nat) (ap : Nat → Int) (aq : Nat → Nat) (X : Nat) (aw : Nat → Int) : Bool := (let x0 : V_solve_Only_L1 := (L_solve_Only_L1 X aw k Z ad ae af ag ai aj ak al am an ao ap aq (Int.ofNat k) (V_solve_Only_L1.mk 0 (0 : Int) (fun j0 => (0 : Int)) (fun j0 => (0 : Int)) (fun j0 => (0 : Int)) (fun j0 => 0) (fun j0 => 0) (fun j0 => 0) (fun j0 => 0) (fun j0 => 0) (fun j0 => 0) (fun j0 => 0) (fun j0 => 0) (fun j0 => 0) (fun j0 => 0) (fun j0 => (0 : Int)) (fun j0 => 0) (fun j0 => (0 : Int)))); let x1 := x0.v0; let x2 := eqT x1 x1; let x3 := ((allB fun _ => true) && (allB fun _ => true)) && (allB fun _ => true); let x4 := ((((allB fun _ => true) && (allB fun _ => true)) && (eqT (fun i => [AV.int .i64 (Z i), AV.int .i64 (ad i), AV.float (ae i), AV.float (af i), AV.float (ag i), AV.float (ai i), AV.float (aj i), AV.float (ak i), AV.float (al i), AV.float (am i), AV.float (an i), AV.float (ao i), AV.int .i64 (ap i), AV.float (aq i)]) (fun i => [AV.int .i64 (Z i), AV.int .i64 (ad i), AV.float (ae i), AV.float (af i), AV.float (ag i), AV.float (ai i), AV.float (aj i), AV.float (ak i), AV.float (al i), AV.float (am i), AV.float (an i), AV.float (ao i), AV.int .i64 (ap i), AV.float (aq i)]))) && (eqT k k)) && (E_solve_Only_L0 k Z ad ae af ag ai aj ak al am an ao ap aq (Int.ofNat k) (V_solve_Only_L0.mk (0 : Int))); let x5 := (L_solve_Only_L0 k Z ad ae af ag ai aj ak al am an ao ap aq (Int.ofNat k) (V_solve_Only_L0.mk (0 : Int))).v0; let x6 := Int.toNat x5; (mrgB ((ilt (1048576 : Int) (Int.ofNat k)) || (ilt (1024 : Int) (Int.ofNat X))) true (mrgB (bif (!(ilt x5 (Int.ofNat k))) then false else (!(ieq (s_rows_Check_0 (Z x6) (ad x6) (ae x6) (af x6) (ag x6) (ai x6) (aj x6) (ak x6) (al x6) (am x6) (an x6) (ao x6) (ap x6) (aq x6) (Int.ofNat k) (1024 : Int)) (0 : Int)))) x4 (((((ile (Int.ofNat k) (Int.ofNat k)) && ((ile ((8 : Int) * (Int.ofNat k)) (281474976710656 : Int)) && (ile (Int.ofNat k) (9223372036854775807 : Int)))) && x4) && (((((((((((x3 && (allB fun _ => true)) && (allB fun _ => true)) && (eqT 0 0)) && (eqT 0 0)) && (eqT 0 0)) && (eqT k k)) && (eqT k k)) && (eqT k k)) && (eqT 0 0)) && (eqT 0 0)) && (E_solve_Only_L1 X aw k Z ad ae af ag ai aj ak al am an ao ap aq (Int.ofNat k) (V_solve_Only_L1.mk 0 (0 : Int) (fun j0 => (0 : Int)) (fun j0 => (0 : Int)) (fun j0 => (0 : Int)) (fun j0 => 0) (fun j0 => 0) (fun j0 => 0) (fun j0 => 0) (fun j0 => 0) (fun j0 => 0) (fun j0 => 0) (fun j0 => 0) (fun j0 => 0) (fun j0 => 0) (fun j0 => (0 : Int)) (fun j0 => 0) (fun j0 => (0 : Int)))))) && ((((((((x3 && x2) && x2) && x2) && (eqT k k)) && (eqT k k)) && x2) && x2) && (E_solve_Only_L2 x1 k (Int.ofNat x1) (x0.v2) (V_solve_Only_L2.mk (0 : Int) (x0.v3) (x0.v4) (x0.v5) (x0.v6) (x0.v7) (x0.v8) (x0.v9) (x0.v10) (x0.v11) (x0.v12) (x0.v13) (x0.v14) (x0.v15) (x0.v16))))))))
theorem e_solve_Only (k : Nat) (Z ad : Nat → Int) (ae af ag ai aj ak al am an ao : Nat → Nat) (ap : Nat → Int) (aq : Nat → Nat) (X : Nat) (aw : Nat → Int) : outK [0] (evFnM Try.prog false menv54 [] [] 96 (Ann.two Ann.no (Ann.two Ann.no (Ann.two (Ann.two Ann.no (Ann.one (Ann.loop F_solve_Only_L0))) (Ann.two Ann.no (Ann.two Ann.no (Ann.two Ann.no (Ann.two (Ann.two Ann.no (Ann.one (Ann.loop F_solve_Only_L1))) (Ann.two (Ann.two Ann.no (Ann.one (Ann.loop F_solve_Only_L2))) Ann.no)))))))) Try.f23 [AV.view k 14 (fun i0 => [AV.int .i64 (Z i0), AV.int .i64 (ad i0), AV.float (ae i0), AV.float (af i0), AV.float (ag i0), AV.float (ai i0), AV.float (aj i0), AV.float (ak i0), AV.float (al i0), AV.float (am i0), AV.float (an i0), AV.float (ao i0), AV.int .i64 (ap i0), AV.float (aq i0)]), AV.view X 1 (fun i0 => [AV.int .i64 (aw i0)])] []) = some (q_solve_Only k Z ad ae af ag ai aj ak al am an ao ap aq X aw, AV.tup [AV.lst 1 0 14 (s_solve_Only_0 k Z ad ae af ag ai aj ak al am an ao ap aq X aw) (s_solve_Only_1 k Z ad ae af ag ai aj ak al am an ao ap aq X aw), AV.lst 2 0 1 (s_solve_Only_2 k Z ad ae af ag ai aj ak al am an ao ap aq X aw) (s_solve_Only_3 k Z ad ae af ag ai aj ak al am an ao ap aq X aw), AV.int .i64 (s_solve_Only_4 k Z ad ae af ag ai aj ak al am an ao ap aq X aw)], [⟨.flat [], 0, 1⟩, ⟨.sym (s_solve_Only_5 k Z ad ae af ag ai aj ak al am an ao ap aq X aw) 14 (fun j0 => [AV.int .i64 ((s_solve_Only_6 k Z ad ae af ag ai aj ak al am an ao ap aq X aw) j0), AV.int .i64 ((s_solve_Only_7 k Z ad ae af ag ai aj ak al am an ao ap aq X aw) j0), AV.float ((s_solve_Only_8 k Z ad ae af ag ai aj ak al am an ao ap aq X aw) j0), AV.float ((s_solve_Only_9 k Z ad ae af ag ai aj ak al am an ao ap aq X aw) j0), AV.float ((s_solve_Only_10 k Z ad ae af ag ai aj ak al am an ao ap aq X aw) j0), AV.float ((s_solve_Only_11 k Z ad ae af ag ai aj ak al am an ao ap aq X aw) j0), AV.float ((s_solve_Only_12 k Z ad ae af ag ai aj ak al am an ao ap aq X aw) j0), AV.float ((s_solve_Only_13 k Z ad ae af ag ai aj ak al am an ao ap aq X aw) j0), AV.float ((s_solve_Only_14 k Z ad ae af ag ai aj ak al am an ao ap aq X aw) j0), AV.float ((s_solve_Only_15 k Z ad ae af ag ai aj ak al am an ao ap aq X aw) j0), AV.float ((s_solve_Only_16 k Z ad ae af ag ai aj ak al am an ao ap aq X aw) j0), AV.float ((s_solve_Only_17 k Z ad ae af ag ai aj ak al am an ao ap aq X aw) j0), AV.int .i64 ((s_solve_Only_18 k Z ad ae af ag ai aj ak al am an ao ap aq X aw) j0), AV.float ((s_solve_Only_19 k Z ad ae af ag ai aj ak al am an ao ap aq X aw) j0)]), 56, 0⟩, ⟨.sym (s_solve_Only_20 k Z ad ae af ag ai aj ak al am an ao ap aq X aw) 1 (fun j0 => [AV.int .i64 ((s_solve_Only_21 k Z ad ae af ag ai aj ak al am an ao ap aq X aw) j0)]), 3, 0⟩]) := by kernel_rfl
def o_solve_Only (k : Nat) (Z ad : Nat → Int) (ae af ag ai aj ak al am an ao : Nat → Nat) (ap : Nat → Int) (aq : Nat → Nat) (X : Nat) (aw : Nat → Int) : Bool := let x0 : V_solve_Only_L1 := (L_solve_Only_L1 X aw k Z ad ae af ag ai aj ak al am an ao ap aq (Int.ofNat k) (V_solve_Only_L1.mk 0 (0 : Int) (fun j0 => (0 : Int)) (fun j0 => (0 : Int)) (fun j0 => (0 : Int)) (fun j0 => 0) (fun j0 => 0) (fun j0 => 0) (fun j0 => 0) (fun j0 => 0) (fun j0 => 0) (fun j0 => 0) (fun j0 => 0) (fun j0 => 0) (fun j0 => 0) (fun j0 => (0 : Int)) (fun j0 => 0) (fun j0 => (0 : Int)))); let x1 := x0.v0; let x2 := E_solve_Only_L0 k Z ad ae af ag ai aj ak al am an ao ap aq (Int.ofNat k) (V_solve_Only_L0.mk (0 : Int)); let x3 := (L_solve_Only_L0 k Z ad ae af ag ai aj ak al am an ao ap aq (Int.ofNat k) (V_solve_Only_L0.mk (0 : Int))).v0; let x4 := Int.toNat x3; (mrgB ((ilt (1048576 : Int) (Int.ofNat k)) || (ilt (1024 : Int) (Int.ofNat X))) true (mrgB (bif (!(ilt x3 (Int.ofNat k))) then false else (!(ieq (s_rows_Check_0 (Z x4) (ad x4) (ae x4) (af x4) (ag x4) (ai x4) (aj x4) (ak x4) (al x4) (am x4) (an x4) (ao x4) (ap x4) (aq x4) (Int.ofNat k) (1024 : Int)) (0 : Int)))) x2 (((((ile (Int.ofNat k) (Int.ofNat k)) && ((ile ((8 : Int) * (Int.ofNat k)) (281474976710656 : Int)) && (ile (Int.ofNat k) (9223372036854775807 : Int)))) && x2) && (E_solve_Only_L1 X aw k Z ad ae af ag ai aj ak al am an ao ap aq (Int.ofNat k) (V_solve_Only_L1.mk 0 (0 : Int) (fun j0 => (0 : Int)) (fun j0 => (0 : Int)) (fun j0 => (0 : Int)) (fun j0 => 0) (fun j0 => 0) (fun j0 => 0) (fun j0 => 0) (fun j0 => 0) (fun j0 => 0) (fun j0 => 0) (fun j0 => 0) (fun j0 => 0) (fun j0 => 0) (fun j0 => (0 : Int)) (fun j0 => 0) (fun j0 => (0 : Int))))) && (E_solve_Only_L2 x1 k (Int.ofNat x1) (x0.v2) (V_solve_Only_L2.mk (0 : Int) (x0.v3) (x0.v4) (x0.v5) (x0.v6) (x0.v7) (x0.v8) (x0.v9) (x0.v10) (x0.v11) (x0.v12) (x0.v13) (x0.v14) (x0.v15) (x0.v16))))))
def S_solve_Only : List AV → Option (Ob × AV × Heap)
  | [AV.view k 14 e, AV.view X 1 ab] => some (Ob.both (Ob.bit ((allB fun i => isNrm [Ck.i .i64, Ck.i .i64, Ck.f, Ck.f, Ck.f, Ck.f, Ck.f, Ck.f, Ck.f, Ck.f, Ck.f, Ck.f, Ck.i .i64, Ck.f] (e i)) && (allB fun i => isNrm [Ck.i .i64] (ab i)))) (Ob.bit (o_solve_Only k (iL e 0) (iL e 1) (fL e 2) (fL e 3) (fL e 4) (fL e 5) (fL e 6) (fL e 7) (fL e 8) (fL e 9) (fL e 10) (fL e 11) (iL e 12) (fL e 13) X (iL ab 0))), AV.tup [AV.lst 1 0 14 (s_solve_Only_0 k (iL e 0) (iL e 1) (fL e 2) (fL e 3) (fL e 4) (fL e 5) (fL e 6) (fL e 7) (fL e 8) (fL e 9) (fL e 10) (fL e 11) (iL e 12) (fL e 13) X (iL ab 0)) (s_solve_Only_1 k (iL e 0) (iL e 1) (fL e 2) (fL e 3) (fL e 4) (fL e 5) (fL e 6) (fL e 7) (fL e 8) (fL e 9) (fL e 10) (fL e 11) (iL e 12) (fL e 13) X (iL ab 0)), AV.lst 2 0 1 (s_solve_Only_2 k (iL e 0) (iL e 1) (fL e 2) (fL e 3) (fL e 4) (fL e 5) (fL e 6) (fL e 7) (fL e 8) (fL e 9) (fL e 10) (fL e 11) (iL e 12) (fL e 13) X (iL ab 0)) (s_solve_Only_3 k (iL e 0) (iL e 1) (fL e 2) (fL e 3) (fL e 4) (fL e 5) (fL e 6) (fL e 7) (fL e 8) (fL e 9) (fL e 10) (fL e 11) (iL e 12) (fL e 13) X (iL ab 0)), AV.int .i64 (s_solve_Only_4 k (iL e 0) (iL e 1) (fL e 2) (fL e 3) (fL e 4) (fL e 5) (fL e 6) (fL e 7) (fL e 8) (fL e 9) (fL e 10) (fL e 11) (iL e 12) (fL e 13) X (iL ab 0))], [⟨.flat [], 0, 1⟩, ⟨.sym (s_solve_Only_5 k (iL e 0) (iL e 1) (fL e 2) (fL e 3) (fL e 4) (fL e 5) (fL e 6) (fL e 7) (fL e 8) (fL e 9) (fL e 10) (fL e 11) (iL e 12) (fL e 13) X (iL ab 0)) 14 (fun j0 => [AV.int .i64 ((s_solve_Only_6 k (iL e 0) (iL e 1) (fL e 2) (fL e 3) (fL e 4) (fL e 5) (fL e 6) (fL e 7) (fL e 8) (fL e 9) (fL e 10) (fL e 11) (iL e 12) (fL e 13) X (iL ab 0)) j0), AV.int .i64 ((s_solve_Only_7 k (iL e 0) (iL e 1) (fL e 2) (fL e 3) (fL e 4) (fL e 5) (fL e 6) (fL e 7) (fL e 8) (fL e 9) (fL e 10) (fL e 11) (iL e 12) (fL e 13) X (iL ab 0)) j0), AV.float ((s_solve_Only_8 k (iL e 0) (iL e 1) (fL e 2) (fL e 3) (fL e 4) (fL e 5) (fL e 6) (fL e 7) (fL e 8) (fL e 9) (fL e 10) (fL e 11) (iL e 12) (fL e 13) X (iL ab 0)) j0), AV.float ((s_solve_Only_9 k (iL e 0) (iL e 1) (fL e 2) (fL e 3) (fL e 4) (fL e 5) (fL e 6) (fL e 7) (fL e 8) (fL e 9) (fL e 10) (fL e 11) (iL e 12) (fL e 13) X (iL ab 0)) j0), AV.float ((s_solve_Only_10 k (iL e 0) (iL e 1) (fL e 2) (fL e 3) (fL e 4) (fL e 5) (fL e 6) (fL e 7) (fL e 8) (fL e 9) (fL e 10) (fL e 11) (iL e 12) (fL e 13) X (iL ab 0)) j0), AV.float ((s_solve_Only_11 k (iL e 0) (iL e 1) (fL e 2) (fL e 3) (fL e 4) (fL e 5) (fL e 6) (fL e 7) (fL e 8) (fL e 9) (fL e 10) (fL e 11) (iL e 12) (fL e 13) X (iL ab 0)) j0), AV.float ((s_solve_Only_12 k (iL e 0) (iL e 1) (fL e 2) (fL e 3) (fL e 4) (fL e 5) (fL e 6) (fL e 7) (fL e 8) (fL e 9) (fL e 10) (fL e 11) (iL e 12) (fL e 13) X (iL ab 0)) j0), AV.float ((s_solve_Only_13 k (iL e 0) (iL e 1) (fL e 2) (fL e 3) (fL e 4) (fL e 5) (fL e 6) (fL e 7) (fL e 8) (fL e 9) (fL e 10) (fL e 11) (iL e 12) (fL e 13) X (iL ab 0)) j0), AV.float ((s_solve_Only_14 k (iL e 0) (iL e 1) (fL e 2) (fL e 3) (fL e 4) (fL e 5) (fL e 6) (fL e 7) (fL e 8) (fL e 9) (fL e 10) (fL e 11) (iL e 12) (fL e 13) X (iL ab 0)) j0), AV.float ((s_solve_Only_15 k (iL e 0) (iL e 1) (fL e 2) (fL e 3) (fL e 4) (fL e 5) (fL e 6) (fL e 7) (fL e 8) (fL e 9) (fL e 10) (fL e 11) (iL e 12) (fL e 13) X (iL ab 0)) j0), AV.float ((s_solve_Only_16 k (iL e 0) (iL e 1) (fL e 2) (fL e 3) (fL e 4) (fL e 5) (fL e 6) (fL e 7) (fL e 8) (fL e 9) (fL e 10) (fL e 11) (iL e 12) (fL e 13) X (iL ab 0)) j0), AV.float ((s_solve_Only_17 k (iL e 0) (iL e 1) (fL e 2) (fL e 3) (fL e 4) (fL e 5) (fL e 6) (fL e 7) (fL e 8) (fL e 9) (fL e 10) (fL e 11) (iL e 12) (fL e 13) X (iL ab 0)) j0), AV.int .i64 ((s_solve_Only_18 k (iL e 0) (iL e 1) (fL e 2) (fL e 3) (fL e 4) (fL e 5) (fL e 6) (fL e 7) (fL e 8) (fL e 9) (fL e 10) (fL e 11) (iL e 12) (fL e 13) X (iL ab 0)) j0), AV.float ((s_solve_Only_19 k (iL e 0) (iL e 1) (fL e 2) (fL e 3) (fL e 4) (fL e 5) (fL e 6) (fL e 7) (fL e 8) (fL e 9) (fL e 10) (fL e 11) (iL e 12) (fL e 13) X (iL ab 0)) j0)]), 56, 0⟩, ⟨.sym (s_solve_Only_20 k (iL e 0) (iL e 1) (fL e 2) (fL e 3) (fL e 4) (fL e 5) (fL e 6) (fL e 7) (fL e 8) (fL e 9) (fL e 10) (fL e 11) (iL e 12) (fL e 13) X (iL ab 0)) 1 (fun j0 => [AV.int .i64 ((s_solve_Only_21 k (iL e 0) (iL e 1) (fL e 2) (fL e 3) (fL e 4) (fL e 5) (fL e 6) (fL e 7) (fL e 8) (fL e 9) (fL e 10) (fL e 11) (iL e 12) (fL e 13) X (iL ab 0)) j0)]), 3, 0⟩])
  | _ => none
theorem ob_solve_Only (k : Nat) (Z ad : Nat → Int) (ae af ag ai aj ak al am an ao : Nat → Nat) (ap : Nat → Int) (aq : Nat → Nat) (X : Nat) (aw : Nat → Int) (ho : o_solve_Only k Z ad ae af ag ai aj ak al am an ao ap aq X aw = true) : q_solve_Only k Z ad ae af ag ai aj ak al am an ao ap aq X aw = true := by
  unfold q_solve_Only
  unfold o_solve_Only at ho
  simp only [allB_true, eqT_self, mrgB_self, Bool.true_and, Bool.and_true] at ho ⊢
  exact ho
theorem t_solve_Only : SOkM Try.prog false (23, S_solve_Only) := SOkM.fullL [0] (N := 96) menv54_ok Try.func23 ann_solve_Only Try.call23 fun args o v G h ho => by
  unfold S_solve_Only at h
  split at h
  · rename_i k e X ab
    cases h
    rw [Ob.both_ok, Bool.and_eq_true] at ho
    obtain ⟨hn, ho2⟩ := ho
    simp only [Ob.ok, Bool.and_eq_true] at hn
    obtain ⟨n0, n1⟩ := hn
    replace n0 := nrm_fun n0
    replace n1 := nrm_fun n1
    have this := show outK [0] (evFnM Try.prog false menv54 [] [] 96 (Ann.two Ann.no (Ann.two Ann.no (Ann.two (Ann.two Ann.no (Ann.one (Ann.loop F_solve_Only_L0))) (Ann.two Ann.no (Ann.two Ann.no (Ann.two Ann.no (Ann.two (Ann.two Ann.no (Ann.one (Ann.loop F_solve_Only_L1))) (Ann.two (Ann.two Ann.no (Ann.one (Ann.loop F_solve_Only_L2))) Ann.no)))))))) Try.f23 [AV.view k 14 (fun i => mkN [Ck.i .i64, Ck.i .i64, Ck.f, Ck.f, Ck.f, Ck.f, Ck.f, Ck.f, Ck.f, Ck.f, Ck.f, Ck.f, Ck.i .i64, Ck.f] (e i) 0), AV.view X 1 (fun i => mkN [Ck.i .i64] (ab i) 0)] []) = _ from e_solve_Only k (iL e 0) (iL e 1) (fL e 2) (fL e 3) (fL e 4) (fL e 5) (fL e 6) (fL e 7) (fL e 8) (fL e 9) (fL e 10) (fL e 11) (iL e 12) (fL e 13) X (iL ab 0)
    rw [(ob_solve_Only k (iL e 0) (iL e 1) (fL e 2) (fL e 3) (fL e 4) (fL e 5) (fL e 6) (fL e 7) (fL e 8) (fL e 9) (fL e 10) (fL e 11) (iL e 12) (fL e 13) X (iL ab 0) ho2)] at this
    rw [n0, n1] at this
    exact this
  · cases h
def c_solve_Only : SFM := S_solve_Only
theorem c_solve_Only_ok : SOkM Try.prog false (23, c_solve_Only) := t_solve_Only
def mss55 : List (FuncId × SFM) := (23, c_solve_Only) :: mss54
def menv55 : EnvM := mkEnvM mxs mss55 mws1
theorem mss55_ok : All (SOkM Try.prog false) mss55 := All.cons c_solve_Only_ok mss54_ok
theorem menv55_ok : menv55.Ok Try.prog false := mkEnvM_ok mxs_ok mss55_ok mws1_ok
end Go.Proofs.Ytofpjfohijljgaa
end
