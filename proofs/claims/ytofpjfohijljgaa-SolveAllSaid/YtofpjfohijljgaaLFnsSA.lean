/- The contracts of the functions that these laws reach, loops too, printed by a program of this work: each says what the Go function gives, up to which NaN. -/
import Derived.Test.YtofpjfohijljgaaProg
import Derived.KernelRfl
import Derived.Test.YtofpjfohijljgaaLExact
set_option linter.unusedVariables false
set_option linter.unusedSimpArgs false
set_option maxRecDepth 100000
set_option maxHeartbeats 4000000
noncomputable section
namespace Go.Proofs.Ytofpjfohijljgaa
open Go.Lst
open Go.Sim (fadd fsub fmul fdiv fneg feq flt fle fsqrt cn nanb fabs fcps fsame feq_self cps_cn fabs_cn)
def fL (f : Nat → List AV) (k i : Nat) : Nat := flO (atL (f i) k)
def iL (f : Nat → List AV) (k i : Nat) : Int := inO (atL (f i) k)
def tpA : Nat → List AV → List AV
  | 0, l => l
  | n + 1, l => AV.top :: tpA n l
def tpB : Nat → List Bool → List Bool
  | 0, l => l
  | n + 1, l => true :: tpB n l
def xxs : List (FuncId × XFM) := [(58, xFM true .frombits), (77, xFM true .tobits)]
def xenv : EnvM := mkEnvM xxs [] []
theorem xxs_ok : All (XOkM Try.prog true) xxs := All.cons (xM_ok (ex := true) (f := 58) .frombits fun args w => run_callFunc_extern Try.func58 (by kernel_rfl) (by kernel_rfl) (by kernel_rfl) (by kernel_rfl) args w)
  (All.cons (xM_ok (ex := true) (f := 77) .tobits fun args w => run_callFunc_extern Try.func77 (by kernel_rfl) (by kernel_rfl) (by kernel_rfl) (by kernel_rfl) args w)
  (All.nil))
theorem xenv_ok : xenv.Ok Try.prog true := mkEnvM_ok xxs_ok All.nil All.nil
def mxs : List (FuncId × XFM) := [(58, xFM false .frombits), (77, xFM false .tobits)]
theorem mxs_ok : All (XOkM Try.prog false) mxs := All.cons (xM_ok (ex := false) (f := 58) .frombits fun args w => run_callFunc_extern Try.func58 (by kernel_rfl) (by kernel_rfl) (by kernel_rfl) (by kernel_rfl) args w)
  (All.cons (xM_ok (ex := false) (f := 77) .tobits fun args w => run_callFunc_extern Try.func77 (by kernel_rfl) (by kernel_rfl) (by kernel_rfl) (by kernel_rfl) args w)
  (All.nil))
def mss0 : List (FuncId × SFM) := []
def mws0 : List (FuncId × WFM) := []
def menv0 : EnvM := mkEnvM mxs mss0 mws0
theorem mss0_ok : All (SOkM Try.prog false) mss0 := All.nil
theorem mws0_ok : All (WOkM Try.prog false) mws0 := All.nil
theorem menv0_ok : menv0.Ok Try.prog false := mkEnvM_ok mxs_ok mss0_ok mws0_ok
theorem t_slices_Clone___api_Row_api_Row_ : SOkM Try.prog false (37, cloneS 14 112 56) := SOkM.clone (r0 := (subC [0] (codeOf Try.f37))) (r1 := (subC [1, 0, 0] (codeOf Try.f37))) (A := (subC [1, 0, 1, 0] (codeOf Try.f37))) (B := (subC [1, 0, 1, 1] (codeOf Try.f37))) (rest := (subC [1, 1] (codeOf Try.f37))) (t := 4) menv0_ok Try.func37 Try.call37 (by kernel_rfl) fun n g => by kernel_rfl
def c_slices_Clone___api_Row_api_Row_ : SFM := cloneS 14 112 56
theorem c_slices_Clone___api_Row_api_Row__ok : SOkM Try.prog false (37, c_slices_Clone___api_Row_api_Row_) := t_slices_Clone___api_Row_api_Row_
def mss1 : List (FuncId × SFM) := (37, c_slices_Clone___api_Row_api_Row_) :: mss0
def menv1 : EnvM := mkEnvM mxs mss1 mws0
theorem mss1_ok : All (SOkM Try.prog false) mss1 := All.cons c_slices_Clone___api_Row_api_Row__ok mss0_ok
theorem menv1_ok : menv1.Ok Try.prog false := mkEnvM_ok mxs_ok mss1_ok mws0_ok
theorem t_slices_Clone___api_Still_api_Still_ : SOkM Try.prog false (38, cloneS 5 40 50) := SOkM.clone (r0 := (subC [0] (codeOf Try.f38))) (r1 := (subC [1, 0, 0] (codeOf Try.f38))) (A := (subC [1, 0, 1, 0] (codeOf Try.f38))) (B := (subC [1, 0, 1, 1] (codeOf Try.f38))) (rest := (subC [1, 1] (codeOf Try.f38))) (t := 4) menv1_ok Try.func38 Try.call38 (by kernel_rfl) fun n g => by kernel_rfl
def c_slices_Clone___api_Still_api_Still_ : SFM := cloneS 5 40 50
theorem c_slices_Clone___api_Still_api_Still__ok : SOkM Try.prog false (38, c_slices_Clone___api_Still_api_Still_) := t_slices_Clone___api_Still_api_Still_
def mss2 : List (FuncId × SFM) := (38, c_slices_Clone___api_Still_api_Still_) :: mss1
def menv2 : EnvM := mkEnvM mxs mss2 mws0
theorem mss2_ok : All (SOkM Try.prog false) mss2 := All.cons c_slices_Clone___api_Still_api_Still__ok mss1_ok
theorem menv2_ok : menv2.Ok Try.prog false := mkEnvM_ok mxs_ok mss2_ok mws0_ok
def S_math_Abs : List AV → Option AV
  | [AV.float a] => some (AV.float (fabs a))
  | _ => none
theorem t_math_Abs : SOkM Try.prog false (46, pureS S_math_Abs) := exact1 (N := 96) (A := .no) (lits := []) (fk := []) xenv_ok Try.func46 (fnNo _) Try.call46 (fun a v => v = .float (fabs a)) (fun args v h => by
    unfold S_math_Abs at h
    split at h
    · cases h; exact ⟨_, rfl, rfl⟩
    · cases h) fun b v hb h => ⟨.float (absV b), (show outB (evFnM Try.prog true xenv [] [] 96 .no Try.f46 [.float b] []) = some (absOb b, .float (absV b)) by kernel_rfl).trans (by rw [abs_ob]), rfl, fun μ x hx => by subst h; exact toFloat hx (by rw [abs_val hb]; exact (fabs_cn b).symm)⟩
def c_math_Abs : SFM := pureS S_math_Abs
theorem c_math_Abs_ok : SOkM Try.prog false (46, c_math_Abs) := t_math_Abs
def mss3 : List (FuncId × SFM) := (46, c_math_Abs) :: mss2
def menv3 : EnvM := mkEnvM mxs mss3 mws0
theorem mss3_ok : All (SOkM Try.prog false) mss3 := All.cons c_math_Abs_ok mss2_ok
theorem menv3_ok : menv3.Ok Try.prog false := mkEnvM_ok mxs_ok mss3_ok mws0_ok
def S_ref01_None : List AV → Option AV
  | [AV.float a] => some (AV.bool (nanb a))
  | _ => none
theorem t_ref01_None : SOkM Try.prog false (78, pureS S_ref01_None) := exact1 (N := 96) (A := .no) (lits := []) (fk := []) xenv_ok Try.func78 (fnNo _) Try.call78 (fun a v => v = .bool (nanb a)) (fun args v h => by
    unfold S_ref01_None at h
    split at h
    · cases h; exact ⟨_, rfl, rfl⟩
    · cases h) fun b v hb h => ⟨.bool (noneV b), by kernel_rfl, rfl, fun μ x hx => by subst h; exact toBool hx (none_val hb)⟩
def c_ref01_None : SFM := pureS S_ref01_None
theorem c_ref01_None_ok : SOkM Try.prog false (78, c_ref01_None) := t_ref01_None
def mss4 : List (FuncId × SFM) := (78, c_ref01_None) :: mss3
def menv4 : EnvM := mkEnvM mxs mss4 mws0
theorem mss4_ok : All (SOkM Try.prog false) mss4 := All.cons c_ref01_None_ok mss3_ok
theorem menv4_ok : menv4.Ok Try.prog false := mkEnvM_ok mxs_ok mss4_ok mws0_ok
def mss5 : List (FuncId × SFM) := mss4
theorem mss5_ok : All (SOkM Try.prog false) mss5 := mss4_ok
def mss6 : List (FuncId × SFM) := (30, (inlSM Try.prog false menv4 [5] [] 96 .no Try.f30)) :: mss5
def menv5 : EnvM := mkEnvM mxs mss6 mws0
theorem mss6_ok : All (SOkM Try.prog false) mss6 := All.cons (SOkM.inl menv4_ok Try.func30 (fnNo _) Try.call30) mss5_ok
theorem menv5_ok : menv5.Ok Try.prog false := mkEnvM_ok mxs_ok mss6_ok mws0_ok
def mss7 : List (FuncId × SFM) := (35, (inlSM Try.prog false menv5 [] [] 96 .no Try.f35)) :: mss6
def menv6 : EnvM := mkEnvM mxs mss7 mws0
theorem mss7_ok : All (SOkM Try.prog false) mss7 := All.cons (SOkM.inl menv5_ok Try.func35 (fnNo _) Try.call35) mss6_ok
theorem menv6_ok : menv6.Ok Try.prog false := mkEnvM_ok mxs_ok mss7_ok mws0_ok
def mss8 : List (FuncId × SFM) := (89, (inlSM Try.prog false menv6 [] [] 96 .no Try.f89)) :: mss7
def menv7 : EnvM := mkEnvM mxs mss8 mws0
theorem mss8_ok : All (SOkM Try.prog false) mss8 := All.cons (SOkM.inl menv6_ok Try.func89 (fnNo _) Try.call89) mss7_ok
theorem menv7_ok : menv7.Ok Try.prog false := mkEnvM_ok mxs_ok mss8_ok mws0_ok
def mss9 : List (FuncId × SFM) := (99, (inlSM Try.prog false menv7 [] [] 96 .no Try.f99)) :: mss8
def menv8 : EnvM := mkEnvM mxs mss9 mws0
theorem mss9_ok : All (SOkM Try.prog false) mss9 := All.cons (SOkM.inl menv7_ok Try.func99 (fnNo _) Try.call99) mss8_ok
theorem menv8_ok : menv8.Ok Try.prog false := mkEnvM_ok mxs_ok mss9_ok mws0_ok
def mss10 : List (FuncId × SFM) := (102, (inlSM Try.prog false menv8 [] [] 96 .no Try.f102)) :: mss9
def menv9 : EnvM := mkEnvM mxs mss10 mws0
theorem mss10_ok : All (SOkM Try.prog false) mss10 := All.cons (SOkM.inl menv8_ok Try.func102 (fnNo _) Try.call102) mss9_ok
theorem menv9_ok : menv9.Ok Try.prog false := mkEnvM_ok mxs_ok mss10_ok mws0_ok
def mss11 : List (FuncId × SFM) := (105, (inlSM Try.prog false menv9 [9, 16] [] 96 .no Try.f105)) :: mss10
def menv10 : EnvM := mkEnvM mxs mss11 mws0
theorem mss11_ok : All (SOkM Try.prog false) mss11 := All.cons (SOkM.inl menv9_ok Try.func105 (fnNo _) Try.call105) mss10_ok
theorem menv10_ok : menv10.Ok Try.prog false := mkEnvM_ok mxs_ok mss11_ok mws0_ok
def mss12 : List (FuncId × SFM) := (101, (inlSM Try.prog false menv10 [] [] 96 .no Try.f101)) :: mss11
def menv11 : EnvM := mkEnvM mxs mss12 mws0
theorem mss12_ok : All (SOkM Try.prog false) mss12 := All.cons (SOkM.inl menv10_ok Try.func101 (fnNo _) Try.call101) mss11_ok
theorem menv11_ok : menv11.Ok Try.prog false := mkEnvM_ok mxs_ok mss12_ok mws0_ok
def mss13 : List (FuncId × SFM) := (91, (inlSM Try.prog false menv11 [] [] 96 .no Try.f91)) :: mss12
def menv12 : EnvM := mkEnvM mxs mss13 mws0
theorem mss13_ok : All (SOkM Try.prog false) mss13 := All.cons (SOkM.inl menv11_ok Try.func91 (fnNo _) Try.call91) mss12_ok
theorem menv12_ok : menv12.Ok Try.prog false := mkEnvM_ok mxs_ok mss13_ok mws0_ok
def mss14 : List (FuncId × SFM) := (82, (inlSM Try.prog false menv12 [] [] 96 .no Try.f82)) :: mss13
def menv13 : EnvM := mkEnvM mxs mss14 mws0
theorem mss14_ok : All (SOkM Try.prog false) mss14 := All.cons (SOkM.inl menv12_ok Try.func82 (fnNo _) Try.call82) mss13_ok
theorem menv13_ok : menv13.Ok Try.prog false := mkEnvM_ok mxs_ok mss14_ok mws0_ok
def mss15 : List (FuncId × SFM) := (53, (inlSM Try.prog false menv13 [24] [] 96 .no Try.f53)) :: mss14
def menv14 : EnvM := mkEnvM mxs mss15 mws0
theorem mss15_ok : All (SOkM Try.prog false) mss15 := All.cons (SOkM.inl menv13_ok Try.func53 (fnNo _) Try.call53) mss14_ok
theorem menv14_ok : menv14.Ok Try.prog false := mkEnvM_ok mxs_ok mss15_ok mws0_ok
def mss16 : List (FuncId × SFM) := (64, (inlSM Try.prog false menv14 [] [] 96 .no Try.f64)) :: mss15
def menv15 : EnvM := mkEnvM mxs mss16 mws0
theorem mss16_ok : All (SOkM Try.prog false) mss16 := All.cons (SOkM.inl menv14_ok Try.func64 (fnNo _) Try.call64) mss15_ok
theorem menv15_ok : menv15.Ok Try.prog false := mkEnvM_ok mxs_ok mss16_ok mws0_ok
def mss17 : List (FuncId × SFM) := (63, (inlSM Try.prog false menv15 [] [] 96 .no Try.f63)) :: mss16
def menv16 : EnvM := mkEnvM mxs mss17 mws0
theorem mss17_ok : All (SOkM Try.prog false) mss17 := All.cons (SOkM.inl menv15_ok Try.func63 (fnNo _) Try.call63) mss16_ok
theorem menv16_ok : menv16.Ok Try.prog false := mkEnvM_ok mxs_ok mss17_ok mws0_ok
def mss18 : List (FuncId × SFM) := (88, (inlSM Try.prog false menv16 [9, 16] [] 96 .no Try.f88)) :: mss17
def menv17 : EnvM := mkEnvM mxs mss18 mws0
theorem mss18_ok : All (SOkM Try.prog false) mss18 := All.cons (SOkM.inl menv16_ok Try.func88 (fnNo _) Try.call88) mss17_ok
theorem menv17_ok : menv17.Ok Try.prog false := mkEnvM_ok mxs_ok mss18_ok mws0_ok
def mss19 : List (FuncId × SFM) := (62, (inlSM Try.prog false menv17 [] [] 96 .no Try.f62)) :: mss18
def menv18 : EnvM := mkEnvM mxs mss19 mws0
theorem mss19_ok : All (SOkM Try.prog false) mss19 := All.cons (SOkM.inl menv17_ok Try.func62 (fnNo _) Try.call62) mss18_ok
theorem menv18_ok : menv18.Ok Try.prog false := mkEnvM_ok mxs_ok mss19_ok mws0_ok
def mss20 : List (FuncId × SFM) := (36, (inlSM Try.prog false menv18 [15, 19, 29, 34] [] 96 .no Try.f36)) :: mss19
def menv19 : EnvM := mkEnvM mxs mss20 mws0
theorem mss20_ok : All (SOkM Try.prog false) mss20 := All.cons (SOkM.inl menv18_ok Try.func36 (fnNo _) Try.call36) mss19_ok
theorem menv19_ok : menv19.Ok Try.prog false := mkEnvM_ok mxs_ok mss20_ok mws0_ok
def mss21 : List (FuncId × SFM) := (86, (inlSM Try.prog false menv19 [] [] 96 .no Try.f86)) :: mss20
def menv20 : EnvM := mkEnvM mxs mss21 mws0
theorem mss21_ok : All (SOkM Try.prog false) mss21 := All.cons (SOkM.inl menv19_ok Try.func86 (fnNo _) Try.call86) mss20_ok
theorem menv20_ok : menv20.Ok Try.prog false := mkEnvM_ok mxs_ok mss21_ok mws0_ok
def mss22 : List (FuncId × SFM) := (60, (inlSM Try.prog false menv20 [19] [] 96 .no Try.f60)) :: mss21
def menv21 : EnvM := mkEnvM mxs mss22 mws0
theorem mss22_ok : All (SOkM Try.prog false) mss22 := All.cons (SOkM.inl menv20_ok Try.func60 (fnNo _) Try.call60) mss21_ok
theorem menv21_ok : menv21.Ok Try.prog false := mkEnvM_ok mxs_ok mss22_ok mws0_ok
def mss23 : List (FuncId × SFM) := (90, (inlSM Try.prog false menv21 [] [] 96 .no Try.f90)) :: mss22
def menv22 : EnvM := mkEnvM mxs mss23 mws0
theorem mss23_ok : All (SOkM Try.prog false) mss23 := All.cons (SOkM.inl menv21_ok Try.func90 (fnNo _) Try.call90) mss22_ok
theorem menv22_ok : menv22.Ok Try.prog false := mkEnvM_ok mxs_ok mss23_ok mws0_ok
def mss24 : List (FuncId × SFM) := (65, (inlSM Try.prog false menv22 [23, 31, 53] [] 96 .no Try.f65)) :: mss23
def menv23 : EnvM := mkEnvM mxs mss24 mws0
theorem mss24_ok : All (SOkM Try.prog false) mss24 := All.cons (SOkM.inl menv22_ok Try.func65 (fnNo _) Try.call65) mss23_ok
theorem menv23_ok : menv23.Ok Try.prog false := mkEnvM_ok mxs_ok mss24_ok mws0_ok
def mss25 : List (FuncId × SFM) := (39, (inlSM Try.prog false menv23 [17] [] 96 .no Try.f39)) :: mss24
def menv24 : EnvM := mkEnvM mxs mss25 mws0
theorem mss25_ok : All (SOkM Try.prog false) mss25 := All.cons (SOkM.inl menv23_ok Try.func39 (fnNo _) Try.call39) mss24_ok
theorem menv24_ok : menv24.Ok Try.prog false := mkEnvM_ok mxs_ok mss25_ok mws0_ok
def mss26 : List (FuncId × SFM) := (98, (inlSM Try.prog false menv24 [] [] 96 .no Try.f98)) :: mss25
def menv25 : EnvM := mkEnvM mxs mss26 mws0
theorem mss26_ok : All (SOkM Try.prog false) mss26 := All.cons (SOkM.inl menv24_ok Try.func98 (fnNo _) Try.call98) mss25_ok
theorem menv25_ok : menv25.Ok Try.prog false := mkEnvM_ok mxs_ok mss26_ok mws0_ok
def mss27 : List (FuncId × SFM) := (87, (inlSM Try.prog false menv25 [] [] 96 .no Try.f87)) :: mss26
def menv26 : EnvM := mkEnvM mxs mss27 mws0
theorem mss27_ok : All (SOkM Try.prog false) mss27 := All.cons (SOkM.inl menv25_ok Try.func87 (fnNo _) Try.call87) mss26_ok
theorem menv26_ok : menv26.Ok Try.prog false := mkEnvM_ok mxs_ok mss27_ok mws0_ok
def mss28 : List (FuncId × SFM) := (61, (inlSM Try.prog false menv26 [] [] 96 .no Try.f61)) :: mss27
def menv27 : EnvM := mkEnvM mxs mss28 mws0
theorem mss28_ok : All (SOkM Try.prog false) mss28 := All.cons (SOkM.inl menv26_ok Try.func61 (fnNo _) Try.call61) mss27_ok
theorem menv27_ok : menv27.Ok Try.prog false := mkEnvM_ok mxs_ok mss28_ok mws0_ok
def mss29 : List (FuncId × SFM) := (74, (inlSM Try.prog false menv27 [] [] 96 .no Try.f74)) :: mss28
def menv28 : EnvM := mkEnvM mxs mss29 mws0
theorem mss29_ok : All (SOkM Try.prog false) mss29 := All.cons (SOkM.inl menv27_ok Try.func74 (fnNo _) Try.call74) mss28_ok
theorem menv28_ok : menv28.Ok Try.prog false := mkEnvM_ok mxs_ok mss29_ok mws0_ok
def mss30 : List (FuncId × SFM) := (92, (inlSM Try.prog false menv28 [7, 13] [] 96 .no Try.f92)) :: mss29
def menv29 : EnvM := mkEnvM mxs mss30 mws0
theorem mss30_ok : All (SOkM Try.prog false) mss30 := All.cons (SOkM.inl menv28_ok Try.func92 (fnNo _) Try.call92) mss29_ok
theorem menv29_ok : menv29.Ok Try.prog false := mkEnvM_ok mxs_ok mss30_ok mws0_ok
def mss31 : List (FuncId × SFM) := (66, (inlSM Try.prog false menv29 [21, 46, 68] [] 96 .no Try.f66)) :: mss30
def menv30 : EnvM := mkEnvM mxs mss31 mws0
theorem mss31_ok : All (SOkM Try.prog false) mss31 := All.cons (SOkM.inl menv29_ok Try.func66 (fnNo _) Try.call66) mss30_ok
theorem menv30_ok : menv30.Ok Try.prog false := mkEnvM_ok mxs_ok mss31_ok mws0_ok
def mws1 : List (FuncId × WFM) := (40, (inlWM Try.prog false menv30 [19, 69] [] 96 .no Try.f40 100000)) :: mws0
def menv31 : EnvM := mkEnvM mxs mss31 mws1
theorem mws1_ok : All (WOkM Try.prog false) mws1 := All.cons (WOkM.inl menv30_ok Try.func40 (fnNo _) Try.call40) mws0_ok
theorem menv31_ok : menv31.Ok Try.prog false := mkEnvM_ok mxs_ok mss31_ok mws1_ok
def mss32 : List (FuncId × SFM) := (12, (inlSM Try.prog false menv31 [20, 27, 35, 63, 81, 85] [] 96 .no Try.f12)) :: mss31
def menv32 : EnvM := mkEnvM mxs mss32 mws1
theorem mss32_ok : All (SOkM Try.prog false) mss32 := All.cons (SOkM.inl menv31_ok Try.func12 (fnNo _) Try.call12) mss31_ok
theorem menv32_ok : menv32.Ok Try.prog false := mkEnvM_ok mxs_ok mss32_ok mws1_ok
def mss33 : List (FuncId × SFM) := (44, (inlSM Try.prog false menv32 [14] [] 96 .no Try.f44)) :: mss32
def menv33 : EnvM := mkEnvM mxs mss33 mws1
theorem mss33_ok : All (SOkM Try.prog false) mss33 := All.cons (SOkM.inl menv32_ok Try.func44 (fnNo _) Try.call44) mss32_ok
theorem menv33_ok : menv33.Ok Try.prog false := mkEnvM_ok mxs_ok mss33_ok mws1_ok
def mss34 : List (FuncId × SFM) := (33, (inlSM Try.prog false menv33 [14] [] 96 .no Try.f33)) :: mss33
def menv34 : EnvM := mkEnvM mxs mss34 mws1
theorem mss34_ok : All (SOkM Try.prog false) mss34 := All.cons (SOkM.inl menv33_ok Try.func33 (fnNo _) Try.call33) mss33_ok
theorem menv34_ok : menv34.Ok Try.prog false := mkEnvM_ok mxs_ok mss34_ok mws1_ok
def mss35 : List (FuncId × SFM) := (75, (inlSM Try.prog false menv34 [] [] 96 .no Try.f75)) :: mss34
def menv35 : EnvM := mkEnvM mxs mss35 mws1
theorem mss35_ok : All (SOkM Try.prog false) mss35 := All.cons (SOkM.inl menv34_ok Try.func75 (fnNo _) Try.call75) mss34_ok
theorem menv35_ok : menv35.Ok Try.prog false := mkEnvM_ok mxs_ok mss35_ok mws1_ok
def mss36 : List (FuncId × SFM) := (76, (inlSM Try.prog false menv35 [] [] 96 .no Try.f76)) :: mss35
def menv36 : EnvM := mkEnvM mxs mss36 mws1
theorem mss36_ok : All (SOkM Try.prog false) mss36 := All.cons (SOkM.inl menv35_ok Try.func76 (fnNo _) Try.call76) mss35_ok
theorem menv36_ok : menv36.Ok Try.prog false := mkEnvM_ok mxs_ok mss36_ok mws1_ok
def mss37 : List (FuncId × SFM) := (45, (inlSM Try.prog false menv36 [23] [] 96 .no Try.f45)) :: mss36
def menv37 : EnvM := mkEnvM mxs mss37 mws1
theorem mss37_ok : All (SOkM Try.prog false) mss37 := All.cons (SOkM.inl menv36_ok Try.func45 (fnNo _) Try.call45) mss36_ok
theorem menv37_ok : menv37.Ok Try.prog false := mkEnvM_ok mxs_ok mss37_ok mws1_ok
def mss38 : List (FuncId × SFM) := (14, (inlSM Try.prog false menv37 [21, 26, 61] [] 96 .no Try.f14)) :: mss37
def menv38 : EnvM := mkEnvM mxs mss38 mws1
theorem mss38_ok : All (SOkM Try.prog false) mss38 := All.cons (SOkM.inl menv37_ok Try.func14 (fnNo _) Try.call14) mss37_ok
theorem menv38_ok : menv38.Ok Try.prog false := mkEnvM_ok mxs_ok mss38_ok mws1_ok
def mss39 : List (FuncId × SFM) := (50, (inlSM Try.prog false menv38 [16, 25] [] 96 .no Try.f50)) :: mss38
def menv39 : EnvM := mkEnvM mxs mss39 mws1
theorem mss39_ok : All (SOkM Try.prog false) mss39 := All.cons (SOkM.inl menv38_ok Try.func50 (fnNo _) Try.call50) mss38_ok
theorem menv39_ok : menv39.Ok Try.prog false := mkEnvM_ok mxs_ok mss39_ok mws1_ok
def mss40 : List (FuncId × SFM) := (21, (inlSM Try.prog false menv39 [19, 25, 37, 48] [] 96 .no Try.f21)) :: mss39
def menv40 : EnvM := mkEnvM mxs mss40 mws1
theorem mss40_ok : All (SOkM Try.prog false) mss40 := All.cons (SOkM.inl menv39_ok Try.func21 (fnNo _) Try.call21) mss39_ok
theorem menv40_ok : menv40.Ok Try.prog false := mkEnvM_ok mxs_ok mss40_ok mws1_ok
def mss41 : List (FuncId × SFM) := (83, (inlSM Try.prog false menv40 [9, 16] [] 96 .no Try.f83)) :: mss40
def menv41 : EnvM := mkEnvM mxs mss41 mws1
theorem mss41_ok : All (SOkM Try.prog false) mss41 := All.cons (SOkM.inl menv40_ok Try.func83 (fnNo _) Try.call83) mss40_ok
theorem menv41_ok : menv41.Ok Try.prog false := mkEnvM_ok mxs_ok mss41_ok mws1_ok
def mss42 : List (FuncId × SFM) := (54, (inlSM Try.prog false menv41 [] [] 96 .no Try.f54)) :: mss41
def menv42 : EnvM := mkEnvM mxs mss42 mws1
theorem mss42_ok : All (SOkM Try.prog false) mss42 := All.cons (SOkM.inl menv41_ok Try.func54 (fnNo _) Try.call54) mss41_ok
theorem menv42_ok : menv42.Ok Try.prog false := mkEnvM_ok mxs_ok mss42_ok mws1_ok
def mss43 : List (FuncId × SFM) := (23, (inlSM Try.prog false menv42 [24, 28, 36, 45, 58, 76, 84] [] 96 .no Try.f23)) :: mss42
def menv43 : EnvM := mkEnvM mxs mss43 mws1
theorem mss43_ok : All (SOkM Try.prog false) mss43 := All.cons (SOkM.inl menv42_ok Try.func23 (fnNo _) Try.call23) mss42_ok
theorem menv43_ok : menv43.Ok Try.prog false := mkEnvM_ok mxs_ok mss43_ok mws1_ok
theorem ann_law21_awake : FnOk Try.prog false 0 Try.f8 Ann.no := (fnNo _)
def s_law21_awake_0 : Bool := true
theorem e_law21_awake : outB (evFnM Try.prog false menv43 [42] [] 96 Ann.no Try.f8 [] []) = some (true, AV.bool (s_law21_awake_0)) := by kernel_rfl
def S_law21_awake : List AV → Option (Ob × AV)
  | [] => some (Ob.tt, AV.bool (s_law21_awake_0))
  | _ => none
theorem t_law21_awake : SOkM Try.prog false (8, fun args => match S_law21_awake args with | some (o, v) => some (o, v, []) | none => none) := SOkM.flat (N := 96) menv43_ok Try.func8 ann_law21_awake Try.call8 fun args o v h ho => by
  unfold S_law21_awake at h
  split at h
  · skip
    cases h
    have ho2 := ho
    have this := show outB (evFnM Try.prog false menv43 [42] [] 96 Ann.no Try.f8 [] []) = _ from e_law21_awake
    exact ⟨this, rfl⟩
  · cases h
def c_law21_awake : SFM := fun args => match S_law21_awake args with | some (o, v) => some (o, v, []) | none => none
theorem c_law21_awake_ok : SOkM Try.prog false (8, c_law21_awake) := t_law21_awake
def mss44 : List (FuncId × SFM) := (8, c_law21_awake) :: mss43
def menv44 : EnvM := mkEnvM mxs mss44 mws1
theorem mss44_ok : All (SOkM Try.prog false) mss44 := All.cons c_law21_awake_ok mss43_ok
theorem menv44_ok : menv44.Ok Try.prog false := mkEnvM_ok mxs_ok mss44_ok mws1_ok
theorem ann_law21_large : FnOk Try.prog false 0 Try.f9 Ann.no := (fnNo _)
def s_law21_large_0 (l : Nat) (aa ad : Nat → Int) (ae af ag ah ai aj ak al am an : Nat → Nat) (ao : Nat → Int) (ap : Nat → Nat) (X : Nat) (au aw ax ay az : Nat → Nat) : Bool := (((ilt (200 : Int) (Int.ofNat l)) && (ile (Int.ofNat l) (1048576 : Int))) || ((ilt (60 : Int) (Int.ofNat X)) && (ile (Int.ofNat X) (1024 : Int))))
theorem e_law21_large (l : Nat) (aa ad : Nat → Int) (ae af ag ah ai aj ak al am an : Nat → Nat) (ao : Nat → Int) (ap : Nat → Nat) (X : Nat) (au aw ax ay az : Nat → Nat) : outB (evFnM Try.prog false menv44 [] [] 96 Ann.no Try.f9 [AV.view l 14 (fun i0 => [AV.int .i64 (aa i0), AV.int .i64 (ad i0), AV.float (ae i0), AV.float (af i0), AV.float (ag i0), AV.float (ah i0), AV.float (ai i0), AV.float (aj i0), AV.float (ak i0), AV.float (al i0), AV.float (am i0), AV.float (an i0), AV.int .i64 (ao i0), AV.float (ap i0)]), AV.view X 5 (fun i0 => [AV.float (au i0), AV.float (aw i0), AV.float (ax i0), AV.float (ay i0), AV.float (az i0)])] []) = some (true, AV.bool (s_law21_large_0 l aa ad ae af ag ah ai aj ak al am an ao ap X au aw ax ay az)) := by kernel_rfl
def S_law21_large : List AV → Option (Ob × AV)
  | [AV.view l 14 W, AV.view X 5 aA] => some (Ob.bit ((allB fun i => isNrm [Ck.i .i64, Ck.i .i64, Ck.f, Ck.f, Ck.f, Ck.f, Ck.f, Ck.f, Ck.f, Ck.f, Ck.f, Ck.f, Ck.i .i64, Ck.f] (W i)) && (allB fun i => isNrm [Ck.f, Ck.f, Ck.f, Ck.f, Ck.f] (aA i))), AV.bool (s_law21_large_0 l (iL W 0) (iL W 1) (fL W 2) (fL W 3) (fL W 4) (fL W 5) (fL W 6) (fL W 7) (fL W 8) (fL W 9) (fL W 10) (fL W 11) (iL W 12) (fL W 13) X (fL aA 0) (fL aA 1) (fL aA 2) (fL aA 3) (fL aA 4)))
  | _ => none
theorem t_law21_large : SOkM Try.prog false (9, fun args => match S_law21_large args with | some (o, v) => some (o, v, []) | none => none) := SOkM.flat (N := 96) menv44_ok Try.func9 ann_law21_large Try.call9 fun args o v h ho => by
  unfold S_law21_large at h
  split at h
  · rename_i l W X aA
    cases h
    have hn := ho
    simp only [Ob.ok, Bool.and_eq_true] at hn
    obtain ⟨n0, n1⟩ := hn
    replace n0 := nrm_fun n0
    replace n1 := nrm_fun n1
    have this := show outB (evFnM Try.prog false menv44 [] [] 96 Ann.no Try.f9 [AV.view l 14 (fun i => mkN [Ck.i .i64, Ck.i .i64, Ck.f, Ck.f, Ck.f, Ck.f, Ck.f, Ck.f, Ck.f, Ck.f, Ck.f, Ck.f, Ck.i .i64, Ck.f] (W i) 0), AV.view X 5 (fun i => mkN [Ck.f, Ck.f, Ck.f, Ck.f, Ck.f] (aA i) 0)] []) = _ from e_law21_large l (iL W 0) (iL W 1) (fL W 2) (fL W 3) (fL W 4) (fL W 5) (fL W 6) (fL W 7) (fL W 8) (fL W 9) (fL W 10) (fL W 11) (iL W 12) (fL W 13) X (fL aA 0) (fL aA 1) (fL aA 2) (fL aA 3) (fL aA 4)
    rw [n0, n1] at this
    exact ⟨this, rfl⟩
  · cases h
def c_law21_large : SFM := fun args => match S_law21_large args with | some (o, v) => some (o, v, []) | none => none
theorem c_law21_large_ok : SOkM Try.prog false (9, c_law21_large) := t_law21_large
def mss45 : List (FuncId × SFM) := (9, c_law21_large) :: mss44
def menv45 : EnvM := mkEnvM mxs mss45 mws1
theorem mss45_ok : All (SOkM Try.prog false) mss45 := All.cons c_law21_large_ok mss44_ok
theorem menv45_ok : menv45.Ok Try.prog false := mkEnvM_ok mxs_ok mss45_ok mws1_ok
theorem ann_law21_rowsLent : FnOk Try.prog false 0 Try.f10 Ann.no := (fnNo _)
def s_law21_rowsLent_0 (l : Nat) (aa ad : Nat → Int) (ae af ag ah ai aj ak al am an : Nat → Nat) (ao : Nat → Int) (ap : Nat → Nat) : Nat := l
def s_law21_rowsLent_1 (l : Nat) (aa ad : Nat → Int) (ae af ag ah ai aj ak al am an : Nat → Nat) (ao : Nat → Int) (ap : Nat → Nat) : Nat := (l + 1)
def s_law21_rowsLent_2 (l : Nat) (aa ad : Nat → Int) (ae af ag ah ai aj ak al am an : Nat → Nat) (ao : Nat → Int) (ap : Nat → Nat) : Nat := (l + 1)
def s_law21_rowsLent_3 (l : Nat) (aa ad : Nat → Int) (ae af ag ah ai aj ak al am an : Nat → Nat) (ao : Nat → Int) (ap : Nat → Nat) : (Nat → Int) := (fun j0 => (bif (Nat.blt j0 l) then (aa j0) else (0 : Int)))
def s_law21_rowsLent_4 (l : Nat) (aa ad : Nat → Int) (ae af ag ah ai aj ak al am an : Nat → Nat) (ao : Nat → Int) (ap : Nat → Nat) : (Nat → Int) := (fun j0 => (bif (Nat.blt j0 l) then (ad j0) else (0 : Int)))
def s_law21_rowsLent_5 (l : Nat) (aa ad : Nat → Int) (ae af ag ah ai aj ak al am an : Nat → Nat) (ao : Nat → Int) (ap : Nat → Nat) : (Nat → Nat) := (fun j0 => (bif (Nat.blt j0 l) then (ae j0) else 0))
def s_law21_rowsLent_6 (l : Nat) (aa ad : Nat → Int) (ae af ag ah ai aj ak al am an : Nat → Nat) (ao : Nat → Int) (ap : Nat → Nat) : (Nat → Nat) := (fun j0 => (bif (Nat.blt j0 l) then (af j0) else 0))
def s_law21_rowsLent_7 (l : Nat) (aa ad : Nat → Int) (ae af ag ah ai aj ak al am an : Nat → Nat) (ao : Nat → Int) (ap : Nat → Nat) : (Nat → Nat) := (fun j0 => (bif (Nat.blt j0 l) then (ag j0) else 0))
def s_law21_rowsLent_8 (l : Nat) (aa ad : Nat → Int) (ae af ag ah ai aj ak al am an : Nat → Nat) (ao : Nat → Int) (ap : Nat → Nat) : (Nat → Nat) := (fun j0 => (bif (Nat.blt j0 l) then (ah j0) else 0))
def s_law21_rowsLent_9 (l : Nat) (aa ad : Nat → Int) (ae af ag ah ai aj ak al am an : Nat → Nat) (ao : Nat → Int) (ap : Nat → Nat) : (Nat → Nat) := (fun j0 => (bif (Nat.blt j0 l) then (ai j0) else 0))
def s_law21_rowsLent_10 (l : Nat) (aa ad : Nat → Int) (ae af ag ah ai aj ak al am an : Nat → Nat) (ao : Nat → Int) (ap : Nat → Nat) : (Nat → Nat) := (fun j0 => (bif (Nat.blt j0 l) then (aj j0) else 0))
def s_law21_rowsLent_11 (l : Nat) (aa ad : Nat → Int) (ae af ag ah ai aj ak al am an : Nat → Nat) (ao : Nat → Int) (ap : Nat → Nat) : (Nat → Nat) := (fun j0 => (bif (Nat.blt j0 l) then (ak j0) else 0))
def s_law21_rowsLent_12 (l : Nat) (aa ad : Nat → Int) (ae af ag ah ai aj ak al am an : Nat → Nat) (ao : Nat → Int) (ap : Nat → Nat) : (Nat → Nat) := (fun j0 => (bif (Nat.blt j0 l) then (al j0) else 0))
def s_law21_rowsLent_13 (l : Nat) (aa ad : Nat → Int) (ae af ag ah ai aj ak al am an : Nat → Nat) (ao : Nat → Int) (ap : Nat → Nat) : (Nat → Nat) := (fun j0 => (bif (Nat.blt j0 l) then (am j0) else 0))
def s_law21_rowsLent_14 (l : Nat) (aa ad : Nat → Int) (ae af ag ah ai aj ak al am an : Nat → Nat) (ao : Nat → Int) (ap : Nat → Nat) : (Nat → Nat) := (fun j0 => (bif (Nat.blt j0 l) then (an j0) else 0))
def s_law21_rowsLent_15 (l : Nat) (aa ad : Nat → Int) (ae af ag ah ai aj ak al am an : Nat → Nat) (ao : Nat → Int) (ap : Nat → Nat) : (Nat → Int) := (fun j0 => (bif (Nat.blt j0 l) then (ao j0) else (77 : Int)))
def s_law21_rowsLent_16 (l : Nat) (aa ad : Nat → Int) (ae af ag ah ai aj ak al am an : Nat → Nat) (ao : Nat → Int) (ap : Nat → Nat) : (Nat → Nat) := (fun j0 => (bif (Nat.blt j0 l) then (ap j0) else 0))
def o_law21_rowsLent (l : Nat) (aa ad : Nat → Int) (ae af ag ah ai aj ak al am an : Nat → Nat) (ao : Nat → Int) (ap : Nat → Nat) : Bool := (((Nat.ble l (l + 1)) || (Nat.ble l (l + 1))) && (((Nat.ble l l) && (Nat.ble ((l + 1) * 112) 140737488355328)) && (Nat.ble (l * 112) 140737488355328)))
def r_law21_rowsLent (l : Nat) (aa ad : Nat → Int) (ae af ag ah ai aj ak al am an : Nat → Nat) (ao : Nat → Int) (ap : Nat → Nat) : AV × Heap := (AV.lst 0 1 14 (s_law21_rowsLent_0 l aa ad ae af ag ah ai aj ak al am an ao ap) (s_law21_rowsLent_1 l aa ad ae af ag ah ai aj ak al am an ao ap), [⟨.sym (s_law21_rowsLent_2 l aa ad ae af ag ah ai aj ak al am an ao ap) 14 (fun j0 => [AV.int .i64 ((s_law21_rowsLent_3 l aa ad ae af ag ah ai aj ak al am an ao ap) j0), AV.int .i64 ((s_law21_rowsLent_4 l aa ad ae af ag ah ai aj ak al am an ao ap) j0), AV.float ((s_law21_rowsLent_5 l aa ad ae af ag ah ai aj ak al am an ao ap) j0), AV.float ((s_law21_rowsLent_6 l aa ad ae af ag ah ai aj ak al am an ao ap) j0), AV.float ((s_law21_rowsLent_7 l aa ad ae af ag ah ai aj ak al am an ao ap) j0), AV.float ((s_law21_rowsLent_8 l aa ad ae af ag ah ai aj ak al am an ao ap) j0), AV.float ((s_law21_rowsLent_9 l aa ad ae af ag ah ai aj ak al am an ao ap) j0), AV.float ((s_law21_rowsLent_10 l aa ad ae af ag ah ai aj ak al am an ao ap) j0), AV.float ((s_law21_rowsLent_11 l aa ad ae af ag ah ai aj ak al am an ao ap) j0), AV.float ((s_law21_rowsLent_12 l aa ad ae af ag ah ai aj ak al am an ao ap) j0), AV.float ((s_law21_rowsLent_13 l aa ad ae af ag ah ai aj ak al am an ao ap) j0), AV.float ((s_law21_rowsLent_14 l aa ad ae af ag ah ai aj ak al am an ao ap) j0), AV.int .i64 ((s_law21_rowsLent_15 l aa ad ae af ag ah ai aj ak al am an ao ap) j0), AV.float ((s_law21_rowsLent_16 l aa ad ae af ag ah ai aj ak al am an ao ap) j0)]), 56, 1⟩, ⟨.flat [], 0, 1⟩])
theorem e_law21_rowsLent (l : Nat) (aa ad : Nat → Int) (ae af ag ah ai aj ak al am an : Nat → Nat) (ao : Nat → Int) (ap : Nat → Nat) : outK [1] (evFnM Try.prog false menv45 [] [] 96 Ann.no Try.f10 [AV.view l 14 (fun i0 => [AV.int .i64 (aa i0), AV.int .i64 (ad i0), AV.float (ae i0), AV.float (af i0), AV.float (ag i0), AV.float (ah i0), AV.float (ai i0), AV.float (aj i0), AV.float (ak i0), AV.float (al i0), AV.float (am i0), AV.float (an i0), AV.int .i64 (ao i0), AV.float (ap i0)])] []) = some (o_law21_rowsLent l aa ad ae af ag ah ai aj ak al am an ao ap, r_law21_rowsLent l aa ad ae af ag ah ai aj ak al am an ao ap) := by kernel_rfl
def S_law21_rowsLent : List AV → Option (Ob × AV × Heap)
  | [AV.view l 14 W] => some (Ob.both (Ob.bit (allB fun i => isNrm [Ck.i .i64, Ck.i .i64, Ck.f, Ck.f, Ck.f, Ck.f, Ck.f, Ck.f, Ck.f, Ck.f, Ck.f, Ck.f, Ck.i .i64, Ck.f] (W i))) (Ob.bit (o_law21_rowsLent l (iL W 0) (iL W 1) (fL W 2) (fL W 3) (fL W 4) (fL W 5) (fL W 6) (fL W 7) (fL W 8) (fL W 9) (fL W 10) (fL W 11) (iL W 12) (fL W 13))), r_law21_rowsLent l (iL W 0) (iL W 1) (fL W 2) (fL W 3) (fL W 4) (fL W 5) (fL W 6) (fL W 7) (fL W 8) (fL W 9) (fL W 10) (fL W 11) (iL W 12) (fL W 13))
  | _ => none
theorem t_law21_rowsLent : SOkM Try.prog false (10, S_law21_rowsLent) := SOkM.fullL [1] (N := 96) menv45_ok Try.func10 ann_law21_rowsLent Try.call10 fun args o v G h ho => by
  unfold S_law21_rowsLent at h
  split at h
  · rename_i l W
    unfold r_law21_rowsLent at h
    cases h
    rw [Ob.both_ok, Bool.and_eq_true] at ho
    obtain ⟨hn, ho2⟩ := ho
    have n0 := hn
    simp only [Ob.ok] at n0
    replace n0 := nrm_fun n0
    have this := show outK [1] (evFnM Try.prog false menv45 [] [] 96 Ann.no Try.f10 [AV.view l 14 (fun i => mkN [Ck.i .i64, Ck.i .i64, Ck.f, Ck.f, Ck.f, Ck.f, Ck.f, Ck.f, Ck.f, Ck.f, Ck.f, Ck.f, Ck.i .i64, Ck.f] (W i) 0)] []) = _ from e_law21_rowsLent l (iL W 0) (iL W 1) (fL W 2) (fL W 3) (fL W 4) (fL W 5) (fL W 6) (fL W 7) (fL W 8) (fL W 9) (fL W 10) (fL W 11) (iL W 12) (fL W 13)
    rw [show o_law21_rowsLent l (iL W 0) (iL W 1) (fL W 2) (fL W 3) (fL W 4) (fL W 5) (fL W 6) (fL W 7) (fL W 8) (fL W 9) (fL W 10) (fL W 11) (iL W 12) (fL W 13) = true from ho2] at this
    rw [n0] at this
    exact this
  · cases h
def c_law21_rowsLent : SFM := S_law21_rowsLent
theorem c_law21_rowsLent_ok : SOkM Try.prog false (10, c_law21_rowsLent) := t_law21_rowsLent
def mss46 : List (FuncId × SFM) := (10, c_law21_rowsLent) :: mss45
def menv46 : EnvM := mkEnvM mxs mss46 mws1
theorem mss46_ok : All (SOkM Try.prog false) mss46 := All.cons c_law21_rowsLent_ok mss45_ok
theorem menv46_ok : menv46.Ok Try.prog false := mkEnvM_ok mxs_ok mss46_ok mws1_ok
theorem ann_law21_stillsLent : FnOk Try.prog false 0 Try.f11 Ann.no := (fnNo _)
def s_law21_stillsLent_0 (l : Nat) (aa ad ae af ag : Nat → Nat) : Nat := l
def s_law21_stillsLent_1 (l : Nat) (aa ad ae af ag : Nat → Nat) : Nat := (l + 1)
def s_law21_stillsLent_2 (l : Nat) (aa ad ae af ag : Nat → Nat) : Nat := (l + 1)
def s_law21_stillsLent_3 (l : Nat) (aa ad ae af ag : Nat → Nat) : (Nat → Nat) := (fun j0 => (bif (Nat.blt j0 l) then (aa j0) else 0))
def s_law21_stillsLent_4 (l : Nat) (aa ad ae af ag : Nat → Nat) : (Nat → Nat) := (fun j0 => (bif (Nat.blt j0 l) then (ad j0) else 0))
def s_law21_stillsLent_5 (l : Nat) (aa ad ae af ag : Nat → Nat) : (Nat → Nat) := (fun j0 => (bif (Nat.blt j0 l) then (ae j0) else 0))
def s_law21_stillsLent_6 (l : Nat) (aa ad ae af ag : Nat → Nat) : (Nat → Nat) := (fun j0 => (bif (Nat.blt j0 l) then (af j0) else 0))
def s_law21_stillsLent_7 (l : Nat) (aa ad ae af ag : Nat → Nat) : (Nat → Nat) := (fun j0 => (bif (Nat.blt j0 l) then (ag j0) else 4635118810238550016))
def o_law21_stillsLent (l : Nat) (aa ad ae af ag : Nat → Nat) : Bool := (((Nat.ble l (l + 1)) || (Nat.ble l (l + 1))) && (((Nat.ble l l) && (Nat.ble ((l + 1) * 40) 140737488355328)) && (Nat.ble (l * 40) 140737488355328)))
def r_law21_stillsLent (l : Nat) (aa ad ae af ag : Nat → Nat) : AV × Heap := (AV.lst 0 1 5 (s_law21_stillsLent_0 l aa ad ae af ag) (s_law21_stillsLent_1 l aa ad ae af ag), [⟨.sym (s_law21_stillsLent_2 l aa ad ae af ag) 5 (fun j0 => [AV.float ((s_law21_stillsLent_3 l aa ad ae af ag) j0), AV.float ((s_law21_stillsLent_4 l aa ad ae af ag) j0), AV.float ((s_law21_stillsLent_5 l aa ad ae af ag) j0), AV.float ((s_law21_stillsLent_6 l aa ad ae af ag) j0), AV.float ((s_law21_stillsLent_7 l aa ad ae af ag) j0)]), 50, 1⟩, ⟨.flat [], 0, 1⟩])
theorem e_law21_stillsLent (l : Nat) (aa ad ae af ag : Nat → Nat) : outK [1] (evFnM Try.prog false menv46 [] [] 96 Ann.no Try.f11 [AV.view l 5 (fun i0 => [AV.float (aa i0), AV.float (ad i0), AV.float (ae i0), AV.float (af i0), AV.float (ag i0)])] []) = some (o_law21_stillsLent l aa ad ae af ag, r_law21_stillsLent l aa ad ae af ag) := by kernel_rfl
def S_law21_stillsLent : List AV → Option (Ob × AV × Heap)
  | [AV.view l 5 W] => some (Ob.both (Ob.bit (allB fun i => isNrm [Ck.f, Ck.f, Ck.f, Ck.f, Ck.f] (W i))) (Ob.bit (o_law21_stillsLent l (fL W 0) (fL W 1) (fL W 2) (fL W 3) (fL W 4))), r_law21_stillsLent l (fL W 0) (fL W 1) (fL W 2) (fL W 3) (fL W 4))
  | _ => none
theorem t_law21_stillsLent : SOkM Try.prog false (11, S_law21_stillsLent) := SOkM.fullL [1] (N := 96) menv46_ok Try.func11 ann_law21_stillsLent Try.call11 fun args o v G h ho => by
  unfold S_law21_stillsLent at h
  split at h
  · rename_i l W
    unfold r_law21_stillsLent at h
    cases h
    rw [Ob.both_ok, Bool.and_eq_true] at ho
    obtain ⟨hn, ho2⟩ := ho
    have n0 := hn
    simp only [Ob.ok] at n0
    replace n0 := nrm_fun n0
    have this := show outK [1] (evFnM Try.prog false menv46 [] [] 96 Ann.no Try.f11 [AV.view l 5 (fun i => mkN [Ck.f, Ck.f, Ck.f, Ck.f, Ck.f] (W i) 0)] []) = _ from e_law21_stillsLent l (fL W 0) (fL W 1) (fL W 2) (fL W 3) (fL W 4)
    rw [show o_law21_stillsLent l (fL W 0) (fL W 1) (fL W 2) (fL W 3) (fL W 4) = true from ho2] at this
    rw [n0] at this
    exact this
  · cases h
def c_law21_stillsLent : SFM := S_law21_stillsLent
theorem c_law21_stillsLent_ok : SOkM Try.prog false (11, c_law21_stillsLent) := t_law21_stillsLent
def mss47 : List (FuncId × SFM) := (11, c_law21_stillsLent) :: mss46
def menv47 : EnvM := mkEnvM mxs mss47 mws1
theorem mss47_ok : All (SOkM Try.prog false) mss47 := All.cons c_law21_stillsLent_ok mss46_ok
theorem menv47_ok : menv47.Ok Try.prog false := mkEnvM_ok mxs_ok mss47_ok mws1_ok
theorem ann_num_Finite_float64_ : FnOk Try.prog false 0 Try.f89 Ann.no := (fnNo _)
def s_num_Finite_float64__0 (j : Nat) : Bool := (feq (fsub j j) 0)
theorem e_num_Finite_float64_ (j : Nat) : outB (evFnM Try.prog false menv47 [] [] 96 Ann.no Try.f89 [AV.float j] []) = some (true, AV.bool (s_num_Finite_float64__0 j)) := by kernel_rfl
def S_num_Finite_float64_ : List AV → Option (Ob × AV)
  | [AV.float j] => some (Ob.tt, AV.bool (s_num_Finite_float64__0 j))
  | _ => none
theorem t_num_Finite_float64_ : SOkM Try.prog false (89, fun args => match S_num_Finite_float64_ args with | some (o, v) => some (o, v, []) | none => none) := SOkM.flat (N := 96) menv47_ok Try.func89 ann_num_Finite_float64_ Try.call89 fun args o v h ho => by
  unfold S_num_Finite_float64_ at h
  split at h
  · rename_i j
    cases h
    have ho2 := ho
    have this := show outB (evFnM Try.prog false menv47 [] [] 96 Ann.no Try.f89 [AV.float j] []) = _ from e_num_Finite_float64_ j
    exact ⟨this, rfl⟩
  · cases h
def c_num_Finite_float64_ : SFM := fun args => match S_num_Finite_float64_ args with | some (o, v) => some (o, v, []) | none => none
theorem c_num_Finite_float64__ok : SOkM Try.prog false (89, c_num_Finite_float64_) := t_num_Finite_float64_
def mss48 : List (FuncId × SFM) := (89, c_num_Finite_float64_) :: mss47
def menv48 : EnvM := mkEnvM mxs mss48 mws1
theorem mss48_ok : All (SOkM Try.prog false) mss48 := All.cons c_num_Finite_float64__ok mss47_ok
theorem menv48_ok : menv48.Ok Try.prog false := mkEnvM_ok mxs_ok mss48_ok mws1_ok
theorem ann_vec_Finite : FnOk Try.prog false 0 Try.f99 Ann.no := (fnNo _)
def s_vec_Finite_0 (j e : Nat) : Bool := ((s_num_Finite_float64__0 j) && (s_num_Finite_float64__0 e))
theorem e_vec_Finite (j e : Nat) : outB (evFnM Try.prog false menv48 [] [] 96 Ann.no Try.f99 [AV.agg [AV.float j, AV.float e]] []) = some (true, AV.bool (s_vec_Finite_0 j e)) := by kernel_rfl
def S_vec_Finite : List AV → Option (Ob × AV)
  | [AV.agg [AV.float j, AV.float e]] => some (Ob.tt, AV.bool (s_vec_Finite_0 j e))
  | _ => none
theorem t_vec_Finite : SOkM Try.prog false (99, fun args => match S_vec_Finite args with | some (o, v) => some (o, v, []) | none => none) := SOkM.flat (N := 96) menv48_ok Try.func99 ann_vec_Finite Try.call99 fun args o v h ho => by
  unfold S_vec_Finite at h
  split at h
  · rename_i j e
    cases h
    have ho2 := ho
    have this := show outB (evFnM Try.prog false menv48 [] [] 96 Ann.no Try.f99 [AV.agg [AV.float j, AV.float e]] []) = _ from e_vec_Finite j e
    exact ⟨this, rfl⟩
  · cases h
def c_vec_Finite : SFM := fun args => match S_vec_Finite args with | some (o, v) => some (o, v, []) | none => none
theorem c_vec_Finite_ok : SOkM Try.prog false (99, c_vec_Finite) := t_vec_Finite
def mss49 : List (FuncId × SFM) := (99, c_vec_Finite) :: mss48
def menv49 : EnvM := mkEnvM mxs mss49 mws1
theorem mss49_ok : All (SOkM Try.prog false) mss49 := All.cons c_vec_Finite_ok mss48_ok
theorem menv49_ok : menv49.Ok Try.prog false := mkEnvM_ok mxs_ok mss49_ok mws1_ok
theorem ann_rows_finite_1 : FnOk Try.prog false 0 Try.f102 Ann.no := (fnNo _)
def s_rows_finite_1_0 (j : Nat) : Bool := (!(s_num_Finite_float64__0 j))
theorem e_rows_finite_1 (j : Nat) : outB (evFnM Try.prog false menv49 [] [] 96 Ann.no Try.f102 [AV.float j] []) = some (true, AV.bool (s_rows_finite_1_0 j)) := by kernel_rfl
def S_rows_finite_1 : List AV → Option (Ob × AV)
  | [AV.float j] => some (Ob.tt, AV.bool (s_rows_finite_1_0 j))
  | _ => none
theorem t_rows_finite_1 : SOkM Try.prog false (102, fun args => match S_rows_finite_1 args with | some (o, v) => some (o, v, []) | none => none) := SOkM.flat (N := 96) menv49_ok Try.func102 ann_rows_finite_1 Try.call102 fun args o v h ho => by
  unfold S_rows_finite_1 at h
  split at h
  · rename_i j
    cases h
    have ho2 := ho
    have this := show outB (evFnM Try.prog false menv49 [] [] 96 Ann.no Try.f102 [AV.float j] []) = _ from e_rows_finite_1 j
    exact ⟨this, rfl⟩
  · cases h
def c_rows_finite_1 : SFM := fun args => match S_rows_finite_1 args with | some (o, v) => some (o, v, []) | none => none
theorem c_rows_finite_1_ok : SOkM Try.prog false (102, c_rows_finite_1) := t_rows_finite_1
def mss50 : List (FuncId × SFM) := (102, c_rows_finite_1) :: mss49
def menv50 : EnvM := mkEnvM mxs mss50 mws1
theorem mss50_ok : All (SOkM Try.prog false) mss50 := All.cons c_rows_finite_1_ok mss49_ok
theorem menv50_ok : menv50.Ok Try.prog false := mkEnvM_ok mxs_ok mss50_ok mws1_ok
theorem ann_slices_IndexFunc___float64_float64_ : FnOk Try.prog false 0 Try.f105 Ann.no := (fnNo _)
def s_slices_IndexFunc___float64_float64__0 (aa : Nat → Nat) : Int := (bif ((s_rows_finite_1_0 (aa 0)) || ((s_rows_finite_1_0 (aa 1)) || ((s_rows_finite_1_0 (aa 2)) || ((s_rows_finite_1_0 (aa 3)) || (s_rows_finite_1_0 (aa 4)))))) then (bif (s_rows_finite_1_0 (aa 0)) then (0 : Int) else (bif (s_rows_finite_1_0 (aa 1)) then (1 : Int) else (bif (s_rows_finite_1_0 (aa 2)) then (2 : Int) else (bif (s_rows_finite_1_0 (aa 3)) then (3 : Int) else (4 : Int))))) else (-1 : Int))
theorem e_slices_IndexFunc___float64_float64_ (aa : Nat → Nat) : outB (evFnM Try.prog false menv50 [9] [] 96 Ann.no Try.f105 [AV.view 5 1 (fun i0 => [AV.float (aa i0)]), AV.func 102 [] []] []) = some (true, AV.int .i64 (s_slices_IndexFunc___float64_float64__0 aa)) := by kernel_rfl
def S_slices_IndexFunc___float64_float64_ : List AV → Option (Ob × AV)
  | [AV.view 5 1 W, AV.func 102 [] []] => some (Ob.bit (allB fun i => isNrm [Ck.f] (W i)), AV.int .i64 (s_slices_IndexFunc___float64_float64__0 (fL W 0)))
  | _ => none
theorem t_slices_IndexFunc___float64_float64_ : SOkM Try.prog false (105, fun args => match S_slices_IndexFunc___float64_float64_ args with | some (o, v) => some (o, v, []) | none => none) := SOkM.flat (N := 96) menv50_ok Try.func105 ann_slices_IndexFunc___float64_float64_ Try.call105 fun args o v h ho => by
  unfold S_slices_IndexFunc___float64_float64_ at h
  split at h
  · rename_i W
    cases h
    have hn := ho
    have n0 := hn
    simp only [Ob.ok] at n0
    replace n0 := nrm_fun n0
    have this := show outB (evFnM Try.prog false menv50 [9] [] 96 Ann.no Try.f105 [AV.view 5 1 (fun i => mkN [Ck.f] (W i) 0), AV.func 102 [] []] []) = _ from e_slices_IndexFunc___float64_float64_ (fL W 0)
    rw [n0] at this
    exact ⟨this, rfl⟩
  · cases h
def c_slices_IndexFunc___float64_float64_ : SFM := fun args => match S_slices_IndexFunc___float64_float64_ args with | some (o, v) => some (o, v, []) | none => none
theorem c_slices_IndexFunc___float64_float64__ok : SOkM Try.prog false (105, c_slices_IndexFunc___float64_float64_) := t_slices_IndexFunc___float64_float64_
def mss51 : List (FuncId × SFM) := (105, c_slices_IndexFunc___float64_float64_) :: mss50
def menv51 : EnvM := mkEnvM mxs mss51 mws1
theorem mss51_ok : All (SOkM Try.prog false) mss51 := All.cons c_slices_IndexFunc___float64_float64__ok mss50_ok
theorem menv51_ok : menv51.Ok Try.prog false := mkEnvM_ok mxs_ok mss51_ok mws1_ok
theorem ann_slices_ContainsFunc___float64_float64_ : FnOk Try.prog false 0 Try.f101 Ann.no := (fnNo _)
def s_slices_ContainsFunc___float64_float64__0 (aa : Nat → Nat) : Bool := (ile (0 : Int) (s_slices_IndexFunc___float64_float64__0 aa))
theorem e_slices_ContainsFunc___float64_float64_ (aa : Nat → Nat) : outB (evFnM Try.prog false menv51 [] [] 96 Ann.no Try.f101 [AV.view 5 1 (fun i0 => [AV.float (aa i0)]), AV.func 102 [] []] []) = some ((allB fun _ => true), AV.bool (s_slices_ContainsFunc___float64_float64__0 aa)) := by kernel_rfl
def S_slices_ContainsFunc___float64_float64_ : List AV → Option (Ob × AV)
  | [AV.view 5 1 W, AV.func 102 [] []] => some (Ob.bit (allB fun i => isNrm [Ck.f] (W i)), AV.bool (s_slices_ContainsFunc___float64_float64__0 (fL W 0)))
  | _ => none
theorem ob_slices_ContainsFunc___float64_float64_ (aa : Nat → Nat) : (allB fun _ => true) = true := by (try simp only [allB_true, eqT_self, mrgB_self, Bool.true_and, Bool.and_true]) <;> first | rfl | simp
theorem t_slices_ContainsFunc___float64_float64_ : SOkM Try.prog false (101, fun args => match S_slices_ContainsFunc___float64_float64_ args with | some (o, v) => some (o, v, []) | none => none) := SOkM.flat (N := 96) menv51_ok Try.func101 ann_slices_ContainsFunc___float64_float64_ Try.call101 fun args o v h ho => by
  unfold S_slices_ContainsFunc___float64_float64_ at h
  split at h
  · rename_i W
    cases h
    have hn := ho
    have n0 := hn
    simp only [Ob.ok] at n0
    replace n0 := nrm_fun n0
    have this := show outB (evFnM Try.prog false menv51 [] [] 96 Ann.no Try.f101 [AV.view 5 1 (fun i => mkN [Ck.f] (W i) 0), AV.func 102 [] []] []) = _ from e_slices_ContainsFunc___float64_float64_ (fL W 0)
    rw [(ob_slices_ContainsFunc___float64_float64_ (fL W 0))] at this
    rw [n0] at this
    exact ⟨this, rfl⟩
  · cases h
def c_slices_ContainsFunc___float64_float64_ : SFM := fun args => match S_slices_ContainsFunc___float64_float64_ args with | some (o, v) => some (o, v, []) | none => none
theorem c_slices_ContainsFunc___float64_float64__ok : SOkM Try.prog false (101, c_slices_ContainsFunc___float64_float64_) := t_slices_ContainsFunc___float64_float64_
def mss52 : List (FuncId × SFM) := (101, c_slices_ContainsFunc___float64_float64_) :: mss51
def menv52 : EnvM := mkEnvM mxs mss52 mws1
theorem mss52_ok : All (SOkM Try.prog false) mss52 := All.cons c_slices_ContainsFunc___float64_float64__ok mss51_ok
theorem menv52_ok : menv52.Ok Try.prog false := mkEnvM_ok mxs_ok mss52_ok mws1_ok
theorem ann_rows_finite : FnOk Try.prog false 0 Try.f91 Ann.no := (fnNo _)
def s_rows_finite_0 (aa : Nat → Nat) : Bool := (!(s_slices_ContainsFunc___float64_float64__0 aa))
theorem e_rows_finite (aa : Nat → Nat) : outB (evFnM Try.prog false menv52 [] [] 96 Ann.no Try.f91 [AV.view 5 1 (fun i0 => [AV.float (aa i0)])] []) = some ((allB fun _ => true), AV.bool (s_rows_finite_0 aa)) := by kernel_rfl
def S_rows_finite : List AV → Option (Ob × AV)
  | [AV.view 5 1 W] => some (Ob.bit (allB fun i => isNrm [Ck.f] (W i)), AV.bool (s_rows_finite_0 (fL W 0)))
  | _ => none
theorem ob_rows_finite (aa : Nat → Nat) : (allB fun _ => true) = true := by (try simp only [allB_true, eqT_self, mrgB_self, Bool.true_and, Bool.and_true]) <;> first | rfl | simp
theorem t_rows_finite : SOkM Try.prog false (91, fun args => match S_rows_finite args with | some (o, v) => some (o, v, []) | none => none) := SOkM.flat (N := 96) menv52_ok Try.func91 ann_rows_finite Try.call91 fun args o v h ho => by
  unfold S_rows_finite at h
  split at h
  · rename_i W
    cases h
    have hn := ho
    have n0 := hn
    simp only [Ob.ok] at n0
    replace n0 := nrm_fun n0
    have this := show outB (evFnM Try.prog false menv52 [] [] 96 Ann.no Try.f91 [AV.view 5 1 (fun i => mkN [Ck.f] (W i) 0)] []) = _ from e_rows_finite (fL W 0)
    rw [(ob_rows_finite (fL W 0))] at this
    rw [n0] at this
    exact ⟨this, rfl⟩
  · cases h
def c_rows_finite : SFM := fun args => match S_rows_finite args with | some (o, v) => some (o, v, []) | none => none
theorem c_rows_finite_ok : SOkM Try.prog false (91, c_rows_finite) := t_rows_finite
def mss53 : List (FuncId × SFM) := (91, c_rows_finite) :: mss52
def menv53 : EnvM := mkEnvM mxs mss53 mws1
theorem mss53_ok : All (SOkM Try.prog false) mss53 := All.cons c_rows_finite_ok mss52_ok
theorem menv53_ok : menv53.Ok Try.prog false := mkEnvM_ok mxs_ok mss53_ok mws1_ok
theorem ann_rows_fits : FnOk Try.prog false 0 Try.f82 Ann.no := (fnNo _)
def s_rows_fits_0 (j e : Int) (k m p z C E r u D q : Nat) (J : Int) (I : Nat) : Bool := ((((((ile (0 : Int) j) && (ile (0 : Int) e)) && (!(ieq j e))) && (s_vec_Finite_0 k m)) && (s_vec_Finite_0 p z)) && ((((s_rows_finite_0 (fun j0 => (bif (Nat.beq j0 0) then C else (bif (Nat.beq (j0 - 1) 0) then E else (bif (Nat.beq ((j0 - 1) - 1) 0) then r else (bif (Nat.beq (((j0 - 1) - 1) - 1) 0) then q else I)))))) && (fle 0 I)) && (fle u D)) && (ile (-1 : Int) J)))
theorem e_rows_fits (j e : Int) (k m p z C E r u D q : Nat) (J : Int) (I : Nat) : outB (evFnM Try.prog false menv53 [] [] 96 Ann.no Try.f82 [AV.agg [AV.int .i64 j, AV.int .i64 e, AV.float k, AV.float m, AV.float p, AV.float z, AV.float C, AV.float E, AV.float r, AV.float u, AV.float D, AV.float q, AV.int .i64 J, AV.float I]] []) = some ((let x0 := s_rows_finite_0 (fun j0 => (bif (Nat.beq j0 0) then C else (bif (Nat.beq (j0 - 1) 0) then E else (bif (Nat.beq ((j0 - 1) - 1) 0) then r else (bif (Nat.beq (((j0 - 1) - 1) - 1) 0) then q else I))))); let x1 := mrgB x0 (allB fun _ => true) (allB fun _ => true); let x2 := x0 && (fle 0 I); let x3 := mrgB x2 x1 x1; (mrgB (((((ile (0 : Int) j) && (ile (0 : Int) e)) && (!(ieq j e))) && (s_vec_Finite_0 k m)) && (s_vec_Finite_0 p z)) (mrgB (x2 && (fle u D)) x3 x3) true)), AV.bool (s_rows_fits_0 j e k m p z C E r u D q J I)) := by kernel_rfl
def S_rows_fits : List AV → Option (Ob × AV)
  | [AV.agg [AV.int .i64 j, AV.int .i64 e, AV.float k, AV.float m, AV.float p, AV.float z, AV.float C, AV.float E, AV.float r, AV.float u, AV.float D, AV.float q, AV.int .i64 J, AV.float I]] => some (Ob.tt, AV.bool (s_rows_fits_0 j e k m p z C E r u D q J I))
  | _ => none
theorem ob_rows_fits (j e : Int) (k m p z C E r u D q : Nat) (J : Int) (I : Nat) : (let x0 := s_rows_finite_0 (fun j0 => (bif (Nat.beq j0 0) then C else (bif (Nat.beq (j0 - 1) 0) then E else (bif (Nat.beq ((j0 - 1) - 1) 0) then r else (bif (Nat.beq (((j0 - 1) - 1) - 1) 0) then q else I))))); let x1 := mrgB x0 (allB fun _ => true) (allB fun _ => true); let x2 := x0 && (fle 0 I); let x3 := mrgB x2 x1 x1; (mrgB (((((ile (0 : Int) j) && (ile (0 : Int) e)) && (!(ieq j e))) && (s_vec_Finite_0 k m)) && (s_vec_Finite_0 p z)) (mrgB (x2 && (fle u D)) x3 x3) true)) = true := by (try simp only [allB_true, eqT_self, mrgB_self, Bool.true_and, Bool.and_true]) <;> first | rfl | simp
theorem t_rows_fits : SOkM Try.prog false (82, fun args => match S_rows_fits args with | some (o, v) => some (o, v, []) | none => none) := SOkM.flat (N := 96) menv53_ok Try.func82 ann_rows_fits Try.call82 fun args o v h ho => by
  unfold S_rows_fits at h
  split at h
  · rename_i j e k m p z C E r u D q J I
    cases h
    have ho2 := ho
    have this := show outB (evFnM Try.prog false menv53 [] [] 96 Ann.no Try.f82 [AV.agg [AV.int .i64 j, AV.int .i64 e, AV.float k, AV.float m, AV.float p, AV.float z, AV.float C, AV.float E, AV.float r, AV.float u, AV.float D, AV.float q, AV.int .i64 J, AV.float I]] []) = _ from e_rows_fits j e k m p z C E r u D q J I
    rw [(ob_rows_fits j e k m p z C E r u D q J I)] at this
    exact ⟨this, rfl⟩
  · cases h
def c_rows_fits : SFM := fun args => match S_rows_fits args with | some (o, v) => some (o, v, []) | none => none
theorem c_rows_fits_ok : SOkM Try.prog false (82, c_rows_fits) := t_rows_fits
def mss54 : List (FuncId × SFM) := (82, c_rows_fits) :: mss53
def menv54 : EnvM := mkEnvM mxs mss54 mws1
theorem mss54_ok : All (SOkM Try.prog false) mss54 := All.cons c_rows_fits_ok mss53_ok
theorem menv54_ok : menv54.Ok Try.prog false := mkEnvM_ok mxs_ok mss54_ok mws1_ok
theorem ann_rows_Check : FnOk Try.prog false 0 Try.f53 Ann.no := (fnNo _)
def s_rows_Check_0 (j e : Int) (k m p z C E r u D q : Nat) (J : Int) (I : Nat) (F L : Int) : Int := (bif (((!(s_rows_fits_0 j e k m p z C E r u D q J I)) || (ile L (if e > j then e else j))) || (ile F J)) then (200 : Int) else (0 : Int))
theorem e_rows_Check (j e : Int) (k m p z C E r u D q : Nat) (J : Int) (I : Nat) (F L : Int) : outB (evFnM Try.prog false menv54 [] [] 96 Ann.no Try.f53 [AV.agg [AV.int .i64 j, AV.int .i64 e, AV.float k, AV.float m, AV.float p, AV.float z, AV.float C, AV.float E, AV.float r, AV.float u, AV.float D, AV.float q, AV.int .i64 J, AV.float I], AV.int .i64 F, AV.int .i64 L] []) = some (true, AV.int .i64 (s_rows_Check_0 j e k m p z C E r u D q J I F L)) := by kernel_rfl
def S_rows_Check : List AV → Option (Ob × AV)
  | [AV.agg [AV.int .i64 j, AV.int .i64 e, AV.float k, AV.float m, AV.float p, AV.float z, AV.float C, AV.float E, AV.float r, AV.float u, AV.float D, AV.float q, AV.int .i64 J, AV.float I], AV.int .i64 F, AV.int .i64 L] => some (Ob.tt, AV.int .i64 (s_rows_Check_0 j e k m p z C E r u D q J I F L))
  | _ => none
theorem t_rows_Check : SOkM Try.prog false (53, fun args => match S_rows_Check args with | some (o, v) => some (o, v, []) | none => none) := SOkM.flat (N := 96) menv54_ok Try.func53 ann_rows_Check Try.call53 fun args o v h ho => by
  unfold S_rows_Check at h
  split at h
  · rename_i j e k m p z C E r u D q J I F L
    cases h
    have ho2 := ho
    have this := show outB (evFnM Try.prog false menv54 [] [] 96 Ann.no Try.f53 [AV.agg [AV.int .i64 j, AV.int .i64 e, AV.float k, AV.float m, AV.float p, AV.float z, AV.float C, AV.float E, AV.float r, AV.float u, AV.float D, AV.float q, AV.int .i64 J, AV.float I], AV.int .i64 F, AV.int .i64 L] []) = _ from e_rows_Check j e k m p z C E r u D q J I F L
    exact ⟨this, rfl⟩
  · cases h
def c_rows_Check : SFM := fun args => match S_rows_Check args with | some (o, v) => some (o, v, []) | none => none
theorem c_rows_Check_ok : SOkM Try.prog false (53, c_rows_Check) := t_rows_Check
def mss55 : List (FuncId × SFM) := (53, c_rows_Check) :: mss54
def menv55 : EnvM := mkEnvM mxs mss55 mws1
theorem mss55_ok : All (SOkM Try.prog false) mss55 := All.cons c_rows_Check_ok mss54_ok
theorem menv55_ok : menv55.Ok Try.prog false := mkEnvM_ok mxs_ok mss55_ok mws1_ok
theorem ann_solve_may : FnOk Try.prog false 0 Try.f64 Ann.no := (fnNo _)
def s_solve_may_0 (j e k m p : Nat) : Bool := ((((s_num_Finite_float64__0 j) && (fle 0 j)) && (s_num_Finite_float64__0 e)) && (fle 0 e))
theorem e_solve_may (j e k m p : Nat) : outB (evFnM Try.prog false menv55 [] [] 96 Ann.no Try.f64 [AV.agg [AV.float j, AV.float e, AV.float k, AV.float m, AV.float p]] []) = some (true, AV.bool (s_solve_may_0 j e k m p)) := by kernel_rfl
def S_solve_may : List AV → Option (Ob × AV)
  | [AV.agg [AV.float j, AV.float e, AV.float k, AV.float m, AV.float p]] => some (Ob.tt, AV.bool (s_solve_may_0 j e k m p))
  | _ => none
theorem t_solve_may : SOkM Try.prog false (64, fun args => match S_solve_may args with | some (o, v) => some (o, v, []) | none => none) := SOkM.flat (N := 96) menv55_ok Try.func64 ann_solve_may Try.call64 fun args o v h ho => by
  unfold S_solve_may at h
  split at h
  · rename_i j e k m p
    cases h
    have ho2 := ho
    have this := show outB (evFnM Try.prog false menv55 [] [] 96 Ann.no Try.f64 [AV.agg [AV.float j, AV.float e, AV.float k, AV.float m, AV.float p]] []) = _ from e_solve_may j e k m p
    exact ⟨this, rfl⟩
  · cases h
def c_solve_may : SFM := fun args => match S_solve_may args with | some (o, v) => some (o, v, []) | none => none
theorem c_solve_may_ok : SOkM Try.prog false (64, c_solve_may) := t_solve_may
def mss56 : List (FuncId × SFM) := (64, c_solve_may) :: mss55
def menv56 : EnvM := mkEnvM mxs mss56 mws1
theorem mss56_ok : All (SOkM Try.prog false) mss56 := All.cons c_solve_may_ok mss55_ok
theorem menv56_ok : menv56.Ok Try.prog false := mkEnvM_ok mxs_ok mss56_ok mws1_ok
theorem ann_solve_asked_1 : FnOk Try.prog false 0 Try.f63 Ann.no := (fnNo _)
def s_solve_asked_1_0 (j e k m p : Nat) : Bool := (!(s_solve_may_0 j e k m p))
theorem e_solve_asked_1 (j e k m p : Nat) : outB (evFnM Try.prog false menv56 [] [] 96 Ann.no Try.f63 [AV.agg [AV.float j, AV.float e, AV.float k, AV.float m, AV.float p]] []) = some (true, AV.bool (s_solve_asked_1_0 j e k m p)) := by kernel_rfl
def S_solve_asked_1 : List AV → Option (Ob × AV)
  | [AV.agg [AV.float j, AV.float e, AV.float k, AV.float m, AV.float p]] => some (Ob.tt, AV.bool (s_solve_asked_1_0 j e k m p))
  | _ => none
theorem t_solve_asked_1 : SOkM Try.prog false (63, fun args => match S_solve_asked_1 args with | some (o, v) => some (o, v, []) | none => none) := SOkM.flat (N := 96) menv56_ok Try.func63 ann_solve_asked_1 Try.call63 fun args o v h ho => by
  unfold S_solve_asked_1 at h
  split at h
  · rename_i j e k m p
    cases h
    have ho2 := ho
    have this := show outB (evFnM Try.prog false menv56 [] [] 96 Ann.no Try.f63 [AV.agg [AV.float j, AV.float e, AV.float k, AV.float m, AV.float p]] []) = _ from e_solve_asked_1 j e k m p
    exact ⟨this, rfl⟩
  · cases h
def c_solve_asked_1 : SFM := fun args => match S_solve_asked_1 args with | some (o, v) => some (o, v, []) | none => none
theorem c_solve_asked_1_ok : SOkM Try.prog false (63, c_solve_asked_1) := t_solve_asked_1
def mss57 : List (FuncId × SFM) := (63, c_solve_asked_1) :: mss56
def menv57 : EnvM := mkEnvM mxs mss57 mws1
theorem mss57_ok : All (SOkM Try.prog false) mss57 := All.cons c_solve_asked_1_ok mss56_ok
theorem menv57_ok : menv57.Ok Try.prog false := mkEnvM_ok mxs_ok mss57_ok mws1_ok
structure V_slices_IndexFunc___api_Still_api_Still__L0 where
  v0 : Int
def tpl_slices_IndexFunc___api_Still_api_Still__L0 : List AV := (AV.nul :: AV.nul :: AV.top :: AV.top :: AV.top :: AV.top :: AV.top :: AV.nul :: AV.nul :: tpA 10 ([]))
def cts_slices_IndexFunc___api_Still_api_Still__L0 : List CT := []
def phs_slices_IndexFunc___api_Still_api_Still__L0 : List Src := []
def T_slices_IndexFunc___api_Still_api_Still__L0 (ab : Nat) (Y ac av ar aB : Nat → Nat) (aC : Int) (x : V_slices_IndexFunc___api_Still_api_Still__L0) (F0 : Nat → List AV) : List AV × Heap := ((AV.view ab 5 F0 :: AV.func 63 [] [] :: AV.top :: AV.top :: AV.top :: AV.top :: AV.top :: AV.int .i64 aC :: AV.int .i64 x.v0 :: tpA 10 ([])), [])
def sh_slices_IndexFunc___api_Still_api_Still__L0 (ab : Nat) (Y ac av ar aB : Nat → Nat) (aC : Int) (x : V_slices_IndexFunc___api_Still_api_Still__L0) : List AV × Heap := T_slices_IndexFunc___api_Still_api_Still__L0 ab Y ac av ar aB aC x (fun j0 => [AV.float (Y j0), AV.float (ac j0), AV.float (av j0), AV.float (ar j0), AV.float (aB j0)])
def step_slices_IndexFunc___api_Still_api_Still__L0 (ab : Nat) (Y ac av ar aB : Nat → Nat) (aC : Int) (x : V_slices_IndexFunc___api_Still_api_Still__L0) : V_slices_IndexFunc___api_Still_api_Still__L0 := V_slices_IndexFunc___api_Still_api_Still__L0.mk (IntKind.wrap .i64 (x.v0 + (1 : Int)))
def go_slices_IndexFunc___api_Still_api_Still__L0 (ab : Nat) (Y ac av ar aB : Nat → Nat) (aC : Int) (x : V_slices_IndexFunc___api_Still_api_Still__L0) : Bool := (bif (bif (!(ilt x.v0 aC)) then false else (s_solve_asked_1_0 (Y (Int.toNat x.v0)) (ac (Int.toNat x.v0)) (av (Int.toNat x.v0)) (ar (Int.toNat x.v0)) (aB (Int.toNat x.v0)))) then false else (bif (!(ilt x.v0 aC)) then false else true))
def ok_slices_IndexFunc___api_Still_api_Still__L0 (ab : Nat) (Y ac av ar aB : Nat → Nat) (aC : Int) (x : V_slices_IndexFunc___api_Still_api_Still__L0) : Bool := (mrgB (bif (!(ilt x.v0 aC)) then false else (s_solve_asked_1_0 (Y (Int.toNat x.v0)) (ac (Int.toNat x.v0)) (av (Int.toNat x.v0)) (ar (Int.toNat x.v0)) (aB (Int.toNat x.v0)))) ((ile (0 : Int) x.v0) && (Nat.blt (Int.toNat x.v0) ab)) (mrgB (!(ilt x.v0 aC)) true ((ile (0 : Int) x.v0) && (Nat.blt (Int.toNat x.v0) ab))))
def L_slices_IndexFunc___api_Still_api_Still__L0 (ab : Nat) (Y ac av ar aB : Nat → Nat) (aC : Int) (x : V_slices_IndexFunc___api_Still_api_Still__L0) : V_slices_IndexFunc___api_Still_api_Still__L0 := lastL (ok_slices_IndexFunc___api_Still_api_Still__L0 ab Y ac av ar aB aC) (go_slices_IndexFunc___api_Still_api_Still__L0 ab Y ac av ar aB aC) (step_slices_IndexFunc___api_Still_api_Still__L0 ab Y ac av ar aB aC) x
def E_slices_IndexFunc___api_Still_api_Still__L0 (ab : Nat) (Y ac av ar aB : Nat → Nat) (aC : Int) (x : V_slices_IndexFunc___api_Still_api_Still__L0) : Bool := endsL (ok_slices_IndexFunc___api_Still_api_Still__L0 ab Y ac av ar aB aC) (go_slices_IndexFunc___api_Still_api_Still__L0 ab Y ac av ar aB aC) (step_slices_IndexFunc___api_Still_api_Still__L0 ab Y ac av ar aB aC) x
theorem all_slices_IndexFunc___api_Still_api_Still__L0 (ab : Nat) (Y ac av ar aB : Nat → Nat) (aC : Int) (x : V_slices_IndexFunc___api_Still_api_Still__L0) : rnd Try.prog false menv57 [] [] 96 Ann.no (subC [1, 0, 1, 0, 0] (codeOf Try.f88)) 0 [] tpl_slices_IndexFunc___api_Still_api_Still__L0 cts_slices_IndexFunc___api_Still_api_Still__L0 (false :: false :: true :: true :: true :: true :: true :: false :: tpB 11 ([])) [] (sh_slices_IndexFunc___api_Still_api_Still__L0 ab Y ac av ar aB aC x) = (true, true, go_slices_IndexFunc___api_Still_api_Still__L0 ab Y ac av ar aB aC x, ok_slices_IndexFunc___api_Still_api_Still__L0 ab Y ac av ar aB aC x, true, sh_slices_IndexFunc___api_Still_api_Still__L0 ab Y ac av ar aB aC (step_slices_IndexFunc___api_Still_api_Still__L0 ab Y ac av ar aB aC x), true) := by kernel_rfl
def fam_slices_IndexFunc___api_Still_api_Still__L0 (ab : Nat) (Y ac av ar aB : Nat → Nat) (aC : Int) : Fam Try.prog false menv57 [] [] 96 0 Ann.no (subC [1, 0, 1, 0, 0] (codeOf Try.f88)) V_slices_IndexFunc___api_Still_api_Still__L0 where
  sh := sh_slices_IndexFunc___api_Still_api_Still__L0 ab Y ac av ar aB aC
  ok := ok_slices_IndexFunc___api_Still_api_Still__L0 ab Y ac av ar aB aC
  go := go_slices_IndexFunc___api_Still_api_Still__L0 ab Y ac av ar aB aC
  step := step_slices_IndexFunc___api_Still_api_Still__L0 ab Y ac av ar aB aC
  chg := (false :: false :: true :: true :: true :: true :: true :: false :: tpB 11 ([]))
  chgH := []
  tpl := tpl_slices_IndexFunc___api_Still_api_Still__L0
  cts := cts_slices_IndexFunc___api_Still_api_Still__L0
  keep := 0
  srcs := []
  ann := (annNo (subC [1, 0, 1, 0, 0] (codeOf Try.f88)))
  le := by kernel_rfl
  kept := by kernel_rfl
  keptB := by kernel_rfl
  all := all_slices_IndexFunc___api_Still_api_Still__L0 ab Y ac av ar aB aC
  len := fun x => by kernel_rfl
  head := fun x y => by kernel_rfl
  con := fun x y => by kernel_rfl
  conH := fun x y => by kernel_rfl
def F_slices_IndexFunc___api_Still_api_Still__L0 : St → Option Ch := fun s => cond (Nat.beq s.tm.length 19 && Nat.beq s.H.length 0) (tkCons (alL tpl_slices_IndexFunc___api_Still_api_Still__L0 s.tm) fun j t0 => tkView 5 j fun s0 f0 => tkCons t0 fun e t1 => tkFunc 63 e fun l2 l3 => tkNil l2 <| tkNil l3 <| tkTops 5 t1 fun t4 => tkCons t4 fun z t5 => tkI .i64 z fun s6 => tkCons t5 fun C t6 => tkI .i64 C fun s7 => tkTops 10 t6 fun t7 => tkNil t7 <| tkNil (alH cts_slices_IndexFunc___api_Still_api_Still__L0 (s.H ++ List.map phan phs_slices_IndexFunc___api_Still_api_Still__L0)) <| Fam.out (fam_slices_IndexFunc___api_Still_api_Still__L0 s0 (fL f0 0) (fL f0 1) (fL f0 2) (fL f0 3) (fL f0 4) s6) s (allB fun i => isNrm [Ck.f, Ck.f, Ck.f, Ck.f, Ck.f] (f0 i)) (V_slices_IndexFunc___api_Still_api_Still__L0.mk s7)) none
theorem F_slices_IndexFunc___api_Still_api_Still__L0_ok : ∀ s ch, F_slices_IndexFunc___api_Still_api_Still__L0 s = some ch → AllI s ch ∧ LoopSpec Try.prog false 0 (subC [1, 0, 1, 0, 0] (codeOf Try.f88)) s (sel ch) := by
  intro s ch h
  unfold F_slices_IndexFunc___api_Still_api_Still__L0 at h
  obtain ⟨hl, h0⟩ := cond_some h rfl
  clear h
  obtain ⟨hl, hb⟩ := and_beq2 hl
  obtain ⟨j, t0, e0, h1⟩ := tkCons_some h0
  obtain ⟨s0, f0, rfl, h2⟩ := tkView_some h1
  obtain ⟨e, t1, rfl, h3⟩ := tkCons_some h2
  obtain ⟨l2, l3, rfl, h4⟩ := tkFunc_some h3
  obtain ⟨rfl, h5⟩ := tkNil_some h4
  obtain ⟨rfl, h6⟩ := tkNil_some h5
  obtain ⟨t4, rfl, h7⟩ := tkTops_some h6
  obtain ⟨z, t5, rfl, h8⟩ := tkCons_some h7
  obtain ⟨s6, rfl, h9⟩ := tkI_some h8
  obtain ⟨C, t6, rfl, h10⟩ := tkCons_some h9
  obtain ⟨s7, rfl, h11⟩ := tkI_some h10
  obtain ⟨t7, rfl, h12⟩ := tkTops_some h11
  obtain ⟨rfl, h13⟩ := tkNil_some h12
  obtain ⟨eH, h14⟩ := tkNil_some h13
  refine Fam.spec menv57_ok (fam_slices_IndexFunc___api_Still_api_Still__L0 s0 (fL f0 0) (fL f0 1) (fL f0 2) (fL f0 3) (fL f0 4) s6) (phs := phs_slices_IndexFunc___api_Still_api_Still__L0) (hl.trans (by kernel_rfl)) (hb.trans (by kernel_rfl)) ?_ ?_ h14
  · rw [← hdr_alH cts_slices_IndexFunc___api_Still_api_Still__L0 (s.H ++ List.map phan phs_slices_IndexFunc___api_Still_api_Still__L0), eH]; kernel_rfl
  · intro hq
    have hq0 := hq
    have n0 := nrm_fun hq0
    show sh_slices_IndexFunc___api_Still_api_Still__L0 s0 (fL f0 0) (fL f0 1) (fL f0 2) (fL f0 3) (fL f0 4) s6 (V_slices_IndexFunc___api_Still_api_Still__L0.mk s7) = (alL tpl_slices_IndexFunc___api_Still_api_Still__L0 s.tm, alH cts_slices_IndexFunc___api_Still_api_Still__L0 (s.H ++ List.map phan phs_slices_IndexFunc___api_Still_api_Still__L0))
    rw [e0, eH]
    refine Eq.trans (show sh_slices_IndexFunc___api_Still_api_Still__L0 s0 (fL f0 0) (fL f0 1) (fL f0 2) (fL f0 3) (fL f0 4) s6 (V_slices_IndexFunc___api_Still_api_Still__L0.mk s7) = T_slices_IndexFunc___api_Still_api_Still__L0 s0 (fL f0 0) (fL f0 1) (fL f0 2) (fL f0 3) (fL f0 4) s6 (V_slices_IndexFunc___api_Still_api_Still__L0.mk s7) (fun i => mkN [Ck.f, Ck.f, Ck.f, Ck.f, Ck.f] (f0 i) 0) by kernel_rfl) ?_
    rw [n0]
    kernel_rfl
theorem ann_slices_IndexFunc___api_Still_api_Still_ : FnOk Try.prog false 0 Try.f88 (Ann.two Ann.no (Ann.two (Ann.two Ann.no (Ann.one (Ann.loop F_slices_IndexFunc___api_Still_api_Still__L0))) Ann.no)) := (fnOk_of (c := codeOf Try.f88) (by kernel_rfl) (annSeq (a := (subC [0] (codeOf Try.f88))) (b := (subC [1] (codeOf Try.f88))) (by kernel_rfl) (annNo (subC [0] (codeOf Try.f88))) (annSeq (a := (subC [1, 0] (codeOf Try.f88))) (b := (subC [1, 1] (codeOf Try.f88))) (by kernel_rfl) (annSeq (a := (subC [1, 0, 0] (codeOf Try.f88))) (b := (subC [1, 0, 1] (codeOf Try.f88))) (by kernel_rfl) (annNo (subC [1, 0, 0] (codeOf Try.f88))) (annBlock (a := (subC [1, 0, 1, 0] (codeOf Try.f88))) (i := 0) (by kernel_rfl) (annLoop (a := (subC [1, 0, 1, 0, 0] (codeOf Try.f88))) (by kernel_rfl) F_slices_IndexFunc___api_Still_api_Still__L0_ok))) (annNo (subC [1, 1] (codeOf Try.f88))))))
def s_slices_IndexFunc___api_Still_api_Still__0 (l : Nat) (aa ad ae af ag : Nat → Nat) : Int := let x0 := (L_slices_IndexFunc___api_Still_api_Still__L0 l aa ad ae af ag (Int.ofNat l) (V_slices_IndexFunc___api_Still_api_Still__L0.mk (0 : Int))).v0; let x1 := Int.toNat x0; (bif (bif (!(ilt x0 (Int.ofNat l))) then false else (s_solve_asked_1_0 (aa x1) (ad x1) (ae x1) (af x1) (ag x1))) then x0 else (-1 : Int))
def q_slices_IndexFunc___api_Still_api_Still_ (l : Nat) (aa ad ae af ag : Nat → Nat) : Bool := (let x0 := (allB fun _ => true) && (E_slices_IndexFunc___api_Still_api_Still__L0 l aa ad ae af ag (Int.ofNat l) (V_slices_IndexFunc___api_Still_api_Still__L0.mk (0 : Int))); let x1 := (L_slices_IndexFunc___api_Still_api_Still__L0 l aa ad ae af ag (Int.ofNat l) (V_slices_IndexFunc___api_Still_api_Still__L0.mk (0 : Int))).v0; let x2 := Int.toNat x1; (mrgB (bif (!(ilt x1 (Int.ofNat l))) then false else (s_solve_asked_1_0 (aa x2) (ad x2) (ae x2) (af x2) (ag x2))) x0 x0))
theorem e_slices_IndexFunc___api_Still_api_Still_ (l : Nat) (aa ad ae af ag : Nat → Nat) : outB (evFnM Try.prog false menv57 [] [] 96 (Ann.two Ann.no (Ann.two (Ann.two Ann.no (Ann.one (Ann.loop F_slices_IndexFunc___api_Still_api_Still__L0))) Ann.no)) Try.f88 [AV.view l 5 (fun i0 => [AV.float (aa i0), AV.float (ad i0), AV.float (ae i0), AV.float (af i0), AV.float (ag i0)]), AV.func 63 [] []] []) = some (q_slices_IndexFunc___api_Still_api_Still_ l aa ad ae af ag, AV.int .i64 (s_slices_IndexFunc___api_Still_api_Still__0 l aa ad ae af ag)) := by kernel_rfl
def o_slices_IndexFunc___api_Still_api_Still_ (l : Nat) (aa ad ae af ag : Nat → Nat) : Bool := let x0 := E_slices_IndexFunc___api_Still_api_Still__L0 l aa ad ae af ag (Int.ofNat l) (V_slices_IndexFunc___api_Still_api_Still__L0.mk (0 : Int)); let x1 := (L_slices_IndexFunc___api_Still_api_Still__L0 l aa ad ae af ag (Int.ofNat l) (V_slices_IndexFunc___api_Still_api_Still__L0.mk (0 : Int))).v0; let x2 := Int.toNat x1; (mrgB (bif (!(ilt x1 (Int.ofNat l))) then false else (s_solve_asked_1_0 (aa x2) (ad x2) (ae x2) (af x2) (ag x2))) x0 x0)
def S_slices_IndexFunc___api_Still_api_Still_ : List AV → Option (Ob × AV)
  | [AV.view l 5 W, AV.func 63 [] []] => some (Ob.both (Ob.bit (allB fun i => isNrm [Ck.f, Ck.f, Ck.f, Ck.f, Ck.f] (W i))) (Ob.bit (o_slices_IndexFunc___api_Still_api_Still_ l (fL W 0) (fL W 1) (fL W 2) (fL W 3) (fL W 4))), AV.int .i64 (s_slices_IndexFunc___api_Still_api_Still__0 l (fL W 0) (fL W 1) (fL W 2) (fL W 3) (fL W 4)))
  | _ => none
theorem ob_slices_IndexFunc___api_Still_api_Still_ (l : Nat) (aa ad ae af ag : Nat → Nat) (ho : o_slices_IndexFunc___api_Still_api_Still_ l aa ad ae af ag = true) : q_slices_IndexFunc___api_Still_api_Still_ l aa ad ae af ag = true := by
  unfold q_slices_IndexFunc___api_Still_api_Still_
  unfold o_slices_IndexFunc___api_Still_api_Still_ at ho
  simp only [allB_true, eqT_self, mrgB_self, Bool.true_and, Bool.and_true] at ho ⊢
  exact ho
theorem t_slices_IndexFunc___api_Still_api_Still_ : SOkM Try.prog false (88, fun args => match S_slices_IndexFunc___api_Still_api_Still_ args with | some (o, v) => some (o, v, []) | none => none) := SOkM.flat (N := 96) menv57_ok Try.func88 ann_slices_IndexFunc___api_Still_api_Still_ Try.call88 fun args o v h ho => by
  unfold S_slices_IndexFunc___api_Still_api_Still_ at h
  split at h
  · rename_i l W
    cases h
    rw [Ob.both_ok, Bool.and_eq_true] at ho
    obtain ⟨hn, ho2⟩ := ho
    have n0 := hn
    simp only [Ob.ok] at n0
    replace n0 := nrm_fun n0
    have this := show outB (evFnM Try.prog false menv57 [] [] 96 (Ann.two Ann.no (Ann.two (Ann.two Ann.no (Ann.one (Ann.loop F_slices_IndexFunc___api_Still_api_Still__L0))) Ann.no)) Try.f88 [AV.view l 5 (fun i => mkN [Ck.f, Ck.f, Ck.f, Ck.f, Ck.f] (W i) 0), AV.func 63 [] []] []) = _ from e_slices_IndexFunc___api_Still_api_Still_ l (fL W 0) (fL W 1) (fL W 2) (fL W 3) (fL W 4)
    rw [(ob_slices_IndexFunc___api_Still_api_Still_ l (fL W 0) (fL W 1) (fL W 2) (fL W 3) (fL W 4) ho2)] at this
    rw [n0] at this
    exact ⟨this, rfl⟩
  · cases h
def c_slices_IndexFunc___api_Still_api_Still_ : SFM := fun args => match S_slices_IndexFunc___api_Still_api_Still_ args with | some (o, v) => some (o, v, []) | none => none
theorem c_slices_IndexFunc___api_Still_api_Still__ok : SOkM Try.prog false (88, c_slices_IndexFunc___api_Still_api_Still_) := t_slices_IndexFunc___api_Still_api_Still_
def mss58 : List (FuncId × SFM) := (88, c_slices_IndexFunc___api_Still_api_Still_) :: mss57
def menv58 : EnvM := mkEnvM mxs mss58 mws1
theorem mss58_ok : All (SOkM Try.prog false) mss58 := All.cons c_slices_IndexFunc___api_Still_api_Still__ok mss57_ok
theorem menv58_ok : menv58.Ok Try.prog false := mkEnvM_ok mxs_ok mss58_ok mws1_ok
theorem ann_slices_ContainsFunc___api_Still_api_Still_ : FnOk Try.prog false 0 Try.f62 Ann.no := (fnNo _)
def s_slices_ContainsFunc___api_Still_api_Still__0 (l : Nat) (aa ad ae af ag : Nat → Nat) : Bool := (ile (0 : Int) (s_slices_IndexFunc___api_Still_api_Still__0 l aa ad ae af ag))
theorem e_slices_ContainsFunc___api_Still_api_Still_ (l : Nat) (aa ad ae af ag : Nat → Nat) : outB (evFnM Try.prog false menv58 [] [] 96 Ann.no Try.f62 [AV.view l 5 (fun i0 => [AV.float (aa i0), AV.float (ad i0), AV.float (ae i0), AV.float (af i0), AV.float (ag i0)]), AV.func 63 [] []] []) = some (((allB fun _ => true) && (o_slices_IndexFunc___api_Still_api_Still_ l aa ad ae af ag)), AV.bool (s_slices_ContainsFunc___api_Still_api_Still__0 l aa ad ae af ag)) := by kernel_rfl
def o_slices_ContainsFunc___api_Still_api_Still_ (l : Nat) (aa ad ae af ag : Nat → Nat) : Bool := (o_slices_IndexFunc___api_Still_api_Still_ l aa ad ae af ag)
def S_slices_ContainsFunc___api_Still_api_Still_ : List AV → Option (Ob × AV)
  | [AV.view l 5 W, AV.func 63 [] []] => some (Ob.both (Ob.bit (allB fun i => isNrm [Ck.f, Ck.f, Ck.f, Ck.f, Ck.f] (W i))) (Ob.bit (o_slices_ContainsFunc___api_Still_api_Still_ l (fL W 0) (fL W 1) (fL W 2) (fL W 3) (fL W 4))), AV.bool (s_slices_ContainsFunc___api_Still_api_Still__0 l (fL W 0) (fL W 1) (fL W 2) (fL W 3) (fL W 4)))
  | _ => none
theorem ob_slices_ContainsFunc___api_Still_api_Still_ (l : Nat) (aa ad ae af ag : Nat → Nat) (ho : o_slices_ContainsFunc___api_Still_api_Still_ l aa ad ae af ag = true) : ((allB fun _ => true) && (o_slices_IndexFunc___api_Still_api_Still_ l aa ad ae af ag)) = true := by
  unfold o_slices_ContainsFunc___api_Still_api_Still_ at ho
  simp only [allB_true, eqT_self, mrgB_self, Bool.true_and, Bool.and_true] at ho ⊢
  exact ho
theorem t_slices_ContainsFunc___api_Still_api_Still_ : SOkM Try.prog false (62, fun args => match S_slices_ContainsFunc___api_Still_api_Still_ args with | some (o, v) => some (o, v, []) | none => none) := SOkM.flat (N := 96) menv58_ok Try.func62 ann_slices_ContainsFunc___api_Still_api_Still_ Try.call62 fun args o v h ho => by
  unfold S_slices_ContainsFunc___api_Still_api_Still_ at h
  split at h
  · rename_i l W
    cases h
    rw [Ob.both_ok, Bool.and_eq_true] at ho
    obtain ⟨hn, ho2⟩ := ho
    have n0 := hn
    simp only [Ob.ok] at n0
    replace n0 := nrm_fun n0
    have this := show outB (evFnM Try.prog false menv58 [] [] 96 Ann.no Try.f62 [AV.view l 5 (fun i => mkN [Ck.f, Ck.f, Ck.f, Ck.f, Ck.f] (W i) 0), AV.func 63 [] []] []) = _ from e_slices_ContainsFunc___api_Still_api_Still_ l (fL W 0) (fL W 1) (fL W 2) (fL W 3) (fL W 4)
    rw [(ob_slices_ContainsFunc___api_Still_api_Still_ l (fL W 0) (fL W 1) (fL W 2) (fL W 3) (fL W 4) ho2)] at this
    rw [n0] at this
    exact ⟨this, rfl⟩
  · cases h
def c_slices_ContainsFunc___api_Still_api_Still_ : SFM := fun args => match S_slices_ContainsFunc___api_Still_api_Still_ args with | some (o, v) => some (o, v, []) | none => none
theorem c_slices_ContainsFunc___api_Still_api_Still__ok : SOkM Try.prog false (62, c_slices_ContainsFunc___api_Still_api_Still_) := t_slices_ContainsFunc___api_Still_api_Still_
def mss59 : List (FuncId × SFM) := (62, c_slices_ContainsFunc___api_Still_api_Still_) :: mss58
def menv59 : EnvM := mkEnvM mxs mss59 mws1
theorem mss59_ok : All (SOkM Try.prog false) mss59 := All.cons c_slices_ContainsFunc___api_Still_api_Still__ok mss58_ok
theorem menv59_ok : menv59.Ok Try.prog false := mkEnvM_ok mxs_ok mss59_ok mws1_ok
structure V_solve_asked_L0 where
  v0 : Int
def tpl_solve_asked_L0 : List AV := (AV.nul :: AV.nul :: tpA 14 (AV.nul :: AV.nul :: AV.nul :: tpA 16 ([])))
def cts_solve_asked_L0 : List CT := []
def phs_solve_asked_L0 : List Src := []
def T_solve_asked_L0 (ab : Nat) (Y ac : Nat → Int) (av ar aB aC aD aE aF aG aI aL : Nat → Nat) (aM : Nat → Int) (aN : Nat → Nat) (aO : Nat) (aQ aX bb ba bi : Nat → Nat) (bs : Int) (x : V_solve_asked_L0) (F0 F1 F2 : Nat → List AV) : List AV × Heap := ((AV.view ab 14 F0 :: AV.view aO 5 F1 :: tpA 14 (AV.view ab 14 F2 :: AV.int .i64 bs :: AV.int .i64 x.v0 :: tpA 16 ([]))), [])
def sh_solve_asked_L0 (ab : Nat) (Y ac : Nat → Int) (av ar aB aC aD aE aF aG aI aL : Nat → Nat) (aM : Nat → Int) (aN : Nat → Nat) (aO : Nat) (aQ aX bb ba bi : Nat → Nat) (bs : Int) (x : V_solve_asked_L0) : List AV × Heap := T_solve_asked_L0 ab Y ac av ar aB aC aD aE aF aG aI aL aM aN aO aQ aX bb ba bi bs x (fun j0 => [AV.int .i64 (Y j0), AV.int .i64 (ac j0), AV.float (av j0), AV.float (ar j0), AV.float (aB j0), AV.float (aC j0), AV.float (aD j0), AV.float (aE j0), AV.float (aF j0), AV.float (aG j0), AV.float (aI j0), AV.float (aL j0), AV.int .i64 (aM j0), AV.float (aN j0)]) (fun j0 => [AV.float (aQ j0), AV.float (aX j0), AV.float (bb j0), AV.float (ba j0), AV.float (bi j0)]) (fun j0 => [AV.int .i64 (Y j0), AV.int .i64 (ac j0), AV.float (av j0), AV.float (ar j0), AV.float (aB j0), AV.float (aC j0), AV.float (aD j0), AV.float (aE j0), AV.float (aF j0), AV.float (aG j0), AV.float (aI j0), AV.float (aL j0), AV.int .i64 (aM j0), AV.float (aN j0)])
def step_solve_asked_L0 (ab : Nat) (Y ac : Nat → Int) (av ar aB aC aD aE aF aG aI aL : Nat → Nat) (aM : Nat → Int) (aN : Nat → Nat) (aO : Nat) (bs : Int) (x : V_solve_asked_L0) : V_solve_asked_L0 := V_solve_asked_L0.mk (IntKind.wrap .i64 (x.v0 + (1 : Int)))
def go_solve_asked_L0 (ab : Nat) (Y ac : Nat → Int) (av ar aB aC aD aE aF aG aI aL : Nat → Nat) (aM : Nat → Int) (aN : Nat → Nat) (aO : Nat) (bs : Int) (x : V_solve_asked_L0) : Bool := let x0 := !(ilt x.v0 bs); (bif (bif x0 then false else (!(ieq (s_rows_Check_0 (Y (Int.toNat x.v0)) (ac (Int.toNat x.v0)) (av (Int.toNat x.v0)) (ar (Int.toNat x.v0)) (aB (Int.toNat x.v0)) (aC (Int.toNat x.v0)) (aD (Int.toNat x.v0)) (aE (Int.toNat x.v0)) (aF (Int.toNat x.v0)) (aG (Int.toNat x.v0)) (aI (Int.toNat x.v0)) (aL (Int.toNat x.v0)) (aM (Int.toNat x.v0)) (aN (Int.toNat x.v0)) (Int.ofNat ab) (Int.ofNat aO)) (0 : Int)))) then false else (bif x0 then false else true))
def ok_solve_asked_L0 (ab : Nat) (Y ac : Nat → Int) (av ar aB aC aD aE aF aG aI aL : Nat → Nat) (aM : Nat → Int) (aN : Nat → Nat) (aO : Nat) (bs : Int) (x : V_solve_asked_L0) : Bool := let x0 := (ile (0 : Int) x.v0) && (Nat.blt (Int.toNat x.v0) ab); let x1 := !(ilt x.v0 bs); (mrgB (bif x1 then false else (!(ieq (s_rows_Check_0 (Y (Int.toNat x.v0)) (ac (Int.toNat x.v0)) (av (Int.toNat x.v0)) (ar (Int.toNat x.v0)) (aB (Int.toNat x.v0)) (aC (Int.toNat x.v0)) (aD (Int.toNat x.v0)) (aE (Int.toNat x.v0)) (aF (Int.toNat x.v0)) (aG (Int.toNat x.v0)) (aI (Int.toNat x.v0)) (aL (Int.toNat x.v0)) (aM (Int.toNat x.v0)) (aN (Int.toNat x.v0)) (Int.ofNat ab) (Int.ofNat aO)) (0 : Int)))) x0 (mrgB x1 true x0))
def L_solve_asked_L0 (ab : Nat) (Y ac : Nat → Int) (av ar aB aC aD aE aF aG aI aL : Nat → Nat) (aM : Nat → Int) (aN : Nat → Nat) (aO : Nat) (bs : Int) (x : V_solve_asked_L0) : V_solve_asked_L0 := lastL (ok_solve_asked_L0 ab Y ac av ar aB aC aD aE aF aG aI aL aM aN aO bs) (go_solve_asked_L0 ab Y ac av ar aB aC aD aE aF aG aI aL aM aN aO bs) (step_solve_asked_L0 ab Y ac av ar aB aC aD aE aF aG aI aL aM aN aO bs) x
def E_solve_asked_L0 (ab : Nat) (Y ac : Nat → Int) (av ar aB aC aD aE aF aG aI aL : Nat → Nat) (aM : Nat → Int) (aN : Nat → Nat) (aO : Nat) (bs : Int) (x : V_solve_asked_L0) : Bool := endsL (ok_solve_asked_L0 ab Y ac av ar aB aC aD aE aF aG aI aL aM aN aO bs) (go_solve_asked_L0 ab Y ac av ar aB aC aD aE aF aG aI aL aM aN aO bs) (step_solve_asked_L0 ab Y ac av ar aB aC aD aE aF aG aI aL aM aN aO bs) x
theorem all_solve_asked_L0 (ab : Nat) (Y ac : Nat → Int) (av ar aB aC aD aE aF aG aI aL : Nat → Nat) (aM : Nat → Int) (aN : Nat → Nat) (aO : Nat) (aQ aX bb ba bi : Nat → Nat) (bs : Int) (x : V_solve_asked_L0) : rnd Try.prog false menv59 [] [] 96 Ann.no (subC [1, 1, 0, 1, 0, 0] (codeOf Try.f36)) 0 [] tpl_solve_asked_L0 cts_solve_asked_L0 (false :: false :: tpB 14 (false :: false :: tpB 17 ([]))) [] (sh_solve_asked_L0 ab Y ac av ar aB aC aD aE aF aG aI aL aM aN aO aQ aX bb ba bi bs x) = (true, true, go_solve_asked_L0 ab Y ac av ar aB aC aD aE aF aG aI aL aM aN aO bs x, ok_solve_asked_L0 ab Y ac av ar aB aC aD aE aF aG aI aL aM aN aO bs x, true, sh_solve_asked_L0 ab Y ac av ar aB aC aD aE aF aG aI aL aM aN aO aQ aX bb ba bi bs (step_solve_asked_L0 ab Y ac av ar aB aC aD aE aF aG aI aL aM aN aO bs x), true) := by kernel_rfl
def fam_solve_asked_L0 (ab : Nat) (Y ac : Nat → Int) (av ar aB aC aD aE aF aG aI aL : Nat → Nat) (aM : Nat → Int) (aN : Nat → Nat) (aO : Nat) (aQ aX bb ba bi : Nat → Nat) (bs : Int) : Fam Try.prog false menv59 [] [] 96 0 Ann.no (subC [1, 1, 0, 1, 0, 0] (codeOf Try.f36)) V_solve_asked_L0 where
  sh := sh_solve_asked_L0 ab Y ac av ar aB aC aD aE aF aG aI aL aM aN aO aQ aX bb ba bi bs
  ok := ok_solve_asked_L0 ab Y ac av ar aB aC aD aE aF aG aI aL aM aN aO bs
  go := go_solve_asked_L0 ab Y ac av ar aB aC aD aE aF aG aI aL aM aN aO bs
  step := step_solve_asked_L0 ab Y ac av ar aB aC aD aE aF aG aI aL aM aN aO bs
  chg := (false :: false :: tpB 14 (false :: false :: tpB 17 ([])))
  chgH := []
  tpl := tpl_solve_asked_L0
  cts := cts_solve_asked_L0
  keep := 0
  srcs := []
  ann := (annNo (subC [1, 1, 0, 1, 0, 0] (codeOf Try.f36)))
  le := by kernel_rfl
  kept := by kernel_rfl
  keptB := by kernel_rfl
  all := all_solve_asked_L0 ab Y ac av ar aB aC aD aE aF aG aI aL aM aN aO aQ aX bb ba bi bs
  len := fun x => by kernel_rfl
  head := fun x y => by kernel_rfl
  con := fun x y => by kernel_rfl
  conH := fun x y => by kernel_rfl
def F_solve_asked_L0 : St → Option Ch := fun s => cond (Nat.beq s.tm.length 35 && Nat.beq s.H.length 0) (tkCons (alL tpl_solve_asked_L0 s.tm) fun j t0 => tkView 14 j fun s0 f0 => tkCons t0 fun e t1 => tkView 5 e fun s15 f1 => tkTops 14 t1 fun t2 => tkCons t2 fun m t3 => tkView 14 m fun s21 f2 => tkCons t3 fun p t4 => tkI .i64 p fun s36 => tkCons t4 fun z t5 => tkI .i64 z fun s37 => tkTops 16 t5 fun t6 => tkNil t6 <| tkNil (alH cts_solve_asked_L0 (s.H ++ List.map phan phs_solve_asked_L0)) <| Fam.out (fam_solve_asked_L0 s0 (iL f0 0) (iL f0 1) (fL f0 2) (fL f0 3) (fL f0 4) (fL f0 5) (fL f0 6) (fL f0 7) (fL f0 8) (fL f0 9) (fL f0 10) (fL f0 11) (iL f0 12) (fL f0 13) s15 (fL f1 0) (fL f1 1) (fL f1 2) (fL f1 3) (fL f1 4) s36) s ((((allB fun i => isNrm [Ck.i .i64, Ck.i .i64, Ck.f, Ck.f, Ck.f, Ck.f, Ck.f, Ck.f, Ck.f, Ck.f, Ck.f, Ck.f, Ck.i .i64, Ck.f] (f0 i)) && (allB fun i => isNrm [Ck.f, Ck.f, Ck.f, Ck.f, Ck.f] (f1 i))) && (eqT f2 f0)) && (eqT s21 s0)) (V_solve_asked_L0.mk s37)) none
theorem F_solve_asked_L0_ok : ∀ s ch, F_solve_asked_L0 s = some ch → AllI s ch ∧ LoopSpec Try.prog false 0 (subC [1, 1, 0, 1, 0, 0] (codeOf Try.f36)) s (sel ch) := by
  intro s ch h
  unfold F_solve_asked_L0 at h
  obtain ⟨hl, h0⟩ := cond_some h rfl
  clear h
  obtain ⟨hl, hb⟩ := and_beq2 hl
  obtain ⟨j, t0, e0, h1⟩ := tkCons_some h0
  obtain ⟨s0, f0, rfl, h2⟩ := tkView_some h1
  obtain ⟨e, t1, rfl, h3⟩ := tkCons_some h2
  obtain ⟨s15, f1, rfl, h4⟩ := tkView_some h3
  obtain ⟨t2, rfl, h5⟩ := tkTops_some h4
  obtain ⟨m, t3, rfl, h6⟩ := tkCons_some h5
  obtain ⟨s21, f2, rfl, h7⟩ := tkView_some h6
  obtain ⟨p, t4, rfl, h8⟩ := tkCons_some h7
  obtain ⟨s36, rfl, h9⟩ := tkI_some h8
  obtain ⟨z, t5, rfl, h10⟩ := tkCons_some h9
  obtain ⟨s37, rfl, h11⟩ := tkI_some h10
  obtain ⟨t6, rfl, h12⟩ := tkTops_some h11
  obtain ⟨rfl, h13⟩ := tkNil_some h12
  obtain ⟨eH, h14⟩ := tkNil_some h13
  refine Fam.spec menv59_ok (fam_solve_asked_L0 s0 (iL f0 0) (iL f0 1) (fL f0 2) (fL f0 3) (fL f0 4) (fL f0 5) (fL f0 6) (fL f0 7) (fL f0 8) (fL f0 9) (fL f0 10) (fL f0 11) (iL f0 12) (fL f0 13) s15 (fL f1 0) (fL f1 1) (fL f1 2) (fL f1 3) (fL f1 4) s36) (phs := phs_solve_asked_L0) (hl.trans (by kernel_rfl)) (hb.trans (by kernel_rfl)) ?_ ?_ h14
  · rw [← hdr_alH cts_solve_asked_L0 (s.H ++ List.map phan phs_solve_asked_L0), eH]; kernel_rfl
  · intro hq
    simp only [Bool.and_eq_true] at hq
    obtain ⟨⟨⟨hq0, hq1⟩, hq2⟩, hq3⟩ := hq
    have n0 := nrm_fun hq0
    have n1 := nrm_fun hq1
    have hx := eqT_eq hq2; subst f2
    have hx := eqT_eq hq3; subst s21
    show sh_solve_asked_L0 s0 (iL f0 0) (iL f0 1) (fL f0 2) (fL f0 3) (fL f0 4) (fL f0 5) (fL f0 6) (fL f0 7) (fL f0 8) (fL f0 9) (fL f0 10) (fL f0 11) (iL f0 12) (fL f0 13) s15 (fL f1 0) (fL f1 1) (fL f1 2) (fL f1 3) (fL f1 4) s36 (V_solve_asked_L0.mk s37) = (alL tpl_solve_asked_L0 s.tm, alH cts_solve_asked_L0 (s.H ++ List.map phan phs_solve_asked_L0))
    rw [e0, eH]
    refine Eq.trans (show sh_solve_asked_L0 s0 (iL f0 0) (iL f0 1) (fL f0 2) (fL f0 3) (fL f0 4) (fL f0 5) (fL f0 6) (fL f0 7) (fL f0 8) (fL f0 9) (fL f0 10) (fL f0 11) (iL f0 12) (fL f0 13) s15 (fL f1 0) (fL f1 1) (fL f1 2) (fL f1 3) (fL f1 4) s36 (V_solve_asked_L0.mk s37) = T_solve_asked_L0 s0 (iL f0 0) (iL f0 1) (fL f0 2) (fL f0 3) (fL f0 4) (fL f0 5) (fL f0 6) (fL f0 7) (fL f0 8) (fL f0 9) (fL f0 10) (fL f0 11) (iL f0 12) (fL f0 13) s15 (fL f1 0) (fL f1 1) (fL f1 2) (fL f1 3) (fL f1 4) s36 (V_solve_asked_L0.mk s37) (fun i => mkN [Ck.i .i64, Ck.i .i64, Ck.f, Ck.f, Ck.f, Ck.f, Ck.f, Ck.f, Ck.f, Ck.f, Ck.f, Ck.f, Ck.i .i64, Ck.f] (f0 i) 0) (fun i => mkN [Ck.f, Ck.f, Ck.f, Ck.f, Ck.f] (f1 i) 0) (fun i => mkN [Ck.i .i64, Ck.i .i64, Ck.f, Ck.f, Ck.f, Ck.f, Ck.f, Ck.f, Ck.f, Ck.f, Ck.f, Ck.f, Ck.i .i64, Ck.f] (f0 i) 0) by kernel_rfl) ?_
    rw [n0, n1]
    kernel_rfl
theorem ann_solve_asked : FnOk Try.prog false 0 Try.f36 (Ann.two Ann.no (Ann.two Ann.no (Ann.two (Ann.two Ann.no (Ann.one (Ann.loop F_solve_asked_L0))) Ann.no))) := (fnOk_of (c := codeOf Try.f36) (by kernel_rfl) (annSeq (a := (subC [0] (codeOf Try.f36))) (b := (subC [1] (codeOf Try.f36))) (by kernel_rfl) (annNo (subC [0] (codeOf Try.f36))) (annSeq (a := (subC [1, 0] (codeOf Try.f36))) (b := (subC [1, 1] (codeOf Try.f36))) (by kernel_rfl) (annNo (subC [1, 0] (codeOf Try.f36))) (annSeq (a := (subC [1, 1, 0] (codeOf Try.f36))) (b := (subC [1, 1, 1] (codeOf Try.f36))) (by kernel_rfl) (annSeq (a := (subC [1, 1, 0, 0] (codeOf Try.f36))) (b := (subC [1, 1, 0, 1] (codeOf Try.f36))) (by kernel_rfl) (annNo (subC [1, 1, 0, 0] (codeOf Try.f36))) (annBlock (a := (subC [1, 1, 0, 1, 0] (codeOf Try.f36))) (i := 0) (by kernel_rfl) (annLoop (a := (subC [1, 1, 0, 1, 0, 0] (codeOf Try.f36))) (by kernel_rfl) F_solve_asked_L0_ok))) (annNo (subC [1, 1, 1] (codeOf Try.f36)))))))
def s_solve_asked_0 (l : Nat) (aa ad : Nat → Int) (ae af ag ah ai aj ak al am an : Nat → Nat) (ao : Nat → Int) (ap : Nat → Nat) (X : Nat) (au aw ax ay az : Nat → Nat) : Int := let x0 := (L_solve_asked_L0 l aa ad ae af ag ah ai aj ak al am an ao ap X (Int.ofNat l) (V_solve_asked_L0.mk (0 : Int))).v0; let x1 := Int.toNat x0; let x2 := s_rows_Check_0 (aa x1) (ad x1) (ae x1) (af x1) (ag x1) (ah x1) (ai x1) (aj x1) (ak x1) (al x1) (am x1) (an x1) (ao x1) (ap x1) (Int.ofNat l) (Int.ofNat X); (bif ((ilt (1048576 : Int) (Int.ofNat l)) || (ilt (1024 : Int) (Int.ofNat X))) then (4 : Int) else (bif (bif (!(ilt x0 (Int.ofNat l))) then false else (!(ieq x2 (0 : Int)))) then x2 else (bif (!(s_slices_ContainsFunc___api_Still_api_Still__0 X au aw ax ay az)) then (0 : Int) else (200 : Int))))
def q_solve_asked (l : Nat) (aa ad : Nat → Int) (ae af ag ah ai aj ak al am an : Nat → Nat) (ao : Nat → Int) (ap : Nat → Nat) (X : Nat) (au aw ax ay az : Nat → Nat) : Bool := (let x0 := ((((allB fun _ => true) && (allB fun _ => true)) && (eqT (fun i => [AV.int .i64 (aa i), AV.int .i64 (ad i), AV.float (ae i), AV.float (af i), AV.float (ag i), AV.float (ah i), AV.float (ai i), AV.float (aj i), AV.float (ak i), AV.float (al i), AV.float (am i), AV.float (an i), AV.int .i64 (ao i), AV.float (ap i)]) (fun i => [AV.int .i64 (aa i), AV.int .i64 (ad i), AV.float (ae i), AV.float (af i), AV.float (ag i), AV.float (ah i), AV.float (ai i), AV.float (aj i), AV.float (ak i), AV.float (al i), AV.float (am i), AV.float (an i), AV.int .i64 (ao i), AV.float (ap i)]))) && (eqT l l)) && (E_solve_asked_L0 l aa ad ae af ag ah ai aj ak al am an ao ap X (Int.ofNat l) (V_solve_asked_L0.mk (0 : Int))); let x1 := ((allB fun _ => true) && (o_slices_ContainsFunc___api_Still_api_Still_ X au aw ax ay az)) && x0; let x2 := (L_solve_asked_L0 l aa ad ae af ag ah ai aj ak al am an ao ap X (Int.ofNat l) (V_solve_asked_L0.mk (0 : Int))).v0; let x3 := Int.toNat x2; (mrgB ((ilt (1048576 : Int) (Int.ofNat l)) || (ilt (1024 : Int) (Int.ofNat X))) true (mrgB (bif (!(ilt x2 (Int.ofNat l))) then false else (!(ieq (s_rows_Check_0 (aa x3) (ad x3) (ae x3) (af x3) (ag x3) (ah x3) (ai x3) (aj x3) (ak x3) (al x3) (am x3) (an x3) (ao x3) (ap x3) (Int.ofNat l) (Int.ofNat X)) (0 : Int)))) x0 (mrgB (!(s_slices_ContainsFunc___api_Still_api_Still__0 X au aw ax ay az)) x1 x1))))
theorem e_solve_asked (l : Nat) (aa ad : Nat → Int) (ae af ag ah ai aj ak al am an : Nat → Nat) (ao : Nat → Int) (ap : Nat → Nat) (X : Nat) (au aw ax ay az : Nat → Nat) : outB (evFnM Try.prog false menv59 [] [] 96 (Ann.two Ann.no (Ann.two Ann.no (Ann.two (Ann.two Ann.no (Ann.one (Ann.loop F_solve_asked_L0))) Ann.no))) Try.f36 [AV.view l 14 (fun i0 => [AV.int .i64 (aa i0), AV.int .i64 (ad i0), AV.float (ae i0), AV.float (af i0), AV.float (ag i0), AV.float (ah i0), AV.float (ai i0), AV.float (aj i0), AV.float (ak i0), AV.float (al i0), AV.float (am i0), AV.float (an i0), AV.int .i64 (ao i0), AV.float (ap i0)]), AV.view X 5 (fun i0 => [AV.float (au i0), AV.float (aw i0), AV.float (ax i0), AV.float (ay i0), AV.float (az i0)])] []) = some (q_solve_asked l aa ad ae af ag ah ai aj ak al am an ao ap X au aw ax ay az, AV.int .i64 (s_solve_asked_0 l aa ad ae af ag ah ai aj ak al am an ao ap X au aw ax ay az)) := by kernel_rfl
def o_solve_asked (l : Nat) (aa ad : Nat → Int) (ae af ag ah ai aj ak al am an : Nat → Nat) (ao : Nat → Int) (ap : Nat → Nat) (X : Nat) (au aw ax ay az : Nat → Nat) : Bool := let x0 := E_solve_asked_L0 l aa ad ae af ag ah ai aj ak al am an ao ap X (Int.ofNat l) (V_solve_asked_L0.mk (0 : Int)); let x1 := (o_slices_ContainsFunc___api_Still_api_Still_ X au aw ax ay az) && x0; let x2 := (L_solve_asked_L0 l aa ad ae af ag ah ai aj ak al am an ao ap X (Int.ofNat l) (V_solve_asked_L0.mk (0 : Int))).v0; let x3 := Int.toNat x2; (mrgB ((ilt (1048576 : Int) (Int.ofNat l)) || (ilt (1024 : Int) (Int.ofNat X))) true (mrgB (bif (!(ilt x2 (Int.ofNat l))) then false else (!(ieq (s_rows_Check_0 (aa x3) (ad x3) (ae x3) (af x3) (ag x3) (ah x3) (ai x3) (aj x3) (ak x3) (al x3) (am x3) (an x3) (ao x3) (ap x3) (Int.ofNat l) (Int.ofNat X)) (0 : Int)))) x0 (mrgB (!(s_slices_ContainsFunc___api_Still_api_Still__0 X au aw ax ay az)) x1 x1)))
def S_solve_asked : List AV → Option (Ob × AV)
  | [AV.view l 14 W, AV.view X 5 aA] => some (Ob.both (Ob.bit ((allB fun i => isNrm [Ck.i .i64, Ck.i .i64, Ck.f, Ck.f, Ck.f, Ck.f, Ck.f, Ck.f, Ck.f, Ck.f, Ck.f, Ck.f, Ck.i .i64, Ck.f] (W i)) && (allB fun i => isNrm [Ck.f, Ck.f, Ck.f, Ck.f, Ck.f] (aA i)))) (Ob.bit (o_solve_asked l (iL W 0) (iL W 1) (fL W 2) (fL W 3) (fL W 4) (fL W 5) (fL W 6) (fL W 7) (fL W 8) (fL W 9) (fL W 10) (fL W 11) (iL W 12) (fL W 13) X (fL aA 0) (fL aA 1) (fL aA 2) (fL aA 3) (fL aA 4))), AV.int .i64 (s_solve_asked_0 l (iL W 0) (iL W 1) (fL W 2) (fL W 3) (fL W 4) (fL W 5) (fL W 6) (fL W 7) (fL W 8) (fL W 9) (fL W 10) (fL W 11) (iL W 12) (fL W 13) X (fL aA 0) (fL aA 1) (fL aA 2) (fL aA 3) (fL aA 4)))
  | _ => none
theorem ob_solve_asked (l : Nat) (aa ad : Nat → Int) (ae af ag ah ai aj ak al am an : Nat → Nat) (ao : Nat → Int) (ap : Nat → Nat) (X : Nat) (au aw ax ay az : Nat → Nat) (ho : o_solve_asked l aa ad ae af ag ah ai aj ak al am an ao ap X au aw ax ay az = true) : q_solve_asked l aa ad ae af ag ah ai aj ak al am an ao ap X au aw ax ay az = true := by
  unfold q_solve_asked
  unfold o_solve_asked at ho
  simp only [allB_true, eqT_self, mrgB_self, Bool.true_and, Bool.and_true] at ho ⊢
  exact ho
theorem t_solve_asked : SOkM Try.prog false (36, fun args => match S_solve_asked args with | some (o, v) => some (o, v, []) | none => none) := SOkM.flat (N := 96) menv59_ok Try.func36 ann_solve_asked Try.call36 fun args o v h ho => by
  unfold S_solve_asked at h
  split at h
  · rename_i l W X aA
    cases h
    rw [Ob.both_ok, Bool.and_eq_true] at ho
    obtain ⟨hn, ho2⟩ := ho
    simp only [Ob.ok, Bool.and_eq_true] at hn
    obtain ⟨n0, n1⟩ := hn
    replace n0 := nrm_fun n0
    replace n1 := nrm_fun n1
    have this := show outB (evFnM Try.prog false menv59 [] [] 96 (Ann.two Ann.no (Ann.two Ann.no (Ann.two (Ann.two Ann.no (Ann.one (Ann.loop F_solve_asked_L0))) Ann.no))) Try.f36 [AV.view l 14 (fun i => mkN [Ck.i .i64, Ck.i .i64, Ck.f, Ck.f, Ck.f, Ck.f, Ck.f, Ck.f, Ck.f, Ck.f, Ck.f, Ck.f, Ck.i .i64, Ck.f] (W i) 0), AV.view X 5 (fun i => mkN [Ck.f, Ck.f, Ck.f, Ck.f, Ck.f] (aA i) 0)] []) = _ from e_solve_asked l (iL W 0) (iL W 1) (fL W 2) (fL W 3) (fL W 4) (fL W 5) (fL W 6) (fL W 7) (fL W 8) (fL W 9) (fL W 10) (fL W 11) (iL W 12) (fL W 13) X (fL aA 0) (fL aA 1) (fL aA 2) (fL aA 3) (fL aA 4)
    rw [(ob_solve_asked l (iL W 0) (iL W 1) (fL W 2) (fL W 3) (fL W 4) (fL W 5) (fL W 6) (fL W 7) (fL W 8) (fL W 9) (fL W 10) (fL W 11) (iL W 12) (fL W 13) X (fL aA 0) (fL aA 1) (fL aA 2) (fL aA 3) (fL aA 4) ho2)] at this
    rw [n0, n1] at this
    exact ⟨this, rfl⟩
  · cases h
def c_solve_asked : SFM := fun args => match S_solve_asked args with | some (o, v) => some (o, v, []) | none => none
theorem c_solve_asked_ok : SOkM Try.prog false (36, c_solve_asked) := t_solve_asked
def mss60 : List (FuncId × SFM) := (36, c_solve_asked) :: mss59
def menv60 : EnvM := mkEnvM mxs mss60 mws1
theorem mss60_ok : All (SOkM Try.prog false) mss60 := All.cons c_solve_asked_ok mss59_ok
theorem menv60_ok : menv60.Ok Try.prog false := mkEnvM_ok mxs_ok mss60_ok mws1_ok
theorem ann_slices_IndexFunc___float64_float64__v1 : FnOk Try.prog false 0 Try.f105 Ann.no := (fnNo _)
def s_slices_IndexFunc___float64_float64__v1_0 (aa : Nat → Nat) : Int := (bif ((s_rows_finite_1_0 (aa 0)) || (s_rows_finite_1_0 (aa 1))) then (bif (s_rows_finite_1_0 (aa 0)) then (0 : Int) else (1 : Int)) else (-1 : Int))
theorem e_slices_IndexFunc___float64_float64__v1 (aa : Nat → Nat) : outB (evFnM Try.prog false menv60 [9] [] 96 Ann.no Try.f105 [AV.view 2 1 (fun i0 => [AV.float (aa i0)]), AV.func 102 [] []] []) = some (true, AV.int .i64 (s_slices_IndexFunc___float64_float64__v1_0 aa)) := by kernel_rfl
def S_slices_IndexFunc___float64_float64__v1 : List AV → Option (Ob × AV)
  | [AV.view 2 1 W, AV.func 102 [] []] => some (Ob.bit (allB fun i => isNrm [Ck.f] (W i)), AV.int .i64 (s_slices_IndexFunc___float64_float64__v1_0 (fL W 0)))
  | _ => none
theorem t_slices_IndexFunc___float64_float64__v1 : SOkM Try.prog false (105, fun args => match S_slices_IndexFunc___float64_float64__v1 args with | some (o, v) => some (o, v, []) | none => none) := SOkM.flat (N := 96) menv60_ok Try.func105 ann_slices_IndexFunc___float64_float64__v1 Try.call105 fun args o v h ho => by
  unfold S_slices_IndexFunc___float64_float64__v1 at h
  split at h
  · rename_i W
    cases h
    have hn := ho
    have n0 := hn
    simp only [Ob.ok] at n0
    replace n0 := nrm_fun n0
    have this := show outB (evFnM Try.prog false menv60 [9] [] 96 Ann.no Try.f105 [AV.view 2 1 (fun i => mkN [Ck.f] (W i) 0), AV.func 102 [] []] []) = _ from e_slices_IndexFunc___float64_float64__v1 (fL W 0)
    rw [n0] at this
    exact ⟨this, rfl⟩
  · cases h
def c_slices_IndexFunc___float64_float64__v1 : SFM := altS (fun args => match S_slices_IndexFunc___float64_float64__v1 args with | some (o, v) => some (o, v, []) | none => none) (c_slices_IndexFunc___float64_float64_)
theorem c_slices_IndexFunc___float64_float64__v1_ok : SOkM Try.prog false (105, c_slices_IndexFunc___float64_float64__v1) := (SOkM.alt t_slices_IndexFunc___float64_float64__v1 c_slices_IndexFunc___float64_float64__ok)
def mss61 : List (FuncId × SFM) := (105, c_slices_IndexFunc___float64_float64__v1) :: mss60
def menv61 : EnvM := mkEnvM mxs mss61 mws1
theorem mss61_ok : All (SOkM Try.prog false) mss61 := All.cons c_slices_IndexFunc___float64_float64__v1_ok mss60_ok
theorem menv61_ok : menv61.Ok Try.prog false := mkEnvM_ok mxs_ok mss61_ok mws1_ok
theorem ann_slices_ContainsFunc___float64_float64__v1 : FnOk Try.prog false 0 Try.f101 Ann.no := (fnNo _)
def s_slices_ContainsFunc___float64_float64__v1_0 (aa : Nat → Nat) : Bool := (ile (0 : Int) (s_slices_IndexFunc___float64_float64__v1_0 aa))
theorem e_slices_ContainsFunc___float64_float64__v1 (aa : Nat → Nat) : outB (evFnM Try.prog false menv61 [] [] 96 Ann.no Try.f101 [AV.view 2 1 (fun i0 => [AV.float (aa i0)]), AV.func 102 [] []] []) = some ((allB fun _ => true), AV.bool (s_slices_ContainsFunc___float64_float64__v1_0 aa)) := by kernel_rfl
def S_slices_ContainsFunc___float64_float64__v1 : List AV → Option (Ob × AV)
  | [AV.view 2 1 W, AV.func 102 [] []] => some (Ob.bit (allB fun i => isNrm [Ck.f] (W i)), AV.bool (s_slices_ContainsFunc___float64_float64__v1_0 (fL W 0)))
  | _ => none
theorem ob_slices_ContainsFunc___float64_float64__v1 (aa : Nat → Nat) : (allB fun _ => true) = true := by (try simp only [allB_true, eqT_self, mrgB_self, Bool.true_and, Bool.and_true]) <;> first | rfl | simp
theorem t_slices_ContainsFunc___float64_float64__v1 : SOkM Try.prog false (101, fun args => match S_slices_ContainsFunc___float64_float64__v1 args with | some (o, v) => some (o, v, []) | none => none) := SOkM.flat (N := 96) menv61_ok Try.func101 ann_slices_ContainsFunc___float64_float64__v1 Try.call101 fun args o v h ho => by
  unfold S_slices_ContainsFunc___float64_float64__v1 at h
  split at h
  · rename_i W
    cases h
    have hn := ho
    have n0 := hn
    simp only [Ob.ok] at n0
    replace n0 := nrm_fun n0
    have this := show outB (evFnM Try.prog false menv61 [] [] 96 Ann.no Try.f101 [AV.view 2 1 (fun i => mkN [Ck.f] (W i) 0), AV.func 102 [] []] []) = _ from e_slices_ContainsFunc___float64_float64__v1 (fL W 0)
    rw [(ob_slices_ContainsFunc___float64_float64__v1 (fL W 0))] at this
    rw [n0] at this
    exact ⟨this, rfl⟩
  · cases h
def c_slices_ContainsFunc___float64_float64__v1 : SFM := altS (fun args => match S_slices_ContainsFunc___float64_float64__v1 args with | some (o, v) => some (o, v, []) | none => none) (c_slices_ContainsFunc___float64_float64_)
theorem c_slices_ContainsFunc___float64_float64__v1_ok : SOkM Try.prog false (101, c_slices_ContainsFunc___float64_float64__v1) := (SOkM.alt t_slices_ContainsFunc___float64_float64__v1 c_slices_ContainsFunc___float64_float64__ok)
def mss62 : List (FuncId × SFM) := (101, c_slices_ContainsFunc___float64_float64__v1) :: mss61
def menv62 : EnvM := mkEnvM mxs mss62 mws1
theorem mss62_ok : All (SOkM Try.prog false) mss62 := All.cons c_slices_ContainsFunc___float64_float64__v1_ok mss61_ok
theorem menv62_ok : menv62.Ok Try.prog false := mkEnvM_ok mxs_ok mss62_ok mws1_ok
theorem ann_rows_finite_v1 : FnOk Try.prog false 0 Try.f91 Ann.no := (fnNo _)
def s_rows_finite_v1_0 (aa : Nat → Nat) : Bool := (!(s_slices_ContainsFunc___float64_float64__v1_0 aa))
theorem e_rows_finite_v1 (aa : Nat → Nat) : outB (evFnM Try.prog false menv62 [] [] 96 Ann.no Try.f91 [AV.view 2 1 (fun i0 => [AV.float (aa i0)])] []) = some ((allB fun _ => true), AV.bool (s_rows_finite_v1_0 aa)) := by kernel_rfl
def S_rows_finite_v1 : List AV → Option (Ob × AV)
  | [AV.view 2 1 W] => some (Ob.bit (allB fun i => isNrm [Ck.f] (W i)), AV.bool (s_rows_finite_v1_0 (fL W 0)))
  | _ => none
theorem ob_rows_finite_v1 (aa : Nat → Nat) : (allB fun _ => true) = true := by (try simp only [allB_true, eqT_self, mrgB_self, Bool.true_and, Bool.and_true]) <;> first | rfl | simp
theorem t_rows_finite_v1 : SOkM Try.prog false (91, fun args => match S_rows_finite_v1 args with | some (o, v) => some (o, v, []) | none => none) := SOkM.flat (N := 96) menv62_ok Try.func91 ann_rows_finite_v1 Try.call91 fun args o v h ho => by
  unfold S_rows_finite_v1 at h
  split at h
  · rename_i W
    cases h
    have hn := ho
    have n0 := hn
    simp only [Ob.ok] at n0
    replace n0 := nrm_fun n0
    have this := show outB (evFnM Try.prog false menv62 [] [] 96 Ann.no Try.f91 [AV.view 2 1 (fun i => mkN [Ck.f] (W i) 0)] []) = _ from e_rows_finite_v1 (fL W 0)
    rw [(ob_rows_finite_v1 (fL W 0))] at this
    rw [n0] at this
    exact ⟨this, rfl⟩
  · cases h
def c_rows_finite_v1 : SFM := altS (fun args => match S_rows_finite_v1 args with | some (o, v) => some (o, v, []) | none => none) (c_rows_finite)
theorem c_rows_finite_v1_ok : SOkM Try.prog false (91, c_rows_finite_v1) := (SOkM.alt t_rows_finite_v1 c_rows_finite_ok)
def mss63 : List (FuncId × SFM) := (91, c_rows_finite_v1) :: mss62
def menv63 : EnvM := mkEnvM mxs mss63 mws1
theorem mss63_ok : All (SOkM Try.prog false) mss63 := All.cons c_rows_finite_v1_ok mss62_ok
theorem menv63_ok : menv63.Ok Try.prog false := mkEnvM_ok mxs_ok mss63_ok mws1_ok
theorem ann_rows_rests : FnOk Try.prog false 0 Try.f86 Ann.no := (fnNo _)
def s_rows_rests_0 (j e k m p : Nat) : Bool := (((s_rows_finite_v1_0 (fun j0 => (bif (Nat.beq j0 0) then j else e))) && (fle 0 j)) && (fle 0 e))
theorem e_rows_rests (j e k m p : Nat) : outB (evFnM Try.prog false menv63 [] [] 96 Ann.no Try.f86 [AV.agg [AV.float j, AV.float e, AV.float k, AV.float m, AV.float p]] []) = some ((mrgB ((s_rows_finite_v1_0 (fun j0 => (bif (Nat.beq j0 0) then j else e))) && (fle 0 j)) (mrgB (s_rows_finite_v1_0 (fun j0 => (bif (Nat.beq j0 0) then j else e))) (allB fun _ => true) (allB fun _ => true)) (mrgB (s_rows_finite_v1_0 (fun j0 => (bif (Nat.beq j0 0) then j else e))) (allB fun _ => true) (allB fun _ => true))), AV.bool (s_rows_rests_0 j e k m p)) := by kernel_rfl
def S_rows_rests : List AV → Option (Ob × AV)
  | [AV.agg [AV.float j, AV.float e, AV.float k, AV.float m, AV.float p]] => some (Ob.tt, AV.bool (s_rows_rests_0 j e k m p))
  | _ => none
theorem ob_rows_rests (j e k m p : Nat) : (mrgB ((s_rows_finite_v1_0 (fun j0 => (bif (Nat.beq j0 0) then j else e))) && (fle 0 j)) (mrgB (s_rows_finite_v1_0 (fun j0 => (bif (Nat.beq j0 0) then j else e))) (allB fun _ => true) (allB fun _ => true)) (mrgB (s_rows_finite_v1_0 (fun j0 => (bif (Nat.beq j0 0) then j else e))) (allB fun _ => true) (allB fun _ => true))) = true := by (try simp only [allB_true, eqT_self, mrgB_self, Bool.true_and, Bool.and_true]) <;> first | rfl | simp
theorem t_rows_rests : SOkM Try.prog false (86, fun args => match S_rows_rests args with | some (o, v) => some (o, v, []) | none => none) := SOkM.flat (N := 96) menv63_ok Try.func86 ann_rows_rests Try.call86 fun args o v h ho => by
  unfold S_rows_rests at h
  split at h
  · rename_i j e k m p
    cases h
    have ho2 := ho
    have this := show outB (evFnM Try.prog false menv63 [] [] 96 Ann.no Try.f86 [AV.agg [AV.float j, AV.float e, AV.float k, AV.float m, AV.float p]] []) = _ from e_rows_rests j e k m p
    rw [(ob_rows_rests j e k m p)] at this
    exact ⟨this, rfl⟩
  · cases h
def c_rows_rests : SFM := fun args => match S_rows_rests args with | some (o, v) => some (o, v, []) | none => none
theorem c_rows_rests_ok : SOkM Try.prog false (86, c_rows_rests) := t_rows_rests
def mss64 : List (FuncId × SFM) := (86, c_rows_rests) :: mss63
def menv64 : EnvM := mkEnvM mxs mss64 mws1
theorem mss64_ok : All (SOkM Try.prog false) mss64 := All.cons c_rows_rests_ok mss63_ok
theorem menv64_ok : menv64.Ok Try.prog false := mkEnvM_ok mxs_ok mss64_ok mws1_ok
end Go.Proofs.Ytofpjfohijljgaa
end
