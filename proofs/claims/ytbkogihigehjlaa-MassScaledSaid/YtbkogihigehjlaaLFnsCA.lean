/- The contracts of the functions that these laws reach, loops too, printed by a program of this work: each says what the Go function gives, up to which NaN. -/
import Derived.Test.YtbkogihigehjlaaProg
import Derived.KernelRfl
import Derived.Test.YtbkogihigehjlaaLExact
set_option linter.unusedVariables false
set_option linter.unusedSimpArgs false
set_option maxRecDepth 100000
set_option maxHeartbeats 4000000
noncomputable section
namespace Go.Proofs.Ytbkogihigehjlaa
open Go.Lst
open Go.Sim (fadd fsub fmul fdiv fneg feq flt fle fsqrt cn nanb fabs fcps fsame feq_self cps_cn fabs_cn)
def fL (f : Nat → List AV) (k i : Nat) : Nat := flO (atL (f i) k)
def iL (f : Nat → List AV) (k i : Nat) : Int := inO (atL (f i) k)
def tpA : Nat → List AV → List AV
  | 0, l => l
  | n + 1, l => AV.top :: tpA n l
def tpB : Nat → List Bool → List Bool
  | 0, l => l
  | n + 1, l => true :: tpB n l
def xxs : List (FuncId × XFM) := [(82, xFM true .sqrt), (62, xFM true .frombits), (63, xFM true .tobits)]
def xenv : EnvM := mkEnvM xxs [] []
theorem xxs_ok : All (XOkM Try.prog true) xxs := All.cons (xM_ok (ex := true) (f := 82) .sqrt fun args w => run_callFunc_extern Try.func82 (by kernel_rfl) (by kernel_rfl) (by kernel_rfl) (by kernel_rfl) args w)
  (All.cons (xM_ok (ex := true) (f := 62) .frombits fun args w => run_callFunc_extern Try.func62 (by kernel_rfl) (by kernel_rfl) (by kernel_rfl) (by kernel_rfl) args w)
  (All.cons (xM_ok (ex := true) (f := 63) .tobits fun args w => run_callFunc_extern Try.func63 (by kernel_rfl) (by kernel_rfl) (by kernel_rfl) (by kernel_rfl) args w)
  (All.nil)))
theorem xenv_ok : xenv.Ok Try.prog true := mkEnvM_ok xxs_ok All.nil All.nil
def mxs : List (FuncId × XFM) := [(82, xFM false .sqrt), (62, xFM false .frombits), (63, xFM false .tobits)]
theorem mxs_ok : All (XOkM Try.prog false) mxs := All.cons (xM_ok (ex := false) (f := 82) .sqrt fun args w => run_callFunc_extern Try.func82 (by kernel_rfl) (by kernel_rfl) (by kernel_rfl) (by kernel_rfl) args w)
  (All.cons (xM_ok (ex := false) (f := 62) .frombits fun args w => run_callFunc_extern Try.func62 (by kernel_rfl) (by kernel_rfl) (by kernel_rfl) (by kernel_rfl) args w)
  (All.cons (xM_ok (ex := false) (f := 63) .tobits fun args w => run_callFunc_extern Try.func63 (by kernel_rfl) (by kernel_rfl) (by kernel_rfl) (by kernel_rfl) args w)
  (All.nil)))
def mss0 : List (FuncId × SFM) := []
def mws0 : List (FuncId × WFM) := []
def menv0 : EnvM := mkEnvM mxs mss0 mws0
theorem mss0_ok : All (SOkM Try.prog false) mss0 := All.nil
theorem mws0_ok : All (WOkM Try.prog false) mws0 := All.nil
theorem menv0_ok : menv0.Ok Try.prog false := mkEnvM_ok mxs_ok mss0_ok mws0_ok
-- math.Abs
def S_math_Abs : List AV → Option AV
  | [AV.float a] => some (AV.float (fabs a))
  | _ => none
theorem t_math_Abs : SOkM Try.prog false (27, pureS S_math_Abs) := exact1 (N := 96) (A := .no) (lits := []) (fk := []) xenv_ok Try.func27 (fnNo _) Try.call27 (fun a v => v = .float (fabs a)) (fun args v h => by
    unfold S_math_Abs at h
    split at h
    · cases h; exact ⟨_, rfl, rfl⟩
    · cases h) fun b v hb h => ⟨.float (absV b), (show outB (evFnM Try.prog true xenv [] [] 96 .no Try.f27 [.float b] []) = some (absOb b, .float (absV b)) by kernel_rfl).trans (by rw [abs_ob]), rfl, fun μ x hx => by subst h; exact toFloat hx (by rw [abs_val hb]; exact (fabs_cn b).symm)⟩
def c_math_Abs : SFM := pureS S_math_Abs
theorem c_math_Abs_ok : SOkM Try.prog false (27, c_math_Abs) := t_math_Abs
def mss1 : List (FuncId × SFM) := (27, c_math_Abs) :: mss0
def menv1 : EnvM := mkEnvM mxs mss1 mws0
theorem mss1_ok : All (SOkM Try.prog false) mss1 := All.cons c_math_Abs_ok mss0_ok
theorem menv1_ok : menv1.Ok Try.prog false := mkEnvM_ok mxs_ok mss1_ok mws0_ok
-- math.Copysign
def S_math_Copysign : List AV → Option AV
  | [AV.float a, AV.float c] => cond (nanb c) none (some (AV.float (fcps a c)))
  | _ => none
theorem t_math_Copysign : SOkM Try.prog false (81, pureS S_math_Copysign) := exact2 (N := 96) (A := .no) (lits := []) (fk := []) xenv_ok Try.func81 (fnNo _) Try.call81 (fun a c v => nanb c = false ∧ v = .float (fcps a c)) (fun args v h => by
    unfold S_math_Copysign at h
    split at h
    · obtain ⟨hn, h⟩ := cond_some' h rfl; cases h; exact ⟨_, _, rfl, hn, rfl⟩
    · cases h) fun b d v hb hd h => ⟨.float (cpsI b d).toNat, (show outB (evFnM Try.prog true xenv [] [] 96 .no Try.f81 [.float b, .float d] []) = some (u64ok (cpsI b d), .float (cpsI b d).toNat) by kernel_rfl).trans (by rw [cps_ob]), rfl, fun μ x hx => by obtain ⟨hn, rfl⟩ := h; exact toFloat hx (by rw [cps_val hb hd, not_nan_cn hn]; exact cps_cn)⟩
def c_math_Copysign : SFM := pureS S_math_Copysign
theorem c_math_Copysign_ok : SOkM Try.prog false (81, c_math_Copysign) := t_math_Copysign
def mss2 : List (FuncId × SFM) := (81, c_math_Copysign) :: mss1
def menv2 : EnvM := mkEnvM mxs mss2 mws0
theorem mss2_ok : All (SOkM Try.prog false) mss2 := All.cons c_math_Copysign_ok mss1_ok
theorem menv2_ok : menv2.Ok Try.prog false := mkEnvM_ok mxs_ok mss2_ok mws0_ok
-- tumble/tumblelaw08.alive
def mss3 : List (FuncId × SFM) := mss2
theorem mss3_ok : All (SOkM Try.prog false) mss3 := mss2_ok
def mws1 : List (FuncId × WFM) := (24, (inlWM Try.prog false menv2 [4294967295] [] 96 .no Try.f24 100000)) :: mws0
def menv3 : EnvM := mkEnvM mxs mss3 mws1
theorem mws1_ok : All (WOkM Try.prog false) mws1 := All.cons (WOkM.inl menv2_ok Try.func24 (fnNo _) Try.call24) mws0_ok
theorem menv3_ok : menv3.Ok Try.prog false := mkEnvM_ok mxs_ok mss3_ok mws1_ok
def mws2 : List (FuncId × WFM) := (77, (inlWM Try.prog false menv3 [4294967295] [] 96 .no Try.f77 100000)) :: mws1
def menv4 : EnvM := mkEnvM mxs mss3 mws2
theorem mws2_ok : All (WOkM Try.prog false) mws2 := All.cons (WOkM.inl menv3_ok Try.func77 (fnNo _) Try.call77) mws1_ok
theorem menv4_ok : menv4.Ok Try.prog false := mkEnvM_ok mxs_ok mss3_ok mws2_ok
def mss4 : List (FuncId × SFM) := (58, (inlSM Try.prog false menv4 [4294967295] [] 96 .no Try.f58)) :: mss3
def menv5 : EnvM := mkEnvM mxs mss4 mws2
theorem mss4_ok : All (SOkM Try.prog false) mss4 := All.cons (SOkM.inl menv4_ok Try.func58 (fnNo _) Try.call58) mss3_ok
theorem menv5_ok : menv5.Ok Try.prog false := mkEnvM_ok mxs_ok mss4_ok mws2_ok
def mss5 : List (FuncId × SFM) := (22, (inlSM Try.prog false menv5 [4294967295] [] 96 .no Try.f22)) :: mss4
def menv6 : EnvM := mkEnvM mxs mss5 mws2
theorem mss5_ok : All (SOkM Try.prog false) mss5 := All.cons (SOkM.inl menv5_ok Try.func22 (fnNo _) Try.call22) mss4_ok
theorem menv6_ok : menv6.Ok Try.prog false := mkEnvM_ok mxs_ok mss5_ok mws2_ok
def mss6 : List (FuncId × SFM) := (52, (inlSM Try.prog false menv6 [4294967295] [] 96 .no Try.f52)) :: mss5
def menv7 : EnvM := mkEnvM mxs mss6 mws2
theorem mss6_ok : All (SOkM Try.prog false) mss6 := All.cons (SOkM.inl menv6_ok Try.func52 (fnNo _) Try.call52) mss5_ok
theorem menv7_ok : menv7.Ok Try.prog false := mkEnvM_ok mxs_ok mss6_ok mws2_ok
def mss7 : List (FuncId × SFM) := (56, (inlSM Try.prog false menv7 [4294967295] [] 96 .no Try.f56)) :: mss6
def menv8 : EnvM := mkEnvM mxs mss7 mws2
theorem mss7_ok : All (SOkM Try.prog false) mss7 := All.cons (SOkM.inl menv7_ok Try.func56 (fnNo _) Try.call56) mss6_ok
theorem menv8_ok : menv8.Ok Try.prog false := mkEnvM_ok mxs_ok mss7_ok mws2_ok
def mss8 : List (FuncId × SFM) := (53, (inlSM Try.prog false menv8 [4294967295] [] 96 .no Try.f53)) :: mss7
def menv9 : EnvM := mkEnvM mxs mss8 mws2
theorem mss8_ok : All (SOkM Try.prog false) mss8 := All.cons (SOkM.inl menv8_ok Try.func53 (fnNo _) Try.call53) mss7_ok
theorem menv9_ok : menv9.Ok Try.prog false := mkEnvM_ok mxs_ok mss8_ok mws2_ok
def mss9 : List (FuncId × SFM) := (76, (inlSM Try.prog false menv9 [4294967295] [] 96 .no Try.f76)) :: mss8
def menv10 : EnvM := mkEnvM mxs mss9 mws2
theorem mss9_ok : All (SOkM Try.prog false) mss9 := All.cons (SOkM.inl menv9_ok Try.func76 (fnNo _) Try.call76) mss8_ok
theorem menv10_ok : menv10.Ok Try.prog false := mkEnvM_ok mxs_ok mss9_ok mws2_ok
def mss10 : List (FuncId × SFM) := (68, (inlSM Try.prog false menv10 [4294967295] [] 96 .no Try.f68)) :: mss9
def menv11 : EnvM := mkEnvM mxs mss10 mws2
theorem mss10_ok : All (SOkM Try.prog false) mss10 := All.cons (SOkM.inl menv10_ok Try.func68 (fnNo _) Try.call68) mss9_ok
theorem menv11_ok : menv11.Ok Try.prog false := mkEnvM_ok mxs_ok mss10_ok mws2_ok
def mss11 : List (FuncId × SFM) := (71, (inlSM Try.prog false menv11 [4294967295] [] 96 .no Try.f71)) :: mss10
def menv12 : EnvM := mkEnvM mxs mss11 mws2
theorem mss11_ok : All (SOkM Try.prog false) mss11 := All.cons (SOkM.inl menv11_ok Try.func71 (fnNo _) Try.call71) mss10_ok
theorem menv12_ok : menv12.Ok Try.prog false := mkEnvM_ok mxs_ok mss11_ok mws2_ok
def mss12 : List (FuncId × SFM) := (54, (inlSM Try.prog false menv12 [4294967295] [] 96 .no Try.f54)) :: mss11
def menv13 : EnvM := mkEnvM mxs mss12 mws2
theorem mss12_ok : All (SOkM Try.prog false) mss12 := All.cons (SOkM.inl menv12_ok Try.func54 (fnNo _) Try.call54) mss11_ok
theorem menv13_ok : menv13.Ok Try.prog false := mkEnvM_ok mxs_ok mss12_ok mws2_ok
def mss13 : List (FuncId × SFM) := (55, (inlSM Try.prog false menv13 [4294967295] [] 96 .no Try.f55)) :: mss12
def menv14 : EnvM := mkEnvM mxs mss13 mws2
theorem mss13_ok : All (SOkM Try.prog false) mss13 := All.cons (SOkM.inl menv13_ok Try.func55 (fnNo _) Try.call55) mss12_ok
theorem menv14_ok : menv14.Ok Try.prog false := mkEnvM_ok mxs_ok mss13_ok mws2_ok
def mss14 : List (FuncId × SFM) := (20, (inlSM Try.prog false menv14 [4294967295] [] 96 .no Try.f20)) :: mss13
def menv15 : EnvM := mkEnvM mxs mss14 mws2
theorem mss14_ok : All (SOkM Try.prog false) mss14 := All.cons (SOkM.inl menv14_ok Try.func20 (fnNo _) Try.call20) mss13_ok
theorem menv15_ok : menv15.Ok Try.prog false := mkEnvM_ok mxs_ok mss14_ok mws2_ok
def mss15 : List (FuncId × SFM) := (109, (inlSM Try.prog false menv15 [4294967295] [] 96 .no Try.f109)) :: mss14
def menv16 : EnvM := mkEnvM mxs mss15 mws2
theorem mss15_ok : All (SOkM Try.prog false) mss15 := All.cons (SOkM.inl menv15_ok Try.func109 (fnNo _) Try.call109) mss14_ok
theorem menv16_ok : menv16.Ok Try.prog false := mkEnvM_ok mxs_ok mss15_ok mws2_ok
def mss16 : List (FuncId × SFM) := (103, (inlSM Try.prog false menv16 [4294967295] [] 96 .no Try.f103)) :: mss15
def menv17 : EnvM := mkEnvM mxs mss16 mws2
theorem mss16_ok : All (SOkM Try.prog false) mss16 := All.cons (SOkM.inl menv16_ok Try.func103 (fnNo _) Try.call103) mss15_ok
theorem menv17_ok : menv17.Ok Try.prog false := mkEnvM_ok mxs_ok mss16_ok mws2_ok
def mss17 : List (FuncId × SFM) := (100, (inlSM Try.prog false menv17 [4294967295] [] 96 .no Try.f100)) :: mss16
def menv18 : EnvM := mkEnvM mxs mss17 mws2
theorem mss17_ok : All (SOkM Try.prog false) mss17 := All.cons (SOkM.inl menv17_ok Try.func100 (fnNo _) Try.call100) mss16_ok
theorem menv18_ok : menv18.Ok Try.prog false := mkEnvM_ok mxs_ok mss17_ok mws2_ok
def mws3 : List (FuncId × WFM) := (64, (inlWM Try.prog false menv18 [4294967295] [] 96 .no Try.f64 100000)) :: mws2
def menv19 : EnvM := mkEnvM mxs mss17 mws3
theorem mws3_ok : All (WOkM Try.prog false) mws3 := All.cons (WOkM.inl menv18_ok Try.func64 (fnNo _) Try.call64) mws2_ok
theorem menv19_ok : menv19.Ok Try.prog false := mkEnvM_ok mxs_ok mss17_ok mws3_ok
def mss18 : List (FuncId × SFM) := (30, (inlSM Try.prog false menv19 [4294967295] [] 96 .no Try.f30)) :: mss17
def menv20 : EnvM := mkEnvM mxs mss18 mws3
theorem mss18_ok : All (SOkM Try.prog false) mss18 := All.cons (SOkM.inl menv19_ok Try.func30 (fnNo _) Try.call30) mss17_ok
theorem menv20_ok : menv20.Ok Try.prog false := mkEnvM_ok mxs_ok mss18_ok mws3_ok
def mss19 : List (FuncId × SFM) := (72, (inlSM Try.prog false menv20 [4294967295] [] 96 .no Try.f72)) :: mss18
def menv21 : EnvM := mkEnvM mxs mss19 mws3
theorem mss19_ok : All (SOkM Try.prog false) mss19 := All.cons (SOkM.inl menv20_ok Try.func72 (fnNo _) Try.call72) mss18_ok
theorem menv21_ok : menv21.Ok Try.prog false := mkEnvM_ok mxs_ok mss19_ok mws3_ok
def mss20 : List (FuncId × SFM) := (32, (inlSM Try.prog false menv21 [4294967295] [] 96 .no Try.f32)) :: mss19
def menv22 : EnvM := mkEnvM mxs mss20 mws3
theorem mss20_ok : All (SOkM Try.prog false) mss20 := All.cons (SOkM.inl menv21_ok Try.func32 (fnNo _) Try.call32) mss19_ok
theorem menv22_ok : menv22.Ok Try.prog false := mkEnvM_ok mxs_ok mss20_ok mws3_ok
def mss21 : List (FuncId × SFM) := (57, (inlSM Try.prog false menv22 [4294967295] [] 96 .no Try.f57)) :: mss20
def menv23 : EnvM := mkEnvM mxs mss21 mws3
theorem mss21_ok : All (SOkM Try.prog false) mss21 := All.cons (SOkM.inl menv22_ok Try.func57 (fnNo _) Try.call57) mss20_ok
theorem menv23_ok : menv23.Ok Try.prog false := mkEnvM_ok mxs_ok mss21_ok mws3_ok
def mss22 : List (FuncId × SFM) := (21, (inlSM Try.prog false menv23 [4294967295] [] 96 .no Try.f21)) :: mss21
def menv24 : EnvM := mkEnvM mxs mss22 mws3
theorem mss22_ok : All (SOkM Try.prog false) mss22 := All.cons (SOkM.inl menv23_ok Try.func21 (fnNo _) Try.call21) mss21_ok
theorem menv24_ok : menv24.Ok Try.prog false := mkEnvM_ok mxs_ok mss22_ok mws3_ok
def mss23 : List (FuncId × SFM) := (75, (inlSM Try.prog false menv24 [4294967295] [] 96 .no Try.f75)) :: mss22
def menv25 : EnvM := mkEnvM mxs mss23 mws3
theorem mss23_ok : All (SOkM Try.prog false) mss23 := All.cons (SOkM.inl menv24_ok Try.func75 (fnNo _) Try.call75) mss22_ok
theorem menv25_ok : menv25.Ok Try.prog false := mkEnvM_ok mxs_ok mss23_ok mws3_ok
def mss24 : List (FuncId × SFM) := (67, (inlSM Try.prog false menv25 [4294967295] [] 96 .no Try.f67)) :: mss23
def menv26 : EnvM := mkEnvM mxs mss24 mws3
theorem mss24_ok : All (SOkM Try.prog false) mss24 := All.cons (SOkM.inl menv25_ok Try.func67 (fnNo _) Try.call67) mss23_ok
theorem menv26_ok : menv26.Ok Try.prog false := mkEnvM_ok mxs_ok mss24_ok mws3_ok
def mss25 : List (FuncId × SFM) := (61, (inlSM Try.prog false menv26 [4294967295] [] 96 .no Try.f61)) :: mss24
def menv27 : EnvM := mkEnvM mxs mss25 mws3
theorem mss25_ok : All (SOkM Try.prog false) mss25 := All.cons (SOkM.inl menv26_ok Try.func61 (fnNo _) Try.call61) mss24_ok
theorem menv27_ok : menv27.Ok Try.prog false := mkEnvM_ok mxs_ok mss25_ok mws3_ok
def mss26 : List (FuncId × SFM) := (70, (inlSM Try.prog false menv27 [4294967295] [] 96 .no Try.f70)) :: mss25
def menv28 : EnvM := mkEnvM mxs mss26 mws3
theorem mss26_ok : All (SOkM Try.prog false) mss26 := All.cons (SOkM.inl menv27_ok Try.func70 (fnNo _) Try.call70) mss25_ok
theorem menv28_ok : menv28.Ok Try.prog false := mkEnvM_ok mxs_ok mss26_ok mws3_ok
def mss27 : List (FuncId × SFM) := (49, (inlSM Try.prog false menv28 [4294967295] [] 96 .no Try.f49)) :: mss26
def menv29 : EnvM := mkEnvM mxs mss27 mws3
theorem mss27_ok : All (SOkM Try.prog false) mss27 := All.cons (SOkM.inl menv28_ok Try.func49 (fnNo _) Try.call49) mss26_ok
theorem menv29_ok : menv29.Ok Try.prog false := mkEnvM_ok mxs_ok mss27_ok mws3_ok
def mss28 : List (FuncId × SFM) := (17, (inlSM Try.prog false menv29 [4294967295] [] 96 .no Try.f17)) :: mss27
def menv30 : EnvM := mkEnvM mxs mss28 mws3
theorem mss28_ok : All (SOkM Try.prog false) mss28 := All.cons (SOkM.inl menv29_ok Try.func17 (fnNo _) Try.call17) mss27_ok
theorem menv30_ok : menv30.Ok Try.prog false := mkEnvM_ok mxs_ok mss28_ok mws3_ok
def mss29 : List (FuncId × SFM) := (40, (inlSM Try.prog false menv30 [4294967295] [] 96 .no Try.f40)) :: mss28
def menv31 : EnvM := mkEnvM mxs mss29 mws3
theorem mss29_ok : All (SOkM Try.prog false) mss29 := All.cons (SOkM.inl menv30_ok Try.func40 (fnNo _) Try.call40) mss28_ok
theorem menv31_ok : menv31.Ok Try.prog false := mkEnvM_ok mxs_ok mss29_ok mws3_ok
def mss30 : List (FuncId × SFM) := (73, (inlSM Try.prog false menv31 [4294967295] [] 96 .no Try.f73)) :: mss29
def menv32 : EnvM := mkEnvM mxs mss30 mws3
theorem mss30_ok : All (SOkM Try.prog false) mss30 := All.cons (SOkM.inl menv31_ok Try.func73 (fnNo _) Try.call73) mss29_ok
theorem menv32_ok : menv32.Ok Try.prog false := mkEnvM_ok mxs_ok mss30_ok mws3_ok
def mss31 : List (FuncId × SFM) := (59, (inlSM Try.prog false menv32 [4294967295] [] 96 .no Try.f59)) :: mss30
def menv33 : EnvM := mkEnvM mxs mss31 mws3
theorem mss31_ok : All (SOkM Try.prog false) mss31 := All.cons (SOkM.inl menv32_ok Try.func59 (fnNo _) Try.call59) mss30_ok
theorem menv33_ok : menv33.Ok Try.prog false := mkEnvM_ok mxs_ok mss31_ok mws3_ok
def mss32 : List (FuncId × SFM) := (23, (inlSM Try.prog false menv33 [4294967295] [] 96 .no Try.f23)) :: mss31
def menv34 : EnvM := mkEnvM mxs mss32 mws3
theorem mss32_ok : All (SOkM Try.prog false) mss32 := All.cons (SOkM.inl menv33_ok Try.func23 (fnNo _) Try.call23) mss31_ok
theorem menv34_ok : menv34.Ok Try.prog false := mkEnvM_ok mxs_ok mss32_ok mws3_ok
def mss33 : List (FuncId × SFM) := (28, (inlSM Try.prog false menv34 [4294967295] [] 96 .no Try.f28)) :: mss32
def menv35 : EnvM := mkEnvM mxs mss33 mws3
theorem mss33_ok : All (SOkM Try.prog false) mss33 := All.cons (SOkM.inl menv34_ok Try.func28 (fnNo _) Try.call28) mss32_ok
theorem menv35_ok : menv35.Ok Try.prog false := mkEnvM_ok mxs_ok mss33_ok mws3_ok
def mss34 : List (FuncId × SFM) := (35, (inlSM Try.prog false menv35 [4294967295] [] 96 .no Try.f35)) :: mss33
def menv36 : EnvM := mkEnvM mxs mss34 mws3
theorem mss34_ok : All (SOkM Try.prog false) mss34 := All.cons (SOkM.inl menv35_ok Try.func35 (fnNo _) Try.call35) mss33_ok
theorem menv36_ok : menv36.Ok Try.prog false := mkEnvM_ok mxs_ok mss34_ok mws3_ok
def mss35 : List (FuncId × SFM) := (36, (inlSM Try.prog false menv36 [4294967295] [] 96 .no Try.f36)) :: mss34
def menv37 : EnvM := mkEnvM mxs mss35 mws3
theorem mss35_ok : All (SOkM Try.prog false) mss35 := All.cons (SOkM.inl menv36_ok Try.func36 (fnNo _) Try.call36) mss34_ok
theorem menv37_ok : menv37.Ok Try.prog false := mkEnvM_ok mxs_ok mss35_ok mws3_ok
def mss36 : List (FuncId × SFM) := (37, (inlSM Try.prog false menv37 [4294967295] [] 96 .no Try.f37)) :: mss35
def menv38 : EnvM := mkEnvM mxs mss36 mws3
theorem mss36_ok : All (SOkM Try.prog false) mss36 := All.cons (SOkM.inl menv37_ok Try.func37 (fnNo _) Try.call37) mss35_ok
theorem menv38_ok : menv38.Ok Try.prog false := mkEnvM_ok mxs_ok mss36_ok mws3_ok
def mss37 : List (FuncId × SFM) := (39, (inlSM Try.prog false menv38 [4294967295] [] 96 .no Try.f39)) :: mss36
def menv39 : EnvM := mkEnvM mxs mss37 mws3
theorem mss37_ok : All (SOkM Try.prog false) mss37 := All.cons (SOkM.inl menv38_ok Try.func39 (fnNo _) Try.call39) mss36_ok
theorem menv39_ok : menv39.Ok Try.prog false := mkEnvM_ok mxs_ok mss37_ok mws3_ok
def mss38 : List (FuncId × SFM) := (38, (inlSM Try.prog false menv39 [4294967295] [] 96 .no Try.f38)) :: mss37
def menv40 : EnvM := mkEnvM mxs mss38 mws3
theorem mss38_ok : All (SOkM Try.prog false) mss38 := All.cons (SOkM.inl menv39_ok Try.func38 (fnNo _) Try.call38) mss37_ok
theorem menv40_ok : menv40.Ok Try.prog false := mkEnvM_ok mxs_ok mss38_ok mws3_ok
def mss39 : List (FuncId × SFM) := (34, (inlSM Try.prog false menv40 [4294967295] [] 96 .no Try.f34)) :: mss38
def menv41 : EnvM := mkEnvM mxs mss39 mws3
theorem mss39_ok : All (SOkM Try.prog false) mss39 := All.cons (SOkM.inl menv40_ok Try.func34 (fnNo _) Try.call34) mss38_ok
theorem menv41_ok : menv41.Ok Try.prog false := mkEnvM_ok mxs_ok mss39_ok mws3_ok
def mss40 : List (FuncId × SFM) := (10, (inlSM Try.prog false menv41 [4294967295] [] 96 .no Try.f10)) :: mss39
def menv42 : EnvM := mkEnvM mxs mss40 mws3
theorem mss40_ok : All (SOkM Try.prog false) mss40 := All.cons (SOkM.inl menv41_ok Try.func10 (fnNo _) Try.call10) mss39_ok
theorem menv42_ok : menv42.Ok Try.prog false := mkEnvM_ok mxs_ok mss40_ok mws3_ok
def mss41 : List (FuncId × SFM) := (13, (inlSM Try.prog false menv42 [4294967295] [] 96 .no Try.f13)) :: mss40
def menv43 : EnvM := mkEnvM mxs mss41 mws3
theorem mss41_ok : All (SOkM Try.prog false) mss41 := All.cons (SOkM.inl menv42_ok Try.func13 (fnNo _) Try.call13) mss40_ok
theorem menv43_ok : menv43.Ok Try.prog false := mkEnvM_ok mxs_ok mss41_ok mws3_ok
def mss42 : List (FuncId × SFM) := (47, (inlSM Try.prog false menv43 [4294967295] [] 96 .no Try.f47)) :: mss41
def menv44 : EnvM := mkEnvM mxs mss42 mws3
theorem mss42_ok : All (SOkM Try.prog false) mss42 := All.cons (SOkM.inl menv43_ok Try.func47 (fnNo _) Try.call47) mss41_ok
theorem menv44_ok : menv44.Ok Try.prog false := mkEnvM_ok mxs_ok mss42_ok mws3_ok
def mss43 : List (FuncId × SFM) := (15, (inlSM Try.prog false menv44 [4294967295] [] 96 .no Try.f15)) :: mss42
def menv45 : EnvM := mkEnvM mxs mss43 mws3
theorem mss43_ok : All (SOkM Try.prog false) mss43 := All.cons (SOkM.inl menv44_ok Try.func15 (fnNo _) Try.call15) mss42_ok
theorem menv45_ok : menv45.Ok Try.prog false := mkEnvM_ok mxs_ok mss43_ok mws3_ok
def mss44 : List (FuncId × SFM) := (33, (inlSM Try.prog false menv45 [4294967295] [] 96 .no Try.f33)) :: mss43
def menv46 : EnvM := mkEnvM mxs mss44 mws3
theorem mss44_ok : All (SOkM Try.prog false) mss44 := All.cons (SOkM.inl menv45_ok Try.func33 (fnNo _) Try.call33) mss43_ok
theorem menv46_ok : menv46.Ok Try.prog false := mkEnvM_ok mxs_ok mss44_ok mws3_ok
theorem ann_law08_alive : FnOk Try.prog false 0 Try.f9 Ann.no := (fnNo _)
def s_law08_alive_0 : Bool := true
theorem e_law08_alive : outB (evFnM Try.prog false menv46 [4294967295] [] 96 Ann.no Try.f9 [] []) = some (true, AV.bool (s_law08_alive_0)) := by kernel_rfl
def S_law08_alive : List AV → Option (Ob × AV)
  | [] => some (Ob.tt, AV.bool (s_law08_alive_0))
  | _ => none
theorem t_law08_alive : SOkM Try.prog false (9, fun args => match S_law08_alive args with | some (o, v) => some (o, v, []) | none => none) := SOkM.flat (N := 96) menv46_ok Try.func9 ann_law08_alive Try.call9 fun args o v h ho => by
  unfold S_law08_alive at h
  split at h
  · skip
    cases h
    have ho2 := ho
    have this := show outB (evFnM Try.prog false menv46 [4294967295] [] 96 Ann.no Try.f9 [] []) = _ from e_law08_alive
    exact ⟨this, rfl⟩
  · cases h
def c_law08_alive : SFM := fun args => match S_law08_alive args with | some (o, v) => some (o, v, []) | none => none
theorem c_law08_alive_ok : SOkM Try.prog false (9, c_law08_alive) := t_law08_alive
def mss45 : List (FuncId × SFM) := (9, c_law08_alive) :: mss44
def menv47 : EnvM := mkEnvM mxs mss45 mws3
theorem mss45_ok : All (SOkM Try.prog false) mss45 := All.cons c_law08_alive_ok mss44_ok
theorem menv47_ok : menv47.Ok Try.prog false := mkEnvM_ok mxs_ok mss45_ok mws3_ok
-- tumble/num.Within[float64]
theorem ann_num_Within_float64_ : FnOk Try.prog false 0 Try.f58 Ann.no := (fnNo _)
def s_num_Within_float64__0 (e g : Nat) : Bool := ((fle (fneg g) e) && (fle e g))
theorem e_num_Within_float64_ (e g : Nat) : outB (evFnM Try.prog false menv47 [] [] 96 Ann.no Try.f58 [AV.float e, AV.float g] []) = some (true, AV.bool (s_num_Within_float64__0 e g)) := by kernel_rfl
def S_num_Within_float64_ : List AV → Option (Ob × AV)
  | [AV.float e, AV.float g] => some (Ob.tt, AV.bool (s_num_Within_float64__0 e g))
  | _ => none
theorem t_num_Within_float64_ : SOkM Try.prog false (58, fun args => match S_num_Within_float64_ args with | some (o, v) => some (o, v, []) | none => none) := SOkM.flat (N := 96) menv47_ok Try.func58 ann_num_Within_float64_ Try.call58 fun args o v h ho => by
  unfold S_num_Within_float64_ at h
  split at h
  · rename_i e g
    cases h
    have ho2 := ho
    have this := show outB (evFnM Try.prog false menv47 [] [] 96 Ann.no Try.f58 [AV.float e, AV.float g] []) = _ from e_num_Within_float64_ e g
    exact ⟨this, rfl⟩
  · cases h
def c_num_Within_float64_ : SFM := fun args => match S_num_Within_float64_ args with | some (o, v) => some (o, v, []) | none => none
theorem c_num_Within_float64__ok : SOkM Try.prog false (58, c_num_Within_float64_) := t_num_Within_float64_
def mss46 : List (FuncId × SFM) := (58, c_num_Within_float64_) :: mss45
def menv48 : EnvM := mkEnvM mxs mss46 mws3
theorem mss46_ok : All (SOkM Try.prog false) mss46 := All.cons c_num_Within_float64__ok mss45_ok
theorem menv48_ok : menv48.Ok Try.prog false := mkEnvM_ok mxs_ok mss46_ok mws3_ok
-- tumble/vec.Within
theorem ann_vec_Within : FnOk Try.prog false 0 Try.f22 Ann.no := (fnNo _)
def s_vec_Within_0 (e g z : Nat) : Bool := ((s_num_Within_float64__0 e z) && (s_num_Within_float64__0 g z))
theorem e_vec_Within (e g z : Nat) : outB (evFnM Try.prog false menv48 [] [] 96 Ann.no Try.f22 [AV.agg [AV.float e, AV.float g], AV.float z] []) = some (true, AV.bool (s_vec_Within_0 e g z)) := by kernel_rfl
def S_vec_Within : List AV → Option (Ob × AV)
  | [AV.agg [AV.float e, AV.float g], AV.float z] => some (Ob.tt, AV.bool (s_vec_Within_0 e g z))
  | _ => none
theorem t_vec_Within : SOkM Try.prog false (22, fun args => match S_vec_Within args with | some (o, v) => some (o, v, []) | none => none) := SOkM.flat (N := 96) menv48_ok Try.func22 ann_vec_Within Try.call22 fun args o v h ho => by
  unfold S_vec_Within at h
  split at h
  · rename_i e g z
    cases h
    have ho2 := ho
    have this := show outB (evFnM Try.prog false menv48 [] [] 96 Ann.no Try.f22 [AV.agg [AV.float e, AV.float g], AV.float z] []) = _ from e_vec_Within e g z
    exact ⟨this, rfl⟩
  · cases h
def c_vec_Within : SFM := fun args => match S_vec_Within args with | some (o, v) => some (o, v, []) | none => none
theorem c_vec_Within_ok : SOkM Try.prog false (22, c_vec_Within) := t_vec_Within
def mss47 : List (FuncId × SFM) := (22, c_vec_Within) :: mss46
def menv49 : EnvM := mkEnvM mxs mss47 mws3
theorem mss47_ok : All (SOkM Try.prog false) mss47 := All.cons c_vec_Within_ok mss46_ok
theorem menv49_ok : menv49.Ok Try.prog false := mkEnvM_ok mxs_ok mss47_ok mws3_ok
-- tumble/shape.length
theorem ann_shape_length : FnOk Try.prog false 0 Try.f103 Ann.no := (fnNo _)
def s_shape_length_0 (e : Nat) : Bool := ((fle 4472074429978902528 e) && (fle e 4787326403894837248))
theorem e_shape_length (e : Nat) : outB (evFnM Try.prog false menv49 [] [] 96 Ann.no Try.f103 [AV.float e] []) = some (true, AV.bool (s_shape_length_0 e)) := by kernel_rfl
def S_shape_length : List AV → Option (Ob × AV)
  | [AV.float e] => some (Ob.tt, AV.bool (s_shape_length_0 e))
  | _ => none
theorem t_shape_length : SOkM Try.prog false (103, fun args => match S_shape_length args with | some (o, v) => some (o, v, []) | none => none) := SOkM.flat (N := 96) menv49_ok Try.func103 ann_shape_length Try.call103 fun args o v h ho => by
  unfold S_shape_length at h
  split at h
  · rename_i e
    cases h
    have ho2 := ho
    have this := show outB (evFnM Try.prog false menv49 [] [] 96 Ann.no Try.f103 [AV.float e] []) = _ from e_shape_length e
    exact ⟨this, rfl⟩
  · cases h
def c_shape_length : SFM := fun args => match S_shape_length args with | some (o, v) => some (o, v, []) | none => none
theorem c_shape_length_ok : SOkM Try.prog false (103, c_shape_length) := t_shape_length
def mss48 : List (FuncId × SFM) := (103, c_shape_length) :: mss47
def menv50 : EnvM := mkEnvM mxs mss48 mws3
theorem mss48_ok : All (SOkM Try.prog false) mss48 := All.cons c_shape_length_ok mss47_ok
theorem menv50_ok : menv50.Ok Try.prog false := mkEnvM_ok mxs_ok mss48_ok mws3_ok
-- (tumble/shape.circle).check
theorem ann__shape_circle__check : FnOk Try.prog false 0 Try.f100 Ann.no := (fnNo _)
def s__shape_circle__check_0 (e g z : Nat) : Int := (bif ((!(s_vec_Within_0 e g 4787326403894837248)) || (!(s_shape_length_0 z))) then (5 : Int) else (0 : Int))
theorem e__shape_circle__check (e g z : Nat) : outB (evFnM Try.prog false menv50 [] [] 96 Ann.no Try.f100 [AV.agg [AV.float e, AV.float g, AV.float z]] []) = some (true, AV.int .i64 (s__shape_circle__check_0 e g z)) := by kernel_rfl
def S__shape_circle__check : List AV → Option (Ob × AV)
  | [AV.agg [AV.float e, AV.float g, AV.float z]] => some (Ob.tt, AV.int .i64 (s__shape_circle__check_0 e g z))
  | _ => none
theorem t__shape_circle__check : SOkM Try.prog false (100, fun args => match S__shape_circle__check args with | some (o, v) => some (o, v, []) | none => none) := SOkM.flat (N := 96) menv50_ok Try.func100 ann__shape_circle__check Try.call100 fun args o v h ho => by
  unfold S__shape_circle__check at h
  split at h
  · rename_i e g z
    cases h
    have ho2 := ho
    have this := show outB (evFnM Try.prog false menv50 [] [] 96 Ann.no Try.f100 [AV.agg [AV.float e, AV.float g, AV.float z]] []) = _ from e__shape_circle__check e g z
    exact ⟨this, rfl⟩
  · cases h
def c__shape_circle__check : SFM := fun args => match S__shape_circle__check args with | some (o, v) => some (o, v, []) | none => none
theorem c__shape_circle__check_ok : SOkM Try.prog false (100, c__shape_circle__check) := t__shape_circle__check
def mss49 : List (FuncId × SFM) := (100, c__shape_circle__check) :: mss48
def menv51 : EnvM := mkEnvM mxs mss49 mws3
theorem mss49_ok : All (SOkM Try.prog false) mss49 := All.cons c__shape_circle__check_ok mss48_ok
theorem menv51_ok : menv51.Ok Try.prog false := mkEnvM_ok mxs_ok mss49_ok mws3_ok
-- tumble/vec.Sub
theorem ann_vec_Sub : FnOk Try.prog false 0 Try.f56 Ann.no := (fnNo _)
def s_vec_Sub_0 (e g z j : Nat) : Nat := (fsub e z)
def s_vec_Sub_1 (e g z j : Nat) : Nat := (fsub g j)
theorem e_vec_Sub (e g z j : Nat) : outB (evFnM Try.prog false menv51 [] [] 96 Ann.no Try.f56 [AV.agg [AV.float e, AV.float g], AV.agg [AV.float z, AV.float j]] []) = some (true, AV.agg [AV.float (s_vec_Sub_0 e g z j), AV.float (s_vec_Sub_1 e g z j)]) := by kernel_rfl
def S_vec_Sub : List AV → Option (Ob × AV)
  | [AV.agg [AV.float e, AV.float g], AV.agg [AV.float z, AV.float j]] => some (Ob.tt, AV.agg [AV.float (s_vec_Sub_0 e g z j), AV.float (s_vec_Sub_1 e g z j)])
  | _ => none
theorem t_vec_Sub : SOkM Try.prog false (56, fun args => match S_vec_Sub args with | some (o, v) => some (o, v, []) | none => none) := SOkM.flat (N := 96) menv51_ok Try.func56 ann_vec_Sub Try.call56 fun args o v h ho => by
  unfold S_vec_Sub at h
  split at h
  · rename_i e g z j
    cases h
    have ho2 := ho
    have this := show outB (evFnM Try.prog false menv51 [] [] 96 Ann.no Try.f56 [AV.agg [AV.float e, AV.float g], AV.agg [AV.float z, AV.float j]] []) = _ from e_vec_Sub e g z j
    exact ⟨this, rfl⟩
  · cases h
def c_vec_Sub : SFM := fun args => match S_vec_Sub args with | some (o, v) => some (o, v, []) | none => none
theorem c_vec_Sub_ok : SOkM Try.prog false (56, c_vec_Sub) := t_vec_Sub
def mss50 : List (FuncId × SFM) := (56, c_vec_Sub) :: mss49
def menv52 : EnvM := mkEnvM mxs mss50 mws3
theorem mss50_ok : All (SOkM Try.prog false) mss50 := All.cons c_vec_Sub_ok mss49_ok
theorem menv52_ok : menv52.Ok Try.prog false := mkEnvM_ok mxs_ok mss50_ok mws3_ok
-- tumble/vec.Dot
theorem ann_vec_Dot : FnOk Try.prog false 0 Try.f76 Ann.no := (fnNo _)
def s_vec_Dot_0 (e g z j : Nat) : Nat := (fadd (fmul e z) (fmul g j))
theorem e_vec_Dot (e g z j : Nat) : outB (evFnM Try.prog false menv52 [] [] 96 Ann.no Try.f76 [AV.agg [AV.float e, AV.float g], AV.agg [AV.float z, AV.float j]] []) = some (true, AV.float (s_vec_Dot_0 e g z j)) := by kernel_rfl
def S_vec_Dot : List AV → Option (Ob × AV)
  | [AV.agg [AV.float e, AV.float g], AV.agg [AV.float z, AV.float j]] => some (Ob.tt, AV.float (s_vec_Dot_0 e g z j))
  | _ => none
theorem t_vec_Dot : SOkM Try.prog false (76, fun args => match S_vec_Dot args with | some (o, v) => some (o, v, []) | none => none) := SOkM.flat (N := 96) menv52_ok Try.func76 ann_vec_Dot Try.call76 fun args o v h ho => by
  unfold S_vec_Dot at h
  split at h
  · rename_i e g z j
    cases h
    have ho2 := ho
    have this := show outB (evFnM Try.prog false menv52 [] [] 96 Ann.no Try.f76 [AV.agg [AV.float e, AV.float g], AV.agg [AV.float z, AV.float j]] []) = _ from e_vec_Dot e g z j
    exact ⟨this, rfl⟩
  · cases h
def c_vec_Dot : SFM := fun args => match S_vec_Dot args with | some (o, v) => some (o, v, []) | none => none
theorem c_vec_Dot_ok : SOkM Try.prog false (76, c_vec_Dot) := t_vec_Dot
def mss51 : List (FuncId × SFM) := (76, c_vec_Dot) :: mss50
def menv53 : EnvM := mkEnvM mxs mss51 mws3
theorem mss51_ok : All (SOkM Try.prog false) mss51 := All.cons c_vec_Dot_ok mss50_ok
theorem menv53_ok : menv53.Ok Try.prog false := mkEnvM_ok mxs_ok mss51_ok mws3_ok
-- tumble/vec.Square
theorem ann_vec_Square : FnOk Try.prog false 0 Try.f68 Ann.no := (fnNo _)
def s_vec_Square_0 (e g : Nat) : Nat := (s_vec_Dot_0 e g e g)
theorem e_vec_Square (e g : Nat) : outB (evFnM Try.prog false menv53 [] [] 96 Ann.no Try.f68 [AV.agg [AV.float e, AV.float g]] []) = some (true, AV.float (s_vec_Square_0 e g)) := by kernel_rfl
def S_vec_Square : List AV → Option (Ob × AV)
  | [AV.agg [AV.float e, AV.float g]] => some (Ob.tt, AV.float (s_vec_Square_0 e g))
  | _ => none
theorem t_vec_Square : SOkM Try.prog false (68, fun args => match S_vec_Square args with | some (o, v) => some (o, v, []) | none => none) := SOkM.flat (N := 96) menv53_ok Try.func68 ann_vec_Square Try.call68 fun args o v h ho => by
  unfold S_vec_Square at h
  split at h
  · rename_i e g
    cases h
    have ho2 := ho
    have this := show outB (evFnM Try.prog false menv53 [] [] 96 Ann.no Try.f68 [AV.agg [AV.float e, AV.float g]] []) = _ from e_vec_Square e g
    exact ⟨this, rfl⟩
  · cases h
def c_vec_Square : SFM := fun args => match S_vec_Square args with | some (o, v) => some (o, v, []) | none => none
theorem c_vec_Square_ok : SOkM Try.prog false (68, c_vec_Square) := t_vec_Square
def mss52 : List (FuncId × SFM) := (68, c_vec_Square) :: mss51
def menv54 : EnvM := mkEnvM mxs mss52 mws3
theorem mss52_ok : All (SOkM Try.prog false) mss52 := All.cons c_vec_Square_ok mss51_ok
theorem menv54_ok : menv54.Ok Try.prog false := mkEnvM_ok mxs_ok mss52_ok mws3_ok
-- math.Sqrt
theorem ann_math_Sqrt : FnOk Try.prog false 0 Try.f71 Ann.no := (fnNo _)
def s_math_Sqrt_0 (e : Nat) : Nat := (fsqrt e)
theorem e_math_Sqrt (e : Nat) : outB (evFnM Try.prog false menv54 [] [] 96 Ann.no Try.f71 [AV.float e] []) = some (true, AV.float (s_math_Sqrt_0 e)) := by kernel_rfl
def S_math_Sqrt : List AV → Option (Ob × AV)
  | [AV.float e] => some (Ob.tt, AV.float (s_math_Sqrt_0 e))
  | _ => none
theorem t_math_Sqrt : SOkM Try.prog false (71, fun args => match S_math_Sqrt args with | some (o, v) => some (o, v, []) | none => none) := SOkM.flat (N := 96) menv54_ok Try.func71 ann_math_Sqrt Try.call71 fun args o v h ho => by
  unfold S_math_Sqrt at h
  split at h
  · rename_i e
    cases h
    have ho2 := ho
    have this := show outB (evFnM Try.prog false menv54 [] [] 96 Ann.no Try.f71 [AV.float e] []) = _ from e_math_Sqrt e
    exact ⟨this, rfl⟩
  · cases h
def c_math_Sqrt : SFM := fun args => match S_math_Sqrt args with | some (o, v) => some (o, v, []) | none => none
theorem c_math_Sqrt_ok : SOkM Try.prog false (71, c_math_Sqrt) := t_math_Sqrt
def mss53 : List (FuncId × SFM) := (71, c_math_Sqrt) :: mss52
def menv55 : EnvM := mkEnvM mxs mss53 mws3
theorem mss53_ok : All (SOkM Try.prog false) mss53 := All.cons c_math_Sqrt_ok mss52_ok
theorem menv55_ok : menv55.Ok Try.prog false := mkEnvM_ok mxs_ok mss53_ok mws3_ok
-- tumble/vec.Length
theorem ann_vec_Length : FnOk Try.prog false 0 Try.f54 Ann.no := (fnNo _)
def s_vec_Length_0 (e g : Nat) : Nat := (s_math_Sqrt_0 (s_vec_Square_0 e g))
theorem e_vec_Length (e g : Nat) : outB (evFnM Try.prog false menv55 [] [] 96 Ann.no Try.f54 [AV.agg [AV.float e, AV.float g]] []) = some (true, AV.float (s_vec_Length_0 e g)) := by kernel_rfl
def S_vec_Length : List AV → Option (Ob × AV)
  | [AV.agg [AV.float e, AV.float g]] => some (Ob.tt, AV.float (s_vec_Length_0 e g))
  | _ => none
theorem t_vec_Length : SOkM Try.prog false (54, fun args => match S_vec_Length args with | some (o, v) => some (o, v, []) | none => none) := SOkM.flat (N := 96) menv55_ok Try.func54 ann_vec_Length Try.call54 fun args o v h ho => by
  unfold S_vec_Length at h
  split at h
  · rename_i e g
    cases h
    have ho2 := ho
    have this := show outB (evFnM Try.prog false menv55 [] [] 96 Ann.no Try.f54 [AV.agg [AV.float e, AV.float g]] []) = _ from e_vec_Length e g
    exact ⟨this, rfl⟩
  · cases h
def c_vec_Length : SFM := fun args => match S_vec_Length args with | some (o, v) => some (o, v, []) | none => none
theorem c_vec_Length_ok : SOkM Try.prog false (54, c_vec_Length) := t_vec_Length
def mss54 : List (FuncId × SFM) := (54, c_vec_Length) :: mss53
def menv56 : EnvM := mkEnvM mxs mss54 mws3
theorem mss54_ok : All (SOkM Try.prog false) mss54 := All.cons c_vec_Length_ok mss53_ok
theorem menv56_ok : menv56.Ok Try.prog false := mkEnvM_ok mxs_ok mss54_ok mws3_ok
-- (tumble/shape.capsule).check
theorem ann__shape_capsule__check : FnOk Try.prog false 0 Try.f105 Ann.no := (fnNo _)
def s__shape_capsule__check_0 (e g z j L : Nat) : Int := (bif ((((!(s_vec_Within_0 e g 4787326403894837248)) || (!(s_vec_Within_0 z j 4787326403894837248))) || (!(s_shape_length_0 L))) || (flt (s_vec_Length_0 (s_vec_Sub_0 z j e g) (s_vec_Sub_1 z j e g)) 4472074429978902528)) then (bif (((!(s_vec_Within_0 e g 4787326403894837248)) || (!(s_vec_Within_0 z j 4787326403894837248))) || (!(s_shape_length_0 L))) then (5 : Int) else (6 : Int)) else (0 : Int))
theorem e__shape_capsule__check (e g z j L : Nat) : outB (evFnM Try.prog false menv56 [] [] 96 Ann.no Try.f105 [AV.agg [AV.float e, AV.float g, AV.float z, AV.float j, AV.float L]] []) = some (true, AV.int .i64 (s__shape_capsule__check_0 e g z j L)) := by kernel_rfl
def S__shape_capsule__check : List AV → Option (Ob × AV)
  | [AV.agg [AV.float e, AV.float g, AV.float z, AV.float j, AV.float L]] => some (Ob.tt, AV.int .i64 (s__shape_capsule__check_0 e g z j L))
  | _ => none
theorem t__shape_capsule__check : SOkM Try.prog false (105, fun args => match S__shape_capsule__check args with | some (o, v) => some (o, v, []) | none => none) := SOkM.flat (N := 96) menv56_ok Try.func105 ann__shape_capsule__check Try.call105 fun args o v h ho => by
  unfold S__shape_capsule__check at h
  split at h
  · rename_i e g z j L
    cases h
    have ho2 := ho
    have this := show outB (evFnM Try.prog false menv56 [] [] 96 Ann.no Try.f105 [AV.agg [AV.float e, AV.float g, AV.float z, AV.float j, AV.float L]] []) = _ from e__shape_capsule__check e g z j L
    exact ⟨this, rfl⟩
  · cases h
def c__shape_capsule__check : SFM := fun args => match S__shape_capsule__check args with | some (o, v) => some (o, v, []) | none => none
theorem c__shape_capsule__check_ok : SOkM Try.prog false (105, c__shape_capsule__check) := t__shape_capsule__check
def mss55 : List (FuncId × SFM) := (105, c__shape_capsule__check) :: mss54
def menv57 : EnvM := mkEnvM mxs mss55 mws3
theorem mss55_ok : All (SOkM Try.prog false) mss55 := All.cons c__shape_capsule__check_ok mss54_ok
theorem menv57_ok : menv57.Ok Try.prog false := mkEnvM_ok mxs_ok mss55_ok mws3_ok
-- tumble/poly.reals
-- a loop of tumble/poly.reals
structure V_poly_reals_L0 where
  v0 : Int
def tpl_poly_reals_L0 : List AV := (tpA 8 (AV.nul :: AV.nul :: AV.nul :: tpA 7 ([])))
def cts_poly_reals_L0 : List CT := []
def phs_poly_reals_L0 : List Src := []
def T_poly_reals_L0 (u : Nat) (t m : Nat → Nat) (B : Int) (x : V_poly_reals_L0) (F0 : Nat → List AV) : List AV × Heap := ((tpA 8 (AV.view u 2 F0 :: AV.int .i64 B :: AV.int .i64 x.v0 :: tpA 7 ([]))), [])
def sh_poly_reals_L0 (u : Nat) (t m : Nat → Nat) (B : Int) (x : V_poly_reals_L0) : List AV × Heap := T_poly_reals_L0 u t m B x (fun j0 => [AV.float (t j0), AV.float (m j0)])
def step_poly_reals_L0 (u : Nat) (t m : Nat → Nat) (B : Int) (x : V_poly_reals_L0) : V_poly_reals_L0 := V_poly_reals_L0.mk (IntKind.wrap .i64 (x.v0 + (1 : Int)))
def go_poly_reals_L0 (u : Nat) (t m : Nat → Nat) (B : Int) (x : V_poly_reals_L0) : Bool := (bif (bif (!(ilt x.v0 B)) then false else (!(s_vec_Within_0 (t (Int.toNat x.v0)) (m (Int.toNat x.v0)) 4787326403894837248))) then false else (bif (!(ilt x.v0 B)) then false else true))
def ok_poly_reals_L0 (u : Nat) (t m : Nat → Nat) (B : Int) (x : V_poly_reals_L0) : Bool := (mrgB (bif (!(ilt x.v0 B)) then false else (!(s_vec_Within_0 (t (Int.toNat x.v0)) (m (Int.toNat x.v0)) 4787326403894837248))) ((ile (0 : Int) x.v0) && (Nat.blt (Int.toNat x.v0) u)) (mrgB (!(ilt x.v0 B)) true ((ile (0 : Int) x.v0) && (Nat.blt (Int.toNat x.v0) u))))
def L_poly_reals_L0 (u : Nat) (t m : Nat → Nat) (B : Int) (x : V_poly_reals_L0) : V_poly_reals_L0 := lastL (ok_poly_reals_L0 u t m B) (go_poly_reals_L0 u t m B) (step_poly_reals_L0 u t m B) x
def E_poly_reals_L0 (u : Nat) (t m : Nat → Nat) (B : Int) (x : V_poly_reals_L0) : Bool := endsL (ok_poly_reals_L0 u t m B) (go_poly_reals_L0 u t m B) (step_poly_reals_L0 u t m B) x
theorem all_poly_reals_L0 (u : Nat) (t m : Nat → Nat) (B : Int) (x : V_poly_reals_L0) : rnd Try.prog false menv57 [] [] 96 Ann.no (subC [1, 1, 0, 1, 0, 0] (codeOf Try.f52)) 0 [] tpl_poly_reals_L0 cts_poly_reals_L0 (tpB 8 (false :: false :: tpB 8 ([]))) [] (sh_poly_reals_L0 u t m B x) = (true, true, go_poly_reals_L0 u t m B x, ok_poly_reals_L0 u t m B x, true, sh_poly_reals_L0 u t m B (step_poly_reals_L0 u t m B x), true) := by kernel_rfl
def fam_poly_reals_L0 (u : Nat) (t m : Nat → Nat) (B : Int) : Fam Try.prog false menv57 [] [] 96 0 Ann.no (subC [1, 1, 0, 1, 0, 0] (codeOf Try.f52)) V_poly_reals_L0 where
  sh := sh_poly_reals_L0 u t m B
  ok := ok_poly_reals_L0 u t m B
  go := go_poly_reals_L0 u t m B
  step := step_poly_reals_L0 u t m B
  chg := (tpB 8 (false :: false :: tpB 8 ([])))
  chgH := []
  tpl := tpl_poly_reals_L0
  cts := cts_poly_reals_L0
  keep := 0
  srcs := []
  ann := (annNo (subC [1, 1, 0, 1, 0, 0] (codeOf Try.f52)))
  le := by kernel_rfl
  kept := by kernel_rfl
  keptB := by kernel_rfl
  all := all_poly_reals_L0 u t m B
  len := fun x => by kernel_rfl
  head := fun x y => by kernel_rfl
  con := fun x y => by kernel_rfl
  conH := fun x y => by kernel_rfl
def F_poly_reals_L0 : St → Option Ch := fun s => cond (Nat.beq s.tm.length 18 && Nat.beq s.H.length 0) (tkTops 8 (alL tpl_poly_reals_L0 s.tm) fun t0 => tkCons t0 fun g t1 => tkView 2 g fun s0 f0 => tkCons t1 fun z t2 => tkI .i64 z fun s3 => tkCons t2 fun j t3 => tkI .i64 j fun s4 => tkTops 7 t3 fun t4 => tkNil t4 <| tkNil (alH cts_poly_reals_L0 (s.H ++ List.map phan phs_poly_reals_L0)) <| Fam.out (fam_poly_reals_L0 s0 (fL f0 0) (fL f0 1) s3) s (allB fun i => isNrm [Ck.f, Ck.f] (f0 i)) (V_poly_reals_L0.mk s4)) none
theorem F_poly_reals_L0_ok : ∀ s ch, F_poly_reals_L0 s = some ch → AllI s ch ∧ LoopSpec Try.prog false 0 (subC [1, 1, 0, 1, 0, 0] (codeOf Try.f52)) s (sel ch) := by
  intro s ch h
  unfold F_poly_reals_L0 at h
  obtain ⟨hl, h0⟩ := cond_some h rfl
  clear h
  obtain ⟨hl, hb⟩ := and_beq2 hl
  obtain ⟨t0, e0, h1⟩ := tkTops_some h0
  obtain ⟨g, t1, rfl, h2⟩ := tkCons_some h1
  obtain ⟨s0, f0, rfl, h3⟩ := tkView_some h2
  obtain ⟨z, t2, rfl, h4⟩ := tkCons_some h3
  obtain ⟨s3, rfl, h5⟩ := tkI_some h4
  obtain ⟨j, t3, rfl, h6⟩ := tkCons_some h5
  obtain ⟨s4, rfl, h7⟩ := tkI_some h6
  obtain ⟨t4, rfl, h8⟩ := tkTops_some h7
  obtain ⟨rfl, h9⟩ := tkNil_some h8
  obtain ⟨eH, h10⟩ := tkNil_some h9
  refine Fam.spec menv57_ok (fam_poly_reals_L0 s0 (fL f0 0) (fL f0 1) s3) (phs := phs_poly_reals_L0) (hl.trans (by kernel_rfl)) (hb.trans (by kernel_rfl)) ?_ ?_ h10
  · rw [← hdr_alH cts_poly_reals_L0 (s.H ++ List.map phan phs_poly_reals_L0), eH]; kernel_rfl
  · intro hq
    have hq0 := hq
    have n0 := nrm_fun hq0
    show sh_poly_reals_L0 s0 (fL f0 0) (fL f0 1) s3 (V_poly_reals_L0.mk s4) = (alL tpl_poly_reals_L0 s.tm, alH cts_poly_reals_L0 (s.H ++ List.map phan phs_poly_reals_L0))
    rw [e0, eH]
    refine Eq.trans (show sh_poly_reals_L0 s0 (fL f0 0) (fL f0 1) s3 (V_poly_reals_L0.mk s4) = T_poly_reals_L0 s0 (fL f0 0) (fL f0 1) s3 (V_poly_reals_L0.mk s4) (fun i => mkN [Ck.f, Ck.f] (f0 i) 0) by kernel_rfl) ?_
    rw [n0]
    kernel_rfl
theorem ann_poly_reals : FnOk Try.prog false 0 Try.f52 (Ann.two Ann.no (Ann.two Ann.no (Ann.two (Ann.two Ann.no (Ann.one (Ann.loop F_poly_reals_L0))) Ann.no))) := (fnOk_of (c := codeOf Try.f52) (by kernel_rfl) (annSeq (a := (subC [0] (codeOf Try.f52))) (b := (subC [1] (codeOf Try.f52))) (by kernel_rfl) (annNo (subC [0] (codeOf Try.f52))) (annSeq (a := (subC [1, 0] (codeOf Try.f52))) (b := (subC [1, 1] (codeOf Try.f52))) (by kernel_rfl) (annNo (subC [1, 0] (codeOf Try.f52))) (annSeq (a := (subC [1, 1, 0] (codeOf Try.f52))) (b := (subC [1, 1, 1] (codeOf Try.f52))) (by kernel_rfl) (annSeq (a := (subC [1, 1, 0, 0] (codeOf Try.f52))) (b := (subC [1, 1, 0, 1] (codeOf Try.f52))) (by kernel_rfl) (annNo (subC [1, 1, 0, 0] (codeOf Try.f52))) (annBlock (a := (subC [1, 1, 0, 1, 0] (codeOf Try.f52))) (i := 0) (by kernel_rfl) (annLoop (a := (subC [1, 1, 0, 1, 0, 0] (codeOf Try.f52))) (by kernel_rfl) F_poly_reals_L0_ok))) (annNo (subC [1, 1, 1] (codeOf Try.f52)))))))
def s_poly_reals_0 (k : Nat) (n r : Nat → Nat) : Int := (bif (ilt (64 : Int) (Int.ofNat k)) then (4 : Int) else (bif (bif (!(ilt ((L_poly_reals_L0 k n r (Int.ofNat k) (V_poly_reals_L0.mk (0 : Int))).v0) (Int.ofNat k))) then false else (!(s_vec_Within_0 (n (Int.toNat ((L_poly_reals_L0 k n r (Int.ofNat k) (V_poly_reals_L0.mk (0 : Int))).v0))) (r (Int.toNat ((L_poly_reals_L0 k n r (Int.ofNat k) (V_poly_reals_L0.mk (0 : Int))).v0))) 4787326403894837248))) then (5 : Int) else (0 : Int)))
def q_poly_reals (k : Nat) (n r : Nat → Nat) : Bool := (let x0 := (allB fun _ => true) && (E_poly_reals_L0 k n r (Int.ofNat k) (V_poly_reals_L0.mk (0 : Int))); let x1 := (L_poly_reals_L0 k n r (Int.ofNat k) (V_poly_reals_L0.mk (0 : Int))).v0; let x2 := Int.toNat x1; (mrgB (ilt (64 : Int) (Int.ofNat k)) true (mrgB (bif (!(ilt x1 (Int.ofNat k))) then false else (!(s_vec_Within_0 (n x2) (r x2) 4787326403894837248))) x0 x0)))
theorem e_poly_reals (k : Nat) (n r : Nat → Nat) : outB (evFnM Try.prog false menv57 [] [] 96 (Ann.two Ann.no (Ann.two Ann.no (Ann.two (Ann.two Ann.no (Ann.one (Ann.loop F_poly_reals_L0))) Ann.no))) Try.f52 [AV.view k 2 (fun i0 => [AV.float (n i0), AV.float (r i0)])] []) = some (q_poly_reals k n r, AV.int .i64 (s_poly_reals_0 k n r)) := by kernel_rfl
def o_poly_reals (k : Nat) (n r : Nat → Nat) : Bool := (mrgB (ilt (64 : Int) (Int.ofNat k)) true (mrgB (bif (!(ilt ((L_poly_reals_L0 k n r (Int.ofNat k) (V_poly_reals_L0.mk (0 : Int))).v0) (Int.ofNat k))) then false else (!(s_vec_Within_0 (n (Int.toNat ((L_poly_reals_L0 k n r (Int.ofNat k) (V_poly_reals_L0.mk (0 : Int))).v0))) (r (Int.toNat ((L_poly_reals_L0 k n r (Int.ofNat k) (V_poly_reals_L0.mk (0 : Int))).v0))) 4787326403894837248))) (E_poly_reals_L0 k n r (Int.ofNat k) (V_poly_reals_L0.mk (0 : Int))) (E_poly_reals_L0 k n r (Int.ofNat k) (V_poly_reals_L0.mk (0 : Int)))))
def S_poly_reals : List AV → Option (Ob × AV)
  | [AV.view k 2 C] => some (Ob.both (Ob.bit (allB fun i => isNrm [Ck.f, Ck.f] (C i))) (Ob.bit (o_poly_reals k (fL C 0) (fL C 1))), AV.int .i64 (s_poly_reals_0 k (fL C 0) (fL C 1)))
  | _ => none
theorem ob_poly_reals (k : Nat) (n r : Nat → Nat) (ho : o_poly_reals k n r = true) : q_poly_reals k n r = true := by
  unfold q_poly_reals
  unfold o_poly_reals at ho
  simp only [allB_true, eqT_self, mrgB_self, Bool.true_and, Bool.and_true] at ho ⊢
  exact ho
theorem t_poly_reals : SOkM Try.prog false (52, fun args => match S_poly_reals args with | some (o, v) => some (o, v, []) | none => none) := SOkM.flat (N := 96) menv57_ok Try.func52 ann_poly_reals Try.call52 fun args o v h ho => by
  unfold S_poly_reals at h
  split at h
  · rename_i k C
    cases h
    rw [Ob.both_ok, Bool.and_eq_true] at ho
    obtain ⟨hn, ho2⟩ := ho
    have n0 := hn
    simp only [Ob.ok] at n0
    replace n0 := nrm_fun n0
    have this := show outB (evFnM Try.prog false menv57 [] [] 96 (Ann.two Ann.no (Ann.two Ann.no (Ann.two (Ann.two Ann.no (Ann.one (Ann.loop F_poly_reals_L0))) Ann.no))) Try.f52 [AV.view k 2 (fun i => mkN [Ck.f, Ck.f] (C i) 0)] []) = _ from e_poly_reals k (fL C 0) (fL C 1)
    rw [(ob_poly_reals k (fL C 0) (fL C 1) ho2)] at this
    rw [n0] at this
    exact ⟨this, rfl⟩
  · cases h
def c_poly_reals : SFM := fun args => match S_poly_reals args with | some (o, v) => some (o, v, []) | none => none
theorem c_poly_reals_ok : SOkM Try.prog false (52, c_poly_reals) := t_poly_reals
def mss56 : List (FuncId × SFM) := (52, c_poly_reals) :: mss55
def menv58 : EnvM := mkEnvM mxs mss56 mws3
theorem mss56_ok : All (SOkM Try.prog false) mss56 := All.cons c_poly_reals_ok mss55_ok
theorem menv58_ok : menv58.Ok Try.prog false := mkEnvM_ok mxs_ok mss56_ok mws3_ok
-- tumble/poly.side
theorem ann_poly_side : FnOk Try.prog false 0 Try.f53 Ann.no := (fnNo _)
def s_poly_side_0 (k : Nat) (n r : Nat → Nat) (g : Int) : Nat := (s_vec_Sub_0 (n (Int.toNat (Int.tmod (IntKind.wrap .i64 (g + (1 : Int))) (Int.ofNat k)))) (r (Int.toNat (Int.tmod (IntKind.wrap .i64 (g + (1 : Int))) (Int.ofNat k)))) (n (Int.toNat g)) (r (Int.toNat g)))
def s_poly_side_1 (k : Nat) (n r : Nat → Nat) (g : Int) : Nat := (s_vec_Sub_1 (n (Int.toNat (Int.tmod (IntKind.wrap .i64 (g + (1 : Int))) (Int.ofNat k)))) (r (Int.toNat (Int.tmod (IntKind.wrap .i64 (g + (1 : Int))) (Int.ofNat k)))) (n (Int.toNat g)) (r (Int.toNat g)))
def o_poly_side (k : Nat) (n r : Nat → Nat) (g : Int) : Bool := (((ile (0 : Int) g) && (Nat.blt (Int.toNat g) k)) && (((ile (0 : Int) (Int.tmod (IntKind.wrap .i64 (g + (1 : Int))) (Int.ofNat k))) && (Nat.blt (Int.toNat (Int.tmod (IntKind.wrap .i64 (g + (1 : Int))) (Int.ofNat k))) k)) && (!(ieq (Int.ofNat k) (0 : Int)))))
theorem e_poly_side (k : Nat) (n r : Nat → Nat) (g : Int) : outB (evFnM Try.prog false menv58 [] [] 96 Ann.no Try.f53 [AV.view k 2 (fun i0 => [AV.float (n i0), AV.float (r i0)]), AV.int .i64 g] []) = some (o_poly_side k n r g, AV.agg [AV.float (s_poly_side_0 k n r g), AV.float (s_poly_side_1 k n r g)]) := by kernel_rfl
def S_poly_side : List AV → Option (Ob × AV)
  | [AV.view k 2 C, AV.int .i64 g] => some (Ob.both (Ob.bit (allB fun i => isNrm [Ck.f, Ck.f] (C i))) (Ob.bit (o_poly_side k (fL C 0) (fL C 1) g)), AV.agg [AV.float (s_poly_side_0 k (fL C 0) (fL C 1) g), AV.float (s_poly_side_1 k (fL C 0) (fL C 1) g)])
  | _ => none
theorem t_poly_side : SOkM Try.prog false (53, fun args => match S_poly_side args with | some (o, v) => some (o, v, []) | none => none) := SOkM.flat (N := 96) menv58_ok Try.func53 ann_poly_side Try.call53 fun args o v h ho => by
  unfold S_poly_side at h
  split at h
  · rename_i k C g
    cases h
    rw [Ob.both_ok, Bool.and_eq_true] at ho
    obtain ⟨hn, ho2⟩ := ho
    have n0 := hn
    simp only [Ob.ok] at n0
    replace n0 := nrm_fun n0
    have this := show outB (evFnM Try.prog false menv58 [] [] 96 Ann.no Try.f53 [AV.view k 2 (fun i => mkN [Ck.f, Ck.f] (C i) 0), AV.int .i64 g] []) = _ from e_poly_side k (fL C 0) (fL C 1) g
    rw [show o_poly_side k (fL C 0) (fL C 1) g = true from ho2] at this
    rw [n0] at this
    exact ⟨this, rfl⟩
  · cases h
def c_poly_side : SFM := fun args => match S_poly_side args with | some (o, v) => some (o, v, []) | none => none
theorem c_poly_side_ok : SOkM Try.prog false (53, c_poly_side) := t_poly_side
def mss57 : List (FuncId × SFM) := (53, c_poly_side) :: mss56
def menv59 : EnvM := mkEnvM mxs mss57 mws3
theorem mss57_ok : All (SOkM Try.prog false) mss57 := All.cons c_poly_side_ok mss56_ok
theorem menv59_ok : menv59.Ok Try.prog false := mkEnvM_ok mxs_ok mss57_ok mws3_ok
-- tumble/vec.Cross
theorem ann_vec_Cross : FnOk Try.prog false 0 Try.f55 Ann.no := (fnNo _)
def s_vec_Cross_0 (e g z j : Nat) : Nat := (fsub (fmul e j) (fmul g z))
theorem e_vec_Cross (e g z j : Nat) : outB (evFnM Try.prog false menv59 [] [] 96 Ann.no Try.f55 [AV.agg [AV.float e, AV.float g], AV.agg [AV.float z, AV.float j]] []) = some (true, AV.float (s_vec_Cross_0 e g z j)) := by kernel_rfl
def S_vec_Cross : List AV → Option (Ob × AV)
  | [AV.agg [AV.float e, AV.float g], AV.agg [AV.float z, AV.float j]] => some (Ob.tt, AV.float (s_vec_Cross_0 e g z j))
  | _ => none
theorem t_vec_Cross : SOkM Try.prog false (55, fun args => match S_vec_Cross args with | some (o, v) => some (o, v, []) | none => none) := SOkM.flat (N := 96) menv59_ok Try.func55 ann_vec_Cross Try.call55 fun args o v h ho => by
  unfold S_vec_Cross at h
  split at h
  · rename_i e g z j
    cases h
    have ho2 := ho
    have this := show outB (evFnM Try.prog false menv59 [] [] 96 Ann.no Try.f55 [AV.agg [AV.float e, AV.float g], AV.agg [AV.float z, AV.float j]] []) = _ from e_vec_Cross e g z j
    exact ⟨this, rfl⟩
  · cases h
def c_vec_Cross : SFM := fun args => match S_vec_Cross args with | some (o, v) => some (o, v, []) | none => none
theorem c_vec_Cross_ok : SOkM Try.prog false (55, c_vec_Cross) := t_vec_Cross
def mss58 : List (FuncId × SFM) := (55, c_vec_Cross) :: mss57
def menv60 : EnvM := mkEnvM mxs mss58 mws3
theorem mss58_ok : All (SOkM Try.prog false) mss58 := All.cons c_vec_Cross_ok mss57_ok
theorem menv60_ok : menv60.Ok Try.prog false := mkEnvM_ok mxs_ok mss58_ok mws3_ok
-- tumble/poly.Check
-- a loop of tumble/poly.Check
structure V_poly_Check_L0 where
  v0 : Int
def tpl_poly_Check_L0 : List AV := (AV.nul :: AV.top :: AV.top :: AV.top :: AV.nul :: AV.nul :: AV.nul :: AV.nul :: tpA 8 (AV.nul :: AV.nul :: AV.nul :: tpA 31 ([])))
def cts_poly_Check_L0 : List CT := [CT.keep, CT.keep]
def phs_poly_Check_L0 : List Src := []
def T_poly_Check_L0 (u : Nat) (t m : Nat → Nat) (B K : Int) (I E F D : Nat) (x : V_poly_Check_L0) (F0 F1 : Nat → List AV) : List AV × Heap := ((AV.view u 2 F0 :: AV.top :: AV.top :: AV.top :: AV.int .i64 B :: AV.ptr (some ⟨0, 0, .lit 0⟩) :: AV.ptr (some ⟨1, 0, .lit 0⟩) :: AV.int .i64 x.v0 :: tpA 8 (AV.view u 2 F1 :: AV.int .i64 K :: AV.int .i64 B :: tpA 31 ([]))), [⟨.flat [AV.float I, AV.float E], 26, 0⟩, ⟨.flat [AV.float F, AV.float D], 26, 0⟩])
def sh_poly_Check_L0 (u : Nat) (t m : Nat → Nat) (B K : Int) (I E F D : Nat) (x : V_poly_Check_L0) : List AV × Heap := T_poly_Check_L0 u t m B K I E F D x (fun j0 => [AV.float (t j0), AV.float (m j0)]) (fun j0 => [AV.float (t j0), AV.float (m j0)])
def step_poly_Check_L0 (u : Nat) (t m : Nat → Nat) (B : Int) (I E F D : Nat) (x : V_poly_Check_L0) : V_poly_Check_L0 := V_poly_Check_L0.mk (IntKind.wrap .i64 (x.v0 + (1 : Int)))
def go_poly_Check_L0 (u : Nat) (t m : Nat → Nat) (B : Int) (I E F D : Nat) (x : V_poly_Check_L0) : Bool := let x0 := !(ilt x.v0 (Int.ofNat u)); let x1 := Int.toNat (Int.tmod (IntKind.wrap .i64 (B + x.v0)) (Int.ofNat u)); let x2 := m x1; let x3 := t x1; (bif (bif x0 then false else (fle (s_vec_Cross_0 F D (s_vec_Sub_0 x3 x2 I E) (s_vec_Sub_1 x3 x2 I E)) 0)) then false else (bif x0 then false else true))
def ok_poly_Check_L0 (u : Nat) (t m : Nat → Nat) (B : Int) (I E F D : Nat) (x : V_poly_Check_L0) : Bool := let x0 := Int.tmod (IntKind.wrap .i64 (B + x.v0)) (Int.ofNat u); let x1 := Int.toNat x0; let x2 := ((ile (0 : Int) x0) && (Nat.blt x1 u)) && (!(ieq (Int.ofNat u) (0 : Int))); let x3 := !(ilt x.v0 (Int.ofNat u)); let x4 := m x1; let x5 := t x1; (mrgB (bif x3 then false else (fle (s_vec_Cross_0 F D (s_vec_Sub_0 x5 x4 I E) (s_vec_Sub_1 x5 x4 I E)) 0)) x2 (mrgB x3 true x2))
def L_poly_Check_L0 (u : Nat) (t m : Nat → Nat) (B : Int) (I E F D : Nat) (x : V_poly_Check_L0) : V_poly_Check_L0 := lastL (ok_poly_Check_L0 u t m B I E F D) (go_poly_Check_L0 u t m B I E F D) (step_poly_Check_L0 u t m B I E F D) x
def E_poly_Check_L0 (u : Nat) (t m : Nat → Nat) (B : Int) (I E F D : Nat) (x : V_poly_Check_L0) : Bool := endsL (ok_poly_Check_L0 u t m B I E F D) (go_poly_Check_L0 u t m B I E F D) (step_poly_Check_L0 u t m B I E F D) x
theorem all_poly_Check_L0 (u : Nat) (t m : Nat → Nat) (B K : Int) (I E F D : Nat) (x : V_poly_Check_L0) : rnd Try.prog false menv60 [] [] 96 Ann.no (subC [1, 1, 1, 0, 1, 0, 0, 1, 1, 0, 0, 1, 1, 1, 1, 0, 0] (codeOf Try.f20)) 0 [⟨some 0, 0, 0, []⟩, ⟨some 1, 0, 0, []⟩] tpl_poly_Check_L0 cts_poly_Check_L0 (false :: true :: true :: true :: false :: false :: false :: tpB 9 (false :: false :: false :: tpB 31 ([]))) [false, false] (sh_poly_Check_L0 u t m B K I E F D x) = (true, true, go_poly_Check_L0 u t m B I E F D x, ok_poly_Check_L0 u t m B I E F D x, true, sh_poly_Check_L0 u t m B K I E F D (step_poly_Check_L0 u t m B I E F D x), true) := by kernel_rfl
def fam_poly_Check_L0 (u : Nat) (t m : Nat → Nat) (B K : Int) (I E F D : Nat) : Fam Try.prog false menv60 [] [] 96 0 Ann.no (subC [1, 1, 1, 0, 1, 0, 0, 1, 1, 0, 0, 1, 1, 1, 1, 0, 0] (codeOf Try.f20)) V_poly_Check_L0 where
  sh := sh_poly_Check_L0 u t m B K I E F D
  ok := ok_poly_Check_L0 u t m B I E F D
  go := go_poly_Check_L0 u t m B I E F D
  step := step_poly_Check_L0 u t m B I E F D
  chg := (false :: true :: true :: true :: false :: false :: false :: tpB 9 (false :: false :: false :: tpB 31 ([])))
  chgH := [false, false]
  tpl := tpl_poly_Check_L0
  cts := cts_poly_Check_L0
  keep := 0
  srcs := [⟨some 0, 0, 0, []⟩, ⟨some 1, 0, 0, []⟩]
  ann := (annNo (subC [1, 1, 1, 0, 1, 0, 0, 1, 1, 0, 0, 1, 1, 1, 1, 0, 0] (codeOf Try.f20)))
  le := by kernel_rfl
  kept := by kernel_rfl
  keptB := by kernel_rfl
  all := all_poly_Check_L0 u t m B K I E F D
  len := fun x => by kernel_rfl
  head := fun x y => by kernel_rfl
  con := fun x y => by kernel_rfl
  conH := fun x y => by kernel_rfl
def F_poly_Check_L0 : St → Option Ch := fun s => cond (Nat.beq s.tm.length 50 && Nat.beq s.H.length 2) (tkCons (alL tpl_poly_Check_L0 s.tm) fun e t0 => tkView 2 e fun s0 f0 => tkTops 3 t0 fun t1 => tkCons t1 fun z t2 => tkI .i64 z fun s3 => tkCons t2 fun j t3 => tkPtr 0 0 0 j <| tkCons t3 fun L t4 => tkPtr 1 0 0 L <| tkCons t4 fun Q t5 => tkI .i64 Q fun s4 => tkTops 8 t5 fun t6 => tkCons t6 fun R t7 => tkView 2 R fun s5 f1 => tkCons t7 fun P t8 => tkI .i64 P fun s8 => tkCons t8 fun S t9 => tkI .i64 S fun s9 => tkTops 31 t9 fun t10 => tkNil t10 <| tkCons (alH cts_poly_Check_L0 (s.H ++ List.map phan phs_poly_Check_L0)) fun b11 t11 => tkFlat 26 0 b11 fun m11 => tkCons m11 fun T t12 => tkF T fun s10 => tkCons t12 fun W t13 => tkF W fun s11 => tkNil t13 <| tkCons t11 fun b14 t14 => tkFlat 26 0 b14 fun m14 => tkCons m14 fun X t15 => tkF X fun s12 => tkCons t15 fun U t16 => tkF U fun s13 => tkNil t16 <| tkNil t14 <| Fam.out (fam_poly_Check_L0 s0 (fL f0 0) (fL f0 1) s3 s8 s10 s11 s12 s13) s ((((allB fun i => isNrm [Ck.f, Ck.f] (f0 i)) && (eqT f1 f0)) && (eqT s5 s0)) && (eqT s9 s3)) (V_poly_Check_L0.mk s4)) none
theorem F_poly_Check_L0_ok : ∀ s ch, F_poly_Check_L0 s = some ch → AllI s ch ∧ LoopSpec Try.prog false 0 (subC [1, 1, 1, 0, 1, 0, 0, 1, 1, 0, 0, 1, 1, 1, 1, 0, 0] (codeOf Try.f20)) s (sel ch) := by
  intro s ch h
  unfold F_poly_Check_L0 at h
  obtain ⟨hl, h0⟩ := cond_some h rfl
  clear h
  obtain ⟨hl, hb⟩ := and_beq2 hl
  obtain ⟨e, t0, e0, h1⟩ := tkCons_some h0
  obtain ⟨s0, f0, rfl, h2⟩ := tkView_some h1
  obtain ⟨t1, rfl, h3⟩ := tkTops_some h2
  obtain ⟨z, t2, rfl, h4⟩ := tkCons_some h3
  obtain ⟨s3, rfl, h5⟩ := tkI_some h4
  obtain ⟨j, t3, rfl, h6⟩ := tkCons_some h5
  obtain ⟨rfl, h7⟩ := tkPtr_some h6
  obtain ⟨L, t4, rfl, h8⟩ := tkCons_some h7
  obtain ⟨rfl, h9⟩ := tkPtr_some h8
  obtain ⟨Q, t5, rfl, h10⟩ := tkCons_some h9
  obtain ⟨s4, rfl, h11⟩ := tkI_some h10
  obtain ⟨t6, rfl, h12⟩ := tkTops_some h11
  obtain ⟨R, t7, rfl, h13⟩ := tkCons_some h12
  obtain ⟨s5, f1, rfl, h14⟩ := tkView_some h13
  obtain ⟨P, t8, rfl, h15⟩ := tkCons_some h14
  obtain ⟨s8, rfl, h16⟩ := tkI_some h15
  obtain ⟨S, t9, rfl, h17⟩ := tkCons_some h16
  obtain ⟨s9, rfl, h18⟩ := tkI_some h17
  obtain ⟨t10, rfl, h19⟩ := tkTops_some h18
  obtain ⟨rfl, h20⟩ := tkNil_some h19
  obtain ⟨b11, t11, eH, h21⟩ := tkCons_some h20
  obtain ⟨m11, rfl, h22⟩ := tkFlat_some h21
  obtain ⟨T, t12, rfl, h23⟩ := tkCons_some h22
  obtain ⟨s10, rfl, h24⟩ := tkF_some h23
  obtain ⟨W, t13, rfl, h25⟩ := tkCons_some h24
  obtain ⟨s11, rfl, h26⟩ := tkF_some h25
  obtain ⟨rfl, h27⟩ := tkNil_some h26
  obtain ⟨b14, t14, rfl, h28⟩ := tkCons_some h27
  obtain ⟨m14, rfl, h29⟩ := tkFlat_some h28
  obtain ⟨X, t15, rfl, h30⟩ := tkCons_some h29
  obtain ⟨s12, rfl, h31⟩ := tkF_some h30
  obtain ⟨U, t16, rfl, h32⟩ := tkCons_some h31
  obtain ⟨s13, rfl, h33⟩ := tkF_some h32
  obtain ⟨rfl, h34⟩ := tkNil_some h33
  obtain ⟨rfl, h35⟩ := tkNil_some h34
  refine Fam.spec menv60_ok (fam_poly_Check_L0 s0 (fL f0 0) (fL f0 1) s3 s8 s10 s11 s12 s13) (phs := phs_poly_Check_L0) (hl.trans (by kernel_rfl)) (hb.trans (by kernel_rfl)) ?_ ?_ h35
  · rw [← hdr_alH cts_poly_Check_L0 (s.H ++ List.map phan phs_poly_Check_L0), eH]; kernel_rfl
  · intro hq
    simp only [Bool.and_eq_true] at hq
    obtain ⟨⟨⟨hq0, hq1⟩, hq2⟩, hq3⟩ := hq
    have n0 := nrm_fun hq0
    have hx := eqT_eq hq1; subst f1
    have hx := eqT_eq hq2; subst s5
    have hx := eqT_eq hq3; subst s9
    show sh_poly_Check_L0 s0 (fL f0 0) (fL f0 1) s3 s8 s10 s11 s12 s13 (V_poly_Check_L0.mk s4) = (alL tpl_poly_Check_L0 s.tm, alH cts_poly_Check_L0 (s.H ++ List.map phan phs_poly_Check_L0))
    rw [e0, eH]
    refine Eq.trans (show sh_poly_Check_L0 s0 (fL f0 0) (fL f0 1) s3 s8 s10 s11 s12 s13 (V_poly_Check_L0.mk s4) = T_poly_Check_L0 s0 (fL f0 0) (fL f0 1) s3 s8 s10 s11 s12 s13 (V_poly_Check_L0.mk s4) (fun i => mkN [Ck.f, Ck.f] (f0 i) 0) (fun i => mkN [Ck.f, Ck.f] (f0 i) 0) by kernel_rfl) ?_
    rw [n0]
    kernel_rfl
-- a loop of tumble/poly.Check
structure V_poly_Check_L1 where
  v0 : Int
def tpl_poly_Check_L1 : List AV := (AV.nul :: tpA 15 (AV.nul :: AV.nul :: AV.nul :: tpA 31 ([])))
def cts_poly_Check_L1 : List CT := []
def phs_poly_Check_L1 : List Src := []
def T_poly_Check_L1 (u : Nat) (t m : Nat → Nat) (B : Int) (x : V_poly_Check_L1) (F0 F1 : Nat → List AV) : List AV × Heap := ((AV.view u 2 F0 :: tpA 15 (AV.view u 2 F1 :: AV.int .i64 B :: AV.int .i64 x.v0 :: tpA 31 ([]))), [])
def sh_poly_Check_L1 (u : Nat) (t m : Nat → Nat) (B : Int) (x : V_poly_Check_L1) : List AV × Heap := T_poly_Check_L1 u t m B x (fun j0 => [AV.float (t j0), AV.float (m j0)]) (fun j0 => [AV.float (t j0), AV.float (m j0)])
def step_poly_Check_L1 (u : Nat) (t m : Nat → Nat) (B : Int) (x : V_poly_Check_L1) : V_poly_Check_L1 := V_poly_Check_L1.mk (IntKind.wrap .i64 (x.v0 + (1 : Int)))
def go_poly_Check_L1 (u : Nat) (t m : Nat → Nat) (B : Int) (x : V_poly_Check_L1) : Bool := let x0 := !(ilt x.v0 B); let x1 := m (Int.toNat x.v0); let x2 := t (Int.toNat x.v0); let x3 := s_poly_side_1 u t m x.v0; let x4 := s_poly_side_0 u t m x.v0; let x5 := (L_poly_Check_L0 u t m x.v0 x2 x1 x4 x3 (V_poly_Check_L0.mk (2 : Int))).v0; let x6 := Int.toNat (Int.tmod (IntKind.wrap .i64 (x.v0 + x5)) (Int.ofNat u)); let x7 := m x6; let x8 := t x6; (bif (bif x0 then false else ((flt (s_vec_Length_0 x4 x3) 4472074429978902528) || (bif (!(ilt x5 (Int.ofNat u))) then false else (fle (s_vec_Cross_0 x4 x3 (s_vec_Sub_0 x8 x7 x2 x1) (s_vec_Sub_1 x8 x7 x2 x1)) 0)))) then false else (bif x0 then false else true))
def ok_poly_Check_L1 (u : Nat) (t m : Nat → Nat) (B : Int) (x : V_poly_Check_L1) : Bool := let x0 := s_poly_side_1 u t m x.v0; let x1 := s_poly_side_0 u t m x.v0; let x2 := m (Int.toNat x.v0); let x3 := t (Int.toNat x.v0); let x4 := (ile (0 : Int) x.v0) && (Nat.blt (Int.toNat x.v0) u); let x5 := Int.tmod (IntKind.wrap .i64 (x.v0 + (1 : Int))) (Int.ofNat u); let x6 := ((allB fun _ => true) && (x4 && (((ile (0 : Int) x5) && (Nat.blt (Int.toNat x5) u)) && (!(ieq (Int.ofNat u) (0 : Int)))))) && x4; let x7 := x6 && (((((allB fun _ => true) && (eqT (fun i => [AV.float (t i), AV.float (m i)]) (fun i => [AV.float (t i), AV.float (m i)]))) && (eqT u u)) && (eqT x.v0 x.v0)) && (E_poly_Check_L0 u t m x.v0 x3 x2 x1 x0 (V_poly_Check_L0.mk (2 : Int)))); let x8 := !(ilt x.v0 B); let x9 := flt (s_vec_Length_0 x1 x0) 4472074429978902528; let x10 := (L_poly_Check_L0 u t m x.v0 x3 x2 x1 x0 (V_poly_Check_L0.mk (2 : Int))).v0; let x11 := Int.toNat (Int.tmod (IntKind.wrap .i64 (x.v0 + x10)) (Int.ofNat u)); let x12 := m x11; let x13 := t x11; (mrgB (bif x8 then false else (x9 || (bif (!(ilt x10 (Int.ofNat u))) then false else (fle (s_vec_Cross_0 x1 x0 (s_vec_Sub_0 x13 x12 x3 x2) (s_vec_Sub_1 x13 x12 x3 x2)) 0)))) (mrgB x9 x6 x7) (mrgB x8 true x7))
def L_poly_Check_L1 (u : Nat) (t m : Nat → Nat) (B : Int) (x : V_poly_Check_L1) : V_poly_Check_L1 := lastL (ok_poly_Check_L1 u t m B) (go_poly_Check_L1 u t m B) (step_poly_Check_L1 u t m B) x
def E_poly_Check_L1 (u : Nat) (t m : Nat → Nat) (B : Int) (x : V_poly_Check_L1) : Bool := endsL (ok_poly_Check_L1 u t m B) (go_poly_Check_L1 u t m B) (step_poly_Check_L1 u t m B) x
theorem all_poly_Check_L1 (u : Nat) (t m : Nat → Nat) (B : Int) (x : V_poly_Check_L1) : rnd Try.prog false menv60 [] [] 96 (Ann.two Ann.no (Ann.two Ann.no (Ann.two (Ann.one (Ann.two Ann.no (Ann.two Ann.no (Ann.two Ann.no (Ann.two Ann.no (Ann.one (Ann.loop F_poly_Check_L0))))))) Ann.no))) (subC [1, 1, 1, 0, 1, 0, 0] (codeOf Try.f20)) 0 [] tpl_poly_Check_L1 cts_poly_Check_L1 (false :: tpB 15 (false :: false :: tpB 32 ([]))) [] (sh_poly_Check_L1 u t m B x) = (true, true, go_poly_Check_L1 u t m B x, ok_poly_Check_L1 u t m B x, true, sh_poly_Check_L1 u t m B (step_poly_Check_L1 u t m B x), true) := by kernel_rfl
def fam_poly_Check_L1 (u : Nat) (t m : Nat → Nat) (B : Int) : Fam Try.prog false menv60 [] [] 96 0 (Ann.two Ann.no (Ann.two Ann.no (Ann.two (Ann.one (Ann.two Ann.no (Ann.two Ann.no (Ann.two Ann.no (Ann.two Ann.no (Ann.one (Ann.loop F_poly_Check_L0))))))) Ann.no))) (subC [1, 1, 1, 0, 1, 0, 0] (codeOf Try.f20)) V_poly_Check_L1 where
  sh := sh_poly_Check_L1 u t m B
  ok := ok_poly_Check_L1 u t m B
  go := go_poly_Check_L1 u t m B
  step := step_poly_Check_L1 u t m B
  chg := (false :: tpB 15 (false :: false :: tpB 32 ([])))
  chgH := []
  tpl := tpl_poly_Check_L1
  cts := cts_poly_Check_L1
  keep := 0
  srcs := []
  ann := (annSeq (a := (subC [1, 1, 1, 0, 1, 0, 0, 0] (codeOf Try.f20))) (b := (subC [1, 1, 1, 0, 1, 0, 0, 1] (codeOf Try.f20))) (by kernel_rfl) (annNo (subC [1, 1, 1, 0, 1, 0, 0, 0] (codeOf Try.f20))) (annSeq (a := (subC [1, 1, 1, 0, 1, 0, 0, 1, 0] (codeOf Try.f20))) (b := (subC [1, 1, 1, 0, 1, 0, 0, 1, 1] (codeOf Try.f20))) (by kernel_rfl) (annNo (subC [1, 1, 1, 0, 1, 0, 0, 1, 0] (codeOf Try.f20))) (annSeq (a := (subC [1, 1, 1, 0, 1, 0, 0, 1, 1, 0] (codeOf Try.f20))) (b := (subC [1, 1, 1, 0, 1, 0, 0, 1, 1, 1] (codeOf Try.f20))) (by kernel_rfl) (annBlock (a := (subC [1, 1, 1, 0, 1, 0, 0, 1, 1, 0, 0] (codeOf Try.f20))) (i := 1) (by kernel_rfl) (annSeq (a := (subC [1, 1, 1, 0, 1, 0, 0, 1, 1, 0, 0, 0] (codeOf Try.f20))) (b := (subC [1, 1, 1, 0, 1, 0, 0, 1, 1, 0, 0, 1] (codeOf Try.f20))) (by kernel_rfl) (annNo (subC [1, 1, 1, 0, 1, 0, 0, 1, 1, 0, 0, 0] (codeOf Try.f20))) (annSeq (a := (subC [1, 1, 1, 0, 1, 0, 0, 1, 1, 0, 0, 1, 0] (codeOf Try.f20))) (b := (subC [1, 1, 1, 0, 1, 0, 0, 1, 1, 0, 0, 1, 1] (codeOf Try.f20))) (by kernel_rfl) (annNo (subC [1, 1, 1, 0, 1, 0, 0, 1, 1, 0, 0, 1, 0] (codeOf Try.f20))) (annSeq (a := (subC [1, 1, 1, 0, 1, 0, 0, 1, 1, 0, 0, 1, 1, 0] (codeOf Try.f20))) (b := (subC [1, 1, 1, 0, 1, 0, 0, 1, 1, 0, 0, 1, 1, 1] (codeOf Try.f20))) (by kernel_rfl) (annNo (subC [1, 1, 1, 0, 1, 0, 0, 1, 1, 0, 0, 1, 1, 0] (codeOf Try.f20))) (annSeq (a := (subC [1, 1, 1, 0, 1, 0, 0, 1, 1, 0, 0, 1, 1, 1, 0] (codeOf Try.f20))) (b := (subC [1, 1, 1, 0, 1, 0, 0, 1, 1, 0, 0, 1, 1, 1, 1] (codeOf Try.f20))) (by kernel_rfl) (annNo (subC [1, 1, 1, 0, 1, 0, 0, 1, 1, 0, 0, 1, 1, 1, 0] (codeOf Try.f20))) (annBlock (a := (subC [1, 1, 1, 0, 1, 0, 0, 1, 1, 0, 0, 1, 1, 1, 1, 0] (codeOf Try.f20))) (i := 2) (by kernel_rfl) (annLoop (a := (subC [1, 1, 1, 0, 1, 0, 0, 1, 1, 0, 0, 1, 1, 1, 1, 0, 0] (codeOf Try.f20))) (by kernel_rfl) F_poly_Check_L0_ok))))))) (annNo (subC [1, 1, 1, 0, 1, 0, 0, 1, 1, 1] (codeOf Try.f20))))))
  le := by kernel_rfl
  kept := by kernel_rfl
  keptB := by kernel_rfl
  all := all_poly_Check_L1 u t m B
  len := fun x => by kernel_rfl
  head := fun x y => by kernel_rfl
  con := fun x y => by kernel_rfl
  conH := fun x y => by kernel_rfl
def F_poly_Check_L1 : St → Option Ch := fun s => cond (Nat.beq s.tm.length 50 && Nat.beq s.H.length 0) (tkCons (alL tpl_poly_Check_L1 s.tm) fun e t0 => tkView 2 e fun s0 f0 => tkTops 15 t0 fun t1 => tkCons t1 fun z t2 => tkView 2 z fun s3 f1 => tkCons t2 fun j t3 => tkI .i64 j fun s6 => tkCons t3 fun L t4 => tkI .i64 L fun s7 => tkTops 31 t4 fun t5 => tkNil t5 <| tkNil (alH cts_poly_Check_L1 (s.H ++ List.map phan phs_poly_Check_L1)) <| Fam.out (fam_poly_Check_L1 s0 (fL f0 0) (fL f0 1) s6) s (((allB fun i => isNrm [Ck.f, Ck.f] (f0 i)) && (eqT f1 f0)) && (eqT s3 s0)) (V_poly_Check_L1.mk s7)) none
theorem F_poly_Check_L1_ok : ∀ s ch, F_poly_Check_L1 s = some ch → AllI s ch ∧ LoopSpec Try.prog false 0 (subC [1, 1, 1, 0, 1, 0, 0] (codeOf Try.f20)) s (sel ch) := by
  intro s ch h
  unfold F_poly_Check_L1 at h
  obtain ⟨hl, h0⟩ := cond_some h rfl
  clear h
  obtain ⟨hl, hb⟩ := and_beq2 hl
  obtain ⟨e, t0, e0, h1⟩ := tkCons_some h0
  obtain ⟨s0, f0, rfl, h2⟩ := tkView_some h1
  obtain ⟨t1, rfl, h3⟩ := tkTops_some h2
  obtain ⟨z, t2, rfl, h4⟩ := tkCons_some h3
  obtain ⟨s3, f1, rfl, h5⟩ := tkView_some h4
  obtain ⟨j, t3, rfl, h6⟩ := tkCons_some h5
  obtain ⟨s6, rfl, h7⟩ := tkI_some h6
  obtain ⟨L, t4, rfl, h8⟩ := tkCons_some h7
  obtain ⟨s7, rfl, h9⟩ := tkI_some h8
  obtain ⟨t5, rfl, h10⟩ := tkTops_some h9
  obtain ⟨rfl, h11⟩ := tkNil_some h10
  obtain ⟨eH, h12⟩ := tkNil_some h11
  refine Fam.spec menv60_ok (fam_poly_Check_L1 s0 (fL f0 0) (fL f0 1) s6) (phs := phs_poly_Check_L1) (hl.trans (by kernel_rfl)) (hb.trans (by kernel_rfl)) ?_ ?_ h12
  · rw [← hdr_alH cts_poly_Check_L1 (s.H ++ List.map phan phs_poly_Check_L1), eH]; kernel_rfl
  · intro hq
    simp only [Bool.and_eq_true] at hq
    obtain ⟨⟨hq0, hq1⟩, hq2⟩ := hq
    have n0 := nrm_fun hq0
    have hx := eqT_eq hq1; subst f1
    have hx := eqT_eq hq2; subst s3
    show sh_poly_Check_L1 s0 (fL f0 0) (fL f0 1) s6 (V_poly_Check_L1.mk s7) = (alL tpl_poly_Check_L1 s.tm, alH cts_poly_Check_L1 (s.H ++ List.map phan phs_poly_Check_L1))
    rw [e0, eH]
    refine Eq.trans (show sh_poly_Check_L1 s0 (fL f0 0) (fL f0 1) s6 (V_poly_Check_L1.mk s7) = T_poly_Check_L1 s0 (fL f0 0) (fL f0 1) s6 (V_poly_Check_L1.mk s7) (fun i => mkN [Ck.f, Ck.f] (f0 i) 0) (fun i => mkN [Ck.f, Ck.f] (f0 i) 0) by kernel_rfl) ?_
    rw [n0]
    kernel_rfl
theorem ann_poly_Check : FnOk Try.prog false 0 Try.f20 (Ann.two Ann.no (Ann.two Ann.no (Ann.two Ann.no (Ann.two (Ann.two Ann.no (Ann.one (Ann.loop F_poly_Check_L1))) Ann.no)))) := (fnOk_of (c := codeOf Try.f20) (by kernel_rfl) (annSeq (a := (subC [0] (codeOf Try.f20))) (b := (subC [1] (codeOf Try.f20))) (by kernel_rfl) (annNo (subC [0] (codeOf Try.f20))) (annSeq (a := (subC [1, 0] (codeOf Try.f20))) (b := (subC [1, 1] (codeOf Try.f20))) (by kernel_rfl) (annNo (subC [1, 0] (codeOf Try.f20))) (annSeq (a := (subC [1, 1, 0] (codeOf Try.f20))) (b := (subC [1, 1, 1] (codeOf Try.f20))) (by kernel_rfl) (annNo (subC [1, 1, 0] (codeOf Try.f20))) (annSeq (a := (subC [1, 1, 1, 0] (codeOf Try.f20))) (b := (subC [1, 1, 1, 1] (codeOf Try.f20))) (by kernel_rfl) (annSeq (a := (subC [1, 1, 1, 0, 0] (codeOf Try.f20))) (b := (subC [1, 1, 1, 0, 1] (codeOf Try.f20))) (by kernel_rfl) (annNo (subC [1, 1, 1, 0, 0] (codeOf Try.f20))) (annBlock (a := (subC [1, 1, 1, 0, 1, 0] (codeOf Try.f20))) (i := 0) (by kernel_rfl) (annLoop (a := (subC [1, 1, 1, 0, 1, 0, 0] (codeOf Try.f20))) (by kernel_rfl) F_poly_Check_L1_ok))) (annNo (subC [1, 1, 1, 1] (codeOf Try.f20))))))))
def s_poly_Check_0 (k : Nat) (n r : Nat → Nat) : Int := let x0 := (L_poly_Check_L1 k n r (Int.ofNat k) (V_poly_Check_L1.mk (0 : Int))).v0; let x1 := s_poly_side_1 k n r x0; let x2 := s_poly_side_0 k n r x0; let x3 := flt (s_vec_Length_0 x2 x1) 4472074429978902528; let x4 := Int.toNat x0; let x5 := r x4; let x6 := n x4; let x7 := (L_poly_Check_L0 k n r x0 x6 x5 x2 x1 (V_poly_Check_L0.mk (2 : Int))).v0; let x8 := Int.toNat (Int.tmod (IntKind.wrap .i64 (x0 + x7)) (Int.ofNat k)); let x9 := r x8; let x10 := n x8; let x11 := s_poly_reals_0 k n r; (bif (!(ieq x11 (0 : Int))) then x11 else (bif (ilt (Int.ofNat k) (3 : Int)) then (60 : Int) else (bif (bif (!(ilt x0 (Int.ofNat k))) then false else (x3 || (bif (!(ilt x7 (Int.ofNat k))) then false else (fle (s_vec_Cross_0 x2 x1 (s_vec_Sub_0 x10 x9 x6 x5) (s_vec_Sub_1 x10 x9 x6 x5)) 0)))) then (bif x3 then (60 : Int) else (60 : Int)) else (0 : Int))))
def q_poly_Check (k : Nat) (n r : Nat → Nat) : Bool := (let x0 := (allB fun _ => true) && (o_poly_reals k n r); let x1 := x0 && ((((allB fun _ => true) && (eqT (fun i => [AV.float (n i), AV.float (r i)]) (fun i => [AV.float (n i), AV.float (r i)]))) && (eqT k k)) && (E_poly_Check_L1 k n r (Int.ofNat k) (V_poly_Check_L1.mk (0 : Int)))); let x2 := (L_poly_Check_L1 k n r (Int.ofNat k) (V_poly_Check_L1.mk (0 : Int))).v0; let x3 := Int.toNat x2; let x4 := r x3; let x5 := n x3; let x6 := s_poly_side_1 k n r x2; let x7 := s_poly_side_0 k n r x2; let x8 := (L_poly_Check_L0 k n r x2 x5 x4 x7 x6 (V_poly_Check_L0.mk (2 : Int))).v0; let x9 := Int.toNat (Int.tmod (IntKind.wrap .i64 (x2 + x8)) (Int.ofNat k)); let x10 := r x9; let x11 := n x9; (mrgB (!(ieq (s_poly_reals_0 k n r) (0 : Int))) x0 (mrgB (ilt (Int.ofNat k) (3 : Int)) x0 (mrgB (bif (!(ilt x2 (Int.ofNat k))) then false else ((flt (s_vec_Length_0 x7 x6) 4472074429978902528) || (bif (!(ilt x8 (Int.ofNat k))) then false else (fle (s_vec_Cross_0 x7 x6 (s_vec_Sub_0 x11 x10 x5 x4) (s_vec_Sub_1 x11 x10 x5 x4)) 0)))) x1 x1))))
theorem e_poly_Check (k : Nat) (n r : Nat → Nat) : outB (evFnM Try.prog false menv60 [] [] 96 (Ann.two Ann.no (Ann.two Ann.no (Ann.two Ann.no (Ann.two (Ann.two Ann.no (Ann.one (Ann.loop F_poly_Check_L1))) Ann.no)))) Try.f20 [AV.view k 2 (fun i0 => [AV.float (n i0), AV.float (r i0)])] []) = some (q_poly_Check k n r, AV.int .i64 (s_poly_Check_0 k n r)) := by kernel_rfl
def o_poly_Check (k : Nat) (n r : Nat → Nat) : Bool := let x0 := o_poly_reals k n r; let x1 := x0 && (E_poly_Check_L1 k n r (Int.ofNat k) (V_poly_Check_L1.mk (0 : Int))); let x2 := (L_poly_Check_L1 k n r (Int.ofNat k) (V_poly_Check_L1.mk (0 : Int))).v0; let x3 := Int.toNat x2; let x4 := r x3; let x5 := n x3; let x6 := s_poly_side_1 k n r x2; let x7 := s_poly_side_0 k n r x2; let x8 := (L_poly_Check_L0 k n r x2 x5 x4 x7 x6 (V_poly_Check_L0.mk (2 : Int))).v0; let x9 := Int.toNat (Int.tmod (IntKind.wrap .i64 (x2 + x8)) (Int.ofNat k)); let x10 := r x9; let x11 := n x9; (mrgB (!(ieq (s_poly_reals_0 k n r) (0 : Int))) x0 (mrgB (ilt (Int.ofNat k) (3 : Int)) x0 (mrgB (bif (!(ilt x2 (Int.ofNat k))) then false else ((flt (s_vec_Length_0 x7 x6) 4472074429978902528) || (bif (!(ilt x8 (Int.ofNat k))) then false else (fle (s_vec_Cross_0 x7 x6 (s_vec_Sub_0 x11 x10 x5 x4) (s_vec_Sub_1 x11 x10 x5 x4)) 0)))) x1 x1)))
def S_poly_Check : List AV → Option (Ob × AV)
  | [AV.view k 2 C] => some (Ob.both (Ob.bit (allB fun i => isNrm [Ck.f, Ck.f] (C i))) (Ob.bit (o_poly_Check k (fL C 0) (fL C 1))), AV.int .i64 (s_poly_Check_0 k (fL C 0) (fL C 1)))
  | _ => none
theorem ob_poly_Check (k : Nat) (n r : Nat → Nat) (ho : o_poly_Check k n r = true) : q_poly_Check k n r = true := by
  unfold q_poly_Check
  unfold o_poly_Check at ho
  simp only [allB_true, eqT_self, mrgB_self, Bool.true_and, Bool.and_true] at ho ⊢
  exact ho
theorem t_poly_Check : SOkM Try.prog false (20, fun args => match S_poly_Check args with | some (o, v) => some (o, v, []) | none => none) := SOkM.flat (N := 96) menv60_ok Try.func20 ann_poly_Check Try.call20 fun args o v h ho => by
  unfold S_poly_Check at h
  split at h
  · rename_i k C
    cases h
    rw [Ob.both_ok, Bool.and_eq_true] at ho
    obtain ⟨hn, ho2⟩ := ho
    have n0 := hn
    simp only [Ob.ok] at n0
    replace n0 := nrm_fun n0
    have this := show outB (evFnM Try.prog false menv60 [] [] 96 (Ann.two Ann.no (Ann.two Ann.no (Ann.two Ann.no (Ann.two (Ann.two Ann.no (Ann.one (Ann.loop F_poly_Check_L1))) Ann.no)))) Try.f20 [AV.view k 2 (fun i => mkN [Ck.f, Ck.f] (C i) 0)] []) = _ from e_poly_Check k (fL C 0) (fL C 1)
    rw [(ob_poly_Check k (fL C 0) (fL C 1) ho2)] at this
    rw [n0] at this
    exact ⟨this, rfl⟩
  · cases h
def c_poly_Check : SFM := fun args => match S_poly_Check args with | some (o, v) => some (o, v, []) | none => none
theorem c_poly_Check_ok : SOkM Try.prog false (20, c_poly_Check) := t_poly_Check
def mss59 : List (FuncId × SFM) := (20, c_poly_Check) :: mss58
def menv61 : EnvM := mkEnvM mxs mss59 mws3
theorem mss59_ok : All (SOkM Try.prog false) mss59 := All.cons c_poly_Check_ok mss58_ok
theorem menv61_ok : menv61.Ok Try.prog false := mkEnvM_ok mxs_ok mss59_ok mws3_ok
-- (tumble/shape.polygon).check
theorem ann__shape_polygon__check : FnOk Try.prog false 0 Try.f109 Ann.no := (fnNo _)
def s__shape_polygon__check_0 (k : Nat) (n r : Nat → Nat) : Int := (s_poly_Check_0 k n r)
theorem e__shape_polygon__check (k : Nat) (n r : Nat → Nat) : outB (evFnM Try.prog false menv61 [] [] 96 Ann.no Try.f109 [AV.view k 2 (fun i0 => [AV.float (n i0), AV.float (r i0)])] []) = some (((allB fun _ => true) && (o_poly_Check k n r)), AV.int .i64 (s__shape_polygon__check_0 k n r)) := by kernel_rfl
def o__shape_polygon__check (k : Nat) (n r : Nat → Nat) : Bool := (o_poly_Check k n r)
def S__shape_polygon__check : List AV → Option (Ob × AV)
  | [AV.view k 2 C] => some (Ob.both (Ob.bit (allB fun i => isNrm [Ck.f, Ck.f] (C i))) (Ob.bit (o__shape_polygon__check k (fL C 0) (fL C 1))), AV.int .i64 (s__shape_polygon__check_0 k (fL C 0) (fL C 1)))
  | _ => none
theorem ob__shape_polygon__check (k : Nat) (n r : Nat → Nat) (ho : o__shape_polygon__check k n r = true) : ((allB fun _ => true) && (o_poly_Check k n r)) = true := by
  unfold o__shape_polygon__check at ho
  simp only [allB_true, eqT_self, mrgB_self, Bool.true_and, Bool.and_true] at ho ⊢
  exact ho
theorem t__shape_polygon__check : SOkM Try.prog false (109, fun args => match S__shape_polygon__check args with | some (o, v) => some (o, v, []) | none => none) := SOkM.flat (N := 96) menv61_ok Try.func109 ann__shape_polygon__check Try.call109 fun args o v h ho => by
  unfold S__shape_polygon__check at h
  split at h
  · rename_i k C
    cases h
    rw [Ob.both_ok, Bool.and_eq_true] at ho
    obtain ⟨hn, ho2⟩ := ho
    have n0 := hn
    simp only [Ob.ok] at n0
    replace n0 := nrm_fun n0
    have this := show outB (evFnM Try.prog false menv61 [] [] 96 Ann.no Try.f109 [AV.view k 2 (fun i => mkN [Ck.f, Ck.f] (C i) 0)] []) = _ from e__shape_polygon__check k (fL C 0) (fL C 1)
    rw [(ob__shape_polygon__check k (fL C 0) (fL C 1) ho2)] at this
    rw [n0] at this
    exact ⟨this, rfl⟩
  · cases h
def c__shape_polygon__check : SFM := fun args => match S__shape_polygon__check args with | some (o, v) => some (o, v, []) | none => none
theorem c__shape_polygon__check_ok : SOkM Try.prog false (109, c__shape_polygon__check) := t__shape_polygon__check
def mss60 : List (FuncId × SFM) := (109, c__shape_polygon__check) :: mss59
def menv62 : EnvM := mkEnvM mxs mss60 mws3
theorem mss60_ok : All (SOkM Try.prog false) mss60 := All.cons c__shape_polygon__check_ok mss59_ok
theorem menv62_ok : menv62.Ok Try.prog false := mkEnvM_ok mxs_ok mss60_ok mws3_ok
-- tumble/shape.Check
def mws4 : List (FuncId × WFM) := (77, (inlWM Try.prog false menv62 [] [] 96 .no Try.f77 100000)) :: mws3
def menv63 : EnvM := mkEnvM mxs mss60 mws4
theorem mws4_ok : All (WOkM Try.prog false) mws4 := All.cons (WOkM.inl menv62_ok Try.func77 (fnNo _) Try.call77) mws3_ok
theorem menv63_ok : menv63.Ok Try.prog false := mkEnvM_ok mxs_ok mss60_ok mws4_ok
def mws5 : List (FuncId × WFM) := (64, (inlWM Try.prog false menv63 [] [] 96 .no Try.f64 100000)) :: mws4
def menv64 : EnvM := mkEnvM mxs mss60 mws5
theorem mws5_ok : All (WOkM Try.prog false) mws5 := All.cons (WOkM.inl menv63_ok Try.func64 (fnNo _) Try.call64) mws4_ok
theorem menv64_ok : menv64.Ok Try.prog false := mkEnvM_ok mxs_ok mss60_ok mws5_ok
theorem ann_shape_Check : FnOk Try.prog false 0 Try.f30 Ann.no := (fnNo _)
def s_shape_Check_0 (e : Int) (g l : Nat) (p q : Nat → Nat) : Int := let x0 := (ieq e (2 : Int)) && (ieq (Int.ofNat l) (2 : Int)); let x1 := (ieq e (1 : Int)) && (ieq (Int.ofNat l) (1 : Int)); let x2 := bif x1 then (s__shape_circle__check_0 (p 0) (q 0) g) else (bif x0 then (s__shape_capsule__check_0 (p 0) (q 0) (p 1) (q 1) g) else (s__shape_polygon__check_0 l p q)); let x3 := (ilt e (1 : Int)) || (ilt (3 : Int) e); let x4 := bif (x3 || (x1 || (x0 || ((((ieq e (3 : Int)) && (ile (3 : Int) (Int.ofNat l))) && (ile (Int.ofNat l) (8 : Int))) && (feq g 0))))) then (bif x3 then (70 : Int) else (bif x1 then (0 : Int) else (bif x0 then (0 : Int) else (0 : Int)))) else (6 : Int); (bif (!(ieq x4 (0 : Int))) then x4 else (bif (!(ieq x2 (0 : Int))) then x2 else (0 : Int)))
def q_shape_Check (e : Int) (g l : Nat) (p q : Nat → Nat) : Bool := (let x0 := (ieq e (2 : Int)) && (ieq (Int.ofNat l) (2 : Int)); let x1 := (ieq e (1 : Int)) && (ieq (Int.ofNat l) (1 : Int)); let x2 := (ilt e (1 : Int)) || (ilt (3 : Int) e); let x3 := x2 || (x1 || (x0 || ((((ieq e (3 : Int)) && (ile (3 : Int) (Int.ofNat l))) && (ile (Int.ofNat l) (8 : Int))) && (feq g 0)))); let x4 := mrgB x3 (mrgB x2 true (mrgB x1 (Nat.blt 0 l) (mrgB x0 ((Nat.blt 1 l) && (Nat.blt 0 l)) true))) true; let x5 := (mrgB x3 (bif x2 then false else (mrgB x1 true (mrgB x0 true ((allB fun _ => true) && (o__shape_polygon__check l p q))))) false) && x4; (mrgB (!(ieq (bif x3 then (bif x2 then (70 : Int) else (bif x1 then (0 : Int) else (bif x0 then (0 : Int) else (0 : Int)))) else (6 : Int)) (0 : Int))) x4 (mrgB (!(ieq (bif x1 then (s__shape_circle__check_0 (p 0) (q 0) g) else (bif x0 then (s__shape_capsule__check_0 (p 0) (q 0) (p 1) (q 1) g) else (s__shape_polygon__check_0 l p q))) (0 : Int))) x5 x5)))
theorem e_shape_Check (e : Int) (g l : Nat) (p q : Nat → Nat) : outB (evFnM Try.prog false menv64 [] [] 96 Ann.no Try.f30 [AV.agg [AV.int .u8 e, AV.float g, AV.view l 2 (fun i0 => [AV.float (p i0), AV.float (q i0)])]] []) = some (q_shape_Check e g l p q, AV.int .i64 (s_shape_Check_0 e g l p q)) := by kernel_rfl
def o_shape_Check (e : Int) (g l : Nat) (p q : Nat → Nat) : Bool := let x0 := (ieq e (2 : Int)) && (ieq (Int.ofNat l) (2 : Int)); let x1 := (ieq e (1 : Int)) && (ieq (Int.ofNat l) (1 : Int)); let x2 := (ilt e (1 : Int)) || (ilt (3 : Int) e); let x3 := x2 || (x1 || (x0 || ((((ieq e (3 : Int)) && (ile (3 : Int) (Int.ofNat l))) && (ile (Int.ofNat l) (8 : Int))) && (feq g 0)))); let x4 := mrgB x3 (mrgB x2 true (mrgB x1 (Nat.blt 0 l) (mrgB x0 ((Nat.blt 1 l) && (Nat.blt 0 l)) true))) true; let x5 := (mrgB x3 (bif x2 then false else (mrgB x1 true (mrgB x0 true (o__shape_polygon__check l p q)))) false) && x4; (mrgB (!(ieq (bif x3 then (bif x2 then (70 : Int) else (bif x1 then (0 : Int) else (bif x0 then (0 : Int) else (0 : Int)))) else (6 : Int)) (0 : Int))) x4 (mrgB (!(ieq (bif x1 then (s__shape_circle__check_0 (p 0) (q 0) g) else (bif x0 then (s__shape_capsule__check_0 (p 0) (q 0) (p 1) (q 1) g) else (s__shape_polygon__check_0 l p q))) (0 : Int))) x5 x5))
def S_shape_Check : List AV → Option (Ob × AV)
  | [AV.agg [AV.int .u8 e, AV.float g, AV.view l 2 G]] => some (Ob.both (Ob.bit (allB fun i => isNrm [Ck.f, Ck.f] (G i))) (Ob.bit (o_shape_Check e g l (fL G 0) (fL G 1))), AV.int .i64 (s_shape_Check_0 e g l (fL G 0) (fL G 1)))
  | _ => none
theorem ob_shape_Check (e : Int) (g l : Nat) (p q : Nat → Nat) (ho : o_shape_Check e g l p q = true) : q_shape_Check e g l p q = true := by
  unfold q_shape_Check
  unfold o_shape_Check at ho
  simp only [allB_true, eqT_self, mrgB_self, Bool.true_and, Bool.and_true] at ho ⊢
  exact ho
theorem t_shape_Check : SOkM Try.prog false (30, fun args => match S_shape_Check args with | some (o, v) => some (o, v, []) | none => none) := SOkM.flat (N := 96) menv64_ok Try.func30 ann_shape_Check Try.call30 fun args o v h ho => by
  unfold S_shape_Check at h
  split at h
  · rename_i e g l G
    cases h
    rw [Ob.both_ok, Bool.and_eq_true] at ho
    obtain ⟨hn, ho2⟩ := ho
    have n0 := hn
    simp only [Ob.ok] at n0
    replace n0 := nrm_fun n0
    have this := show outB (evFnM Try.prog false menv64 [] [] 96 Ann.no Try.f30 [AV.agg [AV.int .u8 e, AV.float g, AV.view l 2 (fun i => mkN [Ck.f, Ck.f] (G i) 0)]] []) = _ from e_shape_Check e g l (fL G 0) (fL G 1)
    rw [(ob_shape_Check e g l (fL G 0) (fL G 1) ho2)] at this
    rw [n0] at this
    exact ⟨this, rfl⟩
  · cases h
def c_shape_Check : SFM := fun args => match S_shape_Check args with | some (o, v) => some (o, v, []) | none => none
theorem c_shape_Check_ok : SOkM Try.prog false (30, c_shape_Check) := t_shape_Check
def mss61 : List (FuncId × SFM) := (30, c_shape_Check) :: mss60
def menv65 : EnvM := mkEnvM mxs mss61 mws5
theorem mss61_ok : All (SOkM Try.prog false) mss61 := All.cons c_shape_Check_ok mss60_ok
theorem menv65_ok : menv65.Ok Try.prog false := mkEnvM_ok mxs_ok mss61_ok mws5_ok
-- math.IsInf
theorem ann_math_IsInf : FnOk Try.prog false 0 Try.f78 Ann.no := (fnNo _)
def s_math_IsInf_0 (e : Nat) (g : Int) : Bool := (flt 9218868437227405311 (bif (ieq g (0 : Int)) then (fabs e) else (bif (ilt g (0 : Int)) then (fneg e) else e)))
theorem e_math_IsInf (e : Nat) (g : Int) : outB (evFnM Try.prog false menv65 [] [] 96 Ann.no Try.f78 [AV.float e, AV.int .i64 g] []) = some (true, AV.bool (s_math_IsInf_0 e g)) := by kernel_rfl
def S_math_IsInf : List AV → Option (Ob × AV)
  | [AV.float e, AV.int .i64 g] => some (Ob.tt, AV.bool (s_math_IsInf_0 e g))
  | _ => none
theorem t_math_IsInf : SOkM Try.prog false (78, fun args => match S_math_IsInf args with | some (o, v) => some (o, v, []) | none => none) := SOkM.flat (N := 96) menv65_ok Try.func78 ann_math_IsInf Try.call78 fun args o v h ho => by
  unfold S_math_IsInf at h
  split at h
  · rename_i e g
    cases h
    have ho2 := ho
    have this := show outB (evFnM Try.prog false menv65 [] [] 96 Ann.no Try.f78 [AV.float e, AV.int .i64 g] []) = _ from e_math_IsInf e g
    exact ⟨this, rfl⟩
  · cases h
def c_math_IsInf : SFM := fun args => match S_math_IsInf args with | some (o, v) => some (o, v, []) | none => none
theorem c_math_IsInf_ok : SOkM Try.prog false (78, c_math_IsInf) := t_math_IsInf
def mss62 : List (FuncId × SFM) := (78, c_math_IsInf) :: mss61
def menv66 : EnvM := mkEnvM mxs mss62 mws5
theorem mss62_ok : All (SOkM Try.prog false) mss62 := All.cons c_math_IsInf_ok mss61_ok
theorem menv66_ok : menv66.Ok Try.prog false := mkEnvM_ok mxs_ok mss62_ok mws5_ok
-- math.IsNaN
theorem ann_math_IsNaN : FnOk Try.prog false 0 Try.f79 Ann.no := (fnNo _)
def s_math_IsNaN_0 (e : Nat) : Bool := (!(feq e e))
theorem e_math_IsNaN (e : Nat) : outB (evFnM Try.prog false menv66 [] [] 96 Ann.no Try.f79 [AV.float e] []) = some (true, AV.bool (s_math_IsNaN_0 e)) := by kernel_rfl
def S_math_IsNaN : List AV → Option (Ob × AV)
  | [AV.float e] => some (Ob.tt, AV.bool (s_math_IsNaN_0 e))
  | _ => none
theorem t_math_IsNaN : SOkM Try.prog false (79, fun args => match S_math_IsNaN args with | some (o, v) => some (o, v, []) | none => none) := SOkM.flat (N := 96) menv66_ok Try.func79 ann_math_IsNaN Try.call79 fun args o v h ho => by
  unfold S_math_IsNaN at h
  split at h
  · rename_i e
    cases h
    have ho2 := ho
    have this := show outB (evFnM Try.prog false menv66 [] [] 96 Ann.no Try.f79 [AV.float e] []) = _ from e_math_IsNaN e
    exact ⟨this, rfl⟩
  · cases h
def c_math_IsNaN : SFM := fun args => match S_math_IsNaN args with | some (o, v) => some (o, v, []) | none => none
theorem c_math_IsNaN_ok : SOkM Try.prog false (79, c_math_IsNaN) := t_math_IsNaN
def mss63 : List (FuncId × SFM) := (79, c_math_IsNaN) :: mss62
def menv67 : EnvM := mkEnvM mxs mss63 mws5
theorem mss63_ok : All (SOkM Try.prog false) mss63 := All.cons c_math_IsNaN_ok mss62_ok
theorem menv67_ok : menv67.Ok Try.prog false := mkEnvM_ok mxs_ok mss63_ok mws5_ok
-- math.normalize
theorem ann_math_normalize : FnOk Try.prog false 0 Try.f80 Ann.no := (fnNo _)
def s_math_normalize_0 (e : Nat) : Nat := (bif (flt (fabs e) 4503599627370496) then (fmul e 4841369599423283200) else e)
def s_math_normalize_1 (e : Nat) : Int := (bif (flt (fabs e) 4503599627370496) then (-52 : Int) else (0 : Int))
theorem e_math_normalize (e : Nat) : outB (evFnM Try.prog false menv67 [] [] 96 Ann.no Try.f80 [AV.float e] []) = some (true, AV.tup [AV.float (s_math_normalize_0 e), AV.int .i64 (s_math_normalize_1 e)]) := by kernel_rfl
def S_math_normalize : List AV → Option (Ob × AV)
  | [AV.float e] => some (Ob.tt, AV.tup [AV.float (s_math_normalize_0 e), AV.int .i64 (s_math_normalize_1 e)])
  | _ => none
theorem t_math_normalize : SOkM Try.prog false (80, fun args => match S_math_normalize args with | some (o, v) => some (o, v, []) | none => none) := SOkM.flat (N := 96) menv67_ok Try.func80 ann_math_normalize Try.call80 fun args o v h ho => by
  unfold S_math_normalize at h
  split at h
  · rename_i e
    cases h
    have ho2 := ho
    have this := show outB (evFnM Try.prog false menv67 [] [] 96 Ann.no Try.f80 [AV.float e] []) = _ from e_math_normalize e
    exact ⟨this, rfl⟩
  · cases h
def c_math_normalize : SFM := fun args => match S_math_normalize args with | some (o, v) => some (o, v, []) | none => none
theorem c_math_normalize_ok : SOkM Try.prog false (80, c_math_normalize) := t_math_normalize
def mss64 : List (FuncId × SFM) := (80, c_math_normalize) :: mss63
def menv68 : EnvM := mkEnvM mxs mss64 mws5
theorem mss64_ok : All (SOkM Try.prog false) mss64 := All.cons c_math_normalize_ok mss63_ok
theorem menv68_ok : menv68.Ok Try.prog false := mkEnvM_ok mxs_ok mss64_ok mws5_ok
-- math.Inf
theorem ann_math_Inf : FnOk Try.prog false 0 Try.f33 Ann.no := (fnNo _)
def s_math_Inf_0 (e : Int) : Nat := (cn (Int.toNat (bif (ile (0 : Int) e) then (9218868437227405312 : Int) else (18442240474082181120 : Int))))
theorem e_math_Inf (e : Int) : outB (evFnM Try.prog false menv68 [] [] 96 Ann.no Try.f33 [AV.int .i64 e] []) = some ((u64ok (bif (ile (0 : Int) e) then (9218868437227405312 : Int) else (18442240474082181120 : Int))), AV.float (s_math_Inf_0 e)) := by kernel_rfl
def S_math_Inf : List AV → Option (Ob × AV)
  | [AV.int .i64 e] => some (Ob.tt, AV.float (s_math_Inf_0 e))
  | _ => none
theorem ob_math_Inf (e : Int) : (u64ok (bif (ile (0 : Int) e) then (9218868437227405312 : Int) else (18442240474082181120 : Int))) = true := by show ((u64ok (bif (ile (0 : Int) e) then (9218868437227405312 : Int) else (18442240474082181120 : Int)))) = true; (generalize (ile (0 : Int) e) = q0; cases q0 <;> rfl)
theorem t_math_Inf : SOkM Try.prog false (33, fun args => match S_math_Inf args with | some (o, v) => some (o, v, []) | none => none) := SOkM.flat (N := 96) menv68_ok Try.func33 ann_math_Inf Try.call33 fun args o v h ho => by
  unfold S_math_Inf at h
  split at h
  · rename_i e
    cases h
    have ho2 := ho
    have this := show outB (evFnM Try.prog false menv68 [] [] 96 Ann.no Try.f33 [AV.int .i64 e] []) = _ from e_math_Inf e
    rw [(ob_math_Inf e)] at this
    exact ⟨this, rfl⟩
  · cases h
def c_math_Inf : SFM := fun args => match S_math_Inf args with | some (o, v) => some (o, v, []) | none => none
theorem c_math_Inf_ok : SOkM Try.prog false (33, c_math_Inf) := t_math_Inf
def mss65 : List (FuncId × SFM) := (33, c_math_Inf) :: mss64
def menv69 : EnvM := mkEnvM mxs mss65 mws5
theorem mss65_ok : All (SOkM Try.prog false) mss65 := All.cons c_math_Inf_ok mss64_ok
theorem menv69_ok : menv69.Ok Try.prog false := mkEnvM_ok mxs_ok mss65_ok mws5_ok
-- tumble/vec.Scale
theorem ann_vec_Scale : FnOk Try.prog false 0 Try.f32 Ann.no := (fnNo _)
def s_vec_Scale_0 (e g z : Nat) : Nat := (fmul e z)
def s_vec_Scale_1 (e g z : Nat) : Nat := (fmul g z)
theorem e_vec_Scale (e g z : Nat) : outB (evFnM Try.prog false menv69 [] [] 96 Ann.no Try.f32 [AV.agg [AV.float e, AV.float g], AV.float z] []) = some (true, AV.agg [AV.float (s_vec_Scale_0 e g z), AV.float (s_vec_Scale_1 e g z)]) := by kernel_rfl
def S_vec_Scale : List AV → Option (Ob × AV)
  | [AV.agg [AV.float e, AV.float g], AV.float z] => some (Ob.tt, AV.agg [AV.float (s_vec_Scale_0 e g z), AV.float (s_vec_Scale_1 e g z)])
  | _ => none
theorem t_vec_Scale : SOkM Try.prog false (32, fun args => match S_vec_Scale args with | some (o, v) => some (o, v, []) | none => none) := SOkM.flat (N := 96) menv69_ok Try.func32 ann_vec_Scale Try.call32 fun args o v h ho => by
  unfold S_vec_Scale at h
  split at h
  · rename_i e g z
    cases h
    have ho2 := ho
    have this := show outB (evFnM Try.prog false menv69 [] [] 96 Ann.no Try.f32 [AV.agg [AV.float e, AV.float g], AV.float z] []) = _ from e_vec_Scale e g z
    exact ⟨this, rfl⟩
  · cases h
def c_vec_Scale : SFM := fun args => match S_vec_Scale args with | some (o, v) => some (o, v, []) | none => none
theorem c_vec_Scale_ok : SOkM Try.prog false (32, c_vec_Scale) := t_vec_Scale
def mss66 : List (FuncId × SFM) := (32, c_vec_Scale) :: mss65
def menv70 : EnvM := mkEnvM mxs mss66 mws5
theorem mss66_ok : All (SOkM Try.prog false) mss66 := All.cons c_vec_Scale_ok mss65_ok
theorem menv70_ok : menv70.Ok Try.prog false := mkEnvM_ok mxs_ok mss66_ok mws5_ok
-- tumble/vec.Add
theorem ann_vec_Add : FnOk Try.prog false 0 Try.f72 Ann.no := (fnNo _)
def s_vec_Add_0 (e g z j : Nat) : Nat := (fadd e z)
def s_vec_Add_1 (e g z j : Nat) : Nat := (fadd g j)
theorem e_vec_Add (e g z j : Nat) : outB (evFnM Try.prog false menv70 [] [] 96 Ann.no Try.f72 [AV.agg [AV.float e, AV.float g], AV.agg [AV.float z, AV.float j]] []) = some (true, AV.agg [AV.float (s_vec_Add_0 e g z j), AV.float (s_vec_Add_1 e g z j)]) := by kernel_rfl
def S_vec_Add : List AV → Option (Ob × AV)
  | [AV.agg [AV.float e, AV.float g], AV.agg [AV.float z, AV.float j]] => some (Ob.tt, AV.agg [AV.float (s_vec_Add_0 e g z j), AV.float (s_vec_Add_1 e g z j)])
  | _ => none
theorem t_vec_Add : SOkM Try.prog false (72, fun args => match S_vec_Add args with | some (o, v) => some (o, v, []) | none => none) := SOkM.flat (N := 96) menv70_ok Try.func72 ann_vec_Add Try.call72 fun args o v h ho => by
  unfold S_vec_Add at h
  split at h
  · rename_i e g z j
    cases h
    have ho2 := ho
    have this := show outB (evFnM Try.prog false menv70 [] [] 96 Ann.no Try.f72 [AV.agg [AV.float e, AV.float g], AV.agg [AV.float z, AV.float j]] []) = _ from e_vec_Add e g z j
    exact ⟨this, rfl⟩
  · cases h
def c_vec_Add : SFM := fun args => match S_vec_Add args with | some (o, v) => some (o, v, []) | none => none
theorem c_vec_Add_ok : SOkM Try.prog false (72, c_vec_Add) := t_vec_Add
def mss67 : List (FuncId × SFM) := (72, c_vec_Add) :: mss66
def menv71 : EnvM := mkEnvM mxs mss67 mws5
theorem mss67_ok : All (SOkM Try.prog false) mss67 := All.cons c_vec_Add_ok mss66_ok
theorem menv71_ok : menv71.Ok Try.prog false := mkEnvM_ok mxs_ok mss67_ok mws5_ok
-- tumble/poly.weighed
-- a loop of tumble/poly.weighed
structure V_poly_weighed_L0 where
  v0 : Nat
  v1 : Int
  v2 : Nat
  v3 : Nat
def tpl_poly_weighed_L0 : List AV := (AV.nul :: AV.top :: AV.nul :: AV.nul :: AV.nul :: tpA 48 ([]))
def cts_poly_weighed_L0 : List CT := [CT.keep]
def phs_poly_weighed_L0 : List Src := []
def T_poly_weighed_L0 (u : Nat) (t m : Nat → Nat) (x : V_poly_weighed_L0) (F0 : Nat → List AV) : List AV × Heap := ((AV.view u 2 F0 :: AV.top :: AV.float x.v0 :: AV.ptr (some ⟨0, 0, .lit 0⟩) :: AV.int .i64 x.v1 :: tpA 48 ([])), [⟨.flat [AV.float x.v2, AV.float x.v3], 26, 0⟩])
def sh_poly_weighed_L0 (u : Nat) (t m : Nat → Nat) (x : V_poly_weighed_L0) : List AV × Heap := T_poly_weighed_L0 u t m x (fun j0 => [AV.float (t j0), AV.float (m j0)])
def step_poly_weighed_L0 (u : Nat) (t m : Nat → Nat) (x : V_poly_weighed_L0) : V_poly_weighed_L0 := V_poly_weighed_L0.mk (let x0 := Int.toNat (IntKind.wrap .i64 (x.v1 + (1 : Int))); let x1 := m x0; let x2 := t x0; let x3 := m (Int.toNat x.v1); let x4 := t (Int.toNat x.v1); let x5 := s_vec_Cross_0 (s_vec_Sub_0 x4 x3 (t 0) (m 0)) (s_vec_Sub_1 x4 x3 (t 0) (m 0)) (s_vec_Sub_0 x2 x1 (t 0) (m 0)) (s_vec_Sub_1 x2 x1 (t 0) (m 0)); (bif (ieq x.v1 (1 : Int)) then x5 else (fadd x.v0 x5))) (IntKind.wrap .i64 (x.v1 + (1 : Int))) (let x0 := Int.toNat (IntKind.wrap .i64 (x.v1 + (1 : Int))); let x1 := m x0; let x2 := t x0; let x3 := s_vec_Sub_1 x2 x1 (t 0) (m 0); let x4 := s_vec_Sub_0 x2 x1 (t 0) (m 0); let x5 := m (Int.toNat x.v1); let x6 := t (Int.toNat x.v1); let x7 := s_vec_Sub_1 x6 x5 (t 0) (m 0); let x8 := s_vec_Sub_0 x6 x5 (t 0) (m 0); let x9 := s_vec_Cross_0 x8 x7 x4 x3; let x10 := s_vec_Add_1 x8 x7 x4 x3; let x11 := s_vec_Add_0 x8 x7 x4 x3; let x12 := s_vec_Scale_0 x11 x10 x9; (bif (ieq x.v1 (1 : Int)) then x12 else (s_vec_Add_0 x.v2 x.v3 x12 (s_vec_Scale_1 x11 x10 x9)))) (let x0 := Int.toNat (IntKind.wrap .i64 (x.v1 + (1 : Int))); let x1 := m x0; let x2 := t x0; let x3 := s_vec_Sub_1 x2 x1 (t 0) (m 0); let x4 := s_vec_Sub_0 x2 x1 (t 0) (m 0); let x5 := m (Int.toNat x.v1); let x6 := t (Int.toNat x.v1); let x7 := s_vec_Sub_1 x6 x5 (t 0) (m 0); let x8 := s_vec_Sub_0 x6 x5 (t 0) (m 0); let x9 := s_vec_Cross_0 x8 x7 x4 x3; let x10 := s_vec_Add_1 x8 x7 x4 x3; let x11 := s_vec_Add_0 x8 x7 x4 x3; let x12 := s_vec_Scale_1 x11 x10 x9; (bif (ieq x.v1 (1 : Int)) then x12 else (s_vec_Add_1 x.v2 x.v3 (s_vec_Scale_0 x11 x10 x9) x12)))
def go_poly_weighed_L0 (u : Nat) (t m : Nat → Nat) (x : V_poly_weighed_L0) : Bool := (bif (!(ilt x.v1 (IntKind.wrap .i64 ((Int.ofNat u) - (1 : Int))))) then false else true)
def ok_poly_weighed_L0 (u : Nat) (t m : Nat → Nat) (x : V_poly_weighed_L0) : Bool := let x0 := (Nat.blt 0 u) && (((ile (0 : Int) (IntKind.wrap .i64 (x.v1 + (1 : Int)))) && (Nat.blt (Int.toNat (IntKind.wrap .i64 (x.v1 + (1 : Int)))) u)) && ((Nat.blt 0 u) && ((ile (0 : Int) x.v1) && (Nat.blt (Int.toNat x.v1) u)))); (mrgB (!(ilt x.v1 (IntKind.wrap .i64 ((Int.ofNat u) - (1 : Int))))) true (mrgB (ieq x.v1 (1 : Int)) x0 x0))
def L_poly_weighed_L0 (u : Nat) (t m : Nat → Nat) (x : V_poly_weighed_L0) : V_poly_weighed_L0 := lastL (ok_poly_weighed_L0 u t m) (go_poly_weighed_L0 u t m) (step_poly_weighed_L0 u t m) x
def E_poly_weighed_L0 (u : Nat) (t m : Nat → Nat) (x : V_poly_weighed_L0) : Bool := endsL (ok_poly_weighed_L0 u t m) (go_poly_weighed_L0 u t m) (step_poly_weighed_L0 u t m) x
theorem all_poly_weighed_L0 (u : Nat) (t m : Nat → Nat) (x : V_poly_weighed_L0) : rnd Try.prog false menv71 [] [] 96 Ann.no (subC [1, 0, 1, 0, 0] (codeOf Try.f57)) 0 [⟨some 0, 0, 0, []⟩] tpl_poly_weighed_L0 cts_poly_weighed_L0 (false :: true :: true :: false :: tpB 49 ([])) [true] (sh_poly_weighed_L0 u t m x) = (true, true, go_poly_weighed_L0 u t m x, ok_poly_weighed_L0 u t m x, true, sh_poly_weighed_L0 u t m (step_poly_weighed_L0 u t m x), true) := by kernel_rfl
def fam_poly_weighed_L0 (u : Nat) (t m : Nat → Nat) : Fam Try.prog false menv71 [] [] 96 0 Ann.no (subC [1, 0, 1, 0, 0] (codeOf Try.f57)) V_poly_weighed_L0 where
  sh := sh_poly_weighed_L0 u t m
  ok := ok_poly_weighed_L0 u t m
  go := go_poly_weighed_L0 u t m
  step := step_poly_weighed_L0 u t m
  chg := (false :: true :: true :: false :: tpB 49 ([]))
  chgH := [true]
  tpl := tpl_poly_weighed_L0
  cts := cts_poly_weighed_L0
  keep := 0
  srcs := [⟨some 0, 0, 0, []⟩]
  ann := (annNo (subC [1, 0, 1, 0, 0] (codeOf Try.f57)))
  le := by kernel_rfl
  kept := by kernel_rfl
  keptB := by kernel_rfl
  all := all_poly_weighed_L0 u t m
  len := fun x => by kernel_rfl
  head := fun x y => by kernel_rfl
  con := fun x y => by kernel_rfl
  conH := fun x y => by kernel_rfl
def F_poly_weighed_L0 : St → Option Ch := fun s => cond (Nat.beq s.tm.length 53 && Nat.beq s.H.length 1) (tkCons (alL tpl_poly_weighed_L0 s.tm) fun e t0 => tkView 2 e fun s0 f0 => tkTops 1 t0 fun t1 => tkCons t1 fun z t2 => tkF z fun s3 => tkCons t2 fun j t3 => tkPtr 0 0 0 j <| tkCons t3 fun L t4 => tkI .i64 L fun s4 => tkTops 48 t4 fun t5 => tkNil t5 <| tkCons (alH cts_poly_weighed_L0 (s.H ++ List.map phan phs_poly_weighed_L0)) fun b6 t6 => tkFlat 26 0 b6 fun m6 => tkCons m6 fun R t7 => tkF R fun s5 => tkCons t7 fun P t8 => tkF P fun s6 => tkNil t8 <| tkNil t6 <| Fam.out (fam_poly_weighed_L0 s0 (fL f0 0) (fL f0 1)) s (allB fun i => isNrm [Ck.f, Ck.f] (f0 i)) (V_poly_weighed_L0.mk s3 s4 s5 s6)) none
theorem F_poly_weighed_L0_ok : ∀ s ch, F_poly_weighed_L0 s = some ch → AllI s ch ∧ LoopSpec Try.prog false 0 (subC [1, 0, 1, 0, 0] (codeOf Try.f57)) s (sel ch) := by
  intro s ch h
  unfold F_poly_weighed_L0 at h
  obtain ⟨hl, h0⟩ := cond_some h rfl
  clear h
  obtain ⟨hl, hb⟩ := and_beq2 hl
  obtain ⟨e, t0, e0, h1⟩ := tkCons_some h0
  obtain ⟨s0, f0, rfl, h2⟩ := tkView_some h1
  obtain ⟨t1, rfl, h3⟩ := tkTops_some h2
  obtain ⟨z, t2, rfl, h4⟩ := tkCons_some h3
  obtain ⟨s3, rfl, h5⟩ := tkF_some h4
  obtain ⟨j, t3, rfl, h6⟩ := tkCons_some h5
  obtain ⟨rfl, h7⟩ := tkPtr_some h6
  obtain ⟨L, t4, rfl, h8⟩ := tkCons_some h7
  obtain ⟨s4, rfl, h9⟩ := tkI_some h8
  obtain ⟨t5, rfl, h10⟩ := tkTops_some h9
  obtain ⟨rfl, h11⟩ := tkNil_some h10
  obtain ⟨b6, t6, eH, h12⟩ := tkCons_some h11
  obtain ⟨m6, rfl, h13⟩ := tkFlat_some h12
  obtain ⟨R, t7, rfl, h14⟩ := tkCons_some h13
  obtain ⟨s5, rfl, h15⟩ := tkF_some h14
  obtain ⟨P, t8, rfl, h16⟩ := tkCons_some h15
  obtain ⟨s6, rfl, h17⟩ := tkF_some h16
  obtain ⟨rfl, h18⟩ := tkNil_some h17
  obtain ⟨rfl, h19⟩ := tkNil_some h18
  refine Fam.spec menv71_ok (fam_poly_weighed_L0 s0 (fL f0 0) (fL f0 1)) (phs := phs_poly_weighed_L0) (hl.trans (by kernel_rfl)) (hb.trans (by kernel_rfl)) ?_ ?_ h19
  · rw [← hdr_alH cts_poly_weighed_L0 (s.H ++ List.map phan phs_poly_weighed_L0), eH]; kernel_rfl
  · intro hq
    have hq0 := hq
    have n0 := nrm_fun hq0
    show sh_poly_weighed_L0 s0 (fL f0 0) (fL f0 1) (V_poly_weighed_L0.mk s3 s4 s5 s6) = (alL tpl_poly_weighed_L0 s.tm, alH cts_poly_weighed_L0 (s.H ++ List.map phan phs_poly_weighed_L0))
    rw [e0, eH]
    refine Eq.trans (show sh_poly_weighed_L0 s0 (fL f0 0) (fL f0 1) (V_poly_weighed_L0.mk s3 s4 s5 s6) = T_poly_weighed_L0 s0 (fL f0 0) (fL f0 1) (V_poly_weighed_L0.mk s3 s4 s5 s6) (fun i => mkN [Ck.f, Ck.f] (f0 i) 0) by kernel_rfl) ?_
    rw [n0]
    kernel_rfl
theorem ann_poly_weighed : FnOk Try.prog false 0 Try.f57 (Ann.two Ann.no (Ann.two (Ann.two Ann.no (Ann.one (Ann.loop F_poly_weighed_L0))) Ann.no)) := (fnOk_of (c := codeOf Try.f57) (by kernel_rfl) (annSeq (a := (subC [0] (codeOf Try.f57))) (b := (subC [1] (codeOf Try.f57))) (by kernel_rfl) (annNo (subC [0] (codeOf Try.f57))) (annSeq (a := (subC [1, 0] (codeOf Try.f57))) (b := (subC [1, 1] (codeOf Try.f57))) (by kernel_rfl) (annSeq (a := (subC [1, 0, 0] (codeOf Try.f57))) (b := (subC [1, 0, 1] (codeOf Try.f57))) (by kernel_rfl) (annNo (subC [1, 0, 0] (codeOf Try.f57))) (annBlock (a := (subC [1, 0, 1, 0] (codeOf Try.f57))) (i := 0) (by kernel_rfl) (annLoop (a := (subC [1, 0, 1, 0, 0] (codeOf Try.f57))) (by kernel_rfl) F_poly_weighed_L0_ok))) (annNo (subC [1, 1] (codeOf Try.f57))))))
def s_poly_weighed_0 (k : Nat) (n r : Nat → Nat) : Nat := ((L_poly_weighed_L0 k n r (V_poly_weighed_L0.mk 0 (1 : Int) 0 0)).v0)
def s_poly_weighed_1 (k : Nat) (n r : Nat → Nat) : Nat := ((L_poly_weighed_L0 k n r (V_poly_weighed_L0.mk 0 (1 : Int) 0 0)).v2)
def s_poly_weighed_2 (k : Nat) (n r : Nat → Nat) : Nat := ((L_poly_weighed_L0 k n r (V_poly_weighed_L0.mk 0 (1 : Int) 0 0)).v3)
theorem e_poly_weighed (k : Nat) (n r : Nat → Nat) : outB (evFnM Try.prog false menv71 [] [] 96 (Ann.two Ann.no (Ann.two (Ann.two Ann.no (Ann.one (Ann.loop F_poly_weighed_L0))) Ann.no)) Try.f57 [AV.view k 2 (fun i0 => [AV.float (n i0), AV.float (r i0)])] []) = some (((allB fun _ => true) && (E_poly_weighed_L0 k n r (V_poly_weighed_L0.mk 0 (1 : Int) 0 0))), AV.tup [AV.float (s_poly_weighed_0 k n r), AV.agg [AV.float (s_poly_weighed_1 k n r), AV.float (s_poly_weighed_2 k n r)]]) := by kernel_rfl
def o_poly_weighed (k : Nat) (n r : Nat → Nat) : Bool := (E_poly_weighed_L0 k n r (V_poly_weighed_L0.mk 0 (1 : Int) 0 0))
def S_poly_weighed : List AV → Option (Ob × AV)
  | [AV.view k 2 C] => some (Ob.both (Ob.bit (allB fun i => isNrm [Ck.f, Ck.f] (C i))) (Ob.bit (o_poly_weighed k (fL C 0) (fL C 1))), AV.tup [AV.float (s_poly_weighed_0 k (fL C 0) (fL C 1)), AV.agg [AV.float (s_poly_weighed_1 k (fL C 0) (fL C 1)), AV.float (s_poly_weighed_2 k (fL C 0) (fL C 1))]])
  | _ => none
theorem ob_poly_weighed (k : Nat) (n r : Nat → Nat) (ho : o_poly_weighed k n r = true) : ((allB fun _ => true) && (E_poly_weighed_L0 k n r (V_poly_weighed_L0.mk 0 (1 : Int) 0 0))) = true := by
  unfold o_poly_weighed at ho
  simp only [allB_true, eqT_self, mrgB_self, Bool.true_and, Bool.and_true] at ho ⊢
  exact ho
theorem t_poly_weighed : SOkM Try.prog false (57, fun args => match S_poly_weighed args with | some (o, v) => some (o, v, []) | none => none) := SOkM.flat (N := 96) menv71_ok Try.func57 ann_poly_weighed Try.call57 fun args o v h ho => by
  unfold S_poly_weighed at h
  split at h
  · rename_i k C
    cases h
    rw [Ob.both_ok, Bool.and_eq_true] at ho
    obtain ⟨hn, ho2⟩ := ho
    have n0 := hn
    simp only [Ob.ok] at n0
    replace n0 := nrm_fun n0
    have this := show outB (evFnM Try.prog false menv71 [] [] 96 (Ann.two Ann.no (Ann.two (Ann.two Ann.no (Ann.one (Ann.loop F_poly_weighed_L0))) Ann.no)) Try.f57 [AV.view k 2 (fun i => mkN [Ck.f, Ck.f] (C i) 0)] []) = _ from e_poly_weighed k (fL C 0) (fL C 1)
    rw [(ob_poly_weighed k (fL C 0) (fL C 1) ho2)] at this
    rw [n0] at this
    exact ⟨this, rfl⟩
  · cases h
def c_poly_weighed : SFM := fun args => match S_poly_weighed args with | some (o, v) => some (o, v, []) | none => none
theorem c_poly_weighed_ok : SOkM Try.prog false (57, c_poly_weighed) := t_poly_weighed
def mss68 : List (FuncId × SFM) := (57, c_poly_weighed) :: mss67
def menv72 : EnvM := mkEnvM mxs mss68 mws5
theorem mss68_ok : All (SOkM Try.prog false) mss68 := All.cons c_poly_weighed_ok mss67_ok
theorem menv72_ok : menv72.Ok Try.prog false := mkEnvM_ok mxs_ok mss68_ok mws5_ok
-- tumble/poly.Area
theorem ann_poly_Area : FnOk Try.prog false 0 Try.f21 Ann.no := (fnNo _)
def s_poly_Area_0 (k : Nat) (n r : Nat → Nat) : Nat := (bif (!(ieq (s_poly_Check_0 k n r) (0 : Int))) then 0 else (bif (!(flt 0 (s_poly_weighed_0 k n r))) then 0 else (fmul (s_poly_weighed_0 k n r) 4602678819172646912)))
def s_poly_Area_1 (k : Nat) (n r : Nat → Nat) : Int := (bif (!(ieq (s_poly_Check_0 k n r) (0 : Int))) then (s_poly_Check_0 k n r) else (bif (!(flt 0 (s_poly_weighed_0 k n r))) then (61 : Int) else (0 : Int)))
def q_poly_Area (k : Nat) (n r : Nat → Nat) : Bool := (mrgB (!(ieq (s_poly_Check_0 k n r) (0 : Int))) ((allB fun _ => true) && (o_poly_Check k n r)) (mrgB (!(flt 0 (s_poly_weighed_0 k n r))) (((allB fun _ => true) && (o_poly_weighed k n r)) && ((allB fun _ => true) && (o_poly_Check k n r))) (((allB fun _ => true) && (o_poly_weighed k n r)) && ((allB fun _ => true) && (o_poly_Check k n r)))))
theorem e_poly_Area (k : Nat) (n r : Nat → Nat) : outB (evFnM Try.prog false menv72 [] [] 96 Ann.no Try.f21 [AV.view k 2 (fun i0 => [AV.float (n i0), AV.float (r i0)])] []) = some (q_poly_Area k n r, AV.tup [AV.float (s_poly_Area_0 k n r), AV.int .i64 (s_poly_Area_1 k n r)]) := by kernel_rfl
def o_poly_Area (k : Nat) (n r : Nat → Nat) : Bool := (mrgB (!(ieq (s_poly_Check_0 k n r) (0 : Int))) (o_poly_Check k n r) (mrgB (!(flt 0 (s_poly_weighed_0 k n r))) ((o_poly_weighed k n r) && (o_poly_Check k n r)) ((o_poly_weighed k n r) && (o_poly_Check k n r))))
def S_poly_Area : List AV → Option (Ob × AV)
  | [AV.view k 2 C] => some (Ob.both (Ob.bit (allB fun i => isNrm [Ck.f, Ck.f] (C i))) (Ob.bit (o_poly_Area k (fL C 0) (fL C 1))), AV.tup [AV.float (s_poly_Area_0 k (fL C 0) (fL C 1)), AV.int .i64 (s_poly_Area_1 k (fL C 0) (fL C 1))])
  | _ => none
theorem ob_poly_Area (k : Nat) (n r : Nat → Nat) (ho : o_poly_Area k n r = true) : q_poly_Area k n r = true := by
  unfold q_poly_Area
  unfold o_poly_Area at ho
  simp only [allB_true, eqT_self, mrgB_self, Bool.true_and, Bool.and_true] at ho ⊢
  exact ho
theorem t_poly_Area : SOkM Try.prog false (21, fun args => match S_poly_Area args with | some (o, v) => some (o, v, []) | none => none) := SOkM.flat (N := 96) menv72_ok Try.func21 ann_poly_Area Try.call21 fun args o v h ho => by
  unfold S_poly_Area at h
  split at h
  · rename_i k C
    cases h
    rw [Ob.both_ok, Bool.and_eq_true] at ho
    obtain ⟨hn, ho2⟩ := ho
    have n0 := hn
    simp only [Ob.ok] at n0
    replace n0 := nrm_fun n0
    have this := show outB (evFnM Try.prog false menv72 [] [] 96 Ann.no Try.f21 [AV.view k 2 (fun i => mkN [Ck.f, Ck.f] (C i) 0)] []) = _ from e_poly_Area k (fL C 0) (fL C 1)
    rw [(ob_poly_Area k (fL C 0) (fL C 1) ho2)] at this
    rw [n0] at this
    exact ⟨this, rfl⟩
  · cases h
def c_poly_Area : SFM := fun args => match S_poly_Area args with | some (o, v) => some (o, v, []) | none => none
theorem c_poly_Area_ok : SOkM Try.prog false (21, c_poly_Area) := t_poly_Area
def mss69 : List (FuncId × SFM) := (21, c_poly_Area) :: mss68
def menv73 : EnvM := mkEnvM mxs mss69 mws5
theorem mss69_ok : All (SOkM Try.prog false) mss69 := All.cons c_poly_Area_ok mss68_ok
theorem menv73_ok : menv73.Ok Try.prog false := mkEnvM_ok mxs_ok mss69_ok mws5_ok
-- tumble/poly.Centre
theorem ann_poly_Centre : FnOk Try.prog false 0 Try.f75 Ann.no := (fnNo _)
def s_poly_Centre_0 (k : Nat) (n r : Nat → Nat) : Nat := (bif (!(ieq (s_poly_Check_0 k n r) (0 : Int))) then 0 else (bif (!(flt 0 (s_poly_weighed_0 k n r))) then 0 else (s_vec_Add_0 (n 0) (r 0) (fdiv (s_poly_weighed_1 k n r) (fmul 4613937818241073152 (s_poly_weighed_0 k n r))) (fdiv (s_poly_weighed_2 k n r) (fmul 4613937818241073152 (s_poly_weighed_0 k n r))))))
def s_poly_Centre_1 (k : Nat) (n r : Nat → Nat) : Nat := (bif (!(ieq (s_poly_Check_0 k n r) (0 : Int))) then 0 else (bif (!(flt 0 (s_poly_weighed_0 k n r))) then 0 else (s_vec_Add_1 (n 0) (r 0) (fdiv (s_poly_weighed_1 k n r) (fmul 4613937818241073152 (s_poly_weighed_0 k n r))) (fdiv (s_poly_weighed_2 k n r) (fmul 4613937818241073152 (s_poly_weighed_0 k n r))))))
def s_poly_Centre_2 (k : Nat) (n r : Nat → Nat) : Int := (bif (!(ieq (s_poly_Check_0 k n r) (0 : Int))) then (s_poly_Check_0 k n r) else (bif (!(flt 0 (s_poly_weighed_0 k n r))) then (61 : Int) else (0 : Int)))
def q_poly_Centre (k : Nat) (n r : Nat → Nat) : Bool := (mrgB (!(ieq (s_poly_Check_0 k n r) (0 : Int))) ((allB fun _ => true) && (o_poly_Check k n r)) (mrgB (!(flt 0 (s_poly_weighed_0 k n r))) (((allB fun _ => true) && (o_poly_weighed k n r)) && ((allB fun _ => true) && (o_poly_Check k n r))) ((Nat.blt 0 k) && (((allB fun _ => true) && (o_poly_weighed k n r)) && ((allB fun _ => true) && (o_poly_Check k n r))))))
theorem e_poly_Centre (k : Nat) (n r : Nat → Nat) : outB (evFnM Try.prog false menv73 [] [] 96 Ann.no Try.f75 [AV.view k 2 (fun i0 => [AV.float (n i0), AV.float (r i0)])] []) = some (q_poly_Centre k n r, AV.tup [AV.agg [AV.float (s_poly_Centre_0 k n r), AV.float (s_poly_Centre_1 k n r)], AV.int .i64 (s_poly_Centre_2 k n r)]) := by kernel_rfl
def o_poly_Centre (k : Nat) (n r : Nat → Nat) : Bool := (mrgB (!(ieq (s_poly_Check_0 k n r) (0 : Int))) (o_poly_Check k n r) (mrgB (!(flt 0 (s_poly_weighed_0 k n r))) ((o_poly_weighed k n r) && (o_poly_Check k n r)) ((Nat.blt 0 k) && ((o_poly_weighed k n r) && (o_poly_Check k n r)))))
def S_poly_Centre : List AV → Option (Ob × AV)
  | [AV.view k 2 C] => some (Ob.both (Ob.bit (allB fun i => isNrm [Ck.f, Ck.f] (C i))) (Ob.bit (o_poly_Centre k (fL C 0) (fL C 1))), AV.tup [AV.agg [AV.float (s_poly_Centre_0 k (fL C 0) (fL C 1)), AV.float (s_poly_Centre_1 k (fL C 0) (fL C 1))], AV.int .i64 (s_poly_Centre_2 k (fL C 0) (fL C 1))])
  | _ => none
theorem ob_poly_Centre (k : Nat) (n r : Nat → Nat) (ho : o_poly_Centre k n r = true) : q_poly_Centre k n r = true := by
  unfold q_poly_Centre
  unfold o_poly_Centre at ho
  simp only [allB_true, eqT_self, mrgB_self, Bool.true_and, Bool.and_true] at ho ⊢
  exact ho
theorem t_poly_Centre : SOkM Try.prog false (75, fun args => match S_poly_Centre args with | some (o, v) => some (o, v, []) | none => none) := SOkM.flat (N := 96) menv73_ok Try.func75 ann_poly_Centre Try.call75 fun args o v h ho => by
  unfold S_poly_Centre at h
  split at h
  · rename_i k C
    cases h
    rw [Ob.both_ok, Bool.and_eq_true] at ho
    obtain ⟨hn, ho2⟩ := ho
    have n0 := hn
    simp only [Ob.ok] at n0
    replace n0 := nrm_fun n0
    have this := show outB (evFnM Try.prog false menv73 [] [] 96 Ann.no Try.f75 [AV.view k 2 (fun i => mkN [Ck.f, Ck.f] (C i) 0)] []) = _ from e_poly_Centre k (fL C 0) (fL C 1)
    rw [(ob_poly_Centre k (fL C 0) (fL C 1) ho2)] at this
    rw [n0] at this
    exact ⟨this, rfl⟩
  · cases h
def c_poly_Centre : SFM := fun args => match S_poly_Centre args with | some (o, v) => some (o, v, []) | none => none
theorem c_poly_Centre_ok : SOkM Try.prog false (75, c_poly_Centre) := t_poly_Centre
def mss70 : List (FuncId × SFM) := (75, c_poly_Centre) :: mss69
def menv74 : EnvM := mkEnvM mxs mss70 mws5
theorem mss70_ok : All (SOkM Try.prog false) mss70 := All.cons c_poly_Centre_ok mss69_ok
theorem menv74_ok : menv74.Ok Try.prog false := mkEnvM_ok mxs_ok mss70_ok mws5_ok
-- tumble/num.Sum
-- a loop of tumble/num.Sum
structure V_num_Sum_L0 where
  v0 : Nat
  v1 : Int
def tpl_num_Sum_L0 : List AV := (AV.top :: AV.top :: AV.top :: AV.nul :: tpA 9 (AV.nul :: AV.nul :: AV.nul :: tpA 8 ([])))
def cts_num_Sum_L0 : List CT := []
def phs_num_Sum_L0 : List Src := []
def T_num_Sum_L0 (u : Nat) (t : Nat → Nat) (m : Int) (x : V_num_Sum_L0) (F0 : Nat → List AV) : List AV × Heap := ((AV.top :: AV.top :: AV.top :: AV.float x.v0 :: tpA 9 (AV.view u 1 F0 :: AV.int .i64 m :: AV.int .i64 x.v1 :: tpA 8 ([]))), [])
def sh_num_Sum_L0 (u : Nat) (t : Nat → Nat) (m : Int) (x : V_num_Sum_L0) : List AV × Heap := T_num_Sum_L0 u t m x (fun j0 => [AV.float (t j0)])
def step_num_Sum_L0 (u : Nat) (t : Nat → Nat) (m : Int) (x : V_num_Sum_L0) : V_num_Sum_L0 := V_num_Sum_L0.mk (fadd x.v0 (t (Int.toNat x.v1))) (IntKind.wrap .i64 (x.v1 + (1 : Int)))
def go_num_Sum_L0 (u : Nat) (t : Nat → Nat) (m : Int) (x : V_num_Sum_L0) : Bool := (bif (!(ilt x.v1 m)) then false else true)
def ok_num_Sum_L0 (u : Nat) (t : Nat → Nat) (m : Int) (x : V_num_Sum_L0) : Bool := (mrgB (!(ilt x.v1 m)) true ((ile (0 : Int) x.v1) && (Nat.blt (Int.toNat x.v1) u)))
def L_num_Sum_L0 (u : Nat) (t : Nat → Nat) (m : Int) (x : V_num_Sum_L0) : V_num_Sum_L0 := lastL (ok_num_Sum_L0 u t m) (go_num_Sum_L0 u t m) (step_num_Sum_L0 u t m) x
def E_num_Sum_L0 (u : Nat) (t : Nat → Nat) (m : Int) (x : V_num_Sum_L0) : Bool := endsL (ok_num_Sum_L0 u t m) (go_num_Sum_L0 u t m) (step_num_Sum_L0 u t m) x
theorem all_num_Sum_L0 (u : Nat) (t : Nat → Nat) (m : Int) (x : V_num_Sum_L0) : rnd Try.prog false menv74 [] [] 96 Ann.no (subC [1, 1, 1, 0, 1, 0, 0] (codeOf Try.f67)) 0 [] tpl_num_Sum_L0 cts_num_Sum_L0 (tpB 13 (false :: false :: tpB 9 ([]))) [] (sh_num_Sum_L0 u t m x) = (true, true, go_num_Sum_L0 u t m x, ok_num_Sum_L0 u t m x, true, sh_num_Sum_L0 u t m (step_num_Sum_L0 u t m x), true) := by kernel_rfl
def fam_num_Sum_L0 (u : Nat) (t : Nat → Nat) (m : Int) : Fam Try.prog false menv74 [] [] 96 0 Ann.no (subC [1, 1, 1, 0, 1, 0, 0] (codeOf Try.f67)) V_num_Sum_L0 where
  sh := sh_num_Sum_L0 u t m
  ok := ok_num_Sum_L0 u t m
  go := go_num_Sum_L0 u t m
  step := step_num_Sum_L0 u t m
  chg := (tpB 13 (false :: false :: tpB 9 ([])))
  chgH := []
  tpl := tpl_num_Sum_L0
  cts := cts_num_Sum_L0
  keep := 0
  srcs := []
  ann := (annNo (subC [1, 1, 1, 0, 1, 0, 0] (codeOf Try.f67)))
  le := by kernel_rfl
  kept := by kernel_rfl
  keptB := by kernel_rfl
  all := all_num_Sum_L0 u t m
  len := fun x => by kernel_rfl
  head := fun x y => by kernel_rfl
  con := fun x y => by kernel_rfl
  conH := fun x y => by kernel_rfl
def F_num_Sum_L0 : St → Option Ch := fun s => cond (Nat.beq s.tm.length 24 && Nat.beq s.H.length 0) (tkTops 3 (alL tpl_num_Sum_L0 s.tm) fun t0 => tkCons t0 fun g t1 => tkF g fun s0 => tkTops 9 t1 fun t2 => tkCons t2 fun j t3 => tkView 1 j fun s1 f0 => tkCons t3 fun L t4 => tkI .i64 L fun s3 => tkCons t4 fun Q t5 => tkI .i64 Q fun s4 => tkTops 8 t5 fun t6 => tkNil t6 <| tkNil (alH cts_num_Sum_L0 (s.H ++ List.map phan phs_num_Sum_L0)) <| Fam.out (fam_num_Sum_L0 s1 (fL f0 0) s3) s (allB fun i => isNrm [Ck.f] (f0 i)) (V_num_Sum_L0.mk s0 s4)) none
theorem F_num_Sum_L0_ok : ∀ s ch, F_num_Sum_L0 s = some ch → AllI s ch ∧ LoopSpec Try.prog false 0 (subC [1, 1, 1, 0, 1, 0, 0] (codeOf Try.f67)) s (sel ch) := by
  intro s ch h
  unfold F_num_Sum_L0 at h
  obtain ⟨hl, h0⟩ := cond_some h rfl
  clear h
  obtain ⟨hl, hb⟩ := and_beq2 hl
  obtain ⟨t0, e0, h1⟩ := tkTops_some h0
  obtain ⟨g, t1, rfl, h2⟩ := tkCons_some h1
  obtain ⟨s0, rfl, h3⟩ := tkF_some h2
  obtain ⟨t2, rfl, h4⟩ := tkTops_some h3
  obtain ⟨j, t3, rfl, h5⟩ := tkCons_some h4
  obtain ⟨s1, f0, rfl, h6⟩ := tkView_some h5
  obtain ⟨L, t4, rfl, h7⟩ := tkCons_some h6
  obtain ⟨s3, rfl, h8⟩ := tkI_some h7
  obtain ⟨Q, t5, rfl, h9⟩ := tkCons_some h8
  obtain ⟨s4, rfl, h10⟩ := tkI_some h9
  obtain ⟨t6, rfl, h11⟩ := tkTops_some h10
  obtain ⟨rfl, h12⟩ := tkNil_some h11
  obtain ⟨eH, h13⟩ := tkNil_some h12
  refine Fam.spec menv74_ok (fam_num_Sum_L0 s1 (fL f0 0) s3) (phs := phs_num_Sum_L0) (hl.trans (by kernel_rfl)) (hb.trans (by kernel_rfl)) ?_ ?_ h13
  · rw [← hdr_alH cts_num_Sum_L0 (s.H ++ List.map phan phs_num_Sum_L0), eH]; kernel_rfl
  · intro hq
    have hq0 := hq
    have n0 := nrm_fun hq0
    show sh_num_Sum_L0 s1 (fL f0 0) s3 (V_num_Sum_L0.mk s0 s4) = (alL tpl_num_Sum_L0 s.tm, alH cts_num_Sum_L0 (s.H ++ List.map phan phs_num_Sum_L0))
    rw [e0, eH]
    refine Eq.trans (show sh_num_Sum_L0 s1 (fL f0 0) s3 (V_num_Sum_L0.mk s0 s4) = T_num_Sum_L0 s1 (fL f0 0) s3 (V_num_Sum_L0.mk s0 s4) (fun i => mkN [Ck.f] (f0 i) 0) by kernel_rfl) ?_
    rw [n0]
    kernel_rfl
theorem ann_num_Sum : FnOk Try.prog false 0 Try.f67 (Ann.two Ann.no (Ann.two Ann.no (Ann.two Ann.no (Ann.two (Ann.two Ann.no (Ann.one (Ann.loop F_num_Sum_L0))) Ann.no)))) := (fnOk_of (c := codeOf Try.f67) (by kernel_rfl) (annSeq (a := (subC [0] (codeOf Try.f67))) (b := (subC [1] (codeOf Try.f67))) (by kernel_rfl) (annNo (subC [0] (codeOf Try.f67))) (annSeq (a := (subC [1, 0] (codeOf Try.f67))) (b := (subC [1, 1] (codeOf Try.f67))) (by kernel_rfl) (annNo (subC [1, 0] (codeOf Try.f67))) (annSeq (a := (subC [1, 1, 0] (codeOf Try.f67))) (b := (subC [1, 1, 1] (codeOf Try.f67))) (by kernel_rfl) (annNo (subC [1, 1, 0] (codeOf Try.f67))) (annSeq (a := (subC [1, 1, 1, 0] (codeOf Try.f67))) (b := (subC [1, 1, 1, 1] (codeOf Try.f67))) (by kernel_rfl) (annSeq (a := (subC [1, 1, 1, 0, 0] (codeOf Try.f67))) (b := (subC [1, 1, 1, 0, 1] (codeOf Try.f67))) (by kernel_rfl) (annNo (subC [1, 1, 1, 0, 0] (codeOf Try.f67))) (annBlock (a := (subC [1, 1, 1, 0, 1, 0] (codeOf Try.f67))) (i := 0) (by kernel_rfl) (annLoop (a := (subC [1, 1, 1, 0, 1, 0, 0] (codeOf Try.f67))) (by kernel_rfl) F_num_Sum_L0_ok))) (annNo (subC [1, 1, 1, 1] (codeOf Try.f67))))))))
def s_num_Sum_0 (k : Nat) (n : Nat → Nat) : Nat := (bif (ieq (Int.ofNat k) (0 : Int)) then 0 else ((L_num_Sum_L0 (k - 1) (fun j0 => (n (1 + j0))) (Int.ofNat (k - 1)) (V_num_Sum_L0.mk (n 0) (0 : Int))).v0))
def q_num_Sum (k : Nat) (n : Nat → Nat) : Bool := (mrgB (ieq (Int.ofNat k) (0 : Int)) true ((((Nat.ble 1 k) && (Nat.ble k k)) && (Nat.blt 0 k)) && ((allB fun _ => true) && (E_num_Sum_L0 (k - 1) (fun j0 => (n (1 + j0))) (Int.ofNat (k - 1)) (V_num_Sum_L0.mk (n 0) (0 : Int))))))
theorem e_num_Sum (k : Nat) (n : Nat → Nat) : outB (evFnM Try.prog false menv74 [] [] 96 (Ann.two Ann.no (Ann.two Ann.no (Ann.two Ann.no (Ann.two (Ann.two Ann.no (Ann.one (Ann.loop F_num_Sum_L0))) Ann.no)))) Try.f67 [AV.view k 1 (fun i0 => [AV.float (n i0)])] []) = some (q_num_Sum k n, AV.float (s_num_Sum_0 k n)) := by kernel_rfl
def o_num_Sum (k : Nat) (n : Nat → Nat) : Bool := (mrgB (ieq (Int.ofNat k) (0 : Int)) true ((((Nat.ble 1 k) && (Nat.ble k k)) && (Nat.blt 0 k)) && (E_num_Sum_L0 (k - 1) (fun j0 => (n (1 + j0))) (Int.ofNat (k - 1)) (V_num_Sum_L0.mk (n 0) (0 : Int)))))
def S_num_Sum : List AV → Option (Ob × AV)
  | [AV.view k 1 C] => some (Ob.both (Ob.bit (allB fun i => isNrm [Ck.f] (C i))) (Ob.bit (o_num_Sum k (fL C 0))), AV.float (s_num_Sum_0 k (fL C 0)))
  | _ => none
theorem ob_num_Sum (k : Nat) (n : Nat → Nat) (ho : o_num_Sum k n = true) : q_num_Sum k n = true := by
  unfold q_num_Sum
  unfold o_num_Sum at ho
  simp only [allB_true, eqT_self, mrgB_self, Bool.true_and, Bool.and_true] at ho ⊢
  exact ho
theorem t_num_Sum : SOkM Try.prog false (67, fun args => match S_num_Sum args with | some (o, v) => some (o, v, []) | none => none) := SOkM.flat (N := 96) menv74_ok Try.func67 ann_num_Sum Try.call67 fun args o v h ho => by
  unfold S_num_Sum at h
  split at h
  · rename_i k C
    cases h
    rw [Ob.both_ok, Bool.and_eq_true] at ho
    obtain ⟨hn, ho2⟩ := ho
    have n0 := hn
    simp only [Ob.ok] at n0
    replace n0 := nrm_fun n0
    have this := show outB (evFnM Try.prog false menv74 [] [] 96 (Ann.two Ann.no (Ann.two Ann.no (Ann.two Ann.no (Ann.two (Ann.two Ann.no (Ann.one (Ann.loop F_num_Sum_L0))) Ann.no)))) Try.f67 [AV.view k 1 (fun i => mkN [Ck.f] (C i) 0)] []) = _ from e_num_Sum k (fL C 0)
    rw [(ob_num_Sum k (fL C 0) ho2)] at this
    rw [n0] at this
    exact ⟨this, rfl⟩
  · cases h
def c_num_Sum : SFM := fun args => match S_num_Sum args with | some (o, v) => some (o, v, []) | none => none
theorem c_num_Sum_ok : SOkM Try.prog false (67, c_num_Sum) := t_num_Sum
def mss71 : List (FuncId × SFM) := (67, c_num_Sum) :: mss70
def menv75 : EnvM := mkEnvM mxs mss71 mws5
theorem mss71_ok : All (SOkM Try.prog false) mss71 := All.cons c_num_Sum_ok mss70_ok
theorem menv75_ok : menv75.Ok Try.prog false := mkEnvM_ok mxs_ok mss71_ok mws5_ok
-- tumble/mass.polygon
-- a loop of tumble/mass.polygon
structure V_mass_polygon_L0 where
  v0 : Int
  v1 : (Nat → Nat)
def tpl_mass_polygon_L0 : List AV := (AV.top :: AV.nul :: AV.nul :: AV.top :: AV.nul :: AV.top :: AV.nul :: AV.top :: AV.nul :: AV.nul :: tpA 28 (AV.nul :: AV.nul :: tpA 49 ([])))
def cts_mass_polygon_L0 : List CT := [CT.keep, CT.keep, CT.keep, CT.keep]
def phs_mass_polygon_L0 : List Src := []
def T_mass_polygon_L0 (u t m : Nat) (B K : Int) (I : Nat) (E F : Nat → Nat) (D J : Nat) (x : V_mass_polygon_L0) (F0 F1 : Nat → List AV) : List AV × Heap := ((AV.top :: AV.float u :: AV.ptr (some ⟨0, 0, .lit 0⟩) :: AV.top :: AV.ptr (some ⟨1, 0, .lit 0⟩) :: AV.top :: AV.float t :: AV.top :: AV.ptr (some ⟨2, 0, .lit 0⟩) :: AV.lst 3 0 1 m m :: tpA 28 (AV.int .i64 B :: AV.int .i64 x.v0 :: tpA 49 ([]))), [⟨.flat [AV.int .u8 K, AV.float I, AV.view m 2 F0], 47, 0⟩, ⟨.flat [AV.float 0, AV.float 0, AV.float 0, AV.float 0], 28, 0⟩, ⟨.flat [AV.float D, AV.float J], 26, 0⟩, ⟨.sym m 1 F1, 24, 0⟩])
def sh_mass_polygon_L0 (u t m : Nat) (B K : Int) (I : Nat) (E F : Nat → Nat) (D J : Nat) (x : V_mass_polygon_L0) : List AV × Heap := T_mass_polygon_L0 u t m B K I E F D J x (fun j0 => [AV.float (E j0), AV.float (F j0)]) (fun j0 => [AV.float (x.v1 j0)])
def step_mass_polygon_L0 (m : Nat) (B : Int) (E F : Nat → Nat) (D J : Nat) (x : V_mass_polygon_L0) : V_mass_polygon_L0 := V_mass_polygon_L0.mk (IntKind.wrap .i64 (x.v0 + (1 : Int))) (fun j0 => let x0 := Int.toNat (Int.tmod (IntKind.wrap .i64 (x.v0 + (1 : Int))) (Int.ofNat m)); let x1 := F x0; let x2 := E x0; let x3 := s_vec_Sub_1 x2 x1 D J; let x4 := s_vec_Sub_0 x2 x1 D J; let x5 := F (Int.toNat x.v0); let x6 := E (Int.toNat x.v0); let x7 := s_vec_Sub_1 x6 x5 D J; let x8 := s_vec_Sub_0 x6 x5 D J; (bif (Nat.beq j0 (Int.toNat x.v0)) then (fmul (s_vec_Cross_0 x8 x7 x4 x3) (fadd (fadd (s_vec_Dot_0 x8 x7 x8 x7) (s_vec_Dot_0 x8 x7 x4 x3)) (s_vec_Dot_0 x4 x3 x4 x3))) else (x.v1 j0)))
def go_mass_polygon_L0 (m : Nat) (B : Int) (E F : Nat → Nat) (D J : Nat) (x : V_mass_polygon_L0) : Bool := (bif (!(ilt x.v0 B)) then false else true)
def ok_mass_polygon_L0 (m : Nat) (B : Int) (E F : Nat → Nat) (D J : Nat) (x : V_mass_polygon_L0) : Bool := (mrgB (!(ilt x.v0 B)) true ((Nat.blt (Int.toNat x.v0) m) && (((ile (0 : Int) x.v0) && (Nat.blt (Int.toNat x.v0) m)) && (((ile (0 : Int) (Int.tmod (IntKind.wrap .i64 (x.v0 + (1 : Int))) (Int.ofNat m))) && (Nat.blt (Int.toNat (Int.tmod (IntKind.wrap .i64 (x.v0 + (1 : Int))) (Int.ofNat m))) m)) && ((!(ieq (Int.ofNat m) (0 : Int))) && ((ile (0 : Int) x.v0) && (Nat.blt (Int.toNat x.v0) m)))))))
def L_mass_polygon_L0 (m : Nat) (B : Int) (E F : Nat → Nat) (D J : Nat) (x : V_mass_polygon_L0) : V_mass_polygon_L0 := lastL (ok_mass_polygon_L0 m B E F D J) (go_mass_polygon_L0 m B E F D J) (step_mass_polygon_L0 m B E F D J) x
def E_mass_polygon_L0 (m : Nat) (B : Int) (E F : Nat → Nat) (D J : Nat) (x : V_mass_polygon_L0) : Bool := endsL (ok_mass_polygon_L0 m B E F D J) (go_mass_polygon_L0 m B E F D J) (step_mass_polygon_L0 m B E F D J) x
theorem all_mass_polygon_L0 (u t m : Nat) (B K : Int) (I : Nat) (E F : Nat → Nat) (D J : Nat) (x : V_mass_polygon_L0) : rnd Try.prog false menv75 [] [] 96 Ann.no (subC [1, 1, 1, 1, 1, 1, 0, 1, 0, 0] (codeOf Try.f61)) 0 [⟨some 0, 0, 0, []⟩, ⟨some 1, 0, 0, []⟩, ⟨some 2, 0, 0, []⟩, ⟨some 3, 0, 0, []⟩] tpl_mass_polygon_L0 cts_mass_polygon_L0 (true :: false :: false :: true :: false :: true :: false :: true :: false :: false :: tpB 28 (false :: tpB 50 ([]))) [false, false, false, true] (sh_mass_polygon_L0 u t m B K I E F D J x) = (true, true, go_mass_polygon_L0 m B E F D J x, ok_mass_polygon_L0 m B E F D J x, true, sh_mass_polygon_L0 u t m B K I E F D J (step_mass_polygon_L0 m B E F D J x), true) := by kernel_rfl
def fam_mass_polygon_L0 (u t m : Nat) (B K : Int) (I : Nat) (E F : Nat → Nat) (D J : Nat) : Fam Try.prog false menv75 [] [] 96 0 Ann.no (subC [1, 1, 1, 1, 1, 1, 0, 1, 0, 0] (codeOf Try.f61)) V_mass_polygon_L0 where
  sh := sh_mass_polygon_L0 u t m B K I E F D J
  ok := ok_mass_polygon_L0 m B E F D J
  go := go_mass_polygon_L0 m B E F D J
  step := step_mass_polygon_L0 m B E F D J
  chg := (true :: false :: false :: true :: false :: true :: false :: true :: false :: false :: tpB 28 (false :: tpB 50 ([])))
  chgH := [false, false, false, true]
  tpl := tpl_mass_polygon_L0
  cts := cts_mass_polygon_L0
  keep := 0
  srcs := [⟨some 0, 0, 0, []⟩, ⟨some 1, 0, 0, []⟩, ⟨some 2, 0, 0, []⟩, ⟨some 3, 0, 0, []⟩]
  ann := (annNo (subC [1, 1, 1, 1, 1, 1, 0, 1, 0, 0] (codeOf Try.f61)))
  le := by kernel_rfl
  kept := by kernel_rfl
  keptB := by kernel_rfl
  all := all_mass_polygon_L0 u t m B K I E F D J
  len := fun x => by kernel_rfl
  head := fun x y => by kernel_rfl
  con := fun x y => by kernel_rfl
  conH := fun x y => by kernel_rfl
def F_mass_polygon_L0 : St → Option Ch := fun s => cond (Nat.beq s.tm.length 89 && Nat.beq s.H.length 4) (tkTops 1 (alL tpl_mass_polygon_L0 s.tm) fun t0 => tkCons t0 fun g t1 => tkF g fun s0 => tkCons t1 fun z t2 => tkPtr 0 0 0 z <| tkTops 1 t2 fun t3 => tkCons t3 fun L t4 => tkPtr 1 0 0 L <| tkTops 1 t4 fun t5 => tkCons t5 fun Y t6 => tkF Y fun s1 => tkTops 1 t6 fun t7 => tkCons t7 fun P t8 => tkPtr 2 0 0 P <| tkCons t8 fun S t9 => tkLst 3 0 1 S fun s2 s3 => tkTops 28 t9 fun t10 => tkCons t10 fun aa t11 => tkI .i64 aa fun s4 => tkCons t11 fun T t12 => tkI .i64 T fun s5 => tkTops 49 t12 fun t13 => tkNil t13 <| tkCons (alH cts_mass_polygon_L0 (s.H ++ List.map phan phs_mass_polygon_L0)) fun b14 t14 => tkFlat 47 0 b14 fun m14 => tkCons m14 fun X t15 => tkI .u8 X fun s6 => tkCons t15 fun U t16 => tkF U fun s7 => tkCons t16 fun Z t17 => tkView 2 Z fun s8 f0 => tkNil t17 <| tkCons t14 fun b18 t18 => tkFlat 28 0 b18 fun m18 => tkCons m18 fun ab t19 => tkFL 0 ab <| tkCons t19 fun ac t20 => tkFL 0 ac <| tkCons t20 fun ad t21 => tkFL 0 ad <| tkCons t21 fun ae t22 => tkFL 0 ae <| tkNil t22 <| tkCons t18 fun b23 t23 => tkFlat 26 0 b23 fun m23 => tkCons m23 fun af t24 => tkF af fun s15 => tkCons t24 fun ag t25 => tkF ag fun s16 => tkNil t25 <| tkCons t23 fun b26 t26 => tkSym 24 0 1 b26 fun s17 f1 => tkNil t26 <| Fam.out (fam_mass_polygon_L0 s0 s1 s2 s4 s6 s7 (fL f0 0) (fL f0 1) s15 s16) s (((((allB fun i => isNrm [Ck.f, Ck.f] (f0 i)) && (allB fun i => isNrm [Ck.f] (f1 i))) && (eqT s3 s2)) && (eqT s8 s2)) && (eqT s17 s2)) (V_mass_polygon_L0.mk s5 (fL f1 0))) none
theorem F_mass_polygon_L0_ok : ∀ s ch, F_mass_polygon_L0 s = some ch → AllI s ch ∧ LoopSpec Try.prog false 0 (subC [1, 1, 1, 1, 1, 1, 0, 1, 0, 0] (codeOf Try.f61)) s (sel ch) := by
  intro s ch h
  unfold F_mass_polygon_L0 at h
  obtain ⟨hl, h0⟩ := cond_some h rfl
  clear h
  obtain ⟨hl, hb⟩ := and_beq2 hl
  obtain ⟨t0, e0, h1⟩ := tkTops_some h0
  obtain ⟨g, t1, rfl, h2⟩ := tkCons_some h1
  obtain ⟨s0, rfl, h3⟩ := tkF_some h2
  obtain ⟨z, t2, rfl, h4⟩ := tkCons_some h3
  obtain ⟨rfl, h5⟩ := tkPtr_some h4
  obtain ⟨t3, rfl, h6⟩ := tkTops_some h5
  obtain ⟨L, t4, rfl, h7⟩ := tkCons_some h6
  obtain ⟨rfl, h8⟩ := tkPtr_some h7
  obtain ⟨t5, rfl, h9⟩ := tkTops_some h8
  obtain ⟨Y, t6, rfl, h10⟩ := tkCons_some h9
  obtain ⟨s1, rfl, h11⟩ := tkF_some h10
  obtain ⟨t7, rfl, h12⟩ := tkTops_some h11
  obtain ⟨P, t8, rfl, h13⟩ := tkCons_some h12
  obtain ⟨rfl, h14⟩ := tkPtr_some h13
  obtain ⟨S, t9, rfl, h15⟩ := tkCons_some h14
  obtain ⟨s2, s3, rfl, h16⟩ := tkLst_some h15
  obtain ⟨t10, rfl, h17⟩ := tkTops_some h16
  obtain ⟨aa, t11, rfl, h18⟩ := tkCons_some h17
  obtain ⟨s4, rfl, h19⟩ := tkI_some h18
  obtain ⟨T, t12, rfl, h20⟩ := tkCons_some h19
  obtain ⟨s5, rfl, h21⟩ := tkI_some h20
  obtain ⟨t13, rfl, h22⟩ := tkTops_some h21
  obtain ⟨rfl, h23⟩ := tkNil_some h22
  obtain ⟨b14, t14, eH, h24⟩ := tkCons_some h23
  obtain ⟨m14, rfl, h25⟩ := tkFlat_some h24
  obtain ⟨X, t15, rfl, h26⟩ := tkCons_some h25
  obtain ⟨s6, rfl, h27⟩ := tkI_some h26
  obtain ⟨U, t16, rfl, h28⟩ := tkCons_some h27
  obtain ⟨s7, rfl, h29⟩ := tkF_some h28
  obtain ⟨Z, t17, rfl, h30⟩ := tkCons_some h29
  obtain ⟨s8, f0, rfl, h31⟩ := tkView_some h30
  obtain ⟨rfl, h32⟩ := tkNil_some h31
  obtain ⟨b18, t18, rfl, h33⟩ := tkCons_some h32
  obtain ⟨m18, rfl, h34⟩ := tkFlat_some h33
  obtain ⟨ab, t19, rfl, h35⟩ := tkCons_some h34
  obtain ⟨rfl, h36⟩ := tkFL_some h35
  obtain ⟨ac, t20, rfl, h37⟩ := tkCons_some h36
  obtain ⟨rfl, h38⟩ := tkFL_some h37
  obtain ⟨ad, t21, rfl, h39⟩ := tkCons_some h38
  obtain ⟨rfl, h40⟩ := tkFL_some h39
  obtain ⟨ae, t22, rfl, h41⟩ := tkCons_some h40
  obtain ⟨rfl, h42⟩ := tkFL_some h41
  obtain ⟨rfl, h43⟩ := tkNil_some h42
  obtain ⟨b23, t23, rfl, h44⟩ := tkCons_some h43
  obtain ⟨m23, rfl, h45⟩ := tkFlat_some h44
  obtain ⟨af, t24, rfl, h46⟩ := tkCons_some h45
  obtain ⟨s15, rfl, h47⟩ := tkF_some h46
  obtain ⟨ag, t25, rfl, h48⟩ := tkCons_some h47
  obtain ⟨s16, rfl, h49⟩ := tkF_some h48
  obtain ⟨rfl, h50⟩ := tkNil_some h49
  obtain ⟨b26, t26, rfl, h51⟩ := tkCons_some h50
  obtain ⟨s17, f1, rfl, h52⟩ := tkSym_some h51
  obtain ⟨rfl, h53⟩ := tkNil_some h52
  refine Fam.spec menv75_ok (fam_mass_polygon_L0 s0 s1 s2 s4 s6 s7 (fL f0 0) (fL f0 1) s15 s16) (phs := phs_mass_polygon_L0) (hl.trans (by kernel_rfl)) (hb.trans (by kernel_rfl)) ?_ ?_ h53
  · rw [← hdr_alH cts_mass_polygon_L0 (s.H ++ List.map phan phs_mass_polygon_L0), eH]; kernel_rfl
  · intro hq
    simp only [Bool.and_eq_true] at hq
    obtain ⟨⟨⟨⟨hq0, hq1⟩, hq2⟩, hq3⟩, hq4⟩ := hq
    have n0 := nrm_fun hq0
    have n1 := nrm_fun hq1
    have hx := eqT_eq hq2; subst s3
    have hx := eqT_eq hq3; subst s8
    have hx := eqT_eq hq4; subst s17
    show sh_mass_polygon_L0 s0 s1 s2 s4 s6 s7 (fL f0 0) (fL f0 1) s15 s16 (V_mass_polygon_L0.mk s5 (fL f1 0)) = (alL tpl_mass_polygon_L0 s.tm, alH cts_mass_polygon_L0 (s.H ++ List.map phan phs_mass_polygon_L0))
    rw [e0, eH]
    refine Eq.trans (show sh_mass_polygon_L0 s0 s1 s2 s4 s6 s7 (fL f0 0) (fL f0 1) s15 s16 (V_mass_polygon_L0.mk s5 (fL f1 0)) = T_mass_polygon_L0 s0 s1 s2 s4 s6 s7 (fL f0 0) (fL f0 1) s15 s16 (V_mass_polygon_L0.mk s5 (fL f1 0)) (fun i => mkN [Ck.f, Ck.f] (f0 i) 0) (fun i => mkN [Ck.f] (f1 i) 0) by kernel_rfl) ?_
    rw [n0, n1]
    kernel_rfl
theorem ann_mass_polygon : FnOk Try.prog false 0 Try.f61 (Ann.two Ann.no (Ann.two Ann.no (Ann.two Ann.no (Ann.two Ann.no (Ann.two Ann.no (Ann.two Ann.no (Ann.two (Ann.two Ann.no (Ann.one (Ann.loop F_mass_polygon_L0))) Ann.no))))))) := (fnOk_of (c := codeOf Try.f61) (by kernel_rfl) (annSeq (a := (subC [0] (codeOf Try.f61))) (b := (subC [1] (codeOf Try.f61))) (by kernel_rfl) (annNo (subC [0] (codeOf Try.f61))) (annSeq (a := (subC [1, 0] (codeOf Try.f61))) (b := (subC [1, 1] (codeOf Try.f61))) (by kernel_rfl) (annNo (subC [1, 0] (codeOf Try.f61))) (annSeq (a := (subC [1, 1, 0] (codeOf Try.f61))) (b := (subC [1, 1, 1] (codeOf Try.f61))) (by kernel_rfl) (annNo (subC [1, 1, 0] (codeOf Try.f61))) (annSeq (a := (subC [1, 1, 1, 0] (codeOf Try.f61))) (b := (subC [1, 1, 1, 1] (codeOf Try.f61))) (by kernel_rfl) (annNo (subC [1, 1, 1, 0] (codeOf Try.f61))) (annSeq (a := (subC [1, 1, 1, 1, 0] (codeOf Try.f61))) (b := (subC [1, 1, 1, 1, 1] (codeOf Try.f61))) (by kernel_rfl) (annNo (subC [1, 1, 1, 1, 0] (codeOf Try.f61))) (annSeq (a := (subC [1, 1, 1, 1, 1, 0] (codeOf Try.f61))) (b := (subC [1, 1, 1, 1, 1, 1] (codeOf Try.f61))) (by kernel_rfl) (annNo (subC [1, 1, 1, 1, 1, 0] (codeOf Try.f61))) (annSeq (a := (subC [1, 1, 1, 1, 1, 1, 0] (codeOf Try.f61))) (b := (subC [1, 1, 1, 1, 1, 1, 1] (codeOf Try.f61))) (by kernel_rfl) (annSeq (a := (subC [1, 1, 1, 1, 1, 1, 0, 0] (codeOf Try.f61))) (b := (subC [1, 1, 1, 1, 1, 1, 0, 1] (codeOf Try.f61))) (by kernel_rfl) (annNo (subC [1, 1, 1, 1, 1, 1, 0, 0] (codeOf Try.f61))) (annBlock (a := (subC [1, 1, 1, 1, 1, 1, 0, 1, 0] (codeOf Try.f61))) (i := 0) (by kernel_rfl) (annLoop (a := (subC [1, 1, 1, 1, 1, 1, 0, 1, 0, 0] (codeOf Try.f61))) (by kernel_rfl) F_mass_polygon_L0_ok))) (annNo (subC [1, 1, 1, 1, 1, 1, 1] (codeOf Try.f61)))))))))))
def s_mass_polygon_0 (e : Int) (g l : Nat) (p q : Nat → Nat) (j : Nat) : Nat := (bif (!(ieq (s_poly_Area_1 l p q) (0 : Int))) then 0 else (bif (!(ieq (s_poly_Centre_2 l p q) (0 : Int))) then 0 else (fmul j (s_poly_Area_0 l p q))))
def s_mass_polygon_1 (e : Int) (g l : Nat) (p q : Nat → Nat) (j : Nat) : Nat := (bif (!(ieq (s_poly_Area_1 l p q) (0 : Int))) then 0 else (bif (!(ieq (s_poly_Centre_2 l p q) (0 : Int))) then 0 else (fmul j (fdiv (s_num_Sum_0 l ((L_mass_polygon_L0 l (Int.ofNat l) p q (s_poly_Centre_0 l p q) (s_poly_Centre_1 l p q) (V_mass_polygon_L0.mk (0 : Int) (fun j0 => 0))).v1)) 4622945017495814144))))
def s_mass_polygon_2 (e : Int) (g l : Nat) (p q : Nat → Nat) (j : Nat) : Nat := (bif (!(ieq (s_poly_Area_1 l p q) (0 : Int))) then 0 else (bif (!(ieq (s_poly_Centre_2 l p q) (0 : Int))) then 0 else (s_poly_Centre_0 l p q)))
def s_mass_polygon_3 (e : Int) (g l : Nat) (p q : Nat → Nat) (j : Nat) : Nat := (bif (!(ieq (s_poly_Area_1 l p q) (0 : Int))) then 0 else (bif (!(ieq (s_poly_Centre_2 l p q) (0 : Int))) then 0 else (s_poly_Centre_1 l p q)))
def s_mass_polygon_4 (e : Int) (g l : Nat) (p q : Nat → Nat) (j : Nat) : Int := (bif (!(ieq (s_poly_Area_1 l p q) (0 : Int))) then (s_poly_Area_1 l p q) else (bif (!(ieq (s_poly_Centre_2 l p q) (0 : Int))) then (s_poly_Centre_2 l p q) else (0 : Int)))
def q_mass_polygon (e : Int) (g l : Nat) (p q : Nat → Nat) (j : Nat) : Bool := (let x0 := s_poly_Centre_1 l p q; let x1 := s_poly_Centre_0 l p q; let x2 := (allB fun _ => true) && (o_poly_Area l p q); let x3 := ((allB fun _ => true) && (o_poly_Centre l p q)) && x2; (mrgB (!(ieq (s_poly_Area_1 l p q) (0 : Int))) x2 (mrgB (!(ieq (s_poly_Centre_2 l p q) (0 : Int))) x3 (((Nat.ble l l) && ((allB fun _ => true) && (o_num_Sum l ((L_mass_polygon_L0 l (Int.ofNat l) p q x1 x0 (V_mass_polygon_L0.mk (0 : Int) (fun j0 => 0))).v1)))) && ((((ile (Int.ofNat l) (Int.ofNat l)) && ((ile ((8 : Int) * (Int.ofNat l)) (281474976710656 : Int)) && (ile (Int.ofNat l) (9223372036854775807 : Int)))) && x3) && ((((((allB fun _ => true) && (allB fun _ => true)) && (eqT l l)) && (eqT l l)) && (eqT l l)) && (E_mass_polygon_L0 l (Int.ofNat l) p q x1 x0 (V_mass_polygon_L0.mk (0 : Int) (fun j0 => 0)))))))))
theorem e_mass_polygon (e : Int) (g l : Nat) (p q : Nat → Nat) (j : Nat) : outB (evFnM Try.prog false menv75 [] [] 96 (Ann.two Ann.no (Ann.two Ann.no (Ann.two Ann.no (Ann.two Ann.no (Ann.two Ann.no (Ann.two Ann.no (Ann.two (Ann.two Ann.no (Ann.one (Ann.loop F_mass_polygon_L0))) Ann.no))))))) Try.f61 [AV.agg [AV.int .u8 e, AV.float g, AV.view l 2 (fun i0 => [AV.float (p i0), AV.float (q i0)])], AV.float j] []) = some (q_mass_polygon e g l p q j, AV.tup [AV.agg [AV.float (s_mass_polygon_0 e g l p q j), AV.float (s_mass_polygon_1 e g l p q j), AV.float (s_mass_polygon_2 e g l p q j), AV.float (s_mass_polygon_3 e g l p q j)], AV.int .i64 (s_mass_polygon_4 e g l p q j)]) := by kernel_rfl
def o_mass_polygon (e : Int) (g l : Nat) (p q : Nat → Nat) (j : Nat) : Bool := let x0 := s_poly_Centre_1 l p q; let x1 := s_poly_Centre_0 l p q; let x2 := o_poly_Area l p q; let x3 := (o_poly_Centre l p q) && x2; (mrgB (!(ieq (s_poly_Area_1 l p q) (0 : Int))) x2 (mrgB (!(ieq (s_poly_Centre_2 l p q) (0 : Int))) x3 (((Nat.ble l l) && (o_num_Sum l ((L_mass_polygon_L0 l (Int.ofNat l) p q x1 x0 (V_mass_polygon_L0.mk (0 : Int) (fun j0 => 0))).v1))) && ((((ile (Int.ofNat l) (Int.ofNat l)) && ((ile ((8 : Int) * (Int.ofNat l)) (281474976710656 : Int)) && (ile (Int.ofNat l) (9223372036854775807 : Int)))) && x3) && (E_mass_polygon_L0 l (Int.ofNat l) p q x1 x0 (V_mass_polygon_L0.mk (0 : Int) (fun j0 => 0)))))))
def S_mass_polygon : List AV → Option (Ob × AV)
  | [AV.agg [AV.int .u8 e, AV.float g, AV.view l 2 G], AV.float j] => some (Ob.both (Ob.bit (allB fun i => isNrm [Ck.f, Ck.f] (G i))) (Ob.bit (o_mass_polygon e g l (fL G 0) (fL G 1) j)), AV.tup [AV.agg [AV.float (s_mass_polygon_0 e g l (fL G 0) (fL G 1) j), AV.float (s_mass_polygon_1 e g l (fL G 0) (fL G 1) j), AV.float (s_mass_polygon_2 e g l (fL G 0) (fL G 1) j), AV.float (s_mass_polygon_3 e g l (fL G 0) (fL G 1) j)], AV.int .i64 (s_mass_polygon_4 e g l (fL G 0) (fL G 1) j)])
  | _ => none
theorem ob_mass_polygon (e : Int) (g l : Nat) (p q : Nat → Nat) (j : Nat) (ho : o_mass_polygon e g l p q j = true) : q_mass_polygon e g l p q j = true := by
  unfold q_mass_polygon
  unfold o_mass_polygon at ho
  simp only [allB_true, eqT_self, mrgB_self, Bool.true_and, Bool.and_true] at ho ⊢
  exact ho
theorem t_mass_polygon : SOkM Try.prog false (61, fun args => match S_mass_polygon args with | some (o, v) => some (o, v, []) | none => none) := SOkM.flat (N := 96) menv75_ok Try.func61 ann_mass_polygon Try.call61 fun args o v h ho => by
  unfold S_mass_polygon at h
  split at h
  · rename_i e g l G j
    cases h
    rw [Ob.both_ok, Bool.and_eq_true] at ho
    obtain ⟨hn, ho2⟩ := ho
    have n0 := hn
    simp only [Ob.ok] at n0
    replace n0 := nrm_fun n0
    have this := show outB (evFnM Try.prog false menv75 [] [] 96 (Ann.two Ann.no (Ann.two Ann.no (Ann.two Ann.no (Ann.two Ann.no (Ann.two Ann.no (Ann.two Ann.no (Ann.two (Ann.two Ann.no (Ann.one (Ann.loop F_mass_polygon_L0))) Ann.no))))))) Try.f61 [AV.agg [AV.int .u8 e, AV.float g, AV.view l 2 (fun i => mkN [Ck.f, Ck.f] (G i) 0)], AV.float j] []) = _ from e_mass_polygon e g l (fL G 0) (fL G 1) j
    rw [(ob_mass_polygon e g l (fL G 0) (fL G 1) j ho2)] at this
    rw [n0] at this
    exact ⟨this, rfl⟩
  · cases h
def c_mass_polygon : SFM := fun args => match S_mass_polygon args with | some (o, v) => some (o, v, []) | none => none
theorem c_mass_polygon_ok : SOkM Try.prog false (61, c_mass_polygon) := t_mass_polygon
def mss72 : List (FuncId × SFM) := (61, c_mass_polygon) :: mss71
def menv76 : EnvM := mkEnvM mxs mss72 mws5
theorem mss72_ok : All (SOkM Try.prog false) mss72 := All.cons c_mass_polygon_ok mss71_ok
theorem menv76_ok : menv76.Ok Try.prog false := mkEnvM_ok mxs_ok mss72_ok mws5_ok
-- tumble/mass.disc
theorem ann_mass_disc : FnOk Try.prog false 0 Try.f73 Ann.no := (fnNo _)
def s_mass_disc_0 (e g : Nat) : Nat := (fmul g (fmul 4614256656552045848 (fmul e e)))
theorem e_mass_disc (e g : Nat) : outB (evFnM Try.prog false menv76 [] [] 96 Ann.no Try.f73 [AV.float e, AV.float g] []) = some (true, AV.float (s_mass_disc_0 e g)) := by kernel_rfl
def S_mass_disc : List AV → Option (Ob × AV)
  | [AV.float e, AV.float g] => some (Ob.tt, AV.float (s_mass_disc_0 e g))
  | _ => none
theorem t_mass_disc : SOkM Try.prog false (73, fun args => match S_mass_disc args with | some (o, v) => some (o, v, []) | none => none) := SOkM.flat (N := 96) menv76_ok Try.func73 ann_mass_disc Try.call73 fun args o v h ho => by
  unfold S_mass_disc at h
  split at h
  · rename_i e g
    cases h
    have ho2 := ho
    have this := show outB (evFnM Try.prog false menv76 [] [] 96 Ann.no Try.f73 [AV.float e, AV.float g] []) = _ from e_mass_disc e g
    exact ⟨this, rfl⟩
  · cases h
def c_mass_disc : SFM := fun args => match S_mass_disc args with | some (o, v) => some (o, v, []) | none => none
theorem c_mass_disc_ok : SOkM Try.prog false (73, c_mass_disc) := t_mass_disc
def mss73 : List (FuncId × SFM) := (73, c_mass_disc) :: mss72
def menv77 : EnvM := mkEnvM mxs mss73 mws5
theorem mss73_ok : All (SOkM Try.prog false) mss73 := All.cons c_mass_disc_ok mss72_ok
theorem menv77_ok : menv77.Ok Try.prog false := mkEnvM_ok mxs_ok mss73_ok mws5_ok
-- tumble/vec.Middle
theorem ann_vec_Middle : FnOk Try.prog false 0 Try.f74 Ann.no := (fnNo _)
def s_vec_Middle_0 (e g z j : Nat) : Nat := (s_vec_Scale_0 (s_vec_Add_0 e g z j) (s_vec_Add_1 e g z j) 4602678819172646912)
def s_vec_Middle_1 (e g z j : Nat) : Nat := (s_vec_Scale_1 (s_vec_Add_0 e g z j) (s_vec_Add_1 e g z j) 4602678819172646912)
theorem e_vec_Middle (e g z j : Nat) : outB (evFnM Try.prog false menv77 [] [] 96 Ann.no Try.f74 [AV.agg [AV.float e, AV.float g], AV.agg [AV.float z, AV.float j]] []) = some (true, AV.agg [AV.float (s_vec_Middle_0 e g z j), AV.float (s_vec_Middle_1 e g z j)]) := by kernel_rfl
def S_vec_Middle : List AV → Option (Ob × AV)
  | [AV.agg [AV.float e, AV.float g], AV.agg [AV.float z, AV.float j]] => some (Ob.tt, AV.agg [AV.float (s_vec_Middle_0 e g z j), AV.float (s_vec_Middle_1 e g z j)])
  | _ => none
theorem t_vec_Middle : SOkM Try.prog false (74, fun args => match S_vec_Middle args with | some (o, v) => some (o, v, []) | none => none) := SOkM.flat (N := 96) menv77_ok Try.func74 ann_vec_Middle Try.call74 fun args o v h ho => by
  unfold S_vec_Middle at h
  split at h
  · rename_i e g z j
    cases h
    have ho2 := ho
    have this := show outB (evFnM Try.prog false menv77 [] [] 96 Ann.no Try.f74 [AV.agg [AV.float e, AV.float g], AV.agg [AV.float z, AV.float j]] []) = _ from e_vec_Middle e g z j
    exact ⟨this, rfl⟩
  · cases h
def c_vec_Middle : SFM := fun args => match S_vec_Middle args with | some (o, v) => some (o, v, []) | none => none
theorem c_vec_Middle_ok : SOkM Try.prog false (74, c_vec_Middle) := t_vec_Middle
def mss74 : List (FuncId × SFM) := (74, c_vec_Middle) :: mss73
def menv78 : EnvM := mkEnvM mxs mss74 mws5
theorem mss74_ok : All (SOkM Try.prog false) mss74 := All.cons c_vec_Middle_ok mss73_ok
theorem menv78_ok : menv78.Ok Try.prog false := mkEnvM_ok mxs_ok mss74_ok mws5_ok
-- tumble/mass.capsule
theorem ann_mass_capsule : FnOk Try.prog false 0 Try.f60 Ann.no := (fnNo _)
def s_mass_capsule_0 (e : Int) (g l : Nat) (p q : Nat → Nat) (j : Nat) : Nat := (fadd (fmul j (fmul (fmul 4611686018427387904 g) (s_vec_Length_0 (s_vec_Sub_0 (p 1) (q 1) (p 0) (q 0)) (s_vec_Sub_1 (p 1) (q 1) (p 0) (q 0))))) (s_mass_disc_0 g j))
def s_mass_capsule_1 (e : Int) (g l : Nat) (p q : Nat → Nat) (j : Nat) : Nat := let x0 := s_vec_Length_0 (s_vec_Sub_0 (p 1) (q 1) (p 0) (q 0)) (s_vec_Sub_1 (p 1) (q 1) (p 0) (q 0)); let x1 := fmul x0 x0; (fadd (fdiv (fmul (fmul j (fmul (fmul 4611686018427387904 g) x0)) (fadd x1 (fmul (fmul 4616189618054758400 g) g))) 4622945017495814144) (fmul (s_mass_disc_0 g j) (fadd (fadd (fmul (fmul g g) 4602678819172646912) (fmul x1 4598175219545276416)) (fmul x0 (fdiv (fmul 4616189618054758400 g) 4621495296368779730)))))
def s_mass_capsule_2 (e : Int) (g l : Nat) (p q : Nat → Nat) (j : Nat) : Nat := (s_vec_Middle_0 (p 0) (q 0) (p 1) (q 1))
def s_mass_capsule_3 (e : Int) (g l : Nat) (p q : Nat → Nat) (j : Nat) : Nat := (s_vec_Middle_1 (p 0) (q 0) (p 1) (q 1))
def o_mass_capsule (e : Int) (g l : Nat) (p q : Nat → Nat) (j : Nat) : Bool := ((Nat.blt 1 l) && (Nat.blt 0 l))
theorem e_mass_capsule (e : Int) (g l : Nat) (p q : Nat → Nat) (j : Nat) : outB (evFnM Try.prog false menv78 [] [] 96 Ann.no Try.f60 [AV.agg [AV.int .u8 e, AV.float g, AV.view l 2 (fun i0 => [AV.float (p i0), AV.float (q i0)])], AV.float j] []) = some (o_mass_capsule e g l p q j, AV.agg [AV.float (s_mass_capsule_0 e g l p q j), AV.float (s_mass_capsule_1 e g l p q j), AV.float (s_mass_capsule_2 e g l p q j), AV.float (s_mass_capsule_3 e g l p q j)]) := by kernel_rfl
def S_mass_capsule : List AV → Option (Ob × AV)
  | [AV.agg [AV.int .u8 e, AV.float g, AV.view l 2 G], AV.float j] => some (Ob.both (Ob.bit (allB fun i => isNrm [Ck.f, Ck.f] (G i))) (Ob.bit (o_mass_capsule e g l (fL G 0) (fL G 1) j)), AV.agg [AV.float (s_mass_capsule_0 e g l (fL G 0) (fL G 1) j), AV.float (s_mass_capsule_1 e g l (fL G 0) (fL G 1) j), AV.float (s_mass_capsule_2 e g l (fL G 0) (fL G 1) j), AV.float (s_mass_capsule_3 e g l (fL G 0) (fL G 1) j)])
  | _ => none
theorem t_mass_capsule : SOkM Try.prog false (60, fun args => match S_mass_capsule args with | some (o, v) => some (o, v, []) | none => none) := SOkM.flat (N := 96) menv78_ok Try.func60 ann_mass_capsule Try.call60 fun args o v h ho => by
  unfold S_mass_capsule at h
  split at h
  · rename_i e g l G j
    cases h
    rw [Ob.both_ok, Bool.and_eq_true] at ho
    obtain ⟨hn, ho2⟩ := ho
    have n0 := hn
    simp only [Ob.ok] at n0
    replace n0 := nrm_fun n0
    have this := show outB (evFnM Try.prog false menv78 [] [] 96 Ann.no Try.f60 [AV.agg [AV.int .u8 e, AV.float g, AV.view l 2 (fun i => mkN [Ck.f, Ck.f] (G i) 0)], AV.float j] []) = _ from e_mass_capsule e g l (fL G 0) (fL G 1) j
    rw [show o_mass_capsule e g l (fL G 0) (fL G 1) j = true from ho2] at this
    rw [n0] at this
    exact ⟨this, rfl⟩
  · cases h
def c_mass_capsule : SFM := fun args => match S_mass_capsule args with | some (o, v) => some (o, v, []) | none => none
theorem c_mass_capsule_ok : SOkM Try.prog false (60, c_mass_capsule) := t_mass_capsule
def mss75 : List (FuncId × SFM) := (60, c_mass_capsule) :: mss74
def menv79 : EnvM := mkEnvM mxs mss75 mws5
theorem mss75_ok : All (SOkM Try.prog false) mss75 := All.cons c_mass_capsule_ok mss74_ok
theorem menv79_ok : menv79.Ok Try.prog false := mkEnvM_ok mxs_ok mss75_ok mws5_ok
-- tumble/mass.circle
theorem ann_mass_circle : FnOk Try.prog false 0 Try.f59 Ann.no := (fnNo _)
def s_mass_circle_0 (e : Int) (g l : Nat) (p q : Nat → Nat) (j : Nat) : Nat := (s_mass_disc_0 g j)
def s_mass_circle_1 (e : Int) (g l : Nat) (p q : Nat → Nat) (j : Nat) : Nat := (fmul (fmul (s_mass_disc_0 g j) (fmul g g)) 4602678819172646912)
def s_mass_circle_2 (e : Int) (g l : Nat) (p q : Nat → Nat) (j : Nat) : Nat := (p 0)
def s_mass_circle_3 (e : Int) (g l : Nat) (p q : Nat → Nat) (j : Nat) : Nat := (q 0)
def o_mass_circle (e : Int) (g l : Nat) (p q : Nat → Nat) (j : Nat) : Bool := (Nat.blt 0 l)
theorem e_mass_circle (e : Int) (g l : Nat) (p q : Nat → Nat) (j : Nat) : outB (evFnM Try.prog false menv79 [] [] 96 Ann.no Try.f59 [AV.agg [AV.int .u8 e, AV.float g, AV.view l 2 (fun i0 => [AV.float (p i0), AV.float (q i0)])], AV.float j] []) = some (o_mass_circle e g l p q j, AV.agg [AV.float (s_mass_circle_0 e g l p q j), AV.float (s_mass_circle_1 e g l p q j), AV.float (s_mass_circle_2 e g l p q j), AV.float (s_mass_circle_3 e g l p q j)]) := by kernel_rfl
def S_mass_circle : List AV → Option (Ob × AV)
  | [AV.agg [AV.int .u8 e, AV.float g, AV.view l 2 G], AV.float j] => some (Ob.both (Ob.bit (allB fun i => isNrm [Ck.f, Ck.f] (G i))) (Ob.bit (o_mass_circle e g l (fL G 0) (fL G 1) j)), AV.agg [AV.float (s_mass_circle_0 e g l (fL G 0) (fL G 1) j), AV.float (s_mass_circle_1 e g l (fL G 0) (fL G 1) j), AV.float (s_mass_circle_2 e g l (fL G 0) (fL G 1) j), AV.float (s_mass_circle_3 e g l (fL G 0) (fL G 1) j)])
  | _ => none
theorem t_mass_circle : SOkM Try.prog false (59, fun args => match S_mass_circle args with | some (o, v) => some (o, v, []) | none => none) := SOkM.flat (N := 96) menv79_ok Try.func59 ann_mass_circle Try.call59 fun args o v h ho => by
  unfold S_mass_circle at h
  split at h
  · rename_i e g l G j
    cases h
    rw [Ob.both_ok, Bool.and_eq_true] at ho
    obtain ⟨hn, ho2⟩ := ho
    have n0 := hn
    simp only [Ob.ok] at n0
    replace n0 := nrm_fun n0
    have this := show outB (evFnM Try.prog false menv79 [] [] 96 Ann.no Try.f59 [AV.agg [AV.int .u8 e, AV.float g, AV.view l 2 (fun i => mkN [Ck.f, Ck.f] (G i) 0)], AV.float j] []) = _ from e_mass_circle e g l (fL G 0) (fL G 1) j
    rw [show o_mass_circle e g l (fL G 0) (fL G 1) j = true from ho2] at this
    rw [n0] at this
    exact ⟨this, rfl⟩
  · cases h
def c_mass_circle : SFM := fun args => match S_mass_circle args with | some (o, v) => some (o, v, []) | none => none
theorem c_mass_circle_ok : SOkM Try.prog false (59, c_mass_circle) := t_mass_circle
def mss76 : List (FuncId × SFM) := (59, c_mass_circle) :: mss75
def menv80 : EnvM := mkEnvM mxs mss76 mws5
theorem mss76_ok : All (SOkM Try.prog false) mss76 := All.cons c_mass_circle_ok mss75_ok
theorem menv80_ok : menv80.Ok Try.prog false := mkEnvM_ok mxs_ok mss76_ok mws5_ok
-- tumble/num.Finite[float64]
theorem ann_num_Finite_float64_ : FnOk Try.prog false 0 Try.f70 Ann.no := (fnNo _)
def s_num_Finite_float64__0 (e : Nat) : Bool := (feq (fsub e e) 0)
theorem e_num_Finite_float64_ (e : Nat) : outB (evFnM Try.prog false menv80 [] [] 96 Ann.no Try.f70 [AV.float e] []) = some (true, AV.bool (s_num_Finite_float64__0 e)) := by kernel_rfl
def S_num_Finite_float64_ : List AV → Option (Ob × AV)
  | [AV.float e] => some (Ob.tt, AV.bool (s_num_Finite_float64__0 e))
  | _ => none
theorem t_num_Finite_float64_ : SOkM Try.prog false (70, fun args => match S_num_Finite_float64_ args with | some (o, v) => some (o, v, []) | none => none) := SOkM.flat (N := 96) menv80_ok Try.func70 ann_num_Finite_float64_ Try.call70 fun args o v h ho => by
  unfold S_num_Finite_float64_ at h
  split at h
  · rename_i e
    cases h
    have ho2 := ho
    have this := show outB (evFnM Try.prog false menv80 [] [] 96 Ann.no Try.f70 [AV.float e] []) = _ from e_num_Finite_float64_ e
    exact ⟨this, rfl⟩
  · cases h
def c_num_Finite_float64_ : SFM := fun args => match S_num_Finite_float64_ args with | some (o, v) => some (o, v, []) | none => none
theorem c_num_Finite_float64__ok : SOkM Try.prog false (70, c_num_Finite_float64_) := t_num_Finite_float64_
def mss77 : List (FuncId × SFM) := (70, c_num_Finite_float64_) :: mss76
def menv81 : EnvM := mkEnvM mxs mss77 mws5
theorem mss77_ok : All (SOkM Try.prog false) mss77 := All.cons c_num_Finite_float64__ok mss76_ok
theorem menv81_ok : menv81.Ok Try.prog false := mkEnvM_ok mxs_ok mss77_ok mws5_ok
-- tumble/mass.weight
theorem ann_mass_weight : FnOk Try.prog false 0 Try.f49 Ann.no := (fnNo _)
def s_mass_weight_0 (e : Nat) : Bool := ((s_num_Finite_float64__0 e) && (fle 0 e))
theorem e_mass_weight (e : Nat) : outB (evFnM Try.prog false menv81 [] [] 96 Ann.no Try.f49 [AV.float e] []) = some (true, AV.bool (s_mass_weight_0 e)) := by kernel_rfl
def S_mass_weight : List AV → Option (Ob × AV)
  | [AV.float e] => some (Ob.tt, AV.bool (s_mass_weight_0 e))
  | _ => none
theorem t_mass_weight : SOkM Try.prog false (49, fun args => match S_mass_weight args with | some (o, v) => some (o, v, []) | none => none) := SOkM.flat (N := 96) menv81_ok Try.func49 ann_mass_weight Try.call49 fun args o v h ho => by
  unfold S_mass_weight at h
  split at h
  · rename_i e
    cases h
    have ho2 := ho
    have this := show outB (evFnM Try.prog false menv81 [] [] 96 Ann.no Try.f49 [AV.float e] []) = _ from e_mass_weight e
    exact ⟨this, rfl⟩
  · cases h
def c_mass_weight : SFM := fun args => match S_mass_weight args with | some (o, v) => some (o, v, []) | none => none
theorem c_mass_weight_ok : SOkM Try.prog false (49, c_mass_weight) := t_mass_weight
def mss78 : List (FuncId × SFM) := (49, c_mass_weight) :: mss77
def menv82 : EnvM := mkEnvM mxs mss78 mws5
theorem mss78_ok : All (SOkM Try.prog false) mss78 := All.cons c_mass_weight_ok mss77_ok
theorem menv82_ok : menv82.Ok Try.prog false := mkEnvM_ok mxs_ok mss78_ok mws5_ok
-- tumble/mass.Check
theorem ann_mass_Check : FnOk Try.prog false 0 Try.f17 Ann.no := (fnNo _)
def s_mass_Check_0 (e g z j : Nat) : Int := (bif (((!(s_mass_weight_0 e)) || (!(s_mass_weight_0 g))) || (!(s_vec_Within_0 z j 4787326403894837248))) then (80 : Int) else (0 : Int))
theorem e_mass_Check (e g z j : Nat) : outB (evFnM Try.prog false menv82 [] [] 96 Ann.no Try.f17 [AV.agg [AV.float e, AV.float g, AV.float z, AV.float j]] []) = some (true, AV.int .i64 (s_mass_Check_0 e g z j)) := by kernel_rfl
def S_mass_Check : List AV → Option (Ob × AV)
  | [AV.agg [AV.float e, AV.float g, AV.float z, AV.float j]] => some (Ob.tt, AV.int .i64 (s_mass_Check_0 e g z j))
  | _ => none
theorem t_mass_Check : SOkM Try.prog false (17, fun args => match S_mass_Check args with | some (o, v) => some (o, v, []) | none => none) := SOkM.flat (N := 96) menv82_ok Try.func17 ann_mass_Check Try.call17 fun args o v h ho => by
  unfold S_mass_Check at h
  split at h
  · rename_i e g z j
    cases h
    have ho2 := ho
    have this := show outB (evFnM Try.prog false menv82 [] [] 96 Ann.no Try.f17 [AV.agg [AV.float e, AV.float g, AV.float z, AV.float j]] []) = _ from e_mass_Check e g z j
    exact ⟨this, rfl⟩
  · cases h
def c_mass_Check : SFM := fun args => match S_mass_Check args with | some (o, v) => some (o, v, []) | none => none
theorem c_mass_Check_ok : SOkM Try.prog false (17, c_mass_Check) := t_mass_Check
def mss79 : List (FuncId × SFM) := (17, c_mass_Check) :: mss78
def menv83 : EnvM := mkEnvM mxs mss79 mws5
theorem mss79_ok : All (SOkM Try.prog false) mss79 := All.cons c_mass_Check_ok mss78_ok
theorem menv83_ok : menv83.Ok Try.prog false := mkEnvM_ok mxs_ok mss79_ok mws5_ok
end Go.Proofs.Ytbkogihigehjlaa
end
