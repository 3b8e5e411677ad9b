/- The contracts of the functions that these laws reach, loops too, printed by a program of this work: each says what the Go function gives, up to which NaN. -/
import Derived.Test.YtbkogihigehjlaaProg
import Derived.KernelRfl
import Derived.Test.YtbkogihigehjlaaLExact
set_option linter.unusedVariables false
set_option linter.unusedSimpArgs false
set_option maxRecDepth 100000
set_option maxHeartbeats 4000000
noncomputable section
namespace Go.Proofs.Ytbkogihigehjlaa
open Go.Lst
open Go.Sim (fadd fsub fmul fdiv fneg feq flt fle fsqrt cn nanb fabs fcps fsame feq_self cps_cn fabs_cn)
def fL (f : Nat → List AV) (k i : Nat) : Nat := flO (atL (f i) k)
def iL (f : Nat → List AV) (k i : Nat) : Int := inO (atL (f i) k)
def tpA : Nat → List AV → List AV
  | 0, l => l
  | n + 1, l => AV.top :: tpA n l
def tpB : Nat → List Bool → List Bool
  | 0, l => l
  | n + 1, l => true :: tpB n l
def xxs : List (FuncId × XFM) := [(82, xFM true .sqrt), (62, xFM true .frombits)]
def xenv : EnvM := mkEnvM xxs [] []
theorem xxs_ok : All (XOkM Try.prog true) xxs := All.cons (xM_ok (ex := true) (f := 82) .sqrt fun args w => run_callFunc_extern Try.func82 (by kernel_rfl) (by kernel_rfl) (by kernel_rfl) (by kernel_rfl) args w)
  (All.cons (xM_ok (ex := true) (f := 62) .frombits fun args w => run_callFunc_extern Try.func62 (by kernel_rfl) (by kernel_rfl) (by kernel_rfl) (by kernel_rfl) args w)
  (All.nil))
theorem xenv_ok : xenv.Ok Try.prog true := mkEnvM_ok xxs_ok All.nil All.nil
def mxs : List (FuncId × XFM) := [(82, xFM false .sqrt), (62, xFM false .frombits)]
theorem mxs_ok : All (XOkM Try.prog false) mxs := All.cons (xM_ok (ex := false) (f := 82) .sqrt fun args w => run_callFunc_extern Try.func82 (by kernel_rfl) (by kernel_rfl) (by kernel_rfl) (by kernel_rfl) args w)
  (All.cons (xM_ok (ex := false) (f := 62) .frombits fun args w => run_callFunc_extern Try.func62 (by kernel_rfl) (by kernel_rfl) (by kernel_rfl) (by kernel_rfl) args w)
  (All.nil))
def mss0 : List (FuncId × SFM) := []
def mws0 : List (FuncId × WFM) := []
def menv0 : EnvM := mkEnvM mxs mss0 mws0
theorem mss0_ok : All (SOkM Try.prog false) mss0 := All.nil
theorem mws0_ok : All (WOkM Try.prog false) mws0 := All.nil
theorem menv0_ok : menv0.Ok Try.prog false := mkEnvM_ok mxs_ok mss0_ok mws0_ok
-- tumble/mass.Of
def mws1 : List (FuncId × WFM) := (77, (inlWM Try.prog false menv0 [4294967295] [] 96 .no Try.f77 100000)) :: mws0
def menv1 : EnvM := mkEnvM mxs mss0 mws1
theorem mws1_ok : All (WOkM Try.prog false) mws1 := All.cons (WOkM.inl menv0_ok Try.func77 (fnNo _) Try.call77) mws0_ok
theorem menv1_ok : menv1.Ok Try.prog false := mkEnvM_ok mxs_ok mss0_ok mws1_ok
def mss1 : List (FuncId × SFM) := (58, (inlSM Try.prog false menv1 [4294967295] [] 96 .no Try.f58)) :: mss0
def menv2 : EnvM := mkEnvM mxs mss1 mws1
theorem mss1_ok : All (SOkM Try.prog false) mss1 := All.cons (SOkM.inl menv1_ok Try.func58 (fnNo _) Try.call58) mss0_ok
theorem menv2_ok : menv2.Ok Try.prog false := mkEnvM_ok mxs_ok mss1_ok mws1_ok
def mss2 : List (FuncId × SFM) := (22, (inlSM Try.prog false menv2 [4294967295] [] 96 .no Try.f22)) :: mss1
def menv3 : EnvM := mkEnvM mxs mss2 mws1
theorem mss2_ok : All (SOkM Try.prog false) mss2 := All.cons (SOkM.inl menv2_ok Try.func22 (fnNo _) Try.call22) mss1_ok
theorem menv3_ok : menv3.Ok Try.prog false := mkEnvM_ok mxs_ok mss2_ok mws1_ok
def mss3 : List (FuncId × SFM) := (52, (inlSM Try.prog false menv3 [4294967295] [] 96 .no Try.f52)) :: mss2
def menv4 : EnvM := mkEnvM mxs mss3 mws1
theorem mss3_ok : All (SOkM Try.prog false) mss3 := All.cons (SOkM.inl menv3_ok Try.func52 (fnNo _) Try.call52) mss2_ok
theorem menv4_ok : menv4.Ok Try.prog false := mkEnvM_ok mxs_ok mss3_ok mws1_ok
def mss4 : List (FuncId × SFM) := (56, (inlSM Try.prog false menv4 [4294967295] [] 96 .no Try.f56)) :: mss3
def menv5 : EnvM := mkEnvM mxs mss4 mws1
theorem mss4_ok : All (SOkM Try.prog false) mss4 := All.cons (SOkM.inl menv4_ok Try.func56 (fnNo _) Try.call56) mss3_ok
theorem menv5_ok : menv5.Ok Try.prog false := mkEnvM_ok mxs_ok mss4_ok mws1_ok
def mss5 : List (FuncId × SFM) := (53, (inlSM Try.prog false menv5 [4294967295] [] 96 .no Try.f53)) :: mss4
def menv6 : EnvM := mkEnvM mxs mss5 mws1
theorem mss5_ok : All (SOkM Try.prog false) mss5 := All.cons (SOkM.inl menv5_ok Try.func53 (fnNo _) Try.call53) mss4_ok
theorem menv6_ok : menv6.Ok Try.prog false := mkEnvM_ok mxs_ok mss5_ok mws1_ok
def mss6 : List (FuncId × SFM) := (76, (inlSM Try.prog false menv6 [4294967295] [] 96 .no Try.f76)) :: mss5
def menv7 : EnvM := mkEnvM mxs mss6 mws1
theorem mss6_ok : All (SOkM Try.prog false) mss6 := All.cons (SOkM.inl menv6_ok Try.func76 (fnNo _) Try.call76) mss5_ok
theorem menv7_ok : menv7.Ok Try.prog false := mkEnvM_ok mxs_ok mss6_ok mws1_ok
def mss7 : List (FuncId × SFM) := (68, (inlSM Try.prog false menv7 [4294967295] [] 96 .no Try.f68)) :: mss6
def menv8 : EnvM := mkEnvM mxs mss7 mws1
theorem mss7_ok : All (SOkM Try.prog false) mss7 := All.cons (SOkM.inl menv7_ok Try.func68 (fnNo _) Try.call68) mss6_ok
theorem menv8_ok : menv8.Ok Try.prog false := mkEnvM_ok mxs_ok mss7_ok mws1_ok
def mss8 : List (FuncId × SFM) := (71, (inlSM Try.prog false menv8 [4294967295] [] 96 .no Try.f71)) :: mss7
def menv9 : EnvM := mkEnvM mxs mss8 mws1
theorem mss8_ok : All (SOkM Try.prog false) mss8 := All.cons (SOkM.inl menv8_ok Try.func71 (fnNo _) Try.call71) mss7_ok
theorem menv9_ok : menv9.Ok Try.prog false := mkEnvM_ok mxs_ok mss8_ok mws1_ok
def mss9 : List (FuncId × SFM) := (54, (inlSM Try.prog false menv9 [4294967295] [] 96 .no Try.f54)) :: mss8
def menv10 : EnvM := mkEnvM mxs mss9 mws1
theorem mss9_ok : All (SOkM Try.prog false) mss9 := All.cons (SOkM.inl menv9_ok Try.func54 (fnNo _) Try.call54) mss8_ok
theorem menv10_ok : menv10.Ok Try.prog false := mkEnvM_ok mxs_ok mss9_ok mws1_ok
def mss10 : List (FuncId × SFM) := (55, (inlSM Try.prog false menv10 [4294967295] [] 96 .no Try.f55)) :: mss9
def menv11 : EnvM := mkEnvM mxs mss10 mws1
theorem mss10_ok : All (SOkM Try.prog false) mss10 := All.cons (SOkM.inl menv10_ok Try.func55 (fnNo _) Try.call55) mss9_ok
theorem menv11_ok : menv11.Ok Try.prog false := mkEnvM_ok mxs_ok mss10_ok mws1_ok
def mss11 : List (FuncId × SFM) := (20, (inlSM Try.prog false menv11 [4294967295] [] 96 .no Try.f20)) :: mss10
def menv12 : EnvM := mkEnvM mxs mss11 mws1
theorem mss11_ok : All (SOkM Try.prog false) mss11 := All.cons (SOkM.inl menv11_ok Try.func20 (fnNo _) Try.call20) mss10_ok
theorem menv12_ok : menv12.Ok Try.prog false := mkEnvM_ok mxs_ok mss11_ok mws1_ok
def mss12 : List (FuncId × SFM) := (109, (inlSM Try.prog false menv12 [4294967295] [] 96 .no Try.f109)) :: mss11
def menv13 : EnvM := mkEnvM mxs mss12 mws1
theorem mss12_ok : All (SOkM Try.prog false) mss12 := All.cons (SOkM.inl menv12_ok Try.func109 (fnNo _) Try.call109) mss11_ok
theorem menv13_ok : menv13.Ok Try.prog false := mkEnvM_ok mxs_ok mss12_ok mws1_ok
def mws2 : List (FuncId × WFM) := (64, (inlWM Try.prog false menv13 [4294967295] [] 96 .no Try.f64 100000)) :: mws1
def menv14 : EnvM := mkEnvM mxs mss12 mws2
theorem mws2_ok : All (WOkM Try.prog false) mws2 := All.cons (WOkM.inl menv13_ok Try.func64 (fnNo _) Try.call64) mws1_ok
theorem menv14_ok : menv14.Ok Try.prog false := mkEnvM_ok mxs_ok mss12_ok mws2_ok
def mss13 : List (FuncId × SFM) := (30, (inlSM Try.prog false menv14 [4294967295] [] 96 .no Try.f30)) :: mss12
def menv15 : EnvM := mkEnvM mxs mss13 mws2
theorem mss13_ok : All (SOkM Try.prog false) mss13 := All.cons (SOkM.inl menv14_ok Try.func30 (fnNo _) Try.call30) mss12_ok
theorem menv15_ok : menv15.Ok Try.prog false := mkEnvM_ok mxs_ok mss13_ok mws2_ok
def mss14 : List (FuncId × SFM) := (72, (inlSM Try.prog false menv15 [4294967295] [] 96 .no Try.f72)) :: mss13
def menv16 : EnvM := mkEnvM mxs mss14 mws2
theorem mss14_ok : All (SOkM Try.prog false) mss14 := All.cons (SOkM.inl menv15_ok Try.func72 (fnNo _) Try.call72) mss13_ok
theorem menv16_ok : menv16.Ok Try.prog false := mkEnvM_ok mxs_ok mss14_ok mws2_ok
def mss15 : List (FuncId × SFM) := (32, (inlSM Try.prog false menv16 [4294967295] [] 96 .no Try.f32)) :: mss14
def menv17 : EnvM := mkEnvM mxs mss15 mws2
theorem mss15_ok : All (SOkM Try.prog false) mss15 := All.cons (SOkM.inl menv16_ok Try.func32 (fnNo _) Try.call32) mss14_ok
theorem menv17_ok : menv17.Ok Try.prog false := mkEnvM_ok mxs_ok mss15_ok mws2_ok
def mss16 : List (FuncId × SFM) := (57, (inlSM Try.prog false menv17 [4294967295] [] 96 .no Try.f57)) :: mss15
def menv18 : EnvM := mkEnvM mxs mss16 mws2
theorem mss16_ok : All (SOkM Try.prog false) mss16 := All.cons (SOkM.inl menv17_ok Try.func57 (fnNo _) Try.call57) mss15_ok
theorem menv18_ok : menv18.Ok Try.prog false := mkEnvM_ok mxs_ok mss16_ok mws2_ok
def mss17 : List (FuncId × SFM) := (21, (inlSM Try.prog false menv18 [4294967295] [] 96 .no Try.f21)) :: mss16
def menv19 : EnvM := mkEnvM mxs mss17 mws2
theorem mss17_ok : All (SOkM Try.prog false) mss17 := All.cons (SOkM.inl menv18_ok Try.func21 (fnNo _) Try.call21) mss16_ok
theorem menv19_ok : menv19.Ok Try.prog false := mkEnvM_ok mxs_ok mss17_ok mws2_ok
def mss18 : List (FuncId × SFM) := (75, (inlSM Try.prog false menv19 [4294967295] [] 96 .no Try.f75)) :: mss17
def menv20 : EnvM := mkEnvM mxs mss18 mws2
theorem mss18_ok : All (SOkM Try.prog false) mss18 := All.cons (SOkM.inl menv19_ok Try.func75 (fnNo _) Try.call75) mss17_ok
theorem menv20_ok : menv20.Ok Try.prog false := mkEnvM_ok mxs_ok mss18_ok mws2_ok
def mss19 : List (FuncId × SFM) := (67, (inlSM Try.prog false menv20 [4294967295] [] 96 .no Try.f67)) :: mss18
def menv21 : EnvM := mkEnvM mxs mss19 mws2
theorem mss19_ok : All (SOkM Try.prog false) mss19 := All.cons (SOkM.inl menv20_ok Try.func67 (fnNo _) Try.call67) mss18_ok
theorem menv21_ok : menv21.Ok Try.prog false := mkEnvM_ok mxs_ok mss19_ok mws2_ok
def mss20 : List (FuncId × SFM) := (61, (inlSM Try.prog false menv21 [4294967295] [] 96 .no Try.f61)) :: mss19
def menv22 : EnvM := mkEnvM mxs mss20 mws2
theorem mss20_ok : All (SOkM Try.prog false) mss20 := All.cons (SOkM.inl menv21_ok Try.func61 (fnNo _) Try.call61) mss19_ok
theorem menv22_ok : menv22.Ok Try.prog false := mkEnvM_ok mxs_ok mss20_ok mws2_ok
def mss21 : List (FuncId × SFM) := (70, (inlSM Try.prog false menv22 [4294967295] [] 96 .no Try.f70)) :: mss20
def menv23 : EnvM := mkEnvM mxs mss21 mws2
theorem mss21_ok : All (SOkM Try.prog false) mss21 := All.cons (SOkM.inl menv22_ok Try.func70 (fnNo _) Try.call70) mss20_ok
theorem menv23_ok : menv23.Ok Try.prog false := mkEnvM_ok mxs_ok mss21_ok mws2_ok
def mss22 : List (FuncId × SFM) := (49, (inlSM Try.prog false menv23 [4294967295] [] 96 .no Try.f49)) :: mss21
def menv24 : EnvM := mkEnvM mxs mss22 mws2
theorem mss22_ok : All (SOkM Try.prog false) mss22 := All.cons (SOkM.inl menv23_ok Try.func49 (fnNo _) Try.call49) mss21_ok
theorem menv24_ok : menv24.Ok Try.prog false := mkEnvM_ok mxs_ok mss22_ok mws2_ok
def mss23 : List (FuncId × SFM) := (17, (inlSM Try.prog false menv24 [4294967295] [] 96 .no Try.f17)) :: mss22
def menv25 : EnvM := mkEnvM mxs mss23 mws2
theorem mss23_ok : All (SOkM Try.prog false) mss23 := All.cons (SOkM.inl menv24_ok Try.func17 (fnNo _) Try.call17) mss22_ok
theorem menv25_ok : menv25.Ok Try.prog false := mkEnvM_ok mxs_ok mss23_ok mws2_ok
def mss24 : List (FuncId × SFM) := (40, (inlSM Try.prog false menv25 [4294967295] [] 96 .no Try.f40)) :: mss23
def menv26 : EnvM := mkEnvM mxs mss24 mws2
theorem mss24_ok : All (SOkM Try.prog false) mss24 := All.cons (SOkM.inl menv25_ok Try.func40 (fnNo _) Try.call40) mss23_ok
theorem menv26_ok : menv26.Ok Try.prog false := mkEnvM_ok mxs_ok mss24_ok mws2_ok
def a_mass_Of_c0 : List AV := [AV.agg [AV.int .u8 (3), AV.float 0, AV.view 3 2 (rowLst [[AV.float 0, AV.float 0], [AV.float 4613937818241073152, AV.float 0], [AV.float 0, AV.float 4613937818241073152]])], AV.float 4611686018427387904]
def r_mass_Of_c0 : AV := AV.tup [AV.agg [AV.float 4621256167635550208, AV.float 4621256167635550208, AV.float 4607182418800017408, AV.float 4607182418800017408], AV.int .i64 (0)]
theorem e_mass_Of_c0 : outB (evFnM Try.prog false menv26 [4294967295] [] 96 .no Try.f23 a_mass_Of_c0 []) = some (true, r_mass_Of_c0) := by kernel_rfl
def c_mass_Of_c0 : SFM := litF a_mass_Of_c0 r_mass_Of_c0
theorem c_mass_Of_c0_ok : SOkM Try.prog false (23, c_mass_Of_c0) := (SOkM.litF menv26_ok Try.func23 (fnNo _) Try.call23 e_mass_Of_c0 (by kernel_rfl))
def mss25 : List (FuncId × SFM) := (23, c_mass_Of_c0) :: mss0
def menv27 : EnvM := mkEnvM mxs mss25 mws0
theorem mss25_ok : All (SOkM Try.prog false) mss25 := All.cons c_mass_Of_c0_ok mss0_ok
theorem menv27_ok : menv27.Ok Try.prog false := mkEnvM_ok mxs_ok mss25_ok mws0_ok
-- tumble/mass.Of
def mws3 : List (FuncId × WFM) := (77, (inlWM Try.prog false menv27 [4294967295] [] 96 .no Try.f77 100000)) :: mws0
def menv28 : EnvM := mkEnvM mxs mss25 mws3
theorem mws3_ok : All (WOkM Try.prog false) mws3 := All.cons (WOkM.inl menv27_ok Try.func77 (fnNo _) Try.call77) mws0_ok
theorem menv28_ok : menv28.Ok Try.prog false := mkEnvM_ok mxs_ok mss25_ok mws3_ok
def mss26 : List (FuncId × SFM) := (58, (inlSM Try.prog false menv28 [4294967295] [] 96 .no Try.f58)) :: mss25
def menv29 : EnvM := mkEnvM mxs mss26 mws3
theorem mss26_ok : All (SOkM Try.prog false) mss26 := All.cons (SOkM.inl menv28_ok Try.func58 (fnNo _) Try.call58) mss25_ok
theorem menv29_ok : menv29.Ok Try.prog false := mkEnvM_ok mxs_ok mss26_ok mws3_ok
def mss27 : List (FuncId × SFM) := (22, (inlSM Try.prog false menv29 [4294967295] [] 96 .no Try.f22)) :: mss26
def menv30 : EnvM := mkEnvM mxs mss27 mws3
theorem mss27_ok : All (SOkM Try.prog false) mss27 := All.cons (SOkM.inl menv29_ok Try.func22 (fnNo _) Try.call22) mss26_ok
theorem menv30_ok : menv30.Ok Try.prog false := mkEnvM_ok mxs_ok mss27_ok mws3_ok
def mss28 : List (FuncId × SFM) := (103, (inlSM Try.prog false menv30 [4294967295] [] 96 .no Try.f103)) :: mss27
def menv31 : EnvM := mkEnvM mxs mss28 mws3
theorem mss28_ok : All (SOkM Try.prog false) mss28 := All.cons (SOkM.inl menv30_ok Try.func103 (fnNo _) Try.call103) mss27_ok
theorem menv31_ok : menv31.Ok Try.prog false := mkEnvM_ok mxs_ok mss28_ok mws3_ok
def mss29 : List (FuncId × SFM) := (100, (inlSM Try.prog false menv31 [4294967295] [] 96 .no Try.f100)) :: mss28
def menv32 : EnvM := mkEnvM mxs mss29 mws3
theorem mss29_ok : All (SOkM Try.prog false) mss29 := All.cons (SOkM.inl menv31_ok Try.func100 (fnNo _) Try.call100) mss28_ok
theorem menv32_ok : menv32.Ok Try.prog false := mkEnvM_ok mxs_ok mss29_ok mws3_ok
def mws4 : List (FuncId × WFM) := (64, (inlWM Try.prog false menv32 [4294967295] [] 96 .no Try.f64 100000)) :: mws3
def menv33 : EnvM := mkEnvM mxs mss29 mws4
theorem mws4_ok : All (WOkM Try.prog false) mws4 := All.cons (WOkM.inl menv32_ok Try.func64 (fnNo _) Try.call64) mws3_ok
theorem menv33_ok : menv33.Ok Try.prog false := mkEnvM_ok mxs_ok mss29_ok mws4_ok
def mss30 : List (FuncId × SFM) := (30, (inlSM Try.prog false menv33 [4294967295] [] 96 .no Try.f30)) :: mss29
def menv34 : EnvM := mkEnvM mxs mss30 mws4
theorem mss30_ok : All (SOkM Try.prog false) mss30 := All.cons (SOkM.inl menv33_ok Try.func30 (fnNo _) Try.call30) mss29_ok
theorem menv34_ok : menv34.Ok Try.prog false := mkEnvM_ok mxs_ok mss30_ok mws4_ok
def mss31 : List (FuncId × SFM) := (73, (inlSM Try.prog false menv34 [4294967295] [] 96 .no Try.f73)) :: mss30
def menv35 : EnvM := mkEnvM mxs mss31 mws4
theorem mss31_ok : All (SOkM Try.prog false) mss31 := All.cons (SOkM.inl menv34_ok Try.func73 (fnNo _) Try.call73) mss30_ok
theorem menv35_ok : menv35.Ok Try.prog false := mkEnvM_ok mxs_ok mss31_ok mws4_ok
def mss32 : List (FuncId × SFM) := (59, (inlSM Try.prog false menv35 [4294967295] [] 96 .no Try.f59)) :: mss31
def menv36 : EnvM := mkEnvM mxs mss32 mws4
theorem mss32_ok : All (SOkM Try.prog false) mss32 := All.cons (SOkM.inl menv35_ok Try.func59 (fnNo _) Try.call59) mss31_ok
theorem menv36_ok : menv36.Ok Try.prog false := mkEnvM_ok mxs_ok mss32_ok mws4_ok
def mss33 : List (FuncId × SFM) := (70, (inlSM Try.prog false menv36 [4294967295] [] 96 .no Try.f70)) :: mss32
def menv37 : EnvM := mkEnvM mxs mss33 mws4
theorem mss33_ok : All (SOkM Try.prog false) mss33 := All.cons (SOkM.inl menv36_ok Try.func70 (fnNo _) Try.call70) mss32_ok
theorem menv37_ok : menv37.Ok Try.prog false := mkEnvM_ok mxs_ok mss33_ok mws4_ok
def mss34 : List (FuncId × SFM) := (49, (inlSM Try.prog false menv37 [4294967295] [] 96 .no Try.f49)) :: mss33
def menv38 : EnvM := mkEnvM mxs mss34 mws4
theorem mss34_ok : All (SOkM Try.prog false) mss34 := All.cons (SOkM.inl menv37_ok Try.func49 (fnNo _) Try.call49) mss33_ok
theorem menv38_ok : menv38.Ok Try.prog false := mkEnvM_ok mxs_ok mss34_ok mws4_ok
def mss35 : List (FuncId × SFM) := (17, (inlSM Try.prog false menv38 [4294967295] [] 96 .no Try.f17)) :: mss34
def menv39 : EnvM := mkEnvM mxs mss35 mws4
theorem mss35_ok : All (SOkM Try.prog false) mss35 := All.cons (SOkM.inl menv38_ok Try.func17 (fnNo _) Try.call17) mss34_ok
theorem menv39_ok : menv39.Ok Try.prog false := mkEnvM_ok mxs_ok mss35_ok mws4_ok
def mss36 : List (FuncId × SFM) := (40, (inlSM Try.prog false menv39 [4294967295] [] 96 .no Try.f40)) :: mss35
def menv40 : EnvM := mkEnvM mxs mss36 mws4
theorem mss36_ok : All (SOkM Try.prog false) mss36 := All.cons (SOkM.inl menv39_ok Try.func40 (fnNo _) Try.call40) mss35_ok
theorem menv40_ok : menv40.Ok Try.prog false := mkEnvM_ok mxs_ok mss36_ok mws4_ok
def a_mass_Of_c1 : List AV := [AV.agg [AV.int .u8 (1), AV.float 4611686018427387904, AV.view 1 2 (rowLst [[AV.float 0, AV.float 0]])], AV.float 4602678819172646912]
def r_mass_Of_c1 : AV := AV.tup [AV.agg [AV.float 4618760256179416344, AV.float 4623263855806786840, AV.float 0, AV.float 0], AV.int .i64 (0)]
theorem e_mass_Of_c1 : outB (evFnM Try.prog false menv40 [4294967295] [] 96 .no Try.f23 a_mass_Of_c1 []) = some (true, r_mass_Of_c1) := by kernel_rfl
def c_mass_Of_c1 : SFM := altS (litF a_mass_Of_c1 r_mass_Of_c1) (c_mass_Of_c0)
theorem c_mass_Of_c1_ok : SOkM Try.prog false (23, c_mass_Of_c1) := (SOkM.alt (SOkM.litF menv40_ok Try.func23 (fnNo _) Try.call23 e_mass_Of_c1 (by kernel_rfl)) c_mass_Of_c0_ok)
def mss37 : List (FuncId × SFM) := (23, c_mass_Of_c1) :: mss25
def menv41 : EnvM := mkEnvM mxs mss37 mws0
theorem mss37_ok : All (SOkM Try.prog false) mss37 := All.cons c_mass_Of_c1_ok mss25_ok
theorem menv41_ok : menv41.Ok Try.prog false := mkEnvM_ok mxs_ok mss37_ok mws0_ok
-- tumble/tumblelaw08.alive
def mws5 : List (FuncId × WFM) := (24, (inlWM Try.prog false menv41 [4294967295] [] 96 .no Try.f24 100000)) :: mws0
def menv42 : EnvM := mkEnvM mxs mss37 mws5
theorem mws5_ok : All (WOkM Try.prog false) mws5 := All.cons (WOkM.inl menv41_ok Try.func24 (fnNo _) Try.call24) mws0_ok
theorem menv42_ok : menv42.Ok Try.prog false := mkEnvM_ok mxs_ok mss37_ok mws5_ok
def mss38 : List (FuncId × SFM) := (28, (inlSM Try.prog false menv42 [4294967295] [] 96 .no Try.f28)) :: mss37
def menv43 : EnvM := mkEnvM mxs mss38 mws5
theorem mss38_ok : All (SOkM Try.prog false) mss38 := All.cons (SOkM.inl menv42_ok Try.func28 (fnNo _) Try.call28) mss37_ok
theorem menv43_ok : menv43.Ok Try.prog false := mkEnvM_ok mxs_ok mss38_ok mws5_ok
def mss39 : List (FuncId × SFM) := (70, (inlSM Try.prog false menv43 [4294967295] [] 96 .no Try.f70)) :: mss38
def menv44 : EnvM := mkEnvM mxs mss39 mws5
theorem mss39_ok : All (SOkM Try.prog false) mss39 := All.cons (SOkM.inl menv43_ok Try.func70 (fnNo _) Try.call70) mss38_ok
theorem menv44_ok : menv44.Ok Try.prog false := mkEnvM_ok mxs_ok mss39_ok mws5_ok
def mss40 : List (FuncId × SFM) := (49, (inlSM Try.prog false menv44 [4294967295] [] 96 .no Try.f49)) :: mss39
def menv45 : EnvM := mkEnvM mxs mss40 mws5
theorem mss40_ok : All (SOkM Try.prog false) mss40 := All.cons (SOkM.inl menv44_ok Try.func49 (fnNo _) Try.call49) mss39_ok
theorem menv45_ok : menv45.Ok Try.prog false := mkEnvM_ok mxs_ok mss40_ok mws5_ok
def mss41 : List (FuncId × SFM) := (58, (inlSM Try.prog false menv45 [4294967295] [] 96 .no Try.f58)) :: mss40
def menv46 : EnvM := mkEnvM mxs mss41 mws5
theorem mss41_ok : All (SOkM Try.prog false) mss41 := All.cons (SOkM.inl menv45_ok Try.func58 (fnNo _) Try.call58) mss40_ok
theorem menv46_ok : menv46.Ok Try.prog false := mkEnvM_ok mxs_ok mss41_ok mws5_ok
def mss42 : List (FuncId × SFM) := (22, (inlSM Try.prog false menv46 [4294967295] [] 96 .no Try.f22)) :: mss41
def menv47 : EnvM := mkEnvM mxs mss42 mws5
theorem mss42_ok : All (SOkM Try.prog false) mss42 := All.cons (SOkM.inl menv46_ok Try.func22 (fnNo _) Try.call22) mss41_ok
theorem menv47_ok : menv47.Ok Try.prog false := mkEnvM_ok mxs_ok mss42_ok mws5_ok
def mss43 : List (FuncId × SFM) := (17, (inlSM Try.prog false menv47 [4294967295] [] 96 .no Try.f17)) :: mss42
def menv48 : EnvM := mkEnvM mxs mss43 mws5
theorem mss43_ok : All (SOkM Try.prog false) mss43 := All.cons (SOkM.inl menv47_ok Try.func17 (fnNo _) Try.call17) mss42_ok
theorem menv48_ok : menv48.Ok Try.prog false := mkEnvM_ok mxs_ok mss43_ok mws5_ok
def mss44 : List (FuncId × SFM) := (35, (inlSM Try.prog false menv48 [4294967295] [] 96 .no Try.f35)) :: mss43
def menv49 : EnvM := mkEnvM mxs mss44 mws5
theorem mss44_ok : All (SOkM Try.prog false) mss44 := All.cons (SOkM.inl menv48_ok Try.func35 (fnNo _) Try.call35) mss43_ok
theorem menv49_ok : menv49.Ok Try.prog false := mkEnvM_ok mxs_ok mss44_ok mws5_ok
def mss45 : List (FuncId × SFM) := (67, (inlSM Try.prog false menv49 [4294967295] [] 96 .no Try.f67)) :: mss44
def menv50 : EnvM := mkEnvM mxs mss45 mws5
theorem mss45_ok : All (SOkM Try.prog false) mss45 := All.cons (SOkM.inl menv49_ok Try.func67 (fnNo _) Try.call67) mss44_ok
theorem menv50_ok : menv50.Ok Try.prog false := mkEnvM_ok mxs_ok mss45_ok mws5_ok
def mss46 : List (FuncId × SFM) := (36, (inlSM Try.prog false menv50 [4294967295] [] 96 .no Try.f36)) :: mss45
def menv51 : EnvM := mkEnvM mxs mss46 mws5
theorem mss46_ok : All (SOkM Try.prog false) mss46 := All.cons (SOkM.inl menv50_ok Try.func36 (fnNo _) Try.call36) mss45_ok
theorem menv51_ok : menv51.Ok Try.prog false := mkEnvM_ok mxs_ok mss46_ok mws5_ok
def mss47 : List (FuncId × SFM) := (37, (inlSM Try.prog false menv51 [4294967295] [] 96 .no Try.f37)) :: mss46
def menv52 : EnvM := mkEnvM mxs mss47 mws5
theorem mss47_ok : All (SOkM Try.prog false) mss47 := All.cons (SOkM.inl menv51_ok Try.func37 (fnNo _) Try.call37) mss46_ok
theorem menv52_ok : menv52.Ok Try.prog false := mkEnvM_ok mxs_ok mss47_ok mws5_ok
def mss48 : List (FuncId × SFM) := (56, (inlSM Try.prog false menv52 [4294967295] [] 96 .no Try.f56)) :: mss47
def menv53 : EnvM := mkEnvM mxs mss48 mws5
theorem mss48_ok : All (SOkM Try.prog false) mss48 := All.cons (SOkM.inl menv52_ok Try.func56 (fnNo _) Try.call56) mss47_ok
theorem menv53_ok : menv53.Ok Try.prog false := mkEnvM_ok mxs_ok mss48_ok mws5_ok
def mss49 : List (FuncId × SFM) := (76, (inlSM Try.prog false menv53 [4294967295] [] 96 .no Try.f76)) :: mss48
def menv54 : EnvM := mkEnvM mxs mss49 mws5
theorem mss49_ok : All (SOkM Try.prog false) mss49 := All.cons (SOkM.inl menv53_ok Try.func76 (fnNo _) Try.call76) mss48_ok
theorem menv54_ok : menv54.Ok Try.prog false := mkEnvM_ok mxs_ok mss49_ok mws5_ok
def mss50 : List (FuncId × SFM) := (68, (inlSM Try.prog false menv54 [4294967295] [] 96 .no Try.f68)) :: mss49
def menv55 : EnvM := mkEnvM mxs mss50 mws5
theorem mss50_ok : All (SOkM Try.prog false) mss50 := All.cons (SOkM.inl menv54_ok Try.func68 (fnNo _) Try.call68) mss49_ok
theorem menv55_ok : menv55.Ok Try.prog false := mkEnvM_ok mxs_ok mss50_ok mws5_ok
def mss51 : List (FuncId × SFM) := (39, (inlSM Try.prog false menv55 [4294967295] [] 96 .no Try.f39)) :: mss50
def menv56 : EnvM := mkEnvM mxs mss51 mws5
theorem mss51_ok : All (SOkM Try.prog false) mss51 := All.cons (SOkM.inl menv55_ok Try.func39 (fnNo _) Try.call39) mss50_ok
theorem menv56_ok : menv56.Ok Try.prog false := mkEnvM_ok mxs_ok mss51_ok mws5_ok
def mss52 : List (FuncId × SFM) := (38, (inlSM Try.prog false menv56 [4294967295] [] 96 .no Try.f38)) :: mss51
def menv57 : EnvM := mkEnvM mxs mss52 mws5
theorem mss52_ok : All (SOkM Try.prog false) mss52 := All.cons (SOkM.inl menv56_ok Try.func38 (fnNo _) Try.call38) mss51_ok
theorem menv57_ok : menv57.Ok Try.prog false := mkEnvM_ok mxs_ok mss52_ok mws5_ok
def mss53 : List (FuncId × SFM) := (34, (inlSM Try.prog false menv57 [4294967295] [] 96 .no Try.f34)) :: mss52
def menv58 : EnvM := mkEnvM mxs mss53 mws5
theorem mss53_ok : All (SOkM Try.prog false) mss53 := All.cons (SOkM.inl menv57_ok Try.func34 (fnNo _) Try.call34) mss52_ok
theorem menv58_ok : menv58.Ok Try.prog false := mkEnvM_ok mxs_ok mss53_ok mws5_ok
def mss54 : List (FuncId × SFM) := (40, (inlSM Try.prog false menv58 [4294967295] [] 96 .no Try.f40)) :: mss53
def menv59 : EnvM := mkEnvM mxs mss54 mws5
theorem mss54_ok : All (SOkM Try.prog false) mss54 := All.cons (SOkM.inl menv58_ok Try.func40 (fnNo _) Try.call40) mss53_ok
theorem menv59_ok : menv59.Ok Try.prog false := mkEnvM_ok mxs_ok mss54_ok mws5_ok
def mss55 : List (FuncId × SFM) := (10, (inlSM Try.prog false menv59 [4294967295] [] 96 .no Try.f10)) :: mss54
def menv60 : EnvM := mkEnvM mxs mss55 mws5
theorem mss55_ok : All (SOkM Try.prog false) mss55 := All.cons (SOkM.inl menv59_ok Try.func10 (fnNo _) Try.call10) mss54_ok
theorem menv60_ok : menv60.Ok Try.prog false := mkEnvM_ok mxs_ok mss55_ok mws5_ok
def mss56 : List (FuncId × SFM) := (13, (inlSM Try.prog false menv60 [4294967295] [] 96 .no Try.f13)) :: mss55
def menv61 : EnvM := mkEnvM mxs mss56 mws5
theorem mss56_ok : All (SOkM Try.prog false) mss56 := All.cons (SOkM.inl menv60_ok Try.func13 (fnNo _) Try.call13) mss55_ok
theorem menv61_ok : menv61.Ok Try.prog false := mkEnvM_ok mxs_ok mss56_ok mws5_ok
def mss57 : List (FuncId × SFM) := (47, (inlSM Try.prog false menv61 [4294967295] [] 96 .no Try.f47)) :: mss56
def menv62 : EnvM := mkEnvM mxs mss57 mws5
theorem mss57_ok : All (SOkM Try.prog false) mss57 := All.cons (SOkM.inl menv61_ok Try.func47 (fnNo _) Try.call47) mss56_ok
theorem menv62_ok : menv62.Ok Try.prog false := mkEnvM_ok mxs_ok mss57_ok mws5_ok
def mss58 : List (FuncId × SFM) := (15, (inlSM Try.prog false menv62 [4294967295] [] 96 .no Try.f15)) :: mss57
def menv63 : EnvM := mkEnvM mxs mss58 mws5
theorem mss58_ok : All (SOkM Try.prog false) mss58 := All.cons (SOkM.inl menv62_ok Try.func15 (fnNo _) Try.call15) mss57_ok
theorem menv63_ok : menv63.Ok Try.prog false := mkEnvM_ok mxs_ok mss58_ok mws5_ok
def mss59 : List (FuncId × SFM) := (33, (inlSM Try.prog false menv63 [4294967295] [] 96 .no Try.f33)) :: mss58
def menv64 : EnvM := mkEnvM mxs mss59 mws5
theorem mss59_ok : All (SOkM Try.prog false) mss59 := All.cons (SOkM.inl menv63_ok Try.func33 (fnNo _) Try.call33) mss58_ok
theorem menv64_ok : menv64.Ok Try.prog false := mkEnvM_ok mxs_ok mss59_ok mws5_ok
theorem ann_law08_alive : FnOk Try.prog false 0 Try.f9 Ann.no := (fnNo _)
def s_law08_alive_0 : Bool := true
theorem e_law08_alive : outB (evFnM Try.prog false menv64 [4294967295] [] 96 Ann.no Try.f9 [] []) = some (true, AV.bool (s_law08_alive_0)) := by kernel_rfl
def S_law08_alive : List AV → Option (Ob × AV)
  | [] => some (Ob.tt, AV.bool (s_law08_alive_0))
  | _ => none
theorem t_law08_alive : SOkM Try.prog false (9, fun args => match S_law08_alive args with | some (o, v) => some (o, v, []) | none => none) := SOkM.flat (N := 96) menv64_ok Try.func9 ann_law08_alive Try.call9 fun args o v h ho => by
  unfold S_law08_alive at h
  split at h
  · skip
    cases h
    have ho2 := ho
    have this := show outB (evFnM Try.prog false menv64 [4294967295] [] 96 Ann.no Try.f9 [] []) = _ from e_law08_alive
    exact ⟨this, rfl⟩
  · cases h
def c_law08_alive : SFM := fun args => match S_law08_alive args with | some (o, v) => some (o, v, []) | none => none
theorem c_law08_alive_ok : SOkM Try.prog false (9, c_law08_alive) := t_law08_alive
def mss60 : List (FuncId × SFM) := (9, c_law08_alive) :: mss37
def menv65 : EnvM := mkEnvM mxs mss60 mws0
theorem mss60_ok : All (SOkM Try.prog false) mss60 := All.cons c_law08_alive_ok mss37_ok
theorem menv65_ok : menv65.Ok Try.prog false := mkEnvM_ok mxs_ok mss60_ok mws0_ok
-- tumble/num.Finite[float64]
theorem ann_num_Finite_float64_ : FnOk Try.prog false 0 Try.f70 Ann.no := (fnNo _)
def s_num_Finite_float64__0 (l : Nat) : Bool := (feq (fsub l l) 0)
theorem e_num_Finite_float64_ (l : Nat) : outB (evFnM Try.prog false menv65 [] [] 96 Ann.no Try.f70 [AV.float l] []) = some (true, AV.bool (s_num_Finite_float64__0 l)) := by kernel_rfl
def S_num_Finite_float64_ : List AV → Option (Ob × AV)
  | [AV.float l] => some (Ob.tt, AV.bool (s_num_Finite_float64__0 l))
  | _ => none
theorem t_num_Finite_float64_ : SOkM Try.prog false (70, fun args => match S_num_Finite_float64_ args with | some (o, v) => some (o, v, []) | none => none) := SOkM.flat (N := 96) menv65_ok Try.func70 ann_num_Finite_float64_ Try.call70 fun args o v h ho => by
  unfold S_num_Finite_float64_ at h
  split at h
  · rename_i l
    cases h
    have ho2 := ho
    have this := show outB (evFnM Try.prog false menv65 [] [] 96 Ann.no Try.f70 [AV.float l] []) = _ from e_num_Finite_float64_ l
    exact ⟨this, rfl⟩
  · cases h
def c_num_Finite_float64_ : SFM := fun args => match S_num_Finite_float64_ args with | some (o, v) => some (o, v, []) | none => none
theorem c_num_Finite_float64__ok : SOkM Try.prog false (70, c_num_Finite_float64_) := t_num_Finite_float64_
def mss61 : List (FuncId × SFM) := (70, c_num_Finite_float64_) :: mss60
def menv66 : EnvM := mkEnvM mxs mss61 mws0
theorem mss61_ok : All (SOkM Try.prog false) mss61 := All.cons c_num_Finite_float64__ok mss60_ok
theorem menv66_ok : menv66.Ok Try.prog false := mkEnvM_ok mxs_ok mss61_ok mws0_ok
-- tumble/mass.weight
theorem ann_mass_weight : FnOk Try.prog false 0 Try.f49 Ann.no := (fnNo _)
def s_mass_weight_0 (l : Nat) : Bool := ((s_num_Finite_float64__0 l) && (fle 0 l))
theorem e_mass_weight (l : Nat) : outB (evFnM Try.prog false menv66 [] [] 96 Ann.no Try.f49 [AV.float l] []) = some (true, AV.bool (s_mass_weight_0 l)) := by kernel_rfl
def S_mass_weight : List AV → Option (Ob × AV)
  | [AV.float l] => some (Ob.tt, AV.bool (s_mass_weight_0 l))
  | _ => none
theorem t_mass_weight : SOkM Try.prog false (49, fun args => match S_mass_weight args with | some (o, v) => some (o, v, []) | none => none) := SOkM.flat (N := 96) menv66_ok Try.func49 ann_mass_weight Try.call49 fun args o v h ho => by
  unfold S_mass_weight at h
  split at h
  · rename_i l
    cases h
    have ho2 := ho
    have this := show outB (evFnM Try.prog false menv66 [] [] 96 Ann.no Try.f49 [AV.float l] []) = _ from e_mass_weight l
    exact ⟨this, rfl⟩
  · cases h
def c_mass_weight : SFM := fun args => match S_mass_weight args with | some (o, v) => some (o, v, []) | none => none
theorem c_mass_weight_ok : SOkM Try.prog false (49, c_mass_weight) := t_mass_weight
def mss62 : List (FuncId × SFM) := (49, c_mass_weight) :: mss61
def menv67 : EnvM := mkEnvM mxs mss62 mws0
theorem mss62_ok : All (SOkM Try.prog false) mss62 := All.cons c_mass_weight_ok mss61_ok
theorem menv67_ok : menv67.Ok Try.prog false := mkEnvM_ok mxs_ok mss62_ok mws0_ok
-- tumble/num.Within[float64]
theorem ann_num_Within_float64_ : FnOk Try.prog false 0 Try.f58 Ann.no := (fnNo _)
def s_num_Within_float64__0 (l g : Nat) : Bool := ((fle (fneg g) l) && (fle l g))
theorem e_num_Within_float64_ (l g : Nat) : outB (evFnM Try.prog false menv67 [] [] 96 Ann.no Try.f58 [AV.float l, AV.float g] []) = some (true, AV.bool (s_num_Within_float64__0 l g)) := by kernel_rfl
def S_num_Within_float64_ : List AV → Option (Ob × AV)
  | [AV.float l, AV.float g] => some (Ob.tt, AV.bool (s_num_Within_float64__0 l g))
  | _ => none
theorem t_num_Within_float64_ : SOkM Try.prog false (58, fun args => match S_num_Within_float64_ args with | some (o, v) => some (o, v, []) | none => none) := SOkM.flat (N := 96) menv67_ok Try.func58 ann_num_Within_float64_ Try.call58 fun args o v h ho => by
  unfold S_num_Within_float64_ at h
  split at h
  · rename_i l g
    cases h
    have ho2 := ho
    have this := show outB (evFnM Try.prog false menv67 [] [] 96 Ann.no Try.f58 [AV.float l, AV.float g] []) = _ from e_num_Within_float64_ l g
    exact ⟨this, rfl⟩
  · cases h
def c_num_Within_float64_ : SFM := fun args => match S_num_Within_float64_ args with | some (o, v) => some (o, v, []) | none => none
theorem c_num_Within_float64__ok : SOkM Try.prog false (58, c_num_Within_float64_) := t_num_Within_float64_
def mss63 : List (FuncId × SFM) := (58, c_num_Within_float64_) :: mss62
def menv68 : EnvM := mkEnvM mxs mss63 mws0
theorem mss63_ok : All (SOkM Try.prog false) mss63 := All.cons c_num_Within_float64__ok mss62_ok
theorem menv68_ok : menv68.Ok Try.prog false := mkEnvM_ok mxs_ok mss63_ok mws0_ok
-- tumble/vec.Within
theorem ann_vec_Within : FnOk Try.prog false 0 Try.f22 Ann.no := (fnNo _)
def s_vec_Within_0 (l g m : Nat) : Bool := ((s_num_Within_float64__0 l m) && (s_num_Within_float64__0 g m))
theorem e_vec_Within (l g m : Nat) : outB (evFnM Try.prog false menv68 [] [] 96 Ann.no Try.f22 [AV.agg [AV.float l, AV.float g], AV.float m] []) = some (true, AV.bool (s_vec_Within_0 l g m)) := by kernel_rfl
def S_vec_Within : List AV → Option (Ob × AV)
  | [AV.agg [AV.float l, AV.float g], AV.float m] => some (Ob.tt, AV.bool (s_vec_Within_0 l g m))
  | _ => none
theorem t_vec_Within : SOkM Try.prog false (22, fun args => match S_vec_Within args with | some (o, v) => some (o, v, []) | none => none) := SOkM.flat (N := 96) menv68_ok Try.func22 ann_vec_Within Try.call22 fun args o v h ho => by
  unfold S_vec_Within at h
  split at h
  · rename_i l g m
    cases h
    have ho2 := ho
    have this := show outB (evFnM Try.prog false menv68 [] [] 96 Ann.no Try.f22 [AV.agg [AV.float l, AV.float g], AV.float m] []) = _ from e_vec_Within l g m
    exact ⟨this, rfl⟩
  · cases h
def c_vec_Within : SFM := fun args => match S_vec_Within args with | some (o, v) => some (o, v, []) | none => none
theorem c_vec_Within_ok : SOkM Try.prog false (22, c_vec_Within) := t_vec_Within
def mss64 : List (FuncId × SFM) := (22, c_vec_Within) :: mss63
def menv69 : EnvM := mkEnvM mxs mss64 mws0
theorem mss64_ok : All (SOkM Try.prog false) mss64 := All.cons c_vec_Within_ok mss63_ok
theorem menv69_ok : menv69.Ok Try.prog false := mkEnvM_ok mxs_ok mss64_ok mws0_ok
-- tumble/mass.Check
theorem ann_mass_Check : FnOk Try.prog false 0 Try.f17 Ann.no := (fnNo _)
def s_mass_Check_0 (l g m B : Nat) : Int := (bif (((!(s_mass_weight_0 l)) || (!(s_mass_weight_0 g))) || (!(s_vec_Within_0 m B 4787326403894837248))) then (80 : Int) else (0 : Int))
theorem e_mass_Check (l g m B : Nat) : outB (evFnM Try.prog false menv69 [] [] 96 Ann.no Try.f17 [AV.agg [AV.float l, AV.float g, AV.float m, AV.float B]] []) = some (true, AV.int .i64 (s_mass_Check_0 l g m B)) := by kernel_rfl
def S_mass_Check : List AV → Option (Ob × AV)
  | [AV.agg [AV.float l, AV.float g, AV.float m, AV.float B]] => some (Ob.tt, AV.int .i64 (s_mass_Check_0 l g m B))
  | _ => none
theorem t_mass_Check : SOkM Try.prog false (17, fun args => match S_mass_Check args with | some (o, v) => some (o, v, []) | none => none) := SOkM.flat (N := 96) menv69_ok Try.func17 ann_mass_Check Try.call17 fun args o v h ho => by
  unfold S_mass_Check at h
  split at h
  · rename_i l g m B
    cases h
    have ho2 := ho
    have this := show outB (evFnM Try.prog false menv69 [] [] 96 Ann.no Try.f17 [AV.agg [AV.float l, AV.float g, AV.float m, AV.float B]] []) = _ from e_mass_Check l g m B
    exact ⟨this, rfl⟩
  · cases h
def c_mass_Check : SFM := fun args => match S_mass_Check args with | some (o, v) => some (o, v, []) | none => none
theorem c_mass_Check_ok : SOkM Try.prog false (17, c_mass_Check) := t_mass_Check
def mss65 : List (FuncId × SFM) := (17, c_mass_Check) :: mss64
def menv70 : EnvM := mkEnvM mxs mss65 mws0
theorem mss65_ok : All (SOkM Try.prog false) mss65 := All.cons c_mass_Check_ok mss64_ok
theorem menv70_ok : menv70.Ok Try.prog false := mkEnvM_ok mxs_ok mss65_ok mws0_ok
-- tumble/mass.Join$1
theorem ann_mass_Join_1 : FnOk Try.prog false 0 Try.f35 Ann.no := (fnNo _)
def s_mass_Join_1_0 (l g m B : Nat) : Nat := l
theorem e_mass_Join_1 (l g m B : Nat) : outB (evFnM Try.prog false menv70 [] [] 96 Ann.no Try.f35 [AV.agg [AV.float l, AV.float g, AV.float m, AV.float B]] []) = some (true, AV.float (s_mass_Join_1_0 l g m B)) := by kernel_rfl
def S_mass_Join_1 : List AV → Option (Ob × AV)
  | [AV.agg [AV.float l, AV.float g, AV.float m, AV.float B]] => some (Ob.tt, AV.float (s_mass_Join_1_0 l g m B))
  | _ => none
theorem t_mass_Join_1 : SOkM Try.prog false (35, fun args => match S_mass_Join_1 args with | some (o, v) => some (o, v, []) | none => none) := SOkM.flat (N := 96) menv70_ok Try.func35 ann_mass_Join_1 Try.call35 fun args o v h ho => by
  unfold S_mass_Join_1 at h
  split at h
  · rename_i l g m B
    cases h
    have ho2 := ho
    have this := show outB (evFnM Try.prog false menv70 [] [] 96 Ann.no Try.f35 [AV.agg [AV.float l, AV.float g, AV.float m, AV.float B]] []) = _ from e_mass_Join_1 l g m B
    exact ⟨this, rfl⟩
  · cases h
def c_mass_Join_1 : SFM := fun args => match S_mass_Join_1 args with | some (o, v) => some (o, v, []) | none => none
theorem c_mass_Join_1_ok : SOkM Try.prog false (35, c_mass_Join_1) := t_mass_Join_1
def mss66 : List (FuncId × SFM) := (35, c_mass_Join_1) :: mss65
def menv71 : EnvM := mkEnvM mxs mss66 mws0
theorem mss66_ok : All (SOkM Try.prog false) mss66 := All.cons c_mass_Join_1_ok mss65_ok
theorem menv71_ok : menv71.Ok Try.prog false := mkEnvM_ok mxs_ok mss66_ok mws0_ok
-- tumble/num.Sum
-- a loop of tumble/num.Sum
structure V_num_Sum_L0 where
  v0 : Nat
  v1 : Int
def tpl_num_Sum_L0 : List AV := (AV.top :: AV.top :: AV.top :: AV.nul :: tpA 9 (AV.nul :: AV.nul :: AV.nul :: tpA 8 ([])))
def cts_num_Sum_L0 : List CT := []
def phs_num_Sum_L0 : List Src := []
def T_num_Sum_L0 (e : Nat) (k : Nat → Nat) (j : Int) (x : V_num_Sum_L0) (F0 : Nat → List AV) : List AV × Heap := ((AV.top :: AV.top :: AV.top :: AV.float x.v0 :: tpA 9 (AV.view e 1 F0 :: AV.int .i64 j :: AV.int .i64 x.v1 :: tpA 8 ([]))), [])
def sh_num_Sum_L0 (e : Nat) (k : Nat → Nat) (j : Int) (x : V_num_Sum_L0) : List AV × Heap := T_num_Sum_L0 e k j x (fun j0 => [AV.float (k j0)])
def step_num_Sum_L0 (e : Nat) (k : Nat → Nat) (j : Int) (x : V_num_Sum_L0) : V_num_Sum_L0 := V_num_Sum_L0.mk (fadd x.v0 (k (Int.toNat x.v1))) (IntKind.wrap .i64 (x.v1 + (1 : Int)))
def go_num_Sum_L0 (e : Nat) (k : Nat → Nat) (j : Int) (x : V_num_Sum_L0) : Bool := (bif (!(ilt x.v1 j)) then false else true)
def ok_num_Sum_L0 (e : Nat) (k : Nat → Nat) (j : Int) (x : V_num_Sum_L0) : Bool := (mrgB (!(ilt x.v1 j)) true ((ile (0 : Int) x.v1) && (Nat.blt (Int.toNat x.v1) e)))
def L_num_Sum_L0 (e : Nat) (k : Nat → Nat) (j : Int) (x : V_num_Sum_L0) : V_num_Sum_L0 := lastL (ok_num_Sum_L0 e k j) (go_num_Sum_L0 e k j) (step_num_Sum_L0 e k j) x
def E_num_Sum_L0 (e : Nat) (k : Nat → Nat) (j : Int) (x : V_num_Sum_L0) : Bool := endsL (ok_num_Sum_L0 e k j) (go_num_Sum_L0 e k j) (step_num_Sum_L0 e k j) x
theorem all_num_Sum_L0 (e : Nat) (k : Nat → Nat) (j : Int) (x : V_num_Sum_L0) : rnd Try.prog false menv71 [] [] 96 Ann.no (subC [1, 1, 1, 0, 1, 0, 0] (codeOf Try.f67)) 0 [] tpl_num_Sum_L0 cts_num_Sum_L0 (tpB 13 (false :: false :: tpB 9 ([]))) [] (sh_num_Sum_L0 e k j x) = (true, true, go_num_Sum_L0 e k j x, ok_num_Sum_L0 e k j x, true, sh_num_Sum_L0 e k j (step_num_Sum_L0 e k j x), true) := by kernel_rfl
def fam_num_Sum_L0 (e : Nat) (k : Nat → Nat) (j : Int) : Fam Try.prog false menv71 [] [] 96 0 Ann.no (subC [1, 1, 1, 0, 1, 0, 0] (codeOf Try.f67)) V_num_Sum_L0 where
  sh := sh_num_Sum_L0 e k j
  ok := ok_num_Sum_L0 e k j
  go := go_num_Sum_L0 e k j
  step := step_num_Sum_L0 e k j
  chg := (tpB 13 (false :: false :: tpB 9 ([])))
  chgH := []
  tpl := tpl_num_Sum_L0
  cts := cts_num_Sum_L0
  keep := 0
  srcs := []
  ann := (annNo (subC [1, 1, 1, 0, 1, 0, 0] (codeOf Try.f67)))
  le := by kernel_rfl
  kept := by kernel_rfl
  keptB := by kernel_rfl
  all := all_num_Sum_L0 e k j
  len := fun x => by kernel_rfl
  head := fun x y => by kernel_rfl
  con := fun x y => by kernel_rfl
  conH := fun x y => by kernel_rfl
def F_num_Sum_L0 : St → Option Ch := fun s => cond (Nat.beq s.tm.length 24 && Nat.beq s.H.length 0) (tkTops 3 (alL tpl_num_Sum_L0 s.tm) fun t0 => tkCons t0 fun g t1 => tkF g fun s0 => tkTops 9 t1 fun t2 => tkCons t2 fun B t3 => tkView 1 B fun s1 f0 => tkCons t3 fun D t4 => tkI .i64 D fun s3 => tkCons t4 fun C t5 => tkI .i64 C fun s4 => tkTops 8 t5 fun t6 => tkNil t6 <| tkNil (alH cts_num_Sum_L0 (s.H ++ List.map phan phs_num_Sum_L0)) <| Fam.out (fam_num_Sum_L0 s1 (fL f0 0) s3) s (allB fun i => isNrm [Ck.f] (f0 i)) (V_num_Sum_L0.mk s0 s4)) none
theorem F_num_Sum_L0_ok : ∀ s ch, F_num_Sum_L0 s = some ch → AllI s ch ∧ LoopSpec Try.prog false 0 (subC [1, 1, 1, 0, 1, 0, 0] (codeOf Try.f67)) s (sel ch) := by
  intro s ch h
  unfold F_num_Sum_L0 at h
  obtain ⟨hl, h0⟩ := cond_some h rfl
  clear h
  obtain ⟨hl, hb⟩ := and_beq2 hl
  obtain ⟨t0, e0, h1⟩ := tkTops_some h0
  obtain ⟨g, t1, rfl, h2⟩ := tkCons_some h1
  obtain ⟨s0, rfl, h3⟩ := tkF_some h2
  obtain ⟨t2, rfl, h4⟩ := tkTops_some h3
  obtain ⟨B, t3, rfl, h5⟩ := tkCons_some h4
  obtain ⟨s1, f0, rfl, h6⟩ := tkView_some h5
  obtain ⟨D, t4, rfl, h7⟩ := tkCons_some h6
  obtain ⟨s3, rfl, h8⟩ := tkI_some h7
  obtain ⟨C, t5, rfl, h9⟩ := tkCons_some h8
  obtain ⟨s4, rfl, h10⟩ := tkI_some h9
  obtain ⟨t6, rfl, h11⟩ := tkTops_some h10
  obtain ⟨rfl, h12⟩ := tkNil_some h11
  obtain ⟨eH, h13⟩ := tkNil_some h12
  refine Fam.spec menv71_ok (fam_num_Sum_L0 s1 (fL f0 0) s3) (phs := phs_num_Sum_L0) (hl.trans (by kernel_rfl)) (hb.trans (by kernel_rfl)) ?_ ?_ h13
  · rw [← hdr_alH cts_num_Sum_L0 (s.H ++ List.map phan phs_num_Sum_L0), eH]; kernel_rfl
  · intro hq
    have hq0 := hq
    have n0 := nrm_fun hq0
    show sh_num_Sum_L0 s1 (fL f0 0) s3 (V_num_Sum_L0.mk s0 s4) = (alL tpl_num_Sum_L0 s.tm, alH cts_num_Sum_L0 (s.H ++ List.map phan phs_num_Sum_L0))
    rw [e0, eH]
    refine Eq.trans (show sh_num_Sum_L0 s1 (fL f0 0) s3 (V_num_Sum_L0.mk s0 s4) = T_num_Sum_L0 s1 (fL f0 0) s3 (V_num_Sum_L0.mk s0 s4) (fun i => mkN [Ck.f] (f0 i) 0) by kernel_rfl) ?_
    rw [n0]
    kernel_rfl
theorem ann_num_Sum : FnOk Try.prog false 0 Try.f67 (Ann.two Ann.no (Ann.two Ann.no (Ann.two Ann.no (Ann.two (Ann.two Ann.no (Ann.one (Ann.loop F_num_Sum_L0))) Ann.no)))) := (fnOk_of (c := codeOf Try.f67) (by kernel_rfl) (annSeq (a := (subC [0] (codeOf Try.f67))) (b := (subC [1] (codeOf Try.f67))) (by kernel_rfl) (annNo (subC [0] (codeOf Try.f67))) (annSeq (a := (subC [1, 0] (codeOf Try.f67))) (b := (subC [1, 1] (codeOf Try.f67))) (by kernel_rfl) (annNo (subC [1, 0] (codeOf Try.f67))) (annSeq (a := (subC [1, 1, 0] (codeOf Try.f67))) (b := (subC [1, 1, 1] (codeOf Try.f67))) (by kernel_rfl) (annNo (subC [1, 1, 0] (codeOf Try.f67))) (annSeq (a := (subC [1, 1, 1, 0] (codeOf Try.f67))) (b := (subC [1, 1, 1, 1] (codeOf Try.f67))) (by kernel_rfl) (annSeq (a := (subC [1, 1, 1, 0, 0] (codeOf Try.f67))) (b := (subC [1, 1, 1, 0, 1] (codeOf Try.f67))) (by kernel_rfl) (annNo (subC [1, 1, 1, 0, 0] (codeOf Try.f67))) (annBlock (a := (subC [1, 1, 1, 0, 1, 0] (codeOf Try.f67))) (i := 0) (by kernel_rfl) (annLoop (a := (subC [1, 1, 1, 0, 1, 0, 0] (codeOf Try.f67))) (by kernel_rfl) F_num_Sum_L0_ok))) (annNo (subC [1, 1, 1, 1] (codeOf Try.f67))))))))
def s_num_Sum_0 (d : Nat) (n : Nat → Nat) : Nat := (bif (ieq (Int.ofNat d) (0 : Int)) then 0 else ((L_num_Sum_L0 (d - 1) (fun j0 => (n (1 + j0))) (Int.ofNat (d - 1)) (V_num_Sum_L0.mk (n 0) (0 : Int))).v0))
def q_num_Sum (d : Nat) (n : Nat → Nat) : Bool := (mrgB (ieq (Int.ofNat d) (0 : Int)) true ((((Nat.ble 1 d) && (Nat.ble d d)) && (Nat.blt 0 d)) && ((allB fun _ => true) && (E_num_Sum_L0 (d - 1) (fun j0 => (n (1 + j0))) (Int.ofNat (d - 1)) (V_num_Sum_L0.mk (n 0) (0 : Int))))))
theorem e_num_Sum (d : Nat) (n : Nat → Nat) : outB (evFnM Try.prog false menv71 [] [] 96 (Ann.two Ann.no (Ann.two Ann.no (Ann.two Ann.no (Ann.two (Ann.two Ann.no (Ann.one (Ann.loop F_num_Sum_L0))) Ann.no)))) Try.f67 [AV.view d 1 (fun i0 => [AV.float (n i0)])] []) = some (q_num_Sum d n, AV.float (s_num_Sum_0 d n)) := by kernel_rfl
def o_num_Sum (d : Nat) (n : Nat → Nat) : Bool := (mrgB (ieq (Int.ofNat d) (0 : Int)) true ((((Nat.ble 1 d) && (Nat.ble d d)) && (Nat.blt 0 d)) && (E_num_Sum_L0 (d - 1) (fun j0 => (n (1 + j0))) (Int.ofNat (d - 1)) (V_num_Sum_L0.mk (n 0) (0 : Int)))))
def S_num_Sum : List AV → Option (Ob × AV)
  | [AV.view d 1 A] => some (Ob.both (Ob.bit (allB fun i => isNrm [Ck.f] (A i))) (Ob.bit (o_num_Sum d (fL A 0))), AV.float (s_num_Sum_0 d (fL A 0)))
  | _ => none
theorem ob_num_Sum (d : Nat) (n : Nat → Nat) (ho : o_num_Sum d n = true) : q_num_Sum d n = true := by
  unfold q_num_Sum
  unfold o_num_Sum at ho
  simp only [allB_true, eqT_self, mrgB_self, Bool.true_and, Bool.and_true] at ho ⊢
  exact ho
theorem t_num_Sum : SOkM Try.prog false (67, fun args => match S_num_Sum args with | some (o, v) => some (o, v, []) | none => none) := SOkM.flat (N := 96) menv71_ok Try.func67 ann_num_Sum Try.call67 fun args o v h ho => by
  unfold S_num_Sum at h
  split at h
  · rename_i d A
    cases h
    rw [Ob.both_ok, Bool.and_eq_true] at ho
    obtain ⟨hn, ho2⟩ := ho
    have n0 := hn
    simp only [Ob.ok] at n0
    replace n0 := nrm_fun n0
    have this := show outB (evFnM Try.prog false menv71 [] [] 96 (Ann.two Ann.no (Ann.two Ann.no (Ann.two Ann.no (Ann.two (Ann.two Ann.no (Ann.one (Ann.loop F_num_Sum_L0))) Ann.no)))) Try.f67 [AV.view d 1 (fun i => mkN [Ck.f] (A i) 0)] []) = _ from e_num_Sum d (fL A 0)
    rw [(ob_num_Sum d (fL A 0) ho2)] at this
    rw [n0] at this
    exact ⟨this, rfl⟩
  · cases h
def c_num_Sum : SFM := fun args => match S_num_Sum args with | some (o, v) => some (o, v, []) | none => none
theorem c_num_Sum_ok : SOkM Try.prog false (67, c_num_Sum) := t_num_Sum
def mss67 : List (FuncId × SFM) := (67, c_num_Sum) :: mss66
def menv72 : EnvM := mkEnvM mxs mss67 mws0
theorem mss67_ok : All (SOkM Try.prog false) mss67 := All.cons c_num_Sum_ok mss66_ok
theorem menv72_ok : menv72.Ok Try.prog false := mkEnvM_ok mxs_ok mss67_ok mws0_ok
-- tumble/mass.sum
-- a loop of tumble/mass.sum
structure V_mass_sum_L0 where
  v0 : Int
  v1 : (Nat → Nat)
def tpl_mass_sum_L0 : List AV := (AV.top :: AV.nul :: AV.top :: AV.top :: AV.top :: AV.nul :: AV.top :: AV.top :: AV.top :: AV.top :: AV.top :: AV.nul :: AV.nul :: AV.nul :: tpA 13 ([]))
def cts_mass_sum_L0 : List CT := [CT.keep]
def phs_mass_sum_L0 : List Src := []
def T_mass_sum_L0 (e : Nat) (k j q r : Nat → Nat) (p : Int) (x : V_mass_sum_L0) (F0 F1 : Nat → List AV) : List AV × Heap := ((AV.top :: AV.func 35 [] [] :: AV.top :: AV.top :: AV.top :: AV.lst 0 0 1 e e :: AV.top :: AV.top :: AV.top :: AV.top :: AV.top :: AV.view e 4 F0 :: AV.int .i64 p :: AV.int .i64 x.v0 :: tpA 13 ([])), [⟨.sym e 1 F1, 24, 0⟩])
def sh_mass_sum_L0 (e : Nat) (k j q r : Nat → Nat) (p : Int) (x : V_mass_sum_L0) : List AV × Heap := T_mass_sum_L0 e k j q r p x (fun j0 => [AV.float (k j0), AV.float (j j0), AV.float (q j0), AV.float (r j0)]) (fun j0 => [AV.float (x.v1 j0)])
def step_mass_sum_L0 (e : Nat) (k j q r : Nat → Nat) (p : Int) (x : V_mass_sum_L0) : V_mass_sum_L0 := V_mass_sum_L0.mk (IntKind.wrap .i64 (x.v0 + (1 : Int))) (fun j0 => (bif (Nat.beq j0 (Int.toNat x.v0)) then (s_mass_Join_1_0 (k (Int.toNat x.v0)) (j (Int.toNat x.v0)) (q (Int.toNat x.v0)) (r (Int.toNat x.v0))) else (x.v1 j0)))
def go_mass_sum_L0 (e : Nat) (k j q r : Nat → Nat) (p : Int) (x : V_mass_sum_L0) : Bool := (bif (!(ilt x.v0 p)) then false else true)
def ok_mass_sum_L0 (e : Nat) (k j q r : Nat → Nat) (p : Int) (x : V_mass_sum_L0) : Bool := (mrgB (!(ilt x.v0 p)) true ((Nat.blt (Int.toNat x.v0) e) && (((ile (0 : Int) x.v0) && (Nat.blt (Int.toNat x.v0) e)) && ((ile (0 : Int) x.v0) && (Nat.blt (Int.toNat x.v0) e)))))
def L_mass_sum_L0 (e : Nat) (k j q r : Nat → Nat) (p : Int) (x : V_mass_sum_L0) : V_mass_sum_L0 := lastL (ok_mass_sum_L0 e k j q r p) (go_mass_sum_L0 e k j q r p) (step_mass_sum_L0 e k j q r p) x
def E_mass_sum_L0 (e : Nat) (k j q r : Nat → Nat) (p : Int) (x : V_mass_sum_L0) : Bool := endsL (ok_mass_sum_L0 e k j q r p) (go_mass_sum_L0 e k j q r p) (step_mass_sum_L0 e k j q r p) x
theorem all_mass_sum_L0 (e : Nat) (k j q r : Nat → Nat) (p : Int) (x : V_mass_sum_L0) : rnd Try.prog false menv72 [] [] 96 Ann.no (subC [1, 1, 0, 1, 0, 0] (codeOf Try.f34)) 0 [⟨some 0, 0, 0, []⟩] tpl_mass_sum_L0 cts_mass_sum_L0 (true :: false :: true :: true :: true :: false :: true :: true :: true :: true :: true :: false :: false :: tpB 14 ([])) [true] (sh_mass_sum_L0 e k j q r p x) = (true, true, go_mass_sum_L0 e k j q r p x, ok_mass_sum_L0 e k j q r p x, true, sh_mass_sum_L0 e k j q r p (step_mass_sum_L0 e k j q r p x), true) := by kernel_rfl
def fam_mass_sum_L0 (e : Nat) (k j q r : Nat → Nat) (p : Int) : Fam Try.prog false menv72 [] [] 96 0 Ann.no (subC [1, 1, 0, 1, 0, 0] (codeOf Try.f34)) V_mass_sum_L0 where
  sh := sh_mass_sum_L0 e k j q r p
  ok := ok_mass_sum_L0 e k j q r p
  go := go_mass_sum_L0 e k j q r p
  step := step_mass_sum_L0 e k j q r p
  chg := (true :: false :: true :: true :: true :: false :: true :: true :: true :: true :: true :: false :: false :: tpB 14 ([]))
  chgH := [true]
  tpl := tpl_mass_sum_L0
  cts := cts_mass_sum_L0
  keep := 0
  srcs := [⟨some 0, 0, 0, []⟩]
  ann := (annNo (subC [1, 1, 0, 1, 0, 0] (codeOf Try.f34)))
  le := by kernel_rfl
  kept := by kernel_rfl
  keptB := by kernel_rfl
  all := all_mass_sum_L0 e k j q r p
  len := fun x => by kernel_rfl
  head := fun x y => by kernel_rfl
  con := fun x y => by kernel_rfl
  conH := fun x y => by kernel_rfl
def F_mass_sum_L0 : St → Option Ch := fun s => cond (Nat.beq s.tm.length 27 && Nat.beq s.H.length 1) (tkTops 1 (alL tpl_mass_sum_L0 s.tm) fun t0 => tkCons t0 fun g t1 => tkFunc 35 g fun l2 l3 => tkNil l2 <| tkNil l3 <| tkTops 3 t1 fun t4 => tkCons t4 fun C t5 => tkLst 0 0 1 C fun s0 s1 => tkTops 5 t5 fun t6 => tkCons t6 fun I t7 => tkView 4 I fun s2 f0 => tkCons t7 fun J t8 => tkI .i64 J fun s7 => tkCons t8 fun G t9 => tkI .i64 G fun s8 => tkTops 13 t9 fun t10 => tkNil t10 <| tkCons (alH cts_mass_sum_L0 (s.H ++ List.map phan phs_mass_sum_L0)) fun b11 t11 => tkSym 24 0 1 b11 fun s9 f1 => tkNil t11 <| Fam.out (fam_mass_sum_L0 s0 (fL f0 0) (fL f0 1) (fL f0 2) (fL f0 3) s7) s (((((allB fun i => isNrm [Ck.f, Ck.f, Ck.f, Ck.f] (f0 i)) && (allB fun i => isNrm [Ck.f] (f1 i))) && (eqT s1 s0)) && (eqT s2 s0)) && (eqT s9 s0)) (V_mass_sum_L0.mk s8 (fL f1 0))) none
theorem F_mass_sum_L0_ok : ∀ s ch, F_mass_sum_L0 s = some ch → AllI s ch ∧ LoopSpec Try.prog false 0 (subC [1, 1, 0, 1, 0, 0] (codeOf Try.f34)) s (sel ch) := by
  intro s ch h
  unfold F_mass_sum_L0 at h
  obtain ⟨hl, h0⟩ := cond_some h rfl
  clear h
  obtain ⟨hl, hb⟩ := and_beq2 hl
  obtain ⟨t0, e0, h1⟩ := tkTops_some h0
  obtain ⟨g, t1, rfl, h2⟩ := tkCons_some h1
  obtain ⟨l2, l3, rfl, h3⟩ := tkFunc_some h2
  obtain ⟨rfl, h4⟩ := tkNil_some h3
  obtain ⟨rfl, h5⟩ := tkNil_some h4
  obtain ⟨t4, rfl, h6⟩ := tkTops_some h5
  obtain ⟨C, t5, rfl, h7⟩ := tkCons_some h6
  obtain ⟨s0, s1, rfl, h8⟩ := tkLst_some h7
  obtain ⟨t6, rfl, h9⟩ := tkTops_some h8
  obtain ⟨I, t7, rfl, h10⟩ := tkCons_some h9
  obtain ⟨s2, f0, rfl, h11⟩ := tkView_some h10
  obtain ⟨J, t8, rfl, h12⟩ := tkCons_some h11
  obtain ⟨s7, rfl, h13⟩ := tkI_some h12
  obtain ⟨G, t9, rfl, h14⟩ := tkCons_some h13
  obtain ⟨s8, rfl, h15⟩ := tkI_some h14
  obtain ⟨t10, rfl, h16⟩ := tkTops_some h15
  obtain ⟨rfl, h17⟩ := tkNil_some h16
  obtain ⟨b11, t11, eH, h18⟩ := tkCons_some h17
  obtain ⟨s9, f1, rfl, h19⟩ := tkSym_some h18
  obtain ⟨rfl, h20⟩ := tkNil_some h19
  refine Fam.spec menv72_ok (fam_mass_sum_L0 s0 (fL f0 0) (fL f0 1) (fL f0 2) (fL f0 3) s7) (phs := phs_mass_sum_L0) (hl.trans (by kernel_rfl)) (hb.trans (by kernel_rfl)) ?_ ?_ h20
  · rw [← hdr_alH cts_mass_sum_L0 (s.H ++ List.map phan phs_mass_sum_L0), eH]; kernel_rfl
  · intro hq
    simp only [Bool.and_eq_true] at hq
    obtain ⟨⟨⟨⟨hq0, hq1⟩, hq2⟩, hq3⟩, hq4⟩ := hq
    have n0 := nrm_fun hq0
    have n1 := nrm_fun hq1
    have hx := eqT_eq hq2; subst s1
    have hx := eqT_eq hq3; subst s2
    have hx := eqT_eq hq4; subst s9
    show sh_mass_sum_L0 s0 (fL f0 0) (fL f0 1) (fL f0 2) (fL f0 3) s7 (V_mass_sum_L0.mk s8 (fL f1 0)) = (alL tpl_mass_sum_L0 s.tm, alH cts_mass_sum_L0 (s.H ++ List.map phan phs_mass_sum_L0))
    rw [e0, eH]
    refine Eq.trans (show sh_mass_sum_L0 s0 (fL f0 0) (fL f0 1) (fL f0 2) (fL f0 3) s7 (V_mass_sum_L0.mk s8 (fL f1 0)) = T_mass_sum_L0 s0 (fL f0 0) (fL f0 1) (fL f0 2) (fL f0 3) s7 (V_mass_sum_L0.mk s8 (fL f1 0)) (fun i => mkN [Ck.f, Ck.f, Ck.f, Ck.f] (f0 i) 0) (fun i => mkN [Ck.f] (f1 i) 0) by kernel_rfl) ?_
    rw [n0, n1]
    kernel_rfl
theorem ann_mass_sum : FnOk Try.prog false 0 Try.f34 (Ann.two Ann.no (Ann.two Ann.no (Ann.two (Ann.two Ann.no (Ann.one (Ann.loop F_mass_sum_L0))) Ann.no))) := (fnOk_of (c := codeOf Try.f34) (by kernel_rfl) (annSeq (a := (subC [0] (codeOf Try.f34))) (b := (subC [1] (codeOf Try.f34))) (by kernel_rfl) (annNo (subC [0] (codeOf Try.f34))) (annSeq (a := (subC [1, 0] (codeOf Try.f34))) (b := (subC [1, 1] (codeOf Try.f34))) (by kernel_rfl) (annNo (subC [1, 0] (codeOf Try.f34))) (annSeq (a := (subC [1, 1, 0] (codeOf Try.f34))) (b := (subC [1, 1, 1] (codeOf Try.f34))) (by kernel_rfl) (annSeq (a := (subC [1, 1, 0, 0] (codeOf Try.f34))) (b := (subC [1, 1, 0, 1] (codeOf Try.f34))) (by kernel_rfl) (annNo (subC [1, 1, 0, 0] (codeOf Try.f34))) (annBlock (a := (subC [1, 1, 0, 1, 0] (codeOf Try.f34))) (i := 0) (by kernel_rfl) (annLoop (a := (subC [1, 1, 0, 1, 0, 0] (codeOf Try.f34))) (by kernel_rfl) F_mass_sum_L0_ok))) (annNo (subC [1, 1, 1] (codeOf Try.f34)))))))
def s_mass_sum_0 (d : Nat) (n t u z : Nat → Nat) : Nat := (s_num_Sum_0 d ((L_mass_sum_L0 d n t u z (Int.ofNat d) (V_mass_sum_L0.mk (0 : Int) (fun j0 => 0))).v1))
def q_mass_sum (d : Nat) (n t u z : Nat → Nat) : Bool := (((Nat.ble d d) && ((allB fun _ => true) && (o_num_Sum d ((L_mass_sum_L0 d n t u z (Int.ofNat d) (V_mass_sum_L0.mk (0 : Int) (fun j0 => 0))).v1)))) && (((ile (Int.ofNat d) (Int.ofNat d)) && ((ile ((8 : Int) * (Int.ofNat d)) (281474976710656 : Int)) && (ile (Int.ofNat d) (9223372036854775807 : Int)))) && ((((((allB fun _ => true) && (allB fun _ => true)) && (eqT d d)) && (eqT d d)) && (eqT d d)) && (E_mass_sum_L0 d n t u z (Int.ofNat d) (V_mass_sum_L0.mk (0 : Int) (fun j0 => 0))))))
theorem e_mass_sum (d : Nat) (n t u z : Nat → Nat) : outB (evFnM Try.prog false menv72 [] [] 96 (Ann.two Ann.no (Ann.two Ann.no (Ann.two (Ann.two Ann.no (Ann.one (Ann.loop F_mass_sum_L0))) Ann.no))) Try.f34 [AV.view d 4 (fun i0 => [AV.float (n i0), AV.float (t i0), AV.float (u i0), AV.float (z i0)]), AV.func 35 [] []] []) = some (q_mass_sum d n t u z, AV.float (s_mass_sum_0 d n t u z)) := by kernel_rfl
def o_mass_sum (d : Nat) (n t u z : Nat → Nat) : Bool := (((Nat.ble d d) && (o_num_Sum d ((L_mass_sum_L0 d n t u z (Int.ofNat d) (V_mass_sum_L0.mk (0 : Int) (fun j0 => 0))).v1))) && (((ile (Int.ofNat d) (Int.ofNat d)) && ((ile ((8 : Int) * (Int.ofNat d)) (281474976710656 : Int)) && (ile (Int.ofNat d) (9223372036854775807 : Int)))) && (E_mass_sum_L0 d n t u z (Int.ofNat d) (V_mass_sum_L0.mk (0 : Int) (fun j0 => 0)))))
def S_mass_sum : List AV → Option (Ob × AV)
  | [AV.view d 4 A, AV.func 35 [] []] => some (Ob.both (Ob.bit (allB fun i => isNrm [Ck.f, Ck.f, Ck.f, Ck.f] (A i))) (Ob.bit (o_mass_sum d (fL A 0) (fL A 1) (fL A 2) (fL A 3))), AV.float (s_mass_sum_0 d (fL A 0) (fL A 1) (fL A 2) (fL A 3)))
  | _ => none
theorem ob_mass_sum (d : Nat) (n t u z : Nat → Nat) (ho : o_mass_sum d n t u z = true) : q_mass_sum d n t u z = true := by
  unfold q_mass_sum
  unfold o_mass_sum at ho
  simp only [allB_true, eqT_self, mrgB_self, Bool.true_and, Bool.and_true] at ho ⊢
  exact ho
theorem t_mass_sum : SOkM Try.prog false (34, fun args => match S_mass_sum args with | some (o, v) => some (o, v, []) | none => none) := SOkM.flat (N := 96) menv72_ok Try.func34 ann_mass_sum Try.call34 fun args o v h ho => by
  unfold S_mass_sum at h
  split at h
  · rename_i d A
    cases h
    rw [Ob.both_ok, Bool.and_eq_true] at ho
    obtain ⟨hn, ho2⟩ := ho
    have n0 := hn
    simp only [Ob.ok] at n0
    replace n0 := nrm_fun n0
    have this := show outB (evFnM Try.prog false menv72 [] [] 96 (Ann.two Ann.no (Ann.two Ann.no (Ann.two (Ann.two Ann.no (Ann.one (Ann.loop F_mass_sum_L0))) Ann.no))) Try.f34 [AV.view d 4 (fun i => mkN [Ck.f, Ck.f, Ck.f, Ck.f] (A i) 0), AV.func 35 [] []] []) = _ from e_mass_sum d (fL A 0) (fL A 1) (fL A 2) (fL A 3)
    rw [(ob_mass_sum d (fL A 0) (fL A 1) (fL A 2) (fL A 3) ho2)] at this
    rw [n0] at this
    exact ⟨this, rfl⟩
  · cases h
def c_mass_sum : SFM := fun args => match S_mass_sum args with | some (o, v) => some (o, v, []) | none => none
theorem c_mass_sum_ok : SOkM Try.prog false (34, c_mass_sum) := t_mass_sum
def mss68 : List (FuncId × SFM) := (34, c_mass_sum) :: mss67
def menv73 : EnvM := mkEnvM mxs mss68 mws0
theorem mss68_ok : All (SOkM Try.prog false) mss68 := All.cons c_mass_sum_ok mss67_ok
theorem menv73_ok : menv73.Ok Try.prog false := mkEnvM_ok mxs_ok mss68_ok mws0_ok
-- tumble/mass.Join$2
theorem ann_mass_Join_2 : FnOk Try.prog false 0 Try.f36 Ann.no := (fnNo _)
def s_mass_Join_2_0 (l g m B : Nat) : Nat := (fmul l m)
theorem e_mass_Join_2 (l g m B : Nat) : outB (evFnM Try.prog false menv73 [] [] 96 Ann.no Try.f36 [AV.agg [AV.float l, AV.float g, AV.float m, AV.float B]] []) = some (true, AV.float (s_mass_Join_2_0 l g m B)) := by kernel_rfl
def S_mass_Join_2 : List AV → Option (Ob × AV)
  | [AV.agg [AV.float l, AV.float g, AV.float m, AV.float B]] => some (Ob.tt, AV.float (s_mass_Join_2_0 l g m B))
  | _ => none
theorem t_mass_Join_2 : SOkM Try.prog false (36, fun args => match S_mass_Join_2 args with | some (o, v) => some (o, v, []) | none => none) := SOkM.flat (N := 96) menv73_ok Try.func36 ann_mass_Join_2 Try.call36 fun args o v h ho => by
  unfold S_mass_Join_2 at h
  split at h
  · rename_i l g m B
    cases h
    have ho2 := ho
    have this := show outB (evFnM Try.prog false menv73 [] [] 96 Ann.no Try.f36 [AV.agg [AV.float l, AV.float g, AV.float m, AV.float B]] []) = _ from e_mass_Join_2 l g m B
    exact ⟨this, rfl⟩
  · cases h
def c_mass_Join_2 : SFM := fun args => match S_mass_Join_2 args with | some (o, v) => some (o, v, []) | none => none
theorem c_mass_Join_2_ok : SOkM Try.prog false (36, c_mass_Join_2) := t_mass_Join_2
def mss69 : List (FuncId × SFM) := (36, c_mass_Join_2) :: mss68
def menv74 : EnvM := mkEnvM mxs mss69 mws0
theorem mss69_ok : All (SOkM Try.prog false) mss69 := All.cons c_mass_Join_2_ok mss68_ok
theorem menv74_ok : menv74.Ok Try.prog false := mkEnvM_ok mxs_ok mss69_ok mws0_ok
-- tumble/mass.sum
-- a loop of tumble/mass.sum
structure V_mass_sum_v1_L0 where
  v0 : Int
  v1 : (Nat → Nat)
def tpl_mass_sum_v1_L0 : List AV := (AV.top :: AV.nul :: AV.top :: AV.top :: AV.top :: AV.nul :: AV.top :: AV.top :: AV.top :: AV.top :: AV.top :: AV.nul :: AV.nul :: AV.nul :: tpA 13 ([]))
def cts_mass_sum_v1_L0 : List CT := [CT.keep]
def phs_mass_sum_v1_L0 : List Src := []
def T_mass_sum_v1_L0 (e : Nat) (k j q r : Nat → Nat) (p : Int) (x : V_mass_sum_v1_L0) (F0 F1 : Nat → List AV) : List AV × Heap := ((AV.top :: AV.func 36 [] [] :: AV.top :: AV.top :: AV.top :: AV.lst 0 0 1 e e :: AV.top :: AV.top :: AV.top :: AV.top :: AV.top :: AV.view e 4 F0 :: AV.int .i64 p :: AV.int .i64 x.v0 :: tpA 13 ([])), [⟨.sym e 1 F1, 24, 0⟩])
def sh_mass_sum_v1_L0 (e : Nat) (k j q r : Nat → Nat) (p : Int) (x : V_mass_sum_v1_L0) : List AV × Heap := T_mass_sum_v1_L0 e k j q r p x (fun j0 => [AV.float (k j0), AV.float (j j0), AV.float (q j0), AV.float (r j0)]) (fun j0 => [AV.float (x.v1 j0)])
def step_mass_sum_v1_L0 (e : Nat) (k j q r : Nat → Nat) (p : Int) (x : V_mass_sum_v1_L0) : V_mass_sum_v1_L0 := V_mass_sum_v1_L0.mk (IntKind.wrap .i64 (x.v0 + (1 : Int))) (fun j0 => (bif (Nat.beq j0 (Int.toNat x.v0)) then (s_mass_Join_2_0 (k (Int.toNat x.v0)) (j (Int.toNat x.v0)) (q (Int.toNat x.v0)) (r (Int.toNat x.v0))) else (x.v1 j0)))
def go_mass_sum_v1_L0 (e : Nat) (k j q r : Nat → Nat) (p : Int) (x : V_mass_sum_v1_L0) : Bool := (bif (!(ilt x.v0 p)) then false else true)
def ok_mass_sum_v1_L0 (e : Nat) (k j q r : Nat → Nat) (p : Int) (x : V_mass_sum_v1_L0) : Bool := (mrgB (!(ilt x.v0 p)) true ((Nat.blt (Int.toNat x.v0) e) && (((ile (0 : Int) x.v0) && (Nat.blt (Int.toNat x.v0) e)) && ((ile (0 : Int) x.v0) && (Nat.blt (Int.toNat x.v0) e)))))
def L_mass_sum_v1_L0 (e : Nat) (k j q r : Nat → Nat) (p : Int) (x : V_mass_sum_v1_L0) : V_mass_sum_v1_L0 := lastL (ok_mass_sum_v1_L0 e k j q r p) (go_mass_sum_v1_L0 e k j q r p) (step_mass_sum_v1_L0 e k j q r p) x
def E_mass_sum_v1_L0 (e : Nat) (k j q r : Nat → Nat) (p : Int) (x : V_mass_sum_v1_L0) : Bool := endsL (ok_mass_sum_v1_L0 e k j q r p) (go_mass_sum_v1_L0 e k j q r p) (step_mass_sum_v1_L0 e k j q r p) x
theorem all_mass_sum_v1_L0 (e : Nat) (k j q r : Nat → Nat) (p : Int) (x : V_mass_sum_v1_L0) : rnd Try.prog false menv74 [] [] 96 Ann.no (subC [1, 1, 0, 1, 0, 0] (codeOf Try.f34)) 0 [⟨some 0, 0, 0, []⟩] tpl_mass_sum_v1_L0 cts_mass_sum_v1_L0 (true :: false :: true :: true :: true :: false :: true :: true :: true :: true :: true :: false :: false :: tpB 14 ([])) [true] (sh_mass_sum_v1_L0 e k j q r p x) = (true, true, go_mass_sum_v1_L0 e k j q r p x, ok_mass_sum_v1_L0 e k j q r p x, true, sh_mass_sum_v1_L0 e k j q r p (step_mass_sum_v1_L0 e k j q r p x), true) := by kernel_rfl
def fam_mass_sum_v1_L0 (e : Nat) (k j q r : Nat → Nat) (p : Int) : Fam Try.prog false menv74 [] [] 96 0 Ann.no (subC [1, 1, 0, 1, 0, 0] (codeOf Try.f34)) V_mass_sum_v1_L0 where
  sh := sh_mass_sum_v1_L0 e k j q r p
  ok := ok_mass_sum_v1_L0 e k j q r p
  go := go_mass_sum_v1_L0 e k j q r p
  step := step_mass_sum_v1_L0 e k j q r p
  chg := (true :: false :: true :: true :: true :: false :: true :: true :: true :: true :: true :: false :: false :: tpB 14 ([]))
  chgH := [true]
  tpl := tpl_mass_sum_v1_L0
  cts := cts_mass_sum_v1_L0
  keep := 0
  srcs := [⟨some 0, 0, 0, []⟩]
  ann := (annNo (subC [1, 1, 0, 1, 0, 0] (codeOf Try.f34)))
  le := by kernel_rfl
  kept := by kernel_rfl
  keptB := by kernel_rfl
  all := all_mass_sum_v1_L0 e k j q r p
  len := fun x => by kernel_rfl
  head := fun x y => by kernel_rfl
  con := fun x y => by kernel_rfl
  conH := fun x y => by kernel_rfl
def F_mass_sum_v1_L0 : St → Option Ch := fun s => cond (Nat.beq s.tm.length 27 && Nat.beq s.H.length 1) (tkTops 1 (alL tpl_mass_sum_v1_L0 s.tm) fun t0 => tkCons t0 fun g t1 => tkFunc 36 g fun l2 l3 => tkNil l2 <| tkNil l3 <| tkTops 3 t1 fun t4 => tkCons t4 fun C t5 => tkLst 0 0 1 C fun s0 s1 => tkTops 5 t5 fun t6 => tkCons t6 fun I t7 => tkView 4 I fun s2 f0 => tkCons t7 fun J t8 => tkI .i64 J fun s7 => tkCons t8 fun G t9 => tkI .i64 G fun s8 => tkTops 13 t9 fun t10 => tkNil t10 <| tkCons (alH cts_mass_sum_v1_L0 (s.H ++ List.map phan phs_mass_sum_v1_L0)) fun b11 t11 => tkSym 24 0 1 b11 fun s9 f1 => tkNil t11 <| Fam.out (fam_mass_sum_v1_L0 s0 (fL f0 0) (fL f0 1) (fL f0 2) (fL f0 3) s7) s (((((allB fun i => isNrm [Ck.f, Ck.f, Ck.f, Ck.f] (f0 i)) && (allB fun i => isNrm [Ck.f] (f1 i))) && (eqT s1 s0)) && (eqT s2 s0)) && (eqT s9 s0)) (V_mass_sum_v1_L0.mk s8 (fL f1 0))) none
theorem F_mass_sum_v1_L0_ok : ∀ s ch, F_mass_sum_v1_L0 s = some ch → AllI s ch ∧ LoopSpec Try.prog false 0 (subC [1, 1, 0, 1, 0, 0] (codeOf Try.f34)) s (sel ch) := by
  intro s ch h
  unfold F_mass_sum_v1_L0 at h
  obtain ⟨hl, h0⟩ := cond_some h rfl
  clear h
  obtain ⟨hl, hb⟩ := and_beq2 hl
  obtain ⟨t0, e0, h1⟩ := tkTops_some h0
  obtain ⟨g, t1, rfl, h2⟩ := tkCons_some h1
  obtain ⟨l2, l3, rfl, h3⟩ := tkFunc_some h2
  obtain ⟨rfl, h4⟩ := tkNil_some h3
  obtain ⟨rfl, h5⟩ := tkNil_some h4
  obtain ⟨t4, rfl, h6⟩ := tkTops_some h5
  obtain ⟨C, t5, rfl, h7⟩ := tkCons_some h6
  obtain ⟨s0, s1, rfl, h8⟩ := tkLst_some h7
  obtain ⟨t6, rfl, h9⟩ := tkTops_some h8
  obtain ⟨I, t7, rfl, h10⟩ := tkCons_some h9
  obtain ⟨s2, f0, rfl, h11⟩ := tkView_some h10
  obtain ⟨J, t8, rfl, h12⟩ := tkCons_some h11
  obtain ⟨s7, rfl, h13⟩ := tkI_some h12
  obtain ⟨G, t9, rfl, h14⟩ := tkCons_some h13
  obtain ⟨s8, rfl, h15⟩ := tkI_some h14
  obtain ⟨t10, rfl, h16⟩ := tkTops_some h15
  obtain ⟨rfl, h17⟩ := tkNil_some h16
  obtain ⟨b11, t11, eH, h18⟩ := tkCons_some h17
  obtain ⟨s9, f1, rfl, h19⟩ := tkSym_some h18
  obtain ⟨rfl, h20⟩ := tkNil_some h19
  refine Fam.spec menv74_ok (fam_mass_sum_v1_L0 s0 (fL f0 0) (fL f0 1) (fL f0 2) (fL f0 3) s7) (phs := phs_mass_sum_v1_L0) (hl.trans (by kernel_rfl)) (hb.trans (by kernel_rfl)) ?_ ?_ h20
  · rw [← hdr_alH cts_mass_sum_v1_L0 (s.H ++ List.map phan phs_mass_sum_v1_L0), eH]; kernel_rfl
  · intro hq
    simp only [Bool.and_eq_true] at hq
    obtain ⟨⟨⟨⟨hq0, hq1⟩, hq2⟩, hq3⟩, hq4⟩ := hq
    have n0 := nrm_fun hq0
    have n1 := nrm_fun hq1
    have hx := eqT_eq hq2; subst s1
    have hx := eqT_eq hq3; subst s2
    have hx := eqT_eq hq4; subst s9
    show sh_mass_sum_v1_L0 s0 (fL f0 0) (fL f0 1) (fL f0 2) (fL f0 3) s7 (V_mass_sum_v1_L0.mk s8 (fL f1 0)) = (alL tpl_mass_sum_v1_L0 s.tm, alH cts_mass_sum_v1_L0 (s.H ++ List.map phan phs_mass_sum_v1_L0))
    rw [e0, eH]
    refine Eq.trans (show sh_mass_sum_v1_L0 s0 (fL f0 0) (fL f0 1) (fL f0 2) (fL f0 3) s7 (V_mass_sum_v1_L0.mk s8 (fL f1 0)) = T_mass_sum_v1_L0 s0 (fL f0 0) (fL f0 1) (fL f0 2) (fL f0 3) s7 (V_mass_sum_v1_L0.mk s8 (fL f1 0)) (fun i => mkN [Ck.f, Ck.f, Ck.f, Ck.f] (f0 i) 0) (fun i => mkN [Ck.f] (f1 i) 0) by kernel_rfl) ?_
    rw [n0, n1]
    kernel_rfl
theorem ann_mass_sum_v1 : FnOk Try.prog false 0 Try.f34 (Ann.two Ann.no (Ann.two Ann.no (Ann.two (Ann.two Ann.no (Ann.one (Ann.loop F_mass_sum_v1_L0))) Ann.no))) := (fnOk_of (c := codeOf Try.f34) (by kernel_rfl) (annSeq (a := (subC [0] (codeOf Try.f34))) (b := (subC [1] (codeOf Try.f34))) (by kernel_rfl) (annNo (subC [0] (codeOf Try.f34))) (annSeq (a := (subC [1, 0] (codeOf Try.f34))) (b := (subC [1, 1] (codeOf Try.f34))) (by kernel_rfl) (annNo (subC [1, 0] (codeOf Try.f34))) (annSeq (a := (subC [1, 1, 0] (codeOf Try.f34))) (b := (subC [1, 1, 1] (codeOf Try.f34))) (by kernel_rfl) (annSeq (a := (subC [1, 1, 0, 0] (codeOf Try.f34))) (b := (subC [1, 1, 0, 1] (codeOf Try.f34))) (by kernel_rfl) (annNo (subC [1, 1, 0, 0] (codeOf Try.f34))) (annBlock (a := (subC [1, 1, 0, 1, 0] (codeOf Try.f34))) (i := 0) (by kernel_rfl) (annLoop (a := (subC [1, 1, 0, 1, 0, 0] (codeOf Try.f34))) (by kernel_rfl) F_mass_sum_v1_L0_ok))) (annNo (subC [1, 1, 1] (codeOf Try.f34)))))))
def s_mass_sum_v1_0 (d : Nat) (n t u z : Nat → Nat) : Nat := (s_num_Sum_0 d ((L_mass_sum_v1_L0 d n t u z (Int.ofNat d) (V_mass_sum_v1_L0.mk (0 : Int) (fun j0 => 0))).v1))
def q_mass_sum_v1 (d : Nat) (n t u z : Nat → Nat) : Bool := (((Nat.ble d d) && ((allB fun _ => true) && (o_num_Sum d ((L_mass_sum_v1_L0 d n t u z (Int.ofNat d) (V_mass_sum_v1_L0.mk (0 : Int) (fun j0 => 0))).v1)))) && (((ile (Int.ofNat d) (Int.ofNat d)) && ((ile ((8 : Int) * (Int.ofNat d)) (281474976710656 : Int)) && (ile (Int.ofNat d) (9223372036854775807 : Int)))) && ((((((allB fun _ => true) && (allB fun _ => true)) && (eqT d d)) && (eqT d d)) && (eqT d d)) && (E_mass_sum_v1_L0 d n t u z (Int.ofNat d) (V_mass_sum_v1_L0.mk (0 : Int) (fun j0 => 0))))))
theorem e_mass_sum_v1 (d : Nat) (n t u z : Nat → Nat) : outB (evFnM Try.prog false menv74 [] [] 96 (Ann.two Ann.no (Ann.two Ann.no (Ann.two (Ann.two Ann.no (Ann.one (Ann.loop F_mass_sum_v1_L0))) Ann.no))) Try.f34 [AV.view d 4 (fun i0 => [AV.float (n i0), AV.float (t i0), AV.float (u i0), AV.float (z i0)]), AV.func 36 [] []] []) = some (q_mass_sum_v1 d n t u z, AV.float (s_mass_sum_v1_0 d n t u z)) := by kernel_rfl
def o_mass_sum_v1 (d : Nat) (n t u z : Nat → Nat) : Bool := (((Nat.ble d d) && (o_num_Sum d ((L_mass_sum_v1_L0 d n t u z (Int.ofNat d) (V_mass_sum_v1_L0.mk (0 : Int) (fun j0 => 0))).v1))) && (((ile (Int.ofNat d) (Int.ofNat d)) && ((ile ((8 : Int) * (Int.ofNat d)) (281474976710656 : Int)) && (ile (Int.ofNat d) (9223372036854775807 : Int)))) && (E_mass_sum_v1_L0 d n t u z (Int.ofNat d) (V_mass_sum_v1_L0.mk (0 : Int) (fun j0 => 0)))))
def S_mass_sum_v1 : List AV → Option (Ob × AV)
  | [AV.view d 4 A, AV.func 36 [] []] => some (Ob.both (Ob.bit (allB fun i => isNrm [Ck.f, Ck.f, Ck.f, Ck.f] (A i))) (Ob.bit (o_mass_sum_v1 d (fL A 0) (fL A 1) (fL A 2) (fL A 3))), AV.float (s_mass_sum_v1_0 d (fL A 0) (fL A 1) (fL A 2) (fL A 3)))
  | _ => none
theorem ob_mass_sum_v1 (d : Nat) (n t u z : Nat → Nat) (ho : o_mass_sum_v1 d n t u z = true) : q_mass_sum_v1 d n t u z = true := by
  unfold q_mass_sum_v1
  unfold o_mass_sum_v1 at ho
  simp only [allB_true, eqT_self, mrgB_self, Bool.true_and, Bool.and_true] at ho ⊢
  exact ho
theorem t_mass_sum_v1 : SOkM Try.prog false (34, fun args => match S_mass_sum_v1 args with | some (o, v) => some (o, v, []) | none => none) := SOkM.flat (N := 96) menv74_ok Try.func34 ann_mass_sum_v1 Try.call34 fun args o v h ho => by
  unfold S_mass_sum_v1 at h
  split at h
  · rename_i d A
    cases h
    rw [Ob.both_ok, Bool.and_eq_true] at ho
    obtain ⟨hn, ho2⟩ := ho
    have n0 := hn
    simp only [Ob.ok] at n0
    replace n0 := nrm_fun n0
    have this := show outB (evFnM Try.prog false menv74 [] [] 96 (Ann.two Ann.no (Ann.two Ann.no (Ann.two (Ann.two Ann.no (Ann.one (Ann.loop F_mass_sum_v1_L0))) Ann.no))) Try.f34 [AV.view d 4 (fun i => mkN [Ck.f, Ck.f, Ck.f, Ck.f] (A i) 0), AV.func 36 [] []] []) = _ from e_mass_sum_v1 d (fL A 0) (fL A 1) (fL A 2) (fL A 3)
    rw [(ob_mass_sum_v1 d (fL A 0) (fL A 1) (fL A 2) (fL A 3) ho2)] at this
    rw [n0] at this
    exact ⟨this, rfl⟩
  · cases h
def c_mass_sum_v1 : SFM := altS (fun args => match S_mass_sum_v1 args with | some (o, v) => some (o, v, []) | none => none) (c_mass_sum)
theorem c_mass_sum_v1_ok : SOkM Try.prog false (34, c_mass_sum_v1) := (SOkM.alt t_mass_sum_v1 c_mass_sum_ok)
def mss70 : List (FuncId × SFM) := (34, c_mass_sum_v1) :: mss69
def menv75 : EnvM := mkEnvM mxs mss70 mws0
theorem mss70_ok : All (SOkM Try.prog false) mss70 := All.cons c_mass_sum_v1_ok mss69_ok
theorem menv75_ok : menv75.Ok Try.prog false := mkEnvM_ok mxs_ok mss70_ok mws0_ok
-- tumble/mass.Join$3
theorem ann_mass_Join_3 : FnOk Try.prog false 0 Try.f37 Ann.no := (fnNo _)
def s_mass_Join_3_0 (l g m B : Nat) : Nat := (fmul l B)
theorem e_mass_Join_3 (l g m B : Nat) : outB (evFnM Try.prog false menv75 [] [] 96 Ann.no Try.f37 [AV.agg [AV.float l, AV.float g, AV.float m, AV.float B]] []) = some (true, AV.float (s_mass_Join_3_0 l g m B)) := by kernel_rfl
def S_mass_Join_3 : List AV → Option (Ob × AV)
  | [AV.agg [AV.float l, AV.float g, AV.float m, AV.float B]] => some (Ob.tt, AV.float (s_mass_Join_3_0 l g m B))
  | _ => none
theorem t_mass_Join_3 : SOkM Try.prog false (37, fun args => match S_mass_Join_3 args with | some (o, v) => some (o, v, []) | none => none) := SOkM.flat (N := 96) menv75_ok Try.func37 ann_mass_Join_3 Try.call37 fun args o v h ho => by
  unfold S_mass_Join_3 at h
  split at h
  · rename_i l g m B
    cases h
    have ho2 := ho
    have this := show outB (evFnM Try.prog false menv75 [] [] 96 Ann.no Try.f37 [AV.agg [AV.float l, AV.float g, AV.float m, AV.float B]] []) = _ from e_mass_Join_3 l g m B
    exact ⟨this, rfl⟩
  · cases h
def c_mass_Join_3 : SFM := fun args => match S_mass_Join_3 args with | some (o, v) => some (o, v, []) | none => none
theorem c_mass_Join_3_ok : SOkM Try.prog false (37, c_mass_Join_3) := t_mass_Join_3
def mss71 : List (FuncId × SFM) := (37, c_mass_Join_3) :: mss70
def menv76 : EnvM := mkEnvM mxs mss71 mws0
theorem mss71_ok : All (SOkM Try.prog false) mss71 := All.cons c_mass_Join_3_ok mss70_ok
theorem menv76_ok : menv76.Ok Try.prog false := mkEnvM_ok mxs_ok mss71_ok mws0_ok
-- tumble/mass.sum
-- a loop of tumble/mass.sum
structure V_mass_sum_v2_L0 where
  v0 : Int
  v1 : (Nat → Nat)
def tpl_mass_sum_v2_L0 : List AV := (AV.top :: AV.nul :: AV.top :: AV.top :: AV.top :: AV.nul :: AV.top :: AV.top :: AV.top :: AV.top :: AV.top :: AV.nul :: AV.nul :: AV.nul :: tpA 13 ([]))
def cts_mass_sum_v2_L0 : List CT := [CT.keep]
def phs_mass_sum_v2_L0 : List Src := []
def T_mass_sum_v2_L0 (e : Nat) (k j q r : Nat → Nat) (p : Int) (x : V_mass_sum_v2_L0) (F0 F1 : Nat → List AV) : List AV × Heap := ((AV.top :: AV.func 37 [] [] :: AV.top :: AV.top :: AV.top :: AV.lst 0 0 1 e e :: AV.top :: AV.top :: AV.top :: AV.top :: AV.top :: AV.view e 4 F0 :: AV.int .i64 p :: AV.int .i64 x.v0 :: tpA 13 ([])), [⟨.sym e 1 F1, 24, 0⟩])
def sh_mass_sum_v2_L0 (e : Nat) (k j q r : Nat → Nat) (p : Int) (x : V_mass_sum_v2_L0) : List AV × Heap := T_mass_sum_v2_L0 e k j q r p x (fun j0 => [AV.float (k j0), AV.float (j j0), AV.float (q j0), AV.float (r j0)]) (fun j0 => [AV.float (x.v1 j0)])
def step_mass_sum_v2_L0 (e : Nat) (k j q r : Nat → Nat) (p : Int) (x : V_mass_sum_v2_L0) : V_mass_sum_v2_L0 := V_mass_sum_v2_L0.mk (IntKind.wrap .i64 (x.v0 + (1 : Int))) (fun j0 => (bif (Nat.beq j0 (Int.toNat x.v0)) then (s_mass_Join_3_0 (k (Int.toNat x.v0)) (j (Int.toNat x.v0)) (q (Int.toNat x.v0)) (r (Int.toNat x.v0))) else (x.v1 j0)))
def go_mass_sum_v2_L0 (e : Nat) (k j q r : Nat → Nat) (p : Int) (x : V_mass_sum_v2_L0) : Bool := (bif (!(ilt x.v0 p)) then false else true)
def ok_mass_sum_v2_L0 (e : Nat) (k j q r : Nat → Nat) (p : Int) (x : V_mass_sum_v2_L0) : Bool := (mrgB (!(ilt x.v0 p)) true ((Nat.blt (Int.toNat x.v0) e) && (((ile (0 : Int) x.v0) && (Nat.blt (Int.toNat x.v0) e)) && ((ile (0 : Int) x.v0) && (Nat.blt (Int.toNat x.v0) e)))))
def L_mass_sum_v2_L0 (e : Nat) (k j q r : Nat → Nat) (p : Int) (x : V_mass_sum_v2_L0) : V_mass_sum_v2_L0 := lastL (ok_mass_sum_v2_L0 e k j q r p) (go_mass_sum_v2_L0 e k j q r p) (step_mass_sum_v2_L0 e k j q r p) x
def E_mass_sum_v2_L0 (e : Nat) (k j q r : Nat → Nat) (p : Int) (x : V_mass_sum_v2_L0) : Bool := endsL (ok_mass_sum_v2_L0 e k j q r p) (go_mass_sum_v2_L0 e k j q r p) (step_mass_sum_v2_L0 e k j q r p) x
theorem all_mass_sum_v2_L0 (e : Nat) (k j q r : Nat → Nat) (p : Int) (x : V_mass_sum_v2_L0) : rnd Try.prog false menv76 [] [] 96 Ann.no (subC [1, 1, 0, 1, 0, 0] (codeOf Try.f34)) 0 [⟨some 0, 0, 0, []⟩] tpl_mass_sum_v2_L0 cts_mass_sum_v2_L0 (true :: false :: true :: true :: true :: false :: true :: true :: true :: true :: true :: false :: false :: tpB 14 ([])) [true] (sh_mass_sum_v2_L0 e k j q r p x) = (true, true, go_mass_sum_v2_L0 e k j q r p x, ok_mass_sum_v2_L0 e k j q r p x, true, sh_mass_sum_v2_L0 e k j q r p (step_mass_sum_v2_L0 e k j q r p x), true) := by kernel_rfl
def fam_mass_sum_v2_L0 (e : Nat) (k j q r : Nat → Nat) (p : Int) : Fam Try.prog false menv76 [] [] 96 0 Ann.no (subC [1, 1, 0, 1, 0, 0] (codeOf Try.f34)) V_mass_sum_v2_L0 where
  sh := sh_mass_sum_v2_L0 e k j q r p
  ok := ok_mass_sum_v2_L0 e k j q r p
  go := go_mass_sum_v2_L0 e k j q r p
  step := step_mass_sum_v2_L0 e k j q r p
  chg := (true :: false :: true :: true :: true :: false :: true :: true :: true :: true :: true :: false :: false :: tpB 14 ([]))
  chgH := [true]
  tpl := tpl_mass_sum_v2_L0
  cts := cts_mass_sum_v2_L0
  keep := 0
  srcs := [⟨some 0, 0, 0, []⟩]
  ann := (annNo (subC [1, 1, 0, 1, 0, 0] (codeOf Try.f34)))
  le := by kernel_rfl
  kept := by kernel_rfl
  keptB := by kernel_rfl
  all := all_mass_sum_v2_L0 e k j q r p
  len := fun x => by kernel_rfl
  head := fun x y => by kernel_rfl
  con := fun x y => by kernel_rfl
  conH := fun x y => by kernel_rfl
def F_mass_sum_v2_L0 : St → Option Ch := fun s => cond (Nat.beq s.tm.length 27 && Nat.beq s.H.length 1) (tkTops 1 (alL tpl_mass_sum_v2_L0 s.tm) fun t0 => tkCons t0 fun g t1 => tkFunc 37 g fun l2 l3 => tkNil l2 <| tkNil l3 <| tkTops 3 t1 fun t4 => tkCons t4 fun C t5 => tkLst 0 0 1 C fun s0 s1 => tkTops 5 t5 fun t6 => tkCons t6 fun I t7 => tkView 4 I fun s2 f0 => tkCons t7 fun J t8 => tkI .i64 J fun s7 => tkCons t8 fun G t9 => tkI .i64 G fun s8 => tkTops 13 t9 fun t10 => tkNil t10 <| tkCons (alH cts_mass_sum_v2_L0 (s.H ++ List.map phan phs_mass_sum_v2_L0)) fun b11 t11 => tkSym 24 0 1 b11 fun s9 f1 => tkNil t11 <| Fam.out (fam_mass_sum_v2_L0 s0 (fL f0 0) (fL f0 1) (fL f0 2) (fL f0 3) s7) s (((((allB fun i => isNrm [Ck.f, Ck.f, Ck.f, Ck.f] (f0 i)) && (allB fun i => isNrm [Ck.f] (f1 i))) && (eqT s1 s0)) && (eqT s2 s0)) && (eqT s9 s0)) (V_mass_sum_v2_L0.mk s8 (fL f1 0))) none
theorem F_mass_sum_v2_L0_ok : ∀ s ch, F_mass_sum_v2_L0 s = some ch → AllI s ch ∧ LoopSpec Try.prog false 0 (subC [1, 1, 0, 1, 0, 0] (codeOf Try.f34)) s (sel ch) := by
  intro s ch h
  unfold F_mass_sum_v2_L0 at h
  obtain ⟨hl, h0⟩ := cond_some h rfl
  clear h
  obtain ⟨hl, hb⟩ := and_beq2 hl
  obtain ⟨t0, e0, h1⟩ := tkTops_some h0
  obtain ⟨g, t1, rfl, h2⟩ := tkCons_some h1
  obtain ⟨l2, l3, rfl, h3⟩ := tkFunc_some h2
  obtain ⟨rfl, h4⟩ := tkNil_some h3
  obtain ⟨rfl, h5⟩ := tkNil_some h4
  obtain ⟨t4, rfl, h6⟩ := tkTops_some h5
  obtain ⟨C, t5, rfl, h7⟩ := tkCons_some h6
  obtain ⟨s0, s1, rfl, h8⟩ := tkLst_some h7
  obtain ⟨t6, rfl, h9⟩ := tkTops_some h8
  obtain ⟨I, t7, rfl, h10⟩ := tkCons_some h9
  obtain ⟨s2, f0, rfl, h11⟩ := tkView_some h10
  obtain ⟨J, t8, rfl, h12⟩ := tkCons_some h11
  obtain ⟨s7, rfl, h13⟩ := tkI_some h12
  obtain ⟨G, t9, rfl, h14⟩ := tkCons_some h13
  obtain ⟨s8, rfl, h15⟩ := tkI_some h14
  obtain ⟨t10, rfl, h16⟩ := tkTops_some h15
  obtain ⟨rfl, h17⟩ := tkNil_some h16
  obtain ⟨b11, t11, eH, h18⟩ := tkCons_some h17
  obtain ⟨s9, f1, rfl, h19⟩ := tkSym_some h18
  obtain ⟨rfl, h20⟩ := tkNil_some h19
  refine Fam.spec menv76_ok (fam_mass_sum_v2_L0 s0 (fL f0 0) (fL f0 1) (fL f0 2) (fL f0 3) s7) (phs := phs_mass_sum_v2_L0) (hl.trans (by kernel_rfl)) (hb.trans (by kernel_rfl)) ?_ ?_ h20
  · rw [← hdr_alH cts_mass_sum_v2_L0 (s.H ++ List.map phan phs_mass_sum_v2_L0), eH]; kernel_rfl
  · intro hq
    simp only [Bool.and_eq_true] at hq
    obtain ⟨⟨⟨⟨hq0, hq1⟩, hq2⟩, hq3⟩, hq4⟩ := hq
    have n0 := nrm_fun hq0
    have n1 := nrm_fun hq1
    have hx := eqT_eq hq2; subst s1
    have hx := eqT_eq hq3; subst s2
    have hx := eqT_eq hq4; subst s9
    show sh_mass_sum_v2_L0 s0 (fL f0 0) (fL f0 1) (fL f0 2) (fL f0 3) s7 (V_mass_sum_v2_L0.mk s8 (fL f1 0)) = (alL tpl_mass_sum_v2_L0 s.tm, alH cts_mass_sum_v2_L0 (s.H ++ List.map phan phs_mass_sum_v2_L0))
    rw [e0, eH]
    refine Eq.trans (show sh_mass_sum_v2_L0 s0 (fL f0 0) (fL f0 1) (fL f0 2) (fL f0 3) s7 (V_mass_sum_v2_L0.mk s8 (fL f1 0)) = T_mass_sum_v2_L0 s0 (fL f0 0) (fL f0 1) (fL f0 2) (fL f0 3) s7 (V_mass_sum_v2_L0.mk s8 (fL f1 0)) (fun i => mkN [Ck.f, Ck.f, Ck.f, Ck.f] (f0 i) 0) (fun i => mkN [Ck.f] (f1 i) 0) by kernel_rfl) ?_
    rw [n0, n1]
    kernel_rfl
theorem ann_mass_sum_v2 : FnOk Try.prog false 0 Try.f34 (Ann.two Ann.no (Ann.two Ann.no (Ann.two (Ann.two Ann.no (Ann.one (Ann.loop F_mass_sum_v2_L0))) Ann.no))) := (fnOk_of (c := codeOf Try.f34) (by kernel_rfl) (annSeq (a := (subC [0] (codeOf Try.f34))) (b := (subC [1] (codeOf Try.f34))) (by kernel_rfl) (annNo (subC [0] (codeOf Try.f34))) (annSeq (a := (subC [1, 0] (codeOf Try.f34))) (b := (subC [1, 1] (codeOf Try.f34))) (by kernel_rfl) (annNo (subC [1, 0] (codeOf Try.f34))) (annSeq (a := (subC [1, 1, 0] (codeOf Try.f34))) (b := (subC [1, 1, 1] (codeOf Try.f34))) (by kernel_rfl) (annSeq (a := (subC [1, 1, 0, 0] (codeOf Try.f34))) (b := (subC [1, 1, 0, 1] (codeOf Try.f34))) (by kernel_rfl) (annNo (subC [1, 1, 0, 0] (codeOf Try.f34))) (annBlock (a := (subC [1, 1, 0, 1, 0] (codeOf Try.f34))) (i := 0) (by kernel_rfl) (annLoop (a := (subC [1, 1, 0, 1, 0, 0] (codeOf Try.f34))) (by kernel_rfl) F_mass_sum_v2_L0_ok))) (annNo (subC [1, 1, 1] (codeOf Try.f34)))))))
def s_mass_sum_v2_0 (d : Nat) (n t u z : Nat → Nat) : Nat := (s_num_Sum_0 d ((L_mass_sum_v2_L0 d n t u z (Int.ofNat d) (V_mass_sum_v2_L0.mk (0 : Int) (fun j0 => 0))).v1))
def q_mass_sum_v2 (d : Nat) (n t u z : Nat → Nat) : Bool := (((Nat.ble d d) && ((allB fun _ => true) && (o_num_Sum d ((L_mass_sum_v2_L0 d n t u z (Int.ofNat d) (V_mass_sum_v2_L0.mk (0 : Int) (fun j0 => 0))).v1)))) && (((ile (Int.ofNat d) (Int.ofNat d)) && ((ile ((8 : Int) * (Int.ofNat d)) (281474976710656 : Int)) && (ile (Int.ofNat d) (9223372036854775807 : Int)))) && ((((((allB fun _ => true) && (allB fun _ => true)) && (eqT d d)) && (eqT d d)) && (eqT d d)) && (E_mass_sum_v2_L0 d n t u z (Int.ofNat d) (V_mass_sum_v2_L0.mk (0 : Int) (fun j0 => 0))))))
theorem e_mass_sum_v2 (d : Nat) (n t u z : Nat → Nat) : outB (evFnM Try.prog false menv76 [] [] 96 (Ann.two Ann.no (Ann.two Ann.no (Ann.two (Ann.two Ann.no (Ann.one (Ann.loop F_mass_sum_v2_L0))) Ann.no))) Try.f34 [AV.view d 4 (fun i0 => [AV.float (n i0), AV.float (t i0), AV.float (u i0), AV.float (z i0)]), AV.func 37 [] []] []) = some (q_mass_sum_v2 d n t u z, AV.float (s_mass_sum_v2_0 d n t u z)) := by kernel_rfl
def o_mass_sum_v2 (d : Nat) (n t u z : Nat → Nat) : Bool := (((Nat.ble d d) && (o_num_Sum d ((L_mass_sum_v2_L0 d n t u z (Int.ofNat d) (V_mass_sum_v2_L0.mk (0 : Int) (fun j0 => 0))).v1))) && (((ile (Int.ofNat d) (Int.ofNat d)) && ((ile ((8 : Int) * (Int.ofNat d)) (281474976710656 : Int)) && (ile (Int.ofNat d) (9223372036854775807 : Int)))) && (E_mass_sum_v2_L0 d n t u z (Int.ofNat d) (V_mass_sum_v2_L0.mk (0 : Int) (fun j0 => 0)))))
def S_mass_sum_v2 : List AV → Option (Ob × AV)
  | [AV.view d 4 A, AV.func 37 [] []] => some (Ob.both (Ob.bit (allB fun i => isNrm [Ck.f, Ck.f, Ck.f, Ck.f] (A i))) (Ob.bit (o_mass_sum_v2 d (fL A 0) (fL A 1) (fL A 2) (fL A 3))), AV.float (s_mass_sum_v2_0 d (fL A 0) (fL A 1) (fL A 2) (fL A 3)))
  | _ => none
theorem ob_mass_sum_v2 (d : Nat) (n t u z : Nat → Nat) (ho : o_mass_sum_v2 d n t u z = true) : q_mass_sum_v2 d n t u z = true := by
  unfold q_mass_sum_v2
  unfold o_mass_sum_v2 at ho
  simp only [allB_true, eqT_self, mrgB_self, Bool.true_and, Bool.and_true] at ho ⊢
  exact ho
theorem t_mass_sum_v2 : SOkM Try.prog false (34, fun args => match S_mass_sum_v2 args with | some (o, v) => some (o, v, []) | none => none) := SOkM.flat (N := 96) menv76_ok Try.func34 ann_mass_sum_v2 Try.call34 fun args o v h ho => by
  unfold S_mass_sum_v2 at h
  split at h
  · rename_i d A
    cases h
    rw [Ob.both_ok, Bool.and_eq_true] at ho
    obtain ⟨hn, ho2⟩ := ho
    have n0 := hn
    simp only [Ob.ok] at n0
    replace n0 := nrm_fun n0
    have this := show outB (evFnM Try.prog false menv76 [] [] 96 (Ann.two Ann.no (Ann.two Ann.no (Ann.two (Ann.two Ann.no (Ann.one (Ann.loop F_mass_sum_v2_L0))) Ann.no))) Try.f34 [AV.view d 4 (fun i => mkN [Ck.f, Ck.f, Ck.f, Ck.f] (A i) 0), AV.func 37 [] []] []) = _ from e_mass_sum_v2 d (fL A 0) (fL A 1) (fL A 2) (fL A 3)
    rw [(ob_mass_sum_v2 d (fL A 0) (fL A 1) (fL A 2) (fL A 3) ho2)] at this
    rw [n0] at this
    exact ⟨this, rfl⟩
  · cases h
def c_mass_sum_v2 : SFM := altS (fun args => match S_mass_sum_v2 args with | some (o, v) => some (o, v, []) | none => none) (c_mass_sum_v1)
theorem c_mass_sum_v2_ok : SOkM Try.prog false (34, c_mass_sum_v2) := (SOkM.alt t_mass_sum_v2 c_mass_sum_v1_ok)
def mss72 : List (FuncId × SFM) := (34, c_mass_sum_v2) :: mss71
def menv77 : EnvM := mkEnvM mxs mss72 mws0
theorem mss72_ok : All (SOkM Try.prog false) mss72 := All.cons c_mass_sum_v2_ok mss71_ok
theorem menv77_ok : menv77.Ok Try.prog false := mkEnvM_ok mxs_ok mss72_ok mws0_ok
-- tumble/vec.Sub
theorem ann_vec_Sub : FnOk Try.prog false 0 Try.f56 Ann.no := (fnNo _)
def s_vec_Sub_0 (l g m B : Nat) : Nat := (fsub l m)
def s_vec_Sub_1 (l g m B : Nat) : Nat := (fsub g B)
theorem e_vec_Sub (l g m B : Nat) : outB (evFnM Try.prog false menv77 [] [] 96 Ann.no Try.f56 [AV.agg [AV.float l, AV.float g], AV.agg [AV.float m, AV.float B]] []) = some (true, AV.agg [AV.float (s_vec_Sub_0 l g m B), AV.float (s_vec_Sub_1 l g m B)]) := by kernel_rfl
def S_vec_Sub : List AV → Option (Ob × AV)
  | [AV.agg [AV.float l, AV.float g], AV.agg [AV.float m, AV.float B]] => some (Ob.tt, AV.agg [AV.float (s_vec_Sub_0 l g m B), AV.float (s_vec_Sub_1 l g m B)])
  | _ => none
theorem t_vec_Sub : SOkM Try.prog false (56, fun args => match S_vec_Sub args with | some (o, v) => some (o, v, []) | none => none) := SOkM.flat (N := 96) menv77_ok Try.func56 ann_vec_Sub Try.call56 fun args o v h ho => by
  unfold S_vec_Sub at h
  split at h
  · rename_i l g m B
    cases h
    have ho2 := ho
    have this := show outB (evFnM Try.prog false menv77 [] [] 96 Ann.no Try.f56 [AV.agg [AV.float l, AV.float g], AV.agg [AV.float m, AV.float B]] []) = _ from e_vec_Sub l g m B
    exact ⟨this, rfl⟩
  · cases h
def c_vec_Sub : SFM := fun args => match S_vec_Sub args with | some (o, v) => some (o, v, []) | none => none
theorem c_vec_Sub_ok : SOkM Try.prog false (56, c_vec_Sub) := t_vec_Sub
def mss73 : List (FuncId × SFM) := (56, c_vec_Sub) :: mss72
def menv78 : EnvM := mkEnvM mxs mss73 mws0
theorem mss73_ok : All (SOkM Try.prog false) mss73 := All.cons c_vec_Sub_ok mss72_ok
theorem menv78_ok : menv78.Ok Try.prog false := mkEnvM_ok mxs_ok mss73_ok mws0_ok
-- tumble/vec.Dot
theorem ann_vec_Dot : FnOk Try.prog false 0 Try.f76 Ann.no := (fnNo _)
def s_vec_Dot_0 (l g m B : Nat) : Nat := (fadd (fmul l m) (fmul g B))
theorem e_vec_Dot (l g m B : Nat) : outB (evFnM Try.prog false menv78 [] [] 96 Ann.no Try.f76 [AV.agg [AV.float l, AV.float g], AV.agg [AV.float m, AV.float B]] []) = some (true, AV.float (s_vec_Dot_0 l g m B)) := by kernel_rfl
def S_vec_Dot : List AV → Option (Ob × AV)
  | [AV.agg [AV.float l, AV.float g], AV.agg [AV.float m, AV.float B]] => some (Ob.tt, AV.float (s_vec_Dot_0 l g m B))
  | _ => none
theorem t_vec_Dot : SOkM Try.prog false (76, fun args => match S_vec_Dot args with | some (o, v) => some (o, v, []) | none => none) := SOkM.flat (N := 96) menv78_ok Try.func76 ann_vec_Dot Try.call76 fun args o v h ho => by
  unfold S_vec_Dot at h
  split at h
  · rename_i l g m B
    cases h
    have ho2 := ho
    have this := show outB (evFnM Try.prog false menv78 [] [] 96 Ann.no Try.f76 [AV.agg [AV.float l, AV.float g], AV.agg [AV.float m, AV.float B]] []) = _ from e_vec_Dot l g m B
    exact ⟨this, rfl⟩
  · cases h
def c_vec_Dot : SFM := fun args => match S_vec_Dot args with | some (o, v) => some (o, v, []) | none => none
theorem c_vec_Dot_ok : SOkM Try.prog false (76, c_vec_Dot) := t_vec_Dot
def mss74 : List (FuncId × SFM) := (76, c_vec_Dot) :: mss73
def menv79 : EnvM := mkEnvM mxs mss74 mws0
theorem mss74_ok : All (SOkM Try.prog false) mss74 := All.cons c_vec_Dot_ok mss73_ok
theorem menv79_ok : menv79.Ok Try.prog false := mkEnvM_ok mxs_ok mss74_ok mws0_ok
-- tumble/vec.Square
theorem ann_vec_Square : FnOk Try.prog false 0 Try.f68 Ann.no := (fnNo _)
def s_vec_Square_0 (l g : Nat) : Nat := (s_vec_Dot_0 l g l g)
theorem e_vec_Square (l g : Nat) : outB (evFnM Try.prog false menv79 [] [] 96 Ann.no Try.f68 [AV.agg [AV.float l, AV.float g]] []) = some (true, AV.float (s_vec_Square_0 l g)) := by kernel_rfl
def S_vec_Square : List AV → Option (Ob × AV)
  | [AV.agg [AV.float l, AV.float g]] => some (Ob.tt, AV.float (s_vec_Square_0 l g))
  | _ => none
theorem t_vec_Square : SOkM Try.prog false (68, fun args => match S_vec_Square args with | some (o, v) => some (o, v, []) | none => none) := SOkM.flat (N := 96) menv79_ok Try.func68 ann_vec_Square Try.call68 fun args o v h ho => by
  unfold S_vec_Square at h
  split at h
  · rename_i l g
    cases h
    have ho2 := ho
    have this := show outB (evFnM Try.prog false menv79 [] [] 96 Ann.no Try.f68 [AV.agg [AV.float l, AV.float g]] []) = _ from e_vec_Square l g
    exact ⟨this, rfl⟩
  · cases h
def c_vec_Square : SFM := fun args => match S_vec_Square args with | some (o, v) => some (o, v, []) | none => none
theorem c_vec_Square_ok : SOkM Try.prog false (68, c_vec_Square) := t_vec_Square
def mss75 : List (FuncId × SFM) := (68, c_vec_Square) :: mss74
def menv80 : EnvM := mkEnvM mxs mss75 mws0
theorem mss75_ok : All (SOkM Try.prog false) mss75 := All.cons c_vec_Square_ok mss74_ok
theorem menv80_ok : menv80.Ok Try.prog false := mkEnvM_ok mxs_ok mss75_ok mws0_ok
-- tumble/mass.about
theorem ann_mass_about : FnOk Try.prog false 0 Try.f39 Ann.no := (fnNo _)
def s_mass_about_0 (l g m B D C : Nat) : Nat := (fadd g (fmul l (s_vec_Square_0 (s_vec_Sub_0 D C m B) (s_vec_Sub_1 D C m B))))
theorem e_mass_about (l g m B D C : Nat) : outB (evFnM Try.prog false menv80 [] [] 96 Ann.no Try.f39 [AV.agg [AV.float l, AV.float g, AV.float m, AV.float B], AV.agg [AV.float D, AV.float C]] []) = some (true, AV.float (s_mass_about_0 l g m B D C)) := by kernel_rfl
def S_mass_about : List AV → Option (Ob × AV)
  | [AV.agg [AV.float l, AV.float g, AV.float m, AV.float B], AV.agg [AV.float D, AV.float C]] => some (Ob.tt, AV.float (s_mass_about_0 l g m B D C))
  | _ => none
theorem t_mass_about : SOkM Try.prog false (39, fun args => match S_mass_about args with | some (o, v) => some (o, v, []) | none => none) := SOkM.flat (N := 96) menv80_ok Try.func39 ann_mass_about Try.call39 fun args o v h ho => by
  unfold S_mass_about at h
  split at h
  · rename_i l g m B D C
    cases h
    have ho2 := ho
    have this := show outB (evFnM Try.prog false menv80 [] [] 96 Ann.no Try.f39 [AV.agg [AV.float l, AV.float g, AV.float m, AV.float B], AV.agg [AV.float D, AV.float C]] []) = _ from e_mass_about l g m B D C
    exact ⟨this, rfl⟩
  · cases h
def c_mass_about : SFM := fun args => match S_mass_about args with | some (o, v) => some (o, v, []) | none => none
theorem c_mass_about_ok : SOkM Try.prog false (39, c_mass_about) := t_mass_about
def mss76 : List (FuncId × SFM) := (39, c_mass_about) :: mss75
def menv81 : EnvM := mkEnvM mxs mss76 mws0
theorem mss76_ok : All (SOkM Try.prog false) mss76 := All.cons c_mass_about_ok mss75_ok
theorem menv81_ok : menv81.Ok Try.prog false := mkEnvM_ok mxs_ok mss76_ok mws0_ok
-- tumble/mass.Join$4
theorem ann_mass_Join_4 : FnOk Try.prog false 0 Try.f38 Ann.no := (fnNo _)
def s_mass_Join_4_0 (l g m B D C : Nat) : Nat := (s_mass_about_0 l g m B D C)
theorem e_mass_Join_4 (l g m B D C : Nat) : outB (evFnM Try.prog false menv81 [] [] 96 Ann.no Try.f38 [AV.agg [AV.float l, AV.float g, AV.float m, AV.float B], AV.vptr [AV.float D, AV.float C]] []) = some (true, AV.float (s_mass_Join_4_0 l g m B D C)) := by kernel_rfl
def S_mass_Join_4 : List AV → Option (Ob × AV)
  | [AV.agg [AV.float l, AV.float g, AV.float m, AV.float B], AV.vptr [AV.float D, AV.float C]] => some (Ob.tt, AV.float (s_mass_Join_4_0 l g m B D C))
  | _ => none
theorem t_mass_Join_4 : SOkM Try.prog false (38, fun args => match S_mass_Join_4 args with | some (o, v) => some (o, v, []) | none => none) := SOkM.flat (N := 96) menv81_ok Try.func38 ann_mass_Join_4 Try.call38 fun args o v h ho => by
  unfold S_mass_Join_4 at h
  split at h
  · rename_i l g m B D C
    cases h
    have ho2 := ho
    have this := show outB (evFnM Try.prog false menv81 [] [] 96 Ann.no Try.f38 [AV.agg [AV.float l, AV.float g, AV.float m, AV.float B], AV.vptr [AV.float D, AV.float C]] []) = _ from e_mass_Join_4 l g m B D C
    exact ⟨this, rfl⟩
  · cases h
def c_mass_Join_4 : SFM := fun args => match S_mass_Join_4 args with | some (o, v) => some (o, v, []) | none => none
theorem c_mass_Join_4_ok : SOkM Try.prog false (38, c_mass_Join_4) := t_mass_Join_4
def mss77 : List (FuncId × SFM) := (38, c_mass_Join_4) :: mss76
def menv82 : EnvM := mkEnvM mxs mss77 mws0
theorem mss77_ok : All (SOkM Try.prog false) mss77 := All.cons c_mass_Join_4_ok mss76_ok
theorem menv82_ok : menv82.Ok Try.prog false := mkEnvM_ok mxs_ok mss77_ok mws0_ok
-- tumble/mass.sum
-- a loop of tumble/mass.sum
structure V_mass_sum_v3_L0 where
  v0 : Int
  v1 : (Nat → Nat)
def tpl_mass_sum_v3_L0 : List AV := (AV.top :: AV.nul :: AV.top :: AV.top :: AV.top :: AV.nul :: AV.top :: AV.top :: AV.top :: AV.top :: AV.top :: AV.nul :: AV.nul :: AV.nul :: tpA 13 ([]))
def cts_mass_sum_v3_L0 : List CT := [CT.keep]
def phs_mass_sum_v3_L0 : List Src := []
def T_mass_sum_v3_L0 (e k j : Nat) (q r p F : Nat → Nat) (E : Int) (x : V_mass_sum_v3_L0) (F0 F1 : Nat → List AV) : List AV × Heap := ((AV.top :: AV.func 38 [] [AV.vptr [AV.float e, AV.float k]] :: AV.top :: AV.top :: AV.top :: AV.lst 0 0 1 j j :: AV.top :: AV.top :: AV.top :: AV.top :: AV.top :: AV.view j 4 F0 :: AV.int .i64 E :: AV.int .i64 x.v0 :: tpA 13 ([])), [⟨.sym j 1 F1, 24, 0⟩])
def sh_mass_sum_v3_L0 (e k j : Nat) (q r p F : Nat → Nat) (E : Int) (x : V_mass_sum_v3_L0) : List AV × Heap := T_mass_sum_v3_L0 e k j q r p F E x (fun j0 => [AV.float (q j0), AV.float (r j0), AV.float (p j0), AV.float (F j0)]) (fun j0 => [AV.float (x.v1 j0)])
def step_mass_sum_v3_L0 (e k j : Nat) (q r p F : Nat → Nat) (E : Int) (x : V_mass_sum_v3_L0) : V_mass_sum_v3_L0 := V_mass_sum_v3_L0.mk (IntKind.wrap .i64 (x.v0 + (1 : Int))) (fun j0 => (bif (Nat.beq j0 (Int.toNat x.v0)) then (s_mass_Join_4_0 (q (Int.toNat x.v0)) (r (Int.toNat x.v0)) (p (Int.toNat x.v0)) (F (Int.toNat x.v0)) e k) else (x.v1 j0)))
def go_mass_sum_v3_L0 (e k j : Nat) (q r p F : Nat → Nat) (E : Int) (x : V_mass_sum_v3_L0) : Bool := (bif (!(ilt x.v0 E)) then false else true)
def ok_mass_sum_v3_L0 (e k j : Nat) (q r p F : Nat → Nat) (E : Int) (x : V_mass_sum_v3_L0) : Bool := (mrgB (!(ilt x.v0 E)) true ((Nat.blt (Int.toNat x.v0) j) && (((ile (0 : Int) x.v0) && (Nat.blt (Int.toNat x.v0) j)) && ((ile (0 : Int) x.v0) && (Nat.blt (Int.toNat x.v0) j)))))
def L_mass_sum_v3_L0 (e k j : Nat) (q r p F : Nat → Nat) (E : Int) (x : V_mass_sum_v3_L0) : V_mass_sum_v3_L0 := lastL (ok_mass_sum_v3_L0 e k j q r p F E) (go_mass_sum_v3_L0 e k j q r p F E) (step_mass_sum_v3_L0 e k j q r p F E) x
def E_mass_sum_v3_L0 (e k j : Nat) (q r p F : Nat → Nat) (E : Int) (x : V_mass_sum_v3_L0) : Bool := endsL (ok_mass_sum_v3_L0 e k j q r p F E) (go_mass_sum_v3_L0 e k j q r p F E) (step_mass_sum_v3_L0 e k j q r p F E) x
theorem all_mass_sum_v3_L0 (e k j : Nat) (q r p F : Nat → Nat) (E : Int) (x : V_mass_sum_v3_L0) : rnd Try.prog false menv82 [] [] 96 Ann.no (subC [1, 1, 0, 1, 0, 0] (codeOf Try.f34)) 0 [⟨some 0, 0, 0, []⟩] tpl_mass_sum_v3_L0 cts_mass_sum_v3_L0 (true :: false :: true :: true :: true :: false :: true :: true :: true :: true :: true :: false :: false :: tpB 14 ([])) [true] (sh_mass_sum_v3_L0 e k j q r p F E x) = (true, true, go_mass_sum_v3_L0 e k j q r p F E x, ok_mass_sum_v3_L0 e k j q r p F E x, true, sh_mass_sum_v3_L0 e k j q r p F E (step_mass_sum_v3_L0 e k j q r p F E x), true) := by kernel_rfl
def fam_mass_sum_v3_L0 (e k j : Nat) (q r p F : Nat → Nat) (E : Int) : Fam Try.prog false menv82 [] [] 96 0 Ann.no (subC [1, 1, 0, 1, 0, 0] (codeOf Try.f34)) V_mass_sum_v3_L0 where
  sh := sh_mass_sum_v3_L0 e k j q r p F E
  ok := ok_mass_sum_v3_L0 e k j q r p F E
  go := go_mass_sum_v3_L0 e k j q r p F E
  step := step_mass_sum_v3_L0 e k j q r p F E
  chg := (true :: false :: true :: true :: true :: false :: true :: true :: true :: true :: true :: false :: false :: tpB 14 ([]))
  chgH := [true]
  tpl := tpl_mass_sum_v3_L0
  cts := cts_mass_sum_v3_L0
  keep := 0
  srcs := [⟨some 0, 0, 0, []⟩]
  ann := (annNo (subC [1, 1, 0, 1, 0, 0] (codeOf Try.f34)))
  le := by kernel_rfl
  kept := by kernel_rfl
  keptB := by kernel_rfl
  all := all_mass_sum_v3_L0 e k j q r p F E
  len := fun x => by kernel_rfl
  head := fun x y => by kernel_rfl
  con := fun x y => by kernel_rfl
  conH := fun x y => by kernel_rfl
def F_mass_sum_v3_L0 : St → Option Ch := fun s => cond (Nat.beq s.tm.length 27 && Nat.beq s.H.length 1) (tkTops 1 (alL tpl_mass_sum_v3_L0 s.tm) fun t0 => tkCons t0 fun g t1 => tkFunc 38 g fun l2 l3 => tkNil l2 <| tkCons l3 fun D t4 => tkVptr D fun l5 => tkCons l5 fun K t6 => tkF K fun s0 => tkCons t6 fun I t7 => tkF I fun s1 => tkNil t7 <| tkNil t4 <| tkTops 3 t1 fun t8 => tkCons t8 fun G t9 => tkLst 0 0 1 G fun s2 s3 => tkTops 5 t9 fun t10 => tkCons t10 fun L t11 => tkView 4 L fun s4 f0 => tkCons t11 fun M t12 => tkI .i64 M fun s9 => tkCons t12 fun O t13 => tkI .i64 O fun s10 => tkTops 13 t13 fun t14 => tkNil t14 <| tkCons (alH cts_mass_sum_v3_L0 (s.H ++ List.map phan phs_mass_sum_v3_L0)) fun b15 t15 => tkSym 24 0 1 b15 fun s11 f1 => tkNil t15 <| Fam.out (fam_mass_sum_v3_L0 s0 s1 s2 (fL f0 0) (fL f0 1) (fL f0 2) (fL f0 3) s9) s (((((allB fun i => isNrm [Ck.f, Ck.f, Ck.f, Ck.f] (f0 i)) && (allB fun i => isNrm [Ck.f] (f1 i))) && (eqT s3 s2)) && (eqT s4 s2)) && (eqT s11 s2)) (V_mass_sum_v3_L0.mk s10 (fL f1 0))) none
theorem F_mass_sum_v3_L0_ok : ∀ s ch, F_mass_sum_v3_L0 s = some ch → AllI s ch ∧ LoopSpec Try.prog false 0 (subC [1, 1, 0, 1, 0, 0] (codeOf Try.f34)) s (sel ch) := by
  intro s ch h
  unfold F_mass_sum_v3_L0 at h
  obtain ⟨hl, h0⟩ := cond_some h rfl
  clear h
  obtain ⟨hl, hb⟩ := and_beq2 hl
  obtain ⟨t0, e0, h1⟩ := tkTops_some h0
  obtain ⟨g, t1, rfl, h2⟩ := tkCons_some h1
  obtain ⟨l2, l3, rfl, h3⟩ := tkFunc_some h2
  obtain ⟨rfl, h4⟩ := tkNil_some h3
  obtain ⟨D, t4, rfl, h5⟩ := tkCons_some h4
  obtain ⟨l5, rfl, h6⟩ := tkVptr_some h5
  obtain ⟨K, t6, rfl, h7⟩ := tkCons_some h6
  obtain ⟨s0, rfl, h8⟩ := tkF_some h7
  obtain ⟨I, t7, rfl, h9⟩ := tkCons_some h8
  obtain ⟨s1, rfl, h10⟩ := tkF_some h9
  obtain ⟨rfl, h11⟩ := tkNil_some h10
  obtain ⟨rfl, h12⟩ := tkNil_some h11
  obtain ⟨t8, rfl, h13⟩ := tkTops_some h12
  obtain ⟨G, t9, rfl, h14⟩ := tkCons_some h13
  obtain ⟨s2, s3, rfl, h15⟩ := tkLst_some h14
  obtain ⟨t10, rfl, h16⟩ := tkTops_some h15
  obtain ⟨L, t11, rfl, h17⟩ := tkCons_some h16
  obtain ⟨s4, f0, rfl, h18⟩ := tkView_some h17
  obtain ⟨M, t12, rfl, h19⟩ := tkCons_some h18
  obtain ⟨s9, rfl, h20⟩ := tkI_some h19
  obtain ⟨O, t13, rfl, h21⟩ := tkCons_some h20
  obtain ⟨s10, rfl, h22⟩ := tkI_some h21
  obtain ⟨t14, rfl, h23⟩ := tkTops_some h22
  obtain ⟨rfl, h24⟩ := tkNil_some h23
  obtain ⟨b15, t15, eH, h25⟩ := tkCons_some h24
  obtain ⟨s11, f1, rfl, h26⟩ := tkSym_some h25
  obtain ⟨rfl, h27⟩ := tkNil_some h26
  refine Fam.spec menv82_ok (fam_mass_sum_v3_L0 s0 s1 s2 (fL f0 0) (fL f0 1) (fL f0 2) (fL f0 3) s9) (phs := phs_mass_sum_v3_L0) (hl.trans (by kernel_rfl)) (hb.trans (by kernel_rfl)) ?_ ?_ h27
  · rw [← hdr_alH cts_mass_sum_v3_L0 (s.H ++ List.map phan phs_mass_sum_v3_L0), eH]; kernel_rfl
  · intro hq
    simp only [Bool.and_eq_true] at hq
    obtain ⟨⟨⟨⟨hq0, hq1⟩, hq2⟩, hq3⟩, hq4⟩ := hq
    have n0 := nrm_fun hq0
    have n1 := nrm_fun hq1
    have hx := eqT_eq hq2; subst s3
    have hx := eqT_eq hq3; subst s4
    have hx := eqT_eq hq4; subst s11
    show sh_mass_sum_v3_L0 s0 s1 s2 (fL f0 0) (fL f0 1) (fL f0 2) (fL f0 3) s9 (V_mass_sum_v3_L0.mk s10 (fL f1 0)) = (alL tpl_mass_sum_v3_L0 s.tm, alH cts_mass_sum_v3_L0 (s.H ++ List.map phan phs_mass_sum_v3_L0))
    rw [e0, eH]
    refine Eq.trans (show sh_mass_sum_v3_L0 s0 s1 s2 (fL f0 0) (fL f0 1) (fL f0 2) (fL f0 3) s9 (V_mass_sum_v3_L0.mk s10 (fL f1 0)) = T_mass_sum_v3_L0 s0 s1 s2 (fL f0 0) (fL f0 1) (fL f0 2) (fL f0 3) s9 (V_mass_sum_v3_L0.mk s10 (fL f1 0)) (fun i => mkN [Ck.f, Ck.f, Ck.f, Ck.f] (f0 i) 0) (fun i => mkN [Ck.f] (f1 i) 0) by kernel_rfl) ?_
    rw [n0, n1]
    kernel_rfl
theorem ann_mass_sum_v3 : FnOk Try.prog false 0 Try.f34 (Ann.two Ann.no (Ann.two Ann.no (Ann.two (Ann.two Ann.no (Ann.one (Ann.loop F_mass_sum_v3_L0))) Ann.no))) := (fnOk_of (c := codeOf Try.f34) (by kernel_rfl) (annSeq (a := (subC [0] (codeOf Try.f34))) (b := (subC [1] (codeOf Try.f34))) (by kernel_rfl) (annNo (subC [0] (codeOf Try.f34))) (annSeq (a := (subC [1, 0] (codeOf Try.f34))) (b := (subC [1, 1] (codeOf Try.f34))) (by kernel_rfl) (annNo (subC [1, 0] (codeOf Try.f34))) (annSeq (a := (subC [1, 1, 0] (codeOf Try.f34))) (b := (subC [1, 1, 1] (codeOf Try.f34))) (by kernel_rfl) (annSeq (a := (subC [1, 1, 0, 0] (codeOf Try.f34))) (b := (subC [1, 1, 0, 1] (codeOf Try.f34))) (by kernel_rfl) (annNo (subC [1, 1, 0, 0] (codeOf Try.f34))) (annBlock (a := (subC [1, 1, 0, 1, 0] (codeOf Try.f34))) (i := 0) (by kernel_rfl) (annLoop (a := (subC [1, 1, 0, 1, 0, 0] (codeOf Try.f34))) (by kernel_rfl) F_mass_sum_v3_L0_ok))) (annNo (subC [1, 1, 1] (codeOf Try.f34)))))))
def s_mass_sum_v3_0 (d : Nat) (n t u z : Nat → Nat) (g m : Nat) : Nat := (s_num_Sum_0 d ((L_mass_sum_v3_L0 g m d n t u z (Int.ofNat d) (V_mass_sum_v3_L0.mk (0 : Int) (fun j0 => 0))).v1))
def q_mass_sum_v3 (d : Nat) (n t u z : Nat → Nat) (g m : Nat) : Bool := (((Nat.ble d d) && ((allB fun _ => true) && (o_num_Sum d ((L_mass_sum_v3_L0 g m d n t u z (Int.ofNat d) (V_mass_sum_v3_L0.mk (0 : Int) (fun j0 => 0))).v1)))) && (((ile (Int.ofNat d) (Int.ofNat d)) && ((ile ((8 : Int) * (Int.ofNat d)) (281474976710656 : Int)) && (ile (Int.ofNat d) (9223372036854775807 : Int)))) && ((((((allB fun _ => true) && (allB fun _ => true)) && (eqT d d)) && (eqT d d)) && (eqT d d)) && (E_mass_sum_v3_L0 g m d n t u z (Int.ofNat d) (V_mass_sum_v3_L0.mk (0 : Int) (fun j0 => 0))))))
theorem e_mass_sum_v3 (d : Nat) (n t u z : Nat → Nat) (g m : Nat) : outB (evFnM Try.prog false menv82 [] [] 96 (Ann.two Ann.no (Ann.two Ann.no (Ann.two (Ann.two Ann.no (Ann.one (Ann.loop F_mass_sum_v3_L0))) Ann.no))) Try.f34 [AV.view d 4 (fun i0 => [AV.float (n i0), AV.float (t i0), AV.float (u i0), AV.float (z i0)]), AV.func 38 [] [AV.vptr [AV.float g, AV.float m]]] []) = some (q_mass_sum_v3 d n t u z g m, AV.float (s_mass_sum_v3_0 d n t u z g m)) := by kernel_rfl
def o_mass_sum_v3 (d : Nat) (n t u z : Nat → Nat) (g m : Nat) : Bool := (((Nat.ble d d) && (o_num_Sum d ((L_mass_sum_v3_L0 g m d n t u z (Int.ofNat d) (V_mass_sum_v3_L0.mk (0 : Int) (fun j0 => 0))).v1))) && (((ile (Int.ofNat d) (Int.ofNat d)) && ((ile ((8 : Int) * (Int.ofNat d)) (281474976710656 : Int)) && (ile (Int.ofNat d) (9223372036854775807 : Int)))) && (E_mass_sum_v3_L0 g m d n t u z (Int.ofNat d) (V_mass_sum_v3_L0.mk (0 : Int) (fun j0 => 0)))))
def S_mass_sum_v3 : List AV → Option (Ob × AV)
  | [AV.view d 4 A, AV.func 38 [] [AV.vptr [AV.float g, AV.float m]]] => some (Ob.both (Ob.bit (allB fun i => isNrm [Ck.f, Ck.f, Ck.f, Ck.f] (A i))) (Ob.bit (o_mass_sum_v3 d (fL A 0) (fL A 1) (fL A 2) (fL A 3) g m)), AV.float (s_mass_sum_v3_0 d (fL A 0) (fL A 1) (fL A 2) (fL A 3) g m))
  | _ => none
theorem ob_mass_sum_v3 (d : Nat) (n t u z : Nat → Nat) (g m : Nat) (ho : o_mass_sum_v3 d n t u z g m = true) : q_mass_sum_v3 d n t u z g m = true := by
  unfold q_mass_sum_v3
  unfold o_mass_sum_v3 at ho
  simp only [allB_true, eqT_self, mrgB_self, Bool.true_and, Bool.and_true] at ho ⊢
  exact ho
theorem t_mass_sum_v3 : SOkM Try.prog false (34, fun args => match S_mass_sum_v3 args with | some (o, v) => some (o, v, []) | none => none) := SOkM.flat (N := 96) menv82_ok Try.func34 ann_mass_sum_v3 Try.call34 fun args o v h ho => by
  unfold S_mass_sum_v3 at h
  split at h
  · rename_i d A g m
    cases h
    rw [Ob.both_ok, Bool.and_eq_true] at ho
    obtain ⟨hn, ho2⟩ := ho
    have n0 := hn
    simp only [Ob.ok] at n0
    replace n0 := nrm_fun n0
    have this := show outB (evFnM Try.prog false menv82 [] [] 96 (Ann.two Ann.no (Ann.two Ann.no (Ann.two (Ann.two Ann.no (Ann.one (Ann.loop F_mass_sum_v3_L0))) Ann.no))) Try.f34 [AV.view d 4 (fun i => mkN [Ck.f, Ck.f, Ck.f, Ck.f] (A i) 0), AV.func 38 [] [AV.vptr [AV.float g, AV.float m]]] []) = _ from e_mass_sum_v3 d (fL A 0) (fL A 1) (fL A 2) (fL A 3) g m
    rw [(ob_mass_sum_v3 d (fL A 0) (fL A 1) (fL A 2) (fL A 3) g m ho2)] at this
    rw [n0] at this
    exact ⟨this, rfl⟩
  · cases h
def c_mass_sum_v3 : SFM := altS (fun args => match S_mass_sum_v3 args with | some (o, v) => some (o, v, []) | none => none) (c_mass_sum_v2)
theorem c_mass_sum_v3_ok : SOkM Try.prog false (34, c_mass_sum_v3) := (SOkM.alt t_mass_sum_v3 c_mass_sum_v2_ok)
def mss78 : List (FuncId × SFM) := (34, c_mass_sum_v3) :: mss77
def menv83 : EnvM := mkEnvM mxs mss78 mws0
theorem mss78_ok : All (SOkM Try.prog false) mss78 := All.cons c_mass_sum_v3_ok mss77_ok
theorem menv83_ok : menv83.Ok Try.prog false := mkEnvM_ok mxs_ok mss78_ok mws0_ok
-- tumble/mass.checked
theorem ann_mass_checked : FnOk Try.prog false 0 Try.f40 Ann.no := (fnNo _)
def s_mass_checked_0 (l g m B : Nat) : Nat := (bif (!(ieq (s_mass_Check_0 l g m B) (0 : Int))) then 0 else l)
def s_mass_checked_1 (l g m B : Nat) : Nat := (bif (!(ieq (s_mass_Check_0 l g m B) (0 : Int))) then 0 else g)
def s_mass_checked_2 (l g m B : Nat) : Nat := (bif (!(ieq (s_mass_Check_0 l g m B) (0 : Int))) then 0 else m)
def s_mass_checked_3 (l g m B : Nat) : Nat := (bif (!(ieq (s_mass_Check_0 l g m B) (0 : Int))) then 0 else B)
def s_mass_checked_4 (l g m B : Nat) : Int := (bif (!(ieq (s_mass_Check_0 l g m B) (0 : Int))) then (s_mass_Check_0 l g m B) else (0 : Int))
theorem e_mass_checked (l g m B : Nat) : outB (evFnM Try.prog false menv83 [] [] 96 Ann.no Try.f40 [AV.agg [AV.float l, AV.float g, AV.float m, AV.float B]] []) = some (true, AV.tup [AV.agg [AV.float (s_mass_checked_0 l g m B), AV.float (s_mass_checked_1 l g m B), AV.float (s_mass_checked_2 l g m B), AV.float (s_mass_checked_3 l g m B)], AV.int .i64 (s_mass_checked_4 l g m B)]) := by kernel_rfl
def S_mass_checked : List AV → Option (Ob × AV)
  | [AV.agg [AV.float l, AV.float g, AV.float m, AV.float B]] => some (Ob.tt, AV.tup [AV.agg [AV.float (s_mass_checked_0 l g m B), AV.float (s_mass_checked_1 l g m B), AV.float (s_mass_checked_2 l g m B), AV.float (s_mass_checked_3 l g m B)], AV.int .i64 (s_mass_checked_4 l g m B)])
  | _ => none
theorem t_mass_checked : SOkM Try.prog false (40, fun args => match S_mass_checked args with | some (o, v) => some (o, v, []) | none => none) := SOkM.flat (N := 96) menv83_ok Try.func40 ann_mass_checked Try.call40 fun args o v h ho => by
  unfold S_mass_checked at h
  split at h
  · rename_i l g m B
    cases h
    have ho2 := ho
    have this := show outB (evFnM Try.prog false menv83 [] [] 96 Ann.no Try.f40 [AV.agg [AV.float l, AV.float g, AV.float m, AV.float B]] []) = _ from e_mass_checked l g m B
    exact ⟨this, rfl⟩
  · cases h
def c_mass_checked : SFM := fun args => match S_mass_checked args with | some (o, v) => some (o, v, []) | none => none
theorem c_mass_checked_ok : SOkM Try.prog false (40, c_mass_checked) := t_mass_checked
def mss79 : List (FuncId × SFM) := (40, c_mass_checked) :: mss78
def menv84 : EnvM := mkEnvM mxs mss79 mws0
theorem mss79_ok : All (SOkM Try.prog false) mss79 := All.cons c_mass_checked_ok mss78_ok
theorem menv84_ok : menv84.Ok Try.prog false := mkEnvM_ok mxs_ok mss79_ok mws0_ok
-- tumble/mass.Join
-- a loop of tumble/mass.Join
structure V_mass_Join_L0 where
  v0 : Int
def tpl_mass_Join_L0 : List AV := (AV.nul :: AV.top :: AV.nul :: tpA 13 (AV.nul :: AV.nul :: AV.nul :: tpA 46 ([])))
def cts_mass_Join_L0 : List CT := [CT.keep]
def phs_mass_Join_L0 : List Src := []
def T_mass_Join_L0 (e : Nat) (k j q r : Nat → Nat) (p : Int) (x : V_mass_Join_L0) (F0 F1 : Nat → List AV) : List AV × Heap := ((AV.view e 4 F0 :: AV.top :: AV.ptr (some ⟨0, 0, .lit 0⟩) :: tpA 13 (AV.view e 4 F1 :: AV.int .i64 p :: AV.int .i64 x.v0 :: tpA 46 ([]))), [⟨.flat [AV.float 0, AV.float 0, AV.float 0, AV.float 0], 28, 0⟩])
def sh_mass_Join_L0 (e : Nat) (k j q r : Nat → Nat) (p : Int) (x : V_mass_Join_L0) : List AV × Heap := T_mass_Join_L0 e k j q r p x (fun j0 => [AV.float (k j0), AV.float (j j0), AV.float (q j0), AV.float (r j0)]) (fun j0 => [AV.float (k j0), AV.float (j j0), AV.float (q j0), AV.float (r j0)])
def step_mass_Join_L0 (e : Nat) (k j q r : Nat → Nat) (p : Int) (x : V_mass_Join_L0) : V_mass_Join_L0 := V_mass_Join_L0.mk (IntKind.wrap .i64 (x.v0 + (1 : Int)))
def go_mass_Join_L0 (e : Nat) (k j q r : Nat → Nat) (p : Int) (x : V_mass_Join_L0) : Bool := (bif (bif (!(ilt x.v0 p)) then false else (!(ieq (s_mass_Check_0 (k (Int.toNat x.v0)) (j (Int.toNat x.v0)) (q (Int.toNat x.v0)) (r (Int.toNat x.v0))) (0 : Int)))) then false else (bif (!(ilt x.v0 p)) then false else true))
def ok_mass_Join_L0 (e : Nat) (k j q r : Nat → Nat) (p : Int) (x : V_mass_Join_L0) : Bool := (mrgB (bif (!(ilt x.v0 p)) then false else (!(ieq (s_mass_Check_0 (k (Int.toNat x.v0)) (j (Int.toNat x.v0)) (q (Int.toNat x.v0)) (r (Int.toNat x.v0))) (0 : Int)))) ((ile (0 : Int) x.v0) && (Nat.blt (Int.toNat x.v0) e)) (mrgB (!(ilt x.v0 p)) true ((ile (0 : Int) x.v0) && (Nat.blt (Int.toNat x.v0) e))))
def L_mass_Join_L0 (e : Nat) (k j q r : Nat → Nat) (p : Int) (x : V_mass_Join_L0) : V_mass_Join_L0 := lastL (ok_mass_Join_L0 e k j q r p) (go_mass_Join_L0 e k j q r p) (step_mass_Join_L0 e k j q r p) x
def E_mass_Join_L0 (e : Nat) (k j q r : Nat → Nat) (p : Int) (x : V_mass_Join_L0) : Bool := endsL (ok_mass_Join_L0 e k j q r p) (go_mass_Join_L0 e k j q r p) (step_mass_Join_L0 e k j q r p) x
theorem all_mass_Join_L0 (e : Nat) (k j q r : Nat → Nat) (p : Int) (x : V_mass_Join_L0) : rnd Try.prog false menv84 [] [] 96 Ann.no (subC [1, 1, 0, 1, 0, 0] (codeOf Try.f10)) 0 [⟨some 0, 0, 0, []⟩] tpl_mass_Join_L0 cts_mass_Join_L0 (false :: true :: false :: tpB 13 (false :: false :: tpB 47 ([]))) [true] (sh_mass_Join_L0 e k j q r p x) = (true, true, go_mass_Join_L0 e k j q r p x, ok_mass_Join_L0 e k j q r p x, true, sh_mass_Join_L0 e k j q r p (step_mass_Join_L0 e k j q r p x), true) := by kernel_rfl
def fam_mass_Join_L0 (e : Nat) (k j q r : Nat → Nat) (p : Int) : Fam Try.prog false menv84 [] [] 96 0 Ann.no (subC [1, 1, 0, 1, 0, 0] (codeOf Try.f10)) V_mass_Join_L0 where
  sh := sh_mass_Join_L0 e k j q r p
  ok := ok_mass_Join_L0 e k j q r p
  go := go_mass_Join_L0 e k j q r p
  step := step_mass_Join_L0 e k j q r p
  chg := (false :: true :: false :: tpB 13 (false :: false :: tpB 47 ([])))
  chgH := [true]
  tpl := tpl_mass_Join_L0
  cts := cts_mass_Join_L0
  keep := 0
  srcs := [⟨some 0, 0, 0, []⟩]
  ann := (annNo (subC [1, 1, 0, 1, 0, 0] (codeOf Try.f10)))
  le := by kernel_rfl
  kept := by kernel_rfl
  keptB := by kernel_rfl
  all := all_mass_Join_L0 e k j q r p
  len := fun x => by kernel_rfl
  head := fun x y => by kernel_rfl
  con := fun x y => by kernel_rfl
  conH := fun x y => by kernel_rfl
def F_mass_Join_L0 : St → Option Ch := fun s => cond (Nat.beq s.tm.length 65 && Nat.beq s.H.length 1) (tkCons (alL tpl_mass_Join_L0 s.tm) fun l t0 => tkView 4 l fun s0 f0 => tkTops 1 t0 fun t1 => tkCons t1 fun m t2 => tkPtr 0 0 0 m <| tkTops 13 t2 fun t3 => tkCons t3 fun D t4 => tkView 4 D fun s5 f1 => tkCons t4 fun C t5 => tkI .i64 C fun s10 => tkCons t5 fun K t6 => tkI .i64 K fun s11 => tkTops 46 t6 fun t7 => tkNil t7 <| tkCons (alH cts_mass_Join_L0 (s.H ++ List.map phan phs_mass_Join_L0)) fun b8 t8 => tkFlat 28 0 b8 fun m8 => tkCons m8 fun G t9 => tkFL 0 G <| tkCons t9 fun P t10 => tkFL 0 P <| tkCons t10 fun L t11 => tkFL 0 L <| tkCons t11 fun M t12 => tkFL 0 M <| tkNil t12 <| tkNil t8 <| Fam.out (fam_mass_Join_L0 s0 (fL f0 0) (fL f0 1) (fL f0 2) (fL f0 3) s10) s (((allB fun i => isNrm [Ck.f, Ck.f, Ck.f, Ck.f] (f0 i)) && (eqT f1 f0)) && (eqT s5 s0)) (V_mass_Join_L0.mk s11)) none
theorem F_mass_Join_L0_ok : ∀ s ch, F_mass_Join_L0 s = some ch → AllI s ch ∧ LoopSpec Try.prog false 0 (subC [1, 1, 0, 1, 0, 0] (codeOf Try.f10)) s (sel ch) := by
  intro s ch h
  unfold F_mass_Join_L0 at h
  obtain ⟨hl, h0⟩ := cond_some h rfl
  clear h
  obtain ⟨hl, hb⟩ := and_beq2 hl
  obtain ⟨l, t0, e0, h1⟩ := tkCons_some h0
  obtain ⟨s0, f0, rfl, h2⟩ := tkView_some h1
  obtain ⟨t1, rfl, h3⟩ := tkTops_some h2
  obtain ⟨m, t2, rfl, h4⟩ := tkCons_some h3
  obtain ⟨rfl, h5⟩ := tkPtr_some h4
  obtain ⟨t3, rfl, h6⟩ := tkTops_some h5
  obtain ⟨D, t4, rfl, h7⟩ := tkCons_some h6
  obtain ⟨s5, f1, rfl, h8⟩ := tkView_some h7
  obtain ⟨C, t5, rfl, h9⟩ := tkCons_some h8
  obtain ⟨s10, rfl, h10⟩ := tkI_some h9
  obtain ⟨K, t6, rfl, h11⟩ := tkCons_some h10
  obtain ⟨s11, rfl, h12⟩ := tkI_some h11
  obtain ⟨t7, rfl, h13⟩ := tkTops_some h12
  obtain ⟨rfl, h14⟩ := tkNil_some h13
  obtain ⟨b8, t8, eH, h15⟩ := tkCons_some h14
  obtain ⟨m8, rfl, h16⟩ := tkFlat_some h15
  obtain ⟨G, t9, rfl, h17⟩ := tkCons_some h16
  obtain ⟨rfl, h18⟩ := tkFL_some h17
  obtain ⟨P, t10, rfl, h19⟩ := tkCons_some h18
  obtain ⟨rfl, h20⟩ := tkFL_some h19
  obtain ⟨L, t11, rfl, h21⟩ := tkCons_some h20
  obtain ⟨rfl, h22⟩ := tkFL_some h21
  obtain ⟨M, t12, rfl, h23⟩ := tkCons_some h22
  obtain ⟨rfl, h24⟩ := tkFL_some h23
  obtain ⟨rfl, h25⟩ := tkNil_some h24
  obtain ⟨rfl, h26⟩ := tkNil_some h25
  refine Fam.spec menv84_ok (fam_mass_Join_L0 s0 (fL f0 0) (fL f0 1) (fL f0 2) (fL f0 3) s10) (phs := phs_mass_Join_L0) (hl.trans (by kernel_rfl)) (hb.trans (by kernel_rfl)) ?_ ?_ h26
  · rw [← hdr_alH cts_mass_Join_L0 (s.H ++ List.map phan phs_mass_Join_L0), eH]; kernel_rfl
  · intro hq
    simp only [Bool.and_eq_true] at hq
    obtain ⟨⟨hq0, hq1⟩, hq2⟩ := hq
    have n0 := nrm_fun hq0
    have hx := eqT_eq hq1; subst f1
    have hx := eqT_eq hq2; subst s5
    show sh_mass_Join_L0 s0 (fL f0 0) (fL f0 1) (fL f0 2) (fL f0 3) s10 (V_mass_Join_L0.mk s11) = (alL tpl_mass_Join_L0 s.tm, alH cts_mass_Join_L0 (s.H ++ List.map phan phs_mass_Join_L0))
    rw [e0, eH]
    refine Eq.trans (show sh_mass_Join_L0 s0 (fL f0 0) (fL f0 1) (fL f0 2) (fL f0 3) s10 (V_mass_Join_L0.mk s11) = T_mass_Join_L0 s0 (fL f0 0) (fL f0 1) (fL f0 2) (fL f0 3) s10 (V_mass_Join_L0.mk s11) (fun i => mkN [Ck.f, Ck.f, Ck.f, Ck.f] (f0 i) 0) (fun i => mkN [Ck.f, Ck.f, Ck.f, Ck.f] (f0 i) 0) by kernel_rfl) ?_
    rw [n0]
    kernel_rfl
theorem ann_mass_Join : FnOk Try.prog false 0 Try.f10 (Ann.two Ann.no (Ann.two Ann.no (Ann.two (Ann.two Ann.no (Ann.one (Ann.loop F_mass_Join_L0))) Ann.no))) := (fnOk_of (c := codeOf Try.f10) (by kernel_rfl) (annSeq (a := (subC [0] (codeOf Try.f10))) (b := (subC [1] (codeOf Try.f10))) (by kernel_rfl) (annNo (subC [0] (codeOf Try.f10))) (annSeq (a := (subC [1, 0] (codeOf Try.f10))) (b := (subC [1, 1] (codeOf Try.f10))) (by kernel_rfl) (annNo (subC [1, 0] (codeOf Try.f10))) (annSeq (a := (subC [1, 1, 0] (codeOf Try.f10))) (b := (subC [1, 1, 1] (codeOf Try.f10))) (by kernel_rfl) (annSeq (a := (subC [1, 1, 0, 0] (codeOf Try.f10))) (b := (subC [1, 1, 0, 1] (codeOf Try.f10))) (by kernel_rfl) (annNo (subC [1, 1, 0, 0] (codeOf Try.f10))) (annBlock (a := (subC [1, 1, 0, 1, 0] (codeOf Try.f10))) (i := 0) (by kernel_rfl) (annLoop (a := (subC [1, 1, 0, 1, 0, 0] (codeOf Try.f10))) (by kernel_rfl) F_mass_Join_L0_ok))) (annNo (subC [1, 1, 1] (codeOf Try.f10)))))))
def s_mass_Join_0 (d : Nat) (n t u z : Nat → Nat) : Nat := let x0 := s_mass_sum_0 d n t u z; let x1 := fdiv (s_mass_sum_v2_0 d n t u z) x0; let x2 := fdiv (s_mass_sum_v1_0 d n t u z) x0; let x3 := ieq (Int.ofNat d) (0 : Int); let x4 := (L_mass_Join_L0 d n t u z (Int.ofNat d) (V_mass_Join_L0.mk (0 : Int))).v0; let x5 := Int.toNat x4; (bif (ilt (16384 : Int) (Int.ofNat d)) then 0 else (bif (bif (!(ilt x4 (Int.ofNat d))) then false else (!(ieq (s_mass_Check_0 (n x5) (t x5) (u x5) (z x5)) (0 : Int)))) then 0 else (bif (x3 || (ieq (Int.ofNat d) (1 : Int))) then (bif x3 then 0 else (n 0)) else (bif (feq x0 0) then 0 else (s_mass_checked_0 x0 (s_mass_sum_v3_0 d n t u z x2 x1) x2 x1)))))
def s_mass_Join_1 (d : Nat) (n t u z : Nat → Nat) : Nat := let x0 := s_mass_sum_0 d n t u z; let x1 := fdiv (s_mass_sum_v2_0 d n t u z) x0; let x2 := fdiv (s_mass_sum_v1_0 d n t u z) x0; let x3 := ieq (Int.ofNat d) (0 : Int); let x4 := (L_mass_Join_L0 d n t u z (Int.ofNat d) (V_mass_Join_L0.mk (0 : Int))).v0; let x5 := Int.toNat x4; (bif (ilt (16384 : Int) (Int.ofNat d)) then 0 else (bif (bif (!(ilt x4 (Int.ofNat d))) then false else (!(ieq (s_mass_Check_0 (n x5) (t x5) (u x5) (z x5)) (0 : Int)))) then 0 else (bif (x3 || (ieq (Int.ofNat d) (1 : Int))) then (bif x3 then 0 else (t 0)) else (bif (feq x0 0) then 0 else (s_mass_checked_1 x0 (s_mass_sum_v3_0 d n t u z x2 x1) x2 x1)))))
def s_mass_Join_2 (d : Nat) (n t u z : Nat → Nat) : Nat := let x0 := s_mass_sum_0 d n t u z; let x1 := fdiv (s_mass_sum_v2_0 d n t u z) x0; let x2 := fdiv (s_mass_sum_v1_0 d n t u z) x0; let x3 := ieq (Int.ofNat d) (0 : Int); let x4 := (L_mass_Join_L0 d n t u z (Int.ofNat d) (V_mass_Join_L0.mk (0 : Int))).v0; let x5 := Int.toNat x4; (bif (ilt (16384 : Int) (Int.ofNat d)) then 0 else (bif (bif (!(ilt x4 (Int.ofNat d))) then false else (!(ieq (s_mass_Check_0 (n x5) (t x5) (u x5) (z x5)) (0 : Int)))) then 0 else (bif (x3 || (ieq (Int.ofNat d) (1 : Int))) then (bif x3 then 0 else (u 0)) else (bif (feq x0 0) then 0 else (s_mass_checked_2 x0 (s_mass_sum_v3_0 d n t u z x2 x1) x2 x1)))))
def s_mass_Join_3 (d : Nat) (n t u z : Nat → Nat) : Nat := let x0 := s_mass_sum_0 d n t u z; let x1 := fdiv (s_mass_sum_v2_0 d n t u z) x0; let x2 := fdiv (s_mass_sum_v1_0 d n t u z) x0; let x3 := ieq (Int.ofNat d) (0 : Int); let x4 := (L_mass_Join_L0 d n t u z (Int.ofNat d) (V_mass_Join_L0.mk (0 : Int))).v0; let x5 := Int.toNat x4; (bif (ilt (16384 : Int) (Int.ofNat d)) then 0 else (bif (bif (!(ilt x4 (Int.ofNat d))) then false else (!(ieq (s_mass_Check_0 (n x5) (t x5) (u x5) (z x5)) (0 : Int)))) then 0 else (bif (x3 || (ieq (Int.ofNat d) (1 : Int))) then (bif x3 then 0 else (z 0)) else (bif (feq x0 0) then 0 else (s_mass_checked_3 x0 (s_mass_sum_v3_0 d n t u z x2 x1) x2 x1)))))
def s_mass_Join_4 (d : Nat) (n t u z : Nat → Nat) : Int := let x0 := s_mass_sum_0 d n t u z; let x1 := fdiv (s_mass_sum_v2_0 d n t u z) x0; let x2 := fdiv (s_mass_sum_v1_0 d n t u z) x0; let x3 := ieq (Int.ofNat d) (0 : Int); let x4 := (L_mass_Join_L0 d n t u z (Int.ofNat d) (V_mass_Join_L0.mk (0 : Int))).v0; let x5 := Int.toNat x4; let x6 := s_mass_Check_0 (n x5) (t x5) (u x5) (z x5); (bif (ilt (16384 : Int) (Int.ofNat d)) then (4 : Int) else (bif (bif (!(ilt x4 (Int.ofNat d))) then false else (!(ieq x6 (0 : Int)))) then x6 else (bif (x3 || (ieq (Int.ofNat d) (1 : Int))) then (bif x3 then (0 : Int) else (0 : Int)) else (bif (feq x0 0) then (0 : Int) else (s_mass_checked_4 x0 (s_mass_sum_v3_0 d n t u z x2 x1) x2 x1)))))
def q_mass_Join (d : Nat) (n t u z : Nat → Nat) : Bool := (let x0 := (((allB fun _ => true) && (eqT (fun i => [AV.float (n i), AV.float (t i), AV.float (u i), AV.float (z i)]) (fun i => [AV.float (n i), AV.float (t i), AV.float (u i), AV.float (z i)]))) && (eqT d d)) && (E_mass_Join_L0 d n t u z (Int.ofNat d) (V_mass_Join_L0.mk (0 : Int))); let x1 := ((allB fun _ => true) && (o_mass_sum d n t u z)) && x0; let x2 := s_mass_sum_0 d n t u z; let x3 := ieq (Int.ofNat d) (0 : Int); let x4 := (L_mass_Join_L0 d n t u z (Int.ofNat d) (V_mass_Join_L0.mk (0 : Int))).v0; let x5 := Int.toNat x4; (mrgB (ilt (16384 : Int) (Int.ofNat d)) true (mrgB (bif (!(ilt x4 (Int.ofNat d))) then false else (!(ieq (s_mass_Check_0 (n x5) (t x5) (u x5) (z x5)) (0 : Int)))) x0 (mrgB (x3 || (ieq (Int.ofNat d) (1 : Int))) (mrgB x3 x0 ((Nat.blt 0 d) && x0)) (mrgB (feq x2 0) x1 (((allB fun _ => true) && (o_mass_sum_v3 d n t u z (fdiv (s_mass_sum_v1_0 d n t u z) x2) (fdiv (s_mass_sum_v2_0 d n t u z) x2))) && (((allB fun _ => true) && (o_mass_sum_v2 d n t u z)) && (((allB fun _ => true) && (o_mass_sum_v1 d n t u z)) && x1))))))))
theorem e_mass_Join (d : Nat) (n t u z : Nat → Nat) : outB (evFnM Try.prog false menv84 [] [] 96 (Ann.two Ann.no (Ann.two Ann.no (Ann.two (Ann.two Ann.no (Ann.one (Ann.loop F_mass_Join_L0))) Ann.no))) Try.f10 [AV.view d 4 (fun i0 => [AV.float (n i0), AV.float (t i0), AV.float (u i0), AV.float (z i0)])] []) = some (q_mass_Join d n t u z, AV.tup [AV.agg [AV.float (s_mass_Join_0 d n t u z), AV.float (s_mass_Join_1 d n t u z), AV.float (s_mass_Join_2 d n t u z), AV.float (s_mass_Join_3 d n t u z)], AV.int .i64 (s_mass_Join_4 d n t u z)]) := by kernel_rfl
def o_mass_Join (d : Nat) (n t u z : Nat → Nat) : Bool := let x0 := E_mass_Join_L0 d n t u z (Int.ofNat d) (V_mass_Join_L0.mk (0 : Int)); let x1 := (o_mass_sum d n t u z) && x0; let x2 := s_mass_sum_0 d n t u z; let x3 := ieq (Int.ofNat d) (0 : Int); let x4 := (L_mass_Join_L0 d n t u z (Int.ofNat d) (V_mass_Join_L0.mk (0 : Int))).v0; let x5 := Int.toNat x4; (mrgB (ilt (16384 : Int) (Int.ofNat d)) true (mrgB (bif (!(ilt x4 (Int.ofNat d))) then false else (!(ieq (s_mass_Check_0 (n x5) (t x5) (u x5) (z x5)) (0 : Int)))) x0 (mrgB (x3 || (ieq (Int.ofNat d) (1 : Int))) (mrgB x3 x0 ((Nat.blt 0 d) && x0)) (mrgB (feq x2 0) x1 ((o_mass_sum_v3 d n t u z (fdiv (s_mass_sum_v1_0 d n t u z) x2) (fdiv (s_mass_sum_v2_0 d n t u z) x2)) && ((o_mass_sum_v2 d n t u z) && ((o_mass_sum_v1 d n t u z) && x1)))))))
def S_mass_Join : List AV → Option (Ob × AV)
  | [AV.view d 4 A] => some (Ob.both (Ob.bit (allB fun i => isNrm [Ck.f, Ck.f, Ck.f, Ck.f] (A i))) (Ob.bit (o_mass_Join d (fL A 0) (fL A 1) (fL A 2) (fL A 3))), AV.tup [AV.agg [AV.float (s_mass_Join_0 d (fL A 0) (fL A 1) (fL A 2) (fL A 3)), AV.float (s_mass_Join_1 d (fL A 0) (fL A 1) (fL A 2) (fL A 3)), AV.float (s_mass_Join_2 d (fL A 0) (fL A 1) (fL A 2) (fL A 3)), AV.float (s_mass_Join_3 d (fL A 0) (fL A 1) (fL A 2) (fL A 3))], AV.int .i64 (s_mass_Join_4 d (fL A 0) (fL A 1) (fL A 2) (fL A 3))])
  | _ => none
theorem ob_mass_Join (d : Nat) (n t u z : Nat → Nat) (ho : o_mass_Join d n t u z = true) : q_mass_Join d n t u z = true := by
  unfold q_mass_Join
  unfold o_mass_Join at ho
  simp only [allB_true, eqT_self, mrgB_self, Bool.true_and, Bool.and_true] at ho ⊢
  exact ho
theorem t_mass_Join : SOkM Try.prog false (10, fun args => match S_mass_Join args with | some (o, v) => some (o, v, []) | none => none) := SOkM.flat (N := 96) menv84_ok Try.func10 ann_mass_Join Try.call10 fun args o v h ho => by
  unfold S_mass_Join at h
  split at h
  · rename_i d A
    cases h
    rw [Ob.both_ok, Bool.and_eq_true] at ho
    obtain ⟨hn, ho2⟩ := ho
    have n0 := hn
    simp only [Ob.ok] at n0
    replace n0 := nrm_fun n0
    have this := show outB (evFnM Try.prog false menv84 [] [] 96 (Ann.two Ann.no (Ann.two Ann.no (Ann.two (Ann.two Ann.no (Ann.one (Ann.loop F_mass_Join_L0))) Ann.no))) Try.f10 [AV.view d 4 (fun i => mkN [Ck.f, Ck.f, Ck.f, Ck.f] (A i) 0)] []) = _ from e_mass_Join d (fL A 0) (fL A 1) (fL A 2) (fL A 3)
    rw [(ob_mass_Join d (fL A 0) (fL A 1) (fL A 2) (fL A 3) ho2)] at this
    rw [n0] at this
    exact ⟨this, rfl⟩
  · cases h
def c_mass_Join : SFM := fun args => match S_mass_Join args with | some (o, v) => some (o, v, []) | none => none
theorem c_mass_Join_ok : SOkM Try.prog false (10, c_mass_Join) := t_mass_Join
def mss80 : List (FuncId × SFM) := (10, c_mass_Join) :: mss79
def menv85 : EnvM := mkEnvM mxs mss80 mws0
theorem mss80_ok : All (SOkM Try.prog false) mss80 := All.cons c_mass_Join_ok mss79_ok
theorem menv85_ok : menv85.Ok Try.prog false := mkEnvM_ok mxs_ok mss80_ok mws0_ok
-- tumble/mass.Of
def mws6 : List (FuncId × WFM) := (77, (inlWM Try.prog false menv85 [4294967295] [] 96 .no Try.f77 100000)) :: mws0
def menv86 : EnvM := mkEnvM mxs mss80 mws6
theorem mws6_ok : All (WOkM Try.prog false) mws6 := All.cons (WOkM.inl menv85_ok Try.func77 (fnNo _) Try.call77) mws0_ok
theorem menv86_ok : menv86.Ok Try.prog false := mkEnvM_ok mxs_ok mss80_ok mws6_ok
def mss81 : List (FuncId × SFM) := (58, (inlSM Try.prog false menv86 [4294967295] [] 96 .no Try.f58)) :: mss80
def menv87 : EnvM := mkEnvM mxs mss81 mws6
theorem mss81_ok : All (SOkM Try.prog false) mss81 := All.cons (SOkM.inl menv86_ok Try.func58 (fnNo _) Try.call58) mss80_ok
theorem menv87_ok : menv87.Ok Try.prog false := mkEnvM_ok mxs_ok mss81_ok mws6_ok
def mss82 : List (FuncId × SFM) := (22, (inlSM Try.prog false menv87 [4294967295] [] 96 .no Try.f22)) :: mss81
def menv88 : EnvM := mkEnvM mxs mss82 mws6
theorem mss82_ok : All (SOkM Try.prog false) mss82 := All.cons (SOkM.inl menv87_ok Try.func22 (fnNo _) Try.call22) mss81_ok
theorem menv88_ok : menv88.Ok Try.prog false := mkEnvM_ok mxs_ok mss82_ok mws6_ok
def mss83 : List (FuncId × SFM) := (103, (inlSM Try.prog false menv88 [4294967295] [] 96 .no Try.f103)) :: mss82
def menv89 : EnvM := mkEnvM mxs mss83 mws6
theorem mss83_ok : All (SOkM Try.prog false) mss83 := All.cons (SOkM.inl menv88_ok Try.func103 (fnNo _) Try.call103) mss82_ok
theorem menv89_ok : menv89.Ok Try.prog false := mkEnvM_ok mxs_ok mss83_ok mws6_ok
def mss84 : List (FuncId × SFM) := (100, (inlSM Try.prog false menv89 [4294967295] [] 96 .no Try.f100)) :: mss83
def menv90 : EnvM := mkEnvM mxs mss84 mws6
theorem mss84_ok : All (SOkM Try.prog false) mss84 := All.cons (SOkM.inl menv89_ok Try.func100 (fnNo _) Try.call100) mss83_ok
theorem menv90_ok : menv90.Ok Try.prog false := mkEnvM_ok mxs_ok mss84_ok mws6_ok
def mws7 : List (FuncId × WFM) := (64, (inlWM Try.prog false menv90 [4294967295] [] 96 .no Try.f64 100000)) :: mws6
def menv91 : EnvM := mkEnvM mxs mss84 mws7
theorem mws7_ok : All (WOkM Try.prog false) mws7 := All.cons (WOkM.inl menv90_ok Try.func64 (fnNo _) Try.call64) mws6_ok
theorem menv91_ok : menv91.Ok Try.prog false := mkEnvM_ok mxs_ok mss84_ok mws7_ok
def mss85 : List (FuncId × SFM) := (30, (inlSM Try.prog false menv91 [4294967295] [] 96 .no Try.f30)) :: mss84
def menv92 : EnvM := mkEnvM mxs mss85 mws7
theorem mss85_ok : All (SOkM Try.prog false) mss85 := All.cons (SOkM.inl menv91_ok Try.func30 (fnNo _) Try.call30) mss84_ok
theorem menv92_ok : menv92.Ok Try.prog false := mkEnvM_ok mxs_ok mss85_ok mws7_ok
def mss86 : List (FuncId × SFM) := (73, (inlSM Try.prog false menv92 [4294967295] [] 96 .no Try.f73)) :: mss85
def menv93 : EnvM := mkEnvM mxs mss86 mws7
theorem mss86_ok : All (SOkM Try.prog false) mss86 := All.cons (SOkM.inl menv92_ok Try.func73 (fnNo _) Try.call73) mss85_ok
theorem menv93_ok : menv93.Ok Try.prog false := mkEnvM_ok mxs_ok mss86_ok mws7_ok
def mss87 : List (FuncId × SFM) := (59, (inlSM Try.prog false menv93 [4294967295] [] 96 .no Try.f59)) :: mss86
def menv94 : EnvM := mkEnvM mxs mss87 mws7
theorem mss87_ok : All (SOkM Try.prog false) mss87 := All.cons (SOkM.inl menv93_ok Try.func59 (fnNo _) Try.call59) mss86_ok
theorem menv94_ok : menv94.Ok Try.prog false := mkEnvM_ok mxs_ok mss87_ok mws7_ok
def mss88 : List (FuncId × SFM) := (70, (inlSM Try.prog false menv94 [4294967295] [] 96 .no Try.f70)) :: mss87
def menv95 : EnvM := mkEnvM mxs mss88 mws7
theorem mss88_ok : All (SOkM Try.prog false) mss88 := All.cons (SOkM.inl menv94_ok Try.func70 (fnNo _) Try.call70) mss87_ok
theorem menv95_ok : menv95.Ok Try.prog false := mkEnvM_ok mxs_ok mss88_ok mws7_ok
def mss89 : List (FuncId × SFM) := (49, (inlSM Try.prog false menv95 [4294967295] [] 96 .no Try.f49)) :: mss88
def menv96 : EnvM := mkEnvM mxs mss89 mws7
theorem mss89_ok : All (SOkM Try.prog false) mss89 := All.cons (SOkM.inl menv95_ok Try.func49 (fnNo _) Try.call49) mss88_ok
theorem menv96_ok : menv96.Ok Try.prog false := mkEnvM_ok mxs_ok mss89_ok mws7_ok
def mss90 : List (FuncId × SFM) := (17, (inlSM Try.prog false menv96 [4294967295] [] 96 .no Try.f17)) :: mss89
def menv97 : EnvM := mkEnvM mxs mss90 mws7
theorem mss90_ok : All (SOkM Try.prog false) mss90 := All.cons (SOkM.inl menv96_ok Try.func17 (fnNo _) Try.call17) mss89_ok
theorem menv97_ok : menv97.Ok Try.prog false := mkEnvM_ok mxs_ok mss90_ok mws7_ok
def mss91 : List (FuncId × SFM) := (40, (inlSM Try.prog false menv97 [4294967295] [] 96 .no Try.f40)) :: mss90
def menv98 : EnvM := mkEnvM mxs mss91 mws7
theorem mss91_ok : All (SOkM Try.prog false) mss91 := All.cons (SOkM.inl menv97_ok Try.func40 (fnNo _) Try.call40) mss90_ok
theorem menv98_ok : menv98.Ok Try.prog false := mkEnvM_ok mxs_ok mss91_ok mws7_ok
def a_mass_Of_c2 : List AV := [AV.agg [AV.int .u8 (1), AV.float 4607182418800017408, AV.view 1 2 (rowLst [[AV.float 0, AV.float 0]])], AV.float 4607182418800017408]
def r_mass_Of_c2 : AV := AV.tup [AV.agg [AV.float 4614256656552045848, AV.float 4609753056924675352, AV.float 0, AV.float 0], AV.int .i64 (0)]
theorem e_mass_Of_c2 : outB (evFnM Try.prog false menv98 [4294967295] [] 96 .no Try.f23 a_mass_Of_c2 []) = some (true, r_mass_Of_c2) := by kernel_rfl
def c_mass_Of_c2 : SFM := altS (litF a_mass_Of_c2 r_mass_Of_c2) (c_mass_Of_c1)
theorem c_mass_Of_c2_ok : SOkM Try.prog false (23, c_mass_Of_c2) := (SOkM.alt (SOkM.litF menv98_ok Try.func23 (fnNo _) Try.call23 e_mass_Of_c2 (by kernel_rfl)) c_mass_Of_c1_ok)
def mss92 : List (FuncId × SFM) := (23, c_mass_Of_c2) :: mss80
def menv99 : EnvM := mkEnvM mxs mss92 mws0
theorem mss92_ok : All (SOkM Try.prog false) mss92 := All.cons c_mass_Of_c2_ok mss80_ok
theorem menv99_ok : menv99.Ok Try.prog false := mkEnvM_ok mxs_ok mss92_ok mws0_ok
-- tumble/mass.Parts
def mss93 : List (FuncId × SFM) := (70, (inlSM Try.prog false menv99 [4294967295] [] 96 .no Try.f70)) :: mss92
def menv100 : EnvM := mkEnvM mxs mss93 mws0
theorem mss93_ok : All (SOkM Try.prog false) mss93 := All.cons (SOkM.inl menv99_ok Try.func70 (fnNo _) Try.call70) mss92_ok
theorem menv100_ok : menv100.Ok Try.prog false := mkEnvM_ok mxs_ok mss93_ok mws0_ok
def mss94 : List (FuncId × SFM) := (49, (inlSM Try.prog false menv100 [4294967295] [] 96 .no Try.f49)) :: mss93
def menv101 : EnvM := mkEnvM mxs mss94 mws0
theorem mss94_ok : All (SOkM Try.prog false) mss94 := All.cons (SOkM.inl menv100_ok Try.func49 (fnNo _) Try.call49) mss93_ok
theorem menv101_ok : menv101.Ok Try.prog false := mkEnvM_ok mxs_ok mss94_ok mws0_ok
def mss95 : List (FuncId × SFM) := (58, (inlSM Try.prog false menv101 [4294967295] [] 96 .no Try.f58)) :: mss94
def menv102 : EnvM := mkEnvM mxs mss95 mws0
theorem mss95_ok : All (SOkM Try.prog false) mss95 := All.cons (SOkM.inl menv101_ok Try.func58 (fnNo _) Try.call58) mss94_ok
theorem menv102_ok : menv102.Ok Try.prog false := mkEnvM_ok mxs_ok mss95_ok mws0_ok
def mss96 : List (FuncId × SFM) := (22, (inlSM Try.prog false menv102 [4294967295] [] 96 .no Try.f22)) :: mss95
def menv103 : EnvM := mkEnvM mxs mss96 mws0
theorem mss96_ok : All (SOkM Try.prog false) mss96 := All.cons (SOkM.inl menv102_ok Try.func22 (fnNo _) Try.call22) mss95_ok
theorem menv103_ok : menv103.Ok Try.prog false := mkEnvM_ok mxs_ok mss96_ok mws0_ok
def mss97 : List (FuncId × SFM) := (17, (inlSM Try.prog false menv103 [4294967295] [] 96 .no Try.f17)) :: mss96
def menv104 : EnvM := mkEnvM mxs mss97 mws0
theorem mss97_ok : All (SOkM Try.prog false) mss97 := All.cons (SOkM.inl menv103_ok Try.func17 (fnNo _) Try.call17) mss96_ok
theorem menv104_ok : menv104.Ok Try.prog false := mkEnvM_ok mxs_ok mss97_ok mws0_ok
def mss98 : List (FuncId × SFM) := (35, (inlSM Try.prog false menv104 [4294967295] [] 96 .no Try.f35)) :: mss97
def menv105 : EnvM := mkEnvM mxs mss98 mws0
theorem mss98_ok : All (SOkM Try.prog false) mss98 := All.cons (SOkM.inl menv104_ok Try.func35 (fnNo _) Try.call35) mss97_ok
theorem menv105_ok : menv105.Ok Try.prog false := mkEnvM_ok mxs_ok mss98_ok mws0_ok
def mss99 : List (FuncId × SFM) := (67, (inlSM Try.prog false menv105 [4294967295] [] 96 .no Try.f67)) :: mss98
def menv106 : EnvM := mkEnvM mxs mss99 mws0
theorem mss99_ok : All (SOkM Try.prog false) mss99 := All.cons (SOkM.inl menv105_ok Try.func67 (fnNo _) Try.call67) mss98_ok
theorem menv106_ok : menv106.Ok Try.prog false := mkEnvM_ok mxs_ok mss99_ok mws0_ok
def mss100 : List (FuncId × SFM) := (36, (inlSM Try.prog false menv106 [4294967295] [] 96 .no Try.f36)) :: mss99
def menv107 : EnvM := mkEnvM mxs mss100 mws0
theorem mss100_ok : All (SOkM Try.prog false) mss100 := All.cons (SOkM.inl menv106_ok Try.func36 (fnNo _) Try.call36) mss99_ok
theorem menv107_ok : menv107.Ok Try.prog false := mkEnvM_ok mxs_ok mss100_ok mws0_ok
def mss101 : List (FuncId × SFM) := (37, (inlSM Try.prog false menv107 [4294967295] [] 96 .no Try.f37)) :: mss100
def menv108 : EnvM := mkEnvM mxs mss101 mws0
theorem mss101_ok : All (SOkM Try.prog false) mss101 := All.cons (SOkM.inl menv107_ok Try.func37 (fnNo _) Try.call37) mss100_ok
theorem menv108_ok : menv108.Ok Try.prog false := mkEnvM_ok mxs_ok mss101_ok mws0_ok
def mss102 : List (FuncId × SFM) := (56, (inlSM Try.prog false menv108 [4294967295] [] 96 .no Try.f56)) :: mss101
def menv109 : EnvM := mkEnvM mxs mss102 mws0
theorem mss102_ok : All (SOkM Try.prog false) mss102 := All.cons (SOkM.inl menv108_ok Try.func56 (fnNo _) Try.call56) mss101_ok
theorem menv109_ok : menv109.Ok Try.prog false := mkEnvM_ok mxs_ok mss102_ok mws0_ok
def mss103 : List (FuncId × SFM) := (76, (inlSM Try.prog false menv109 [4294967295] [] 96 .no Try.f76)) :: mss102
def menv110 : EnvM := mkEnvM mxs mss103 mws0
theorem mss103_ok : All (SOkM Try.prog false) mss103 := All.cons (SOkM.inl menv109_ok Try.func76 (fnNo _) Try.call76) mss102_ok
theorem menv110_ok : menv110.Ok Try.prog false := mkEnvM_ok mxs_ok mss103_ok mws0_ok
def mss104 : List (FuncId × SFM) := (68, (inlSM Try.prog false menv110 [4294967295] [] 96 .no Try.f68)) :: mss103
def menv111 : EnvM := mkEnvM mxs mss104 mws0
theorem mss104_ok : All (SOkM Try.prog false) mss104 := All.cons (SOkM.inl menv110_ok Try.func68 (fnNo _) Try.call68) mss103_ok
theorem menv111_ok : menv111.Ok Try.prog false := mkEnvM_ok mxs_ok mss104_ok mws0_ok
def mss105 : List (FuncId × SFM) := (39, (inlSM Try.prog false menv111 [4294967295] [] 96 .no Try.f39)) :: mss104
def menv112 : EnvM := mkEnvM mxs mss105 mws0
theorem mss105_ok : All (SOkM Try.prog false) mss105 := All.cons (SOkM.inl menv111_ok Try.func39 (fnNo _) Try.call39) mss104_ok
theorem menv112_ok : menv112.Ok Try.prog false := mkEnvM_ok mxs_ok mss105_ok mws0_ok
def mss106 : List (FuncId × SFM) := (38, (inlSM Try.prog false menv112 [4294967295] [] 96 .no Try.f38)) :: mss105
def menv113 : EnvM := mkEnvM mxs mss106 mws0
theorem mss106_ok : All (SOkM Try.prog false) mss106 := All.cons (SOkM.inl menv112_ok Try.func38 (fnNo _) Try.call38) mss105_ok
theorem menv113_ok : menv113.Ok Try.prog false := mkEnvM_ok mxs_ok mss106_ok mws0_ok
def mss107 : List (FuncId × SFM) := (34, (inlSM Try.prog false menv113 [4294967295] [] 96 .no Try.f34)) :: mss106
def menv114 : EnvM := mkEnvM mxs mss107 mws0
theorem mss107_ok : All (SOkM Try.prog false) mss107 := All.cons (SOkM.inl menv113_ok Try.func34 (fnNo _) Try.call34) mss106_ok
theorem menv114_ok : menv114.Ok Try.prog false := mkEnvM_ok mxs_ok mss107_ok mws0_ok
def mss108 : List (FuncId × SFM) := (40, (inlSM Try.prog false menv114 [4294967295] [] 96 .no Try.f40)) :: mss107
def menv115 : EnvM := mkEnvM mxs mss108 mws0
theorem mss108_ok : All (SOkM Try.prog false) mss108 := All.cons (SOkM.inl menv114_ok Try.func40 (fnNo _) Try.call40) mss107_ok
theorem menv115_ok : menv115.Ok Try.prog false := mkEnvM_ok mxs_ok mss108_ok mws0_ok
def mss109 : List (FuncId × SFM) := (10, (inlSM Try.prog false menv115 [4294967295] [] 96 .no Try.f10)) :: mss108
def menv116 : EnvM := mkEnvM mxs mss109 mws0
theorem mss109_ok : All (SOkM Try.prog false) mss109 := All.cons (SOkM.inl menv115_ok Try.func10 (fnNo _) Try.call10) mss108_ok
theorem menv116_ok : menv116.Ok Try.prog false := mkEnvM_ok mxs_ok mss109_ok mws0_ok
def a_mass_Parts_c0 : List AV := [AV.view 8 9 (rowLst [[AV.int .u8 (1), AV.float 4607182418800017408, AV.view 1 2 (rowLst [[AV.float 0, AV.float 0]]), AV.float 4607182418800017408, AV.float 0, AV.float 0, AV.bool false, AV.int .u16 (0), AV.int .u16 (0)], [AV.int .u8 (1), AV.float 4607182418800017408, AV.view 1 2 (rowLst [[AV.float 0, AV.float 0]]), AV.float 4607182418800017408, AV.float 0, AV.float 0, AV.bool false, AV.int .u16 (0), AV.int .u16 (0)], [AV.int .u8 (1), AV.float 4607182418800017408, AV.view 1 2 (rowLst [[AV.float 0, AV.float 0]]), AV.float 4607182418800017408, AV.float 0, AV.float 0, AV.bool false, AV.int .u16 (0), AV.int .u16 (0)], [AV.int .u8 (1), AV.float 4607182418800017408, AV.view 1 2 (rowLst [[AV.float 0, AV.float 0]]), AV.float 4607182418800017408, AV.float 0, AV.float 0, AV.bool false, AV.int .u16 (0), AV.int .u16 (0)], [AV.int .u8 (1), AV.float 4607182418800017408, AV.view 1 2 (rowLst [[AV.float 0, AV.float 0]]), AV.float 4607182418800017408, AV.float 0, AV.float 0, AV.bool false, AV.int .u16 (0), AV.int .u16 (0)], [AV.int .u8 (1), AV.float 4607182418800017408, AV.view 1 2 (rowLst [[AV.float 0, AV.float 0]]), AV.float 4607182418800017408, AV.float 0, AV.float 0, AV.bool false, AV.int .u16 (0), AV.int .u16 (0)], [AV.int .u8 (1), AV.float 4607182418800017408, AV.view 1 2 (rowLst [[AV.float 0, AV.float 0]]), AV.float 4607182418800017408, AV.float 0, AV.float 0, AV.bool false, AV.int .u16 (0), AV.int .u16 (0)], [AV.int .u8 (1), AV.float 4607182418800017408, AV.view 1 2 (rowLst [[AV.float 0, AV.float 0]]), AV.float 4607182418800017408, AV.float 0, AV.float 0, AV.bool false, AV.int .u16 (0), AV.int .u16 (0)]])]
def r_mass_Parts_c0 : AV := AV.tup [AV.agg [AV.float 4627767455434157336, AV.float 4623263855806786840, AV.float 0, AV.float 0], AV.int .i64 (0)]
theorem e_mass_Parts_c0 : outB (evFnM Try.prog false menv116 [4294967295] [] 96 .no Try.f29 a_mass_Parts_c0 []) = some (true, r_mass_Parts_c0) := by kernel_rfl
def c_mass_Parts_c0 : SFM := litF a_mass_Parts_c0 r_mass_Parts_c0
theorem c_mass_Parts_c0_ok : SOkM Try.prog false (29, c_mass_Parts_c0) := (SOkM.litF menv116_ok Try.func29 (fnNo _) Try.call29 e_mass_Parts_c0 (by kernel_rfl))
def mss110 : List (FuncId × SFM) := (29, c_mass_Parts_c0) :: mss92
def menv117 : EnvM := mkEnvM mxs mss110 mws0
theorem mss110_ok : All (SOkM Try.prog false) mss110 := All.cons c_mass_Parts_c0_ok mss92_ok
theorem menv117_ok : menv117.Ok Try.prog false := mkEnvM_ok mxs_ok mss110_ok mws0_ok
-- tumble/mass.Parts
def a_mass_Parts_c1 : List AV := [AV.view 9 9 (rowLst [[AV.int .u8 (1), AV.float 4607182418800017408, AV.view 1 2 (rowLst [[AV.float 0, AV.float 0]]), AV.float 4607182418800017408, AV.float 0, AV.float 0, AV.bool false, AV.int .u16 (0), AV.int .u16 (0)], [AV.int .u8 (1), AV.float 4607182418800017408, AV.view 1 2 (rowLst [[AV.float 0, AV.float 0]]), AV.float 4607182418800017408, AV.float 0, AV.float 0, AV.bool false, AV.int .u16 (0), AV.int .u16 (0)], [AV.int .u8 (1), AV.float 4607182418800017408, AV.view 1 2 (rowLst [[AV.float 0, AV.float 0]]), AV.float 4607182418800017408, AV.float 0, AV.float 0, AV.bool false, AV.int .u16 (0), AV.int .u16 (0)], [AV.int .u8 (1), AV.float 4607182418800017408, AV.view 1 2 (rowLst [[AV.float 0, AV.float 0]]), AV.float 4607182418800017408, AV.float 0, AV.float 0, AV.bool false, AV.int .u16 (0), AV.int .u16 (0)], [AV.int .u8 (1), AV.float 4607182418800017408, AV.view 1 2 (rowLst [[AV.float 0, AV.float 0]]), AV.float 4607182418800017408, AV.float 0, AV.float 0, AV.bool false, AV.int .u16 (0), AV.int .u16 (0)], [AV.int .u8 (1), AV.float 4607182418800017408, AV.view 1 2 (rowLst [[AV.float 0, AV.float 0]]), AV.float 4607182418800017408, AV.float 0, AV.float 0, AV.bool false, AV.int .u16 (0), AV.int .u16 (0)], [AV.int .u8 (1), AV.float 4607182418800017408, AV.view 1 2 (rowLst [[AV.float 0, AV.float 0]]), AV.float 4607182418800017408, AV.float 0, AV.float 0, AV.bool false, AV.int .u16 (0), AV.int .u16 (0)], [AV.int .u8 (1), AV.float 4607182418800017408, AV.view 1 2 (rowLst [[AV.float 0, AV.float 0]]), AV.float 4607182418800017408, AV.float 0, AV.float 0, AV.bool false, AV.int .u16 (0), AV.int .u16 (0)], [AV.int .u8 (1), AV.float 4607182418800017408, AV.view 1 2 (rowLst [[AV.float 0, AV.float 0]]), AV.float 4607182418800017408, AV.float 0, AV.float 0, AV.bool false, AV.int .u16 (0), AV.int .u16 (0)]])]
def r_mass_Parts_c1 : AV := AV.tup [AV.agg [AV.float 0, AV.float 0, AV.float 0, AV.float 0], AV.int .i64 (4)]
theorem e_mass_Parts_c1 : outB (evFnM Try.prog false menv117 [4294967295] [] 96 .no Try.f29 a_mass_Parts_c1 []) = some (true, r_mass_Parts_c1) := by kernel_rfl
def c_mass_Parts_c1 : SFM := altS (litF a_mass_Parts_c1 r_mass_Parts_c1) (c_mass_Parts_c0)
theorem c_mass_Parts_c1_ok : SOkM Try.prog false (29, c_mass_Parts_c1) := (SOkM.alt (SOkM.litF menv117_ok Try.func29 (fnNo _) Try.call29 e_mass_Parts_c1 (by kernel_rfl)) c_mass_Parts_c0_ok)
def mss111 : List (FuncId × SFM) := (29, c_mass_Parts_c1) :: mss110
def menv118 : EnvM := mkEnvM mxs mss111 mws0
theorem mss111_ok : All (SOkM Try.prog false) mss111 := All.cons c_mass_Parts_c1_ok mss110_ok
theorem menv118_ok : menv118.Ok Try.prog false := mkEnvM_ok mxs_ok mss111_ok mws0_ok
-- tumble/mass.Of
def mws8 : List (FuncId × WFM) := (77, (inlWM Try.prog false menv118 [4294967295] [] 96 .no Try.f77 100000)) :: mws0
def menv119 : EnvM := mkEnvM mxs mss111 mws8
theorem mws8_ok : All (WOkM Try.prog false) mws8 := All.cons (WOkM.inl menv118_ok Try.func77 (fnNo _) Try.call77) mws0_ok
theorem menv119_ok : menv119.Ok Try.prog false := mkEnvM_ok mxs_ok mss111_ok mws8_ok
def mss112 : List (FuncId × SFM) := (58, (inlSM Try.prog false menv119 [4294967295] [] 96 .no Try.f58)) :: mss111
def menv120 : EnvM := mkEnvM mxs mss112 mws8
theorem mss112_ok : All (SOkM Try.prog false) mss112 := All.cons (SOkM.inl menv119_ok Try.func58 (fnNo _) Try.call58) mss111_ok
theorem menv120_ok : menv120.Ok Try.prog false := mkEnvM_ok mxs_ok mss112_ok mws8_ok
def mss113 : List (FuncId × SFM) := (22, (inlSM Try.prog false menv120 [4294967295] [] 96 .no Try.f22)) :: mss112
def menv121 : EnvM := mkEnvM mxs mss113 mws8
theorem mss113_ok : All (SOkM Try.prog false) mss113 := All.cons (SOkM.inl menv120_ok Try.func22 (fnNo _) Try.call22) mss112_ok
theorem menv121_ok : menv121.Ok Try.prog false := mkEnvM_ok mxs_ok mss113_ok mws8_ok
def mss114 : List (FuncId × SFM) := (103, (inlSM Try.prog false menv121 [4294967295] [] 96 .no Try.f103)) :: mss113
def menv122 : EnvM := mkEnvM mxs mss114 mws8
theorem mss114_ok : All (SOkM Try.prog false) mss114 := All.cons (SOkM.inl menv121_ok Try.func103 (fnNo _) Try.call103) mss113_ok
theorem menv122_ok : menv122.Ok Try.prog false := mkEnvM_ok mxs_ok mss114_ok mws8_ok
def mss115 : List (FuncId × SFM) := (100, (inlSM Try.prog false menv122 [4294967295] [] 96 .no Try.f100)) :: mss114
def menv123 : EnvM := mkEnvM mxs mss115 mws8
theorem mss115_ok : All (SOkM Try.prog false) mss115 := All.cons (SOkM.inl menv122_ok Try.func100 (fnNo _) Try.call100) mss114_ok
theorem menv123_ok : menv123.Ok Try.prog false := mkEnvM_ok mxs_ok mss115_ok mws8_ok
def mws9 : List (FuncId × WFM) := (64, (inlWM Try.prog false menv123 [4294967295] [] 96 .no Try.f64 100000)) :: mws8
def menv124 : EnvM := mkEnvM mxs mss115 mws9
theorem mws9_ok : All (WOkM Try.prog false) mws9 := All.cons (WOkM.inl menv123_ok Try.func64 (fnNo _) Try.call64) mws8_ok
theorem menv124_ok : menv124.Ok Try.prog false := mkEnvM_ok mxs_ok mss115_ok mws9_ok
def mss116 : List (FuncId × SFM) := (30, (inlSM Try.prog false menv124 [4294967295] [] 96 .no Try.f30)) :: mss115
def menv125 : EnvM := mkEnvM mxs mss116 mws9
theorem mss116_ok : All (SOkM Try.prog false) mss116 := All.cons (SOkM.inl menv124_ok Try.func30 (fnNo _) Try.call30) mss115_ok
theorem menv125_ok : menv125.Ok Try.prog false := mkEnvM_ok mxs_ok mss116_ok mws9_ok
def mss117 : List (FuncId × SFM) := (73, (inlSM Try.prog false menv125 [4294967295] [] 96 .no Try.f73)) :: mss116
def menv126 : EnvM := mkEnvM mxs mss117 mws9
theorem mss117_ok : All (SOkM Try.prog false) mss117 := All.cons (SOkM.inl menv125_ok Try.func73 (fnNo _) Try.call73) mss116_ok
theorem menv126_ok : menv126.Ok Try.prog false := mkEnvM_ok mxs_ok mss117_ok mws9_ok
def mss118 : List (FuncId × SFM) := (59, (inlSM Try.prog false menv126 [4294967295] [] 96 .no Try.f59)) :: mss117
def menv127 : EnvM := mkEnvM mxs mss118 mws9
theorem mss118_ok : All (SOkM Try.prog false) mss118 := All.cons (SOkM.inl menv126_ok Try.func59 (fnNo _) Try.call59) mss117_ok
theorem menv127_ok : menv127.Ok Try.prog false := mkEnvM_ok mxs_ok mss118_ok mws9_ok
def mss119 : List (FuncId × SFM) := (70, (inlSM Try.prog false menv127 [4294967295] [] 96 .no Try.f70)) :: mss118
def menv128 : EnvM := mkEnvM mxs mss119 mws9
theorem mss119_ok : All (SOkM Try.prog false) mss119 := All.cons (SOkM.inl menv127_ok Try.func70 (fnNo _) Try.call70) mss118_ok
theorem menv128_ok : menv128.Ok Try.prog false := mkEnvM_ok mxs_ok mss119_ok mws9_ok
def mss120 : List (FuncId × SFM) := (49, (inlSM Try.prog false menv128 [4294967295] [] 96 .no Try.f49)) :: mss119
def menv129 : EnvM := mkEnvM mxs mss120 mws9
theorem mss120_ok : All (SOkM Try.prog false) mss120 := All.cons (SOkM.inl menv128_ok Try.func49 (fnNo _) Try.call49) mss119_ok
theorem menv129_ok : menv129.Ok Try.prog false := mkEnvM_ok mxs_ok mss120_ok mws9_ok
def mss121 : List (FuncId × SFM) := (17, (inlSM Try.prog false menv129 [4294967295] [] 96 .no Try.f17)) :: mss120
def menv130 : EnvM := mkEnvM mxs mss121 mws9
theorem mss121_ok : All (SOkM Try.prog false) mss121 := All.cons (SOkM.inl menv129_ok Try.func17 (fnNo _) Try.call17) mss120_ok
theorem menv130_ok : menv130.Ok Try.prog false := mkEnvM_ok mxs_ok mss121_ok mws9_ok
def mss122 : List (FuncId × SFM) := (40, (inlSM Try.prog false menv130 [4294967295] [] 96 .no Try.f40)) :: mss121
def menv131 : EnvM := mkEnvM mxs mss122 mws9
theorem mss122_ok : All (SOkM Try.prog false) mss122 := All.cons (SOkM.inl menv130_ok Try.func40 (fnNo _) Try.call40) mss121_ok
theorem menv131_ok : menv131.Ok Try.prog false := mkEnvM_ok mxs_ok mss122_ok mws9_ok
def a_mass_Of_c3 : List AV := [AV.agg [AV.int .u8 (1), AV.float 4607182418800017408, AV.view 1 2 (rowLst [[AV.float 0, AV.float 0]])], AV.float 4787326403894837248]
def r_mass_Of_c3 : AV := AV.tup [AV.agg [AV.float 4794400641646865688, AV.float 4789897042019495192, AV.float 0, AV.float 0], AV.int .i64 (0)]
theorem e_mass_Of_c3 : outB (evFnM Try.prog false menv131 [4294967295] [] 96 .no Try.f23 a_mass_Of_c3 []) = some (true, r_mass_Of_c3) := by kernel_rfl
def c_mass_Of_c3 : SFM := altS (litF a_mass_Of_c3 r_mass_Of_c3) (c_mass_Of_c2)
theorem c_mass_Of_c3_ok : SOkM Try.prog false (23, c_mass_Of_c3) := (SOkM.alt (SOkM.litF menv131_ok Try.func23 (fnNo _) Try.call23 e_mass_Of_c3 (by kernel_rfl)) c_mass_Of_c2_ok)
def mss123 : List (FuncId × SFM) := (23, c_mass_Of_c3) :: mss111
def menv132 : EnvM := mkEnvM mxs mss123 mws0
theorem mss123_ok : All (SOkM Try.prog false) mss123 := All.cons c_mass_Of_c3_ok mss111_ok
theorem menv132_ok : menv132.Ok Try.prog false := mkEnvM_ok mxs_ok mss123_ok mws0_ok
-- tumble/mass.Of
def mws10 : List (FuncId × WFM) := (77, (inlWM Try.prog false menv132 [4294967295] [] 96 .no Try.f77 100000)) :: mws0
def menv133 : EnvM := mkEnvM mxs mss123 mws10
theorem mws10_ok : All (WOkM Try.prog false) mws10 := All.cons (WOkM.inl menv132_ok Try.func77 (fnNo _) Try.call77) mws0_ok
theorem menv133_ok : menv133.Ok Try.prog false := mkEnvM_ok mxs_ok mss123_ok mws10_ok
def mss124 : List (FuncId × SFM) := (58, (inlSM Try.prog false menv133 [4294967295] [] 96 .no Try.f58)) :: mss123
def menv134 : EnvM := mkEnvM mxs mss124 mws10
theorem mss124_ok : All (SOkM Try.prog false) mss124 := All.cons (SOkM.inl menv133_ok Try.func58 (fnNo _) Try.call58) mss123_ok
theorem menv134_ok : menv134.Ok Try.prog false := mkEnvM_ok mxs_ok mss124_ok mws10_ok
def mss125 : List (FuncId × SFM) := (22, (inlSM Try.prog false menv134 [4294967295] [] 96 .no Try.f22)) :: mss124
def menv135 : EnvM := mkEnvM mxs mss125 mws10
theorem mss125_ok : All (SOkM Try.prog false) mss125 := All.cons (SOkM.inl menv134_ok Try.func22 (fnNo _) Try.call22) mss124_ok
theorem menv135_ok : menv135.Ok Try.prog false := mkEnvM_ok mxs_ok mss125_ok mws10_ok
def mss126 : List (FuncId × SFM) := (103, (inlSM Try.prog false menv135 [4294967295] [] 96 .no Try.f103)) :: mss125
def menv136 : EnvM := mkEnvM mxs mss126 mws10
theorem mss126_ok : All (SOkM Try.prog false) mss126 := All.cons (SOkM.inl menv135_ok Try.func103 (fnNo _) Try.call103) mss125_ok
theorem menv136_ok : menv136.Ok Try.prog false := mkEnvM_ok mxs_ok mss126_ok mws10_ok
def mss127 : List (FuncId × SFM) := (100, (inlSM Try.prog false menv136 [4294967295] [] 96 .no Try.f100)) :: mss126
def menv137 : EnvM := mkEnvM mxs mss127 mws10
theorem mss127_ok : All (SOkM Try.prog false) mss127 := All.cons (SOkM.inl menv136_ok Try.func100 (fnNo _) Try.call100) mss126_ok
theorem menv137_ok : menv137.Ok Try.prog false := mkEnvM_ok mxs_ok mss127_ok mws10_ok
def mws11 : List (FuncId × WFM) := (64, (inlWM Try.prog false menv137 [4294967295] [] 96 .no Try.f64 100000)) :: mws10
def menv138 : EnvM := mkEnvM mxs mss127 mws11
theorem mws11_ok : All (WOkM Try.prog false) mws11 := All.cons (WOkM.inl menv137_ok Try.func64 (fnNo _) Try.call64) mws10_ok
theorem menv138_ok : menv138.Ok Try.prog false := mkEnvM_ok mxs_ok mss127_ok mws11_ok
def mss128 : List (FuncId × SFM) := (30, (inlSM Try.prog false menv138 [4294967295] [] 96 .no Try.f30)) :: mss127
def menv139 : EnvM := mkEnvM mxs mss128 mws11
theorem mss128_ok : All (SOkM Try.prog false) mss128 := All.cons (SOkM.inl menv138_ok Try.func30 (fnNo _) Try.call30) mss127_ok
theorem menv139_ok : menv139.Ok Try.prog false := mkEnvM_ok mxs_ok mss128_ok mws11_ok
def a_mass_Of_c4 : List AV := [AV.agg [AV.int .u8 (1), AV.float 4607182418800017408, AV.view 1 2 (rowLst [[AV.float 0, AV.float 0]])], AV.float 4787326403894841344]
def r_mass_Of_c4 : AV := AV.tup [AV.agg [AV.float 0, AV.float 0, AV.float 0, AV.float 0], AV.int .i64 (5)]
theorem e_mass_Of_c4 : outB (evFnM Try.prog false menv139 [4294967295] [] 96 .no Try.f23 a_mass_Of_c4 []) = some (true, r_mass_Of_c4) := by kernel_rfl
def c_mass_Of_c4 : SFM := altS (litF a_mass_Of_c4 r_mass_Of_c4) (c_mass_Of_c3)
theorem c_mass_Of_c4_ok : SOkM Try.prog false (23, c_mass_Of_c4) := (SOkM.alt (SOkM.litF menv139_ok Try.func23 (fnNo _) Try.call23 e_mass_Of_c4 (by kernel_rfl)) c_mass_Of_c3_ok)
def mss129 : List (FuncId × SFM) := (23, c_mass_Of_c4) :: mss123
def menv140 : EnvM := mkEnvM mxs mss129 mws0
theorem mss129_ok : All (SOkM Try.prog false) mss129 := All.cons c_mass_Of_c4_ok mss123_ok
theorem menv140_ok : menv140.Ok Try.prog false := mkEnvM_ok mxs_ok mss129_ok mws0_ok
-- tumble/tumblelaw08.MassNames
def mss130 : List (FuncId × SFM) := (28, (inlSM Try.prog false menv140 [] [] 96 .no Try.f28)) :: mss129
def menv141 : EnvM := mkEnvM mxs mss130 mws0
theorem mss130_ok : All (SOkM Try.prog false) mss130 := All.cons (SOkM.inl menv140_ok Try.func28 (fnNo _) Try.call28) mss129_ok
theorem menv141_ok : menv141.Ok Try.prog false := mkEnvM_ok mxs_ok mss130_ok mws0_ok
-- a loop of tumble/tumblelaw08.MassNames
structure V_law08_MassNames_L0 where
  v0 : Int
  v1 : (Nat → Nat)
  v2 : (Nat → Nat)
  v3 : (Nat → Nat)
  v4 : (Nat → Nat)
def tpl_law08_MassNames_L0 : List AV := (AV.top :: AV.nul :: AV.nul :: AV.nul :: tpA 128 ([]))
def cts_law08_MassNames_L0 : List CT := [CT.keep]
def phs_law08_MassNames_L0 : List Src := []
def T_law08_MassNames_L0 (e : Bool) (x : V_law08_MassNames_L0) (F0 : Nat → List AV) : List AV × Heap := ((AV.top :: AV.bool e :: AV.lst 0 0 4 16385 16385 :: AV.int .i64 x.v0 :: tpA 128 ([])), [⟨.sym 16385 4 F0, 28, 0⟩])
def sh_law08_MassNames_L0 (e : Bool) (x : V_law08_MassNames_L0) : List AV × Heap := T_law08_MassNames_L0 e x (fun j0 => [AV.float (x.v1 j0), AV.float (x.v2 j0), AV.float (x.v3 j0), AV.float (x.v4 j0)])
def step_law08_MassNames_L0 (x : V_law08_MassNames_L0) : V_law08_MassNames_L0 := V_law08_MassNames_L0.mk (IntKind.wrap .i64 (x.v0 + (1 : Int))) (fun j0 => (bif (Nat.beq j0 (Int.toNat x.v0)) then 4607182418800017408 else (x.v1 j0))) (fun j0 => (bif (Nat.beq j0 (Int.toNat x.v0)) then 4607182418800017408 else (x.v2 j0))) (fun j0 => (bif (Nat.beq j0 (Int.toNat x.v0)) then 4611686018427387904 else (x.v3 j0))) (fun j0 => (bif (Nat.beq j0 (Int.toNat x.v0)) then 0 else (x.v4 j0)))
def go_law08_MassNames_L0 (x : V_law08_MassNames_L0) : Bool := (bif (!(ilt x.v0 (16385 : Int))) then false else true)
def ok_law08_MassNames_L0 (x : V_law08_MassNames_L0) : Bool := (mrgB (!(ilt x.v0 (16385 : Int))) true ((Nat.blt (Int.toNat x.v0) 16385) && ((ile (0 : Int) x.v0) && (Nat.blt (Int.toNat x.v0) 16385))))
def L_law08_MassNames_L0 (x : V_law08_MassNames_L0) : V_law08_MassNames_L0 := lastL (ok_law08_MassNames_L0) (go_law08_MassNames_L0) (step_law08_MassNames_L0) x
def E_law08_MassNames_L0 (x : V_law08_MassNames_L0) : Bool := endsL (ok_law08_MassNames_L0) (go_law08_MassNames_L0) (step_law08_MassNames_L0) x
theorem all_law08_MassNames_L0 (e : Bool) (x : V_law08_MassNames_L0) : rnd Try.prog false menv141 [51] [] 96 Ann.no (subC [1, 1, 1, 1, 0, 1, 0, 0] (codeOf Try.f7)) 0 [⟨some 0, 0, 0, []⟩] tpl_law08_MassNames_L0 cts_law08_MassNames_L0 (true :: false :: false :: tpB 129 ([])) [true] (sh_law08_MassNames_L0 e x) = (true, true, go_law08_MassNames_L0 x, ok_law08_MassNames_L0 x, true, sh_law08_MassNames_L0 e (step_law08_MassNames_L0 x), true) := by kernel_rfl
def fam_law08_MassNames_L0 (e : Bool) : Fam Try.prog false menv141 [51] [] 96 0 Ann.no (subC [1, 1, 1, 1, 0, 1, 0, 0] (codeOf Try.f7)) V_law08_MassNames_L0 where
  sh := sh_law08_MassNames_L0 e
  ok := ok_law08_MassNames_L0
  go := go_law08_MassNames_L0
  step := step_law08_MassNames_L0
  chg := (true :: false :: false :: tpB 129 ([]))
  chgH := [true]
  tpl := tpl_law08_MassNames_L0
  cts := cts_law08_MassNames_L0
  keep := 0
  srcs := [⟨some 0, 0, 0, []⟩]
  ann := (annNo (subC [1, 1, 1, 1, 0, 1, 0, 0] (codeOf Try.f7)))
  le := by kernel_rfl
  kept := by kernel_rfl
  keptB := by kernel_rfl
  all := all_law08_MassNames_L0 e
  len := fun x => by kernel_rfl
  head := fun x y => by kernel_rfl
  con := fun x y => by kernel_rfl
  conH := fun x y => by kernel_rfl
def F_law08_MassNames_L0 : St → Option Ch := fun s => cond (Nat.beq s.tm.length 132 && Nat.beq s.H.length 1) (tkTops 1 (alL tpl_law08_MassNames_L0 s.tm) fun t0 => tkCons t0 fun g t1 => tkB g fun s0 => tkCons t1 fun m t2 => tkLst 0 0 4 m fun s1 s2 => tkNL 16385 s1 <| tkNL 16385 s2 <| tkCons t2 fun B t3 => tkI .i64 B fun s3 => tkTops 128 t3 fun t4 => tkNil t4 <| tkCons (alH cts_law08_MassNames_L0 (s.H ++ List.map phan phs_law08_MassNames_L0)) fun b5 t5 => tkSym 28 0 4 b5 fun s4 f0 => tkNL 16385 s4 <| tkNil t5 <| Fam.out (fam_law08_MassNames_L0 s0) s (allB fun i => isNrm [Ck.f, Ck.f, Ck.f, Ck.f] (f0 i)) (V_law08_MassNames_L0.mk s3 (fL f0 0) (fL f0 1) (fL f0 2) (fL f0 3))) none
theorem F_law08_MassNames_L0_ok : ∀ s ch, F_law08_MassNames_L0 s = some ch → AllI s ch ∧ LoopSpec Try.prog false 0 (subC [1, 1, 1, 1, 0, 1, 0, 0] (codeOf Try.f7)) s (sel ch) := by
  intro s ch h
  unfold F_law08_MassNames_L0 at h
  obtain ⟨hl, h0⟩ := cond_some h rfl
  clear h
  obtain ⟨hl, hb⟩ := and_beq2 hl
  obtain ⟨t0, e0, h1⟩ := tkTops_some h0
  obtain ⟨g, t1, rfl, h2⟩ := tkCons_some h1
  obtain ⟨s0, rfl, h3⟩ := tkB_some h2
  obtain ⟨m, t2, rfl, h4⟩ := tkCons_some h3
  obtain ⟨s1, s2, rfl, h5⟩ := tkLst_some h4
  obtain ⟨rfl, h6⟩ := tkNL_some h5
  obtain ⟨rfl, h7⟩ := tkNL_some h6
  obtain ⟨B, t3, rfl, h8⟩ := tkCons_some h7
  obtain ⟨s3, rfl, h9⟩ := tkI_some h8
  obtain ⟨t4, rfl, h10⟩ := tkTops_some h9
  obtain ⟨rfl, h11⟩ := tkNil_some h10
  obtain ⟨b5, t5, eH, h12⟩ := tkCons_some h11
  obtain ⟨s4, f0, rfl, h13⟩ := tkSym_some h12
  obtain ⟨rfl, h14⟩ := tkNL_some h13
  obtain ⟨rfl, h15⟩ := tkNil_some h14
  refine Fam.spec menv141_ok (fam_law08_MassNames_L0 s0) (phs := phs_law08_MassNames_L0) (hl.trans (by kernel_rfl)) (hb.trans (by kernel_rfl)) ?_ ?_ h15
  · rw [← hdr_alH cts_law08_MassNames_L0 (s.H ++ List.map phan phs_law08_MassNames_L0), eH]; kernel_rfl
  · intro hq
    have hq0 := hq
    have n0 := nrm_fun hq0
    show sh_law08_MassNames_L0 s0 (V_law08_MassNames_L0.mk s3 (fL f0 0) (fL f0 1) (fL f0 2) (fL f0 3)) = (alL tpl_law08_MassNames_L0 s.tm, alH cts_law08_MassNames_L0 (s.H ++ List.map phan phs_law08_MassNames_L0))
    rw [e0, eH]
    refine Eq.trans (show sh_law08_MassNames_L0 s0 (V_law08_MassNames_L0.mk s3 (fL f0 0) (fL f0 1) (fL f0 2) (fL f0 3)) = T_law08_MassNames_L0 s0 (V_law08_MassNames_L0.mk s3 (fL f0 0) (fL f0 1) (fL f0 2) (fL f0 3)) (fun i => mkN [Ck.f, Ck.f, Ck.f, Ck.f] (f0 i) 0) by kernel_rfl) ?_
    rw [n0]
    kernel_rfl
theorem ann_law08_MassNames : FnOk Try.prog false 0 Try.f7 (Ann.two Ann.no (Ann.two Ann.no (Ann.two Ann.no (Ann.two Ann.no (Ann.two (Ann.two Ann.no (Ann.one (Ann.loop F_law08_MassNames_L0))) Ann.no))))) := (fnOk_of (c := codeOf Try.f7) (by kernel_rfl) (annSeq (a := (subC [0] (codeOf Try.f7))) (b := (subC [1] (codeOf Try.f7))) (by kernel_rfl) (annNo (subC [0] (codeOf Try.f7))) (annSeq (a := (subC [1, 0] (codeOf Try.f7))) (b := (subC [1, 1] (codeOf Try.f7))) (by kernel_rfl) (annNo (subC [1, 0] (codeOf Try.f7))) (annSeq (a := (subC [1, 1, 0] (codeOf Try.f7))) (b := (subC [1, 1, 1] (codeOf Try.f7))) (by kernel_rfl) (annNo (subC [1, 1, 0] (codeOf Try.f7))) (annSeq (a := (subC [1, 1, 1, 0] (codeOf Try.f7))) (b := (subC [1, 1, 1, 1] (codeOf Try.f7))) (by kernel_rfl) (annNo (subC [1, 1, 1, 0] (codeOf Try.f7))) (annSeq (a := (subC [1, 1, 1, 1, 0] (codeOf Try.f7))) (b := (subC [1, 1, 1, 1, 1] (codeOf Try.f7))) (by kernel_rfl) (annSeq (a := (subC [1, 1, 1, 1, 0, 0] (codeOf Try.f7))) (b := (subC [1, 1, 1, 1, 0, 1] (codeOf Try.f7))) (by kernel_rfl) (annNo (subC [1, 1, 1, 1, 0, 0] (codeOf Try.f7))) (annBlock (a := (subC [1, 1, 1, 1, 0, 1, 0] (codeOf Try.f7))) (i := 0) (by kernel_rfl) (annLoop (a := (subC [1, 1, 1, 1, 0, 1, 0, 0] (codeOf Try.f7))) (by kernel_rfl) F_law08_MassNames_L0_ok))) (annNo (subC [1, 1, 1, 1, 1] (codeOf Try.f7)))))))))
def T_law08_MassNames : Bool := let x0 : V_law08_MassNames_L0 := (L_law08_MassNames_L0 (V_law08_MassNames_L0.mk (0 : Int) (fun j0 => 0) (fun j0 => 0) (fun j0 => 0) (fun j0 => 0))); let x1 : (Nat → Nat) := (x0.v4); let x2 : (Nat → Nat) := (x0.v3); let x3 : (Nat → Nat) := (x0.v2); let x4 : (Nat → Nat) := (x0.v1); (bif (!(s_law08_alive_0)) then false else ((((((((((((s_law08_alive_0) && (ieq (s_mass_Join_4 16384 x4 x3 x2 x1) (0 : Int))) && (ieq (s_mass_Join_4 16385 x4 x3 x2 x1) (4 : Int))) && (feq (s_mass_Join_0 16384 x4 x3 x2 x1) 4670232813583204352)) && (feq (s_mass_Join_1 16384 x4 x3 x2 x1) 4670232813583204352)) && ((feq (s_mass_Join_2 16384 x4 x3 x2 x1) 4611686018427387904) && ((feq (s_mass_Join_3 16384 x4 x3 x2 x1) 0) && true))) && true) && true) && true) && true) && true) && true))
def O_law08_MassNames : Bool := let x0 : V_law08_MassNames_L0 := (L_law08_MassNames_L0 (V_law08_MassNames_L0.mk (0 : Int) (fun j0 => 0) (fun j0 => 0) (fun j0 => 0) (fun j0 => 0))); let x1 : (Nat → Nat) := (x0.v4); let x2 : (Nat → Nat) := (x0.v3); let x3 : (Nat → Nat) := (x0.v2); let x4 : (Nat → Nat) := (x0.v1); let x5 := ((allB fun _ => true) && (o_mass_Join 16385 x4 x3 x2 x1)) && (((allB fun _ => true) && (o_mass_Join 16384 x4 x3 x2 x1)) && ((allB fun _ => true) && (E_law08_MassNames_L0 (V_law08_MassNames_L0.mk (0 : Int) (fun j0 => 0) (fun j0 => 0) (fun j0 => 0) (fun j0 => 0))))); let x6 := mrgB true x5 x5; let x7 := mrgB (s_law08_alive_0) x6 x6; let x8 := (s_law08_alive_0) && (ieq (s_mass_Join_4 16384 x4 x3 x2 x1) (0 : Int)); let x9 := mrgB x8 x7 x7; let x10 := x8 && (ieq (s_mass_Join_4 16385 x4 x3 x2 x1) (4 : Int)); let x11 := mrgB x10 x9 x9; let x12 := x10 && (feq (s_mass_Join_0 16384 x4 x3 x2 x1) 4670232813583204352); let x13 := mrgB x12 x11 x11; let x14 := x12 && (feq (s_mass_Join_1 16384 x4 x3 x2 x1) 4670232813583204352); let x15 := mrgB x14 x13 x13; let x16 := x14 && ((feq (s_mass_Join_2 16384 x4 x3 x2 x1) 4611686018427387904) && ((feq (s_mass_Join_3 16384 x4 x3 x2 x1) 0) && true)); let x17 := mrgB x16 x15 x15; let x18 := x16 && true; let x19 := mrgB x18 x17 x17; let x20 := x18 && true; let x21 := mrgB x20 x19 x19; let x22 := x20 && true; let x23 := mrgB x22 x21 x21; let x24 := x22 && true; let x25 := mrgB x24 x23 x23; (mrgB (!(s_law08_alive_0)) true (mrgB (x24 && true) x25 x25))
theorem tree_law08_MassNames : outB (evFnM Try.prog false menv141 [51] [] 96 (Ann.two Ann.no (Ann.two Ann.no (Ann.two Ann.no (Ann.two Ann.no (Ann.two (Ann.two Ann.no (Ann.one (Ann.loop F_law08_MassNames_L0))) Ann.no))))) Try.f7 [] []) = some (O_law08_MassNames, AV.bool (T_law08_MassNames)) := by kernel_rfl

end Go.Proofs.Ytbkogihigehjlaa
end
