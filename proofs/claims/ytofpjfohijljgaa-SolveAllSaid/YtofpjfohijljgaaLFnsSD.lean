/- The contracts of the functions that these laws reach, loops too, printed by a program of this work: each says what the Go function gives, up to which NaN. -/
import Derived.Test.YtofpjfohijljgaaLFnsSC
set_option linter.unusedVariables false
set_option linter.unusedSimpArgs false
set_option maxRecDepth 100000
set_option maxHeartbeats 4000000
noncomputable section
namespace Go.Proofs.Ytofpjfohijljgaa
open Go.Lst
open Go.Sim (fadd fsub fmul fdiv fneg feq flt fle fsqrt cn nanb fabs fcps fsame feq_self cps_cn fabs_cn)
theorem ann_rows_Speed : FnOk Try.prog false 0 Try.f44 Ann.no := (fnNo _)
def s_rows_Speed_0 (j e : Int) (k m p z C E r u D q : Nat) (J : Int) (I F L P Q R M O S U V : Nat) : Nat := (bif (!(ieq (s_rows_asked_0 j e k m p z C E r u D q J I F L P Q R M O S U V) (0 : Int))) then 0 else (s_rows_speed_0 j e k m p z C E r u D q J I F L P Q R M O S U V))
def s_rows_Speed_1 (j e : Int) (k m p z C E r u D q : Nat) (J : Int) (I F L P Q R M O S U V : Nat) : Int := (bif (!(ieq (s_rows_asked_0 j e k m p z C E r u D q J I F L P Q R M O S U V) (0 : Int))) then (s_rows_asked_0 j e k m p z C E r u D q J I F L P Q R M O S U V) else (0 : Int))
theorem e_rows_Speed (j e : Int) (k m p z C E r u D q : Nat) (J : Int) (I F L P Q R M O S U V : Nat) : outB (evFnM Try.prog false menv98 [] [] 96 Ann.no Try.f44 [AV.agg [AV.int .i64 j, AV.int .i64 e, AV.float k, AV.float m, AV.float p, AV.float z, AV.float C, AV.float E, AV.float r, AV.float u, AV.float D, AV.float q, AV.int .i64 J, AV.float I], AV.agg [AV.float F, AV.float L, AV.float P, AV.float Q, AV.float R], AV.agg [AV.float M, AV.float O, AV.float S, AV.float U, AV.float V]] []) = some (true, AV.tup [AV.float (s_rows_Speed_0 j e k m p z C E r u D q J I F L P Q R M O S U V), AV.int .i64 (s_rows_Speed_1 j e k m p z C E r u D q J I F L P Q R M O S U V)]) := by kernel_rfl
def S_rows_Speed : List AV → Option (Ob × AV)
  | [AV.agg [AV.int .i64 j, AV.int .i64 e, AV.float k, AV.float m, AV.float p, AV.float z, AV.float C, AV.float E, AV.float r, AV.float u, AV.float D, AV.float q, AV.int .i64 J, AV.float I], AV.agg [AV.float F, AV.float L, AV.float P, AV.float Q, AV.float R], AV.agg [AV.float M, AV.float O, AV.float S, AV.float U, AV.float V]] => some (Ob.tt, AV.tup [AV.float (s_rows_Speed_0 j e k m p z C E r u D q J I F L P Q R M O S U V), AV.int .i64 (s_rows_Speed_1 j e k m p z C E r u D q J I F L P Q R M O S U V)])
  | _ => none
theorem t_rows_Speed : SOkM Try.prog false (44, fun args => match S_rows_Speed args with | some (o, v) => some (o, v, []) | none => none) := SOkM.flat (N := 96) menv98_ok Try.func44 ann_rows_Speed Try.call44 fun args o v h ho => by
  unfold S_rows_Speed at h
  split at h
  · rename_i j e k m p z C E r u D q J I F L P Q R M O S U V
    cases h
    have ho2 := ho
    have this := show outB (evFnM Try.prog false menv98 [] [] 96 Ann.no Try.f44 [AV.agg [AV.int .i64 j, AV.int .i64 e, AV.float k, AV.float m, AV.float p, AV.float z, AV.float C, AV.float E, AV.float r, AV.float u, AV.float D, AV.float q, AV.int .i64 J, AV.float I], AV.agg [AV.float F, AV.float L, AV.float P, AV.float Q, AV.float R], AV.agg [AV.float M, AV.float O, AV.float S, AV.float U, AV.float V]] []) = _ from e_rows_Speed j e k m p z C E r u D q J I F L P Q R M O S U V
    exact ⟨this, rfl⟩
  · cases h
def c_rows_Speed : SFM := fun args => match S_rows_Speed args with | some (o, v) => some (o, v, []) | none => none
theorem c_rows_Speed_ok : SOkM Try.prog false (44, c_rows_Speed) := t_rows_Speed
def mss98 : List (FuncId × SFM) := (44, c_rows_Speed) :: mss97
def menv99 : EnvM := mkEnvM mxs mss98 mws2
theorem mss98_ok : All (SOkM Try.prog false) mss98 := All.cons c_rows_Speed_ok mss97_ok
theorem menv99_ok : menv99.Ok Try.prog false := mkEnvM_ok mxs_ok mss98_ok mws2_ok
theorem ann_rows_Weight : FnOk Try.prog false 0 Try.f33 Ann.no := (fnNo _)
def s_rows_Weight_0 (j e : Int) (k m p z C E r u D q : Nat) (J : Int) (I F L P Q R M O S U V : Nat) : Nat := (bif (!(ieq (s_rows_asked_0 j e k m p z C E r u D q J I F L P Q R M O S U V) (0 : Int))) then 0 else (s_rows_weight_0 j e k m p z C E r u D q J I F L P Q R M O S U V))
def s_rows_Weight_1 (j e : Int) (k m p z C E r u D q : Nat) (J : Int) (I F L P Q R M O S U V : Nat) : Int := (bif (!(ieq (s_rows_asked_0 j e k m p z C E r u D q J I F L P Q R M O S U V) (0 : Int))) then (s_rows_asked_0 j e k m p z C E r u D q J I F L P Q R M O S U V) else (0 : Int))
theorem e_rows_Weight (j e : Int) (k m p z C E r u D q : Nat) (J : Int) (I F L P Q R M O S U V : Nat) : outB (evFnM Try.prog false menv99 [] [] 96 Ann.no Try.f33 [AV.agg [AV.int .i64 j, AV.int .i64 e, AV.float k, AV.float m, AV.float p, AV.float z, AV.float C, AV.float E, AV.float r, AV.float u, AV.float D, AV.float q, AV.int .i64 J, AV.float I], AV.agg [AV.float F, AV.float L, AV.float P, AV.float Q, AV.float R], AV.agg [AV.float M, AV.float O, AV.float S, AV.float U, AV.float V]] []) = some (true, AV.tup [AV.float (s_rows_Weight_0 j e k m p z C E r u D q J I F L P Q R M O S U V), AV.int .i64 (s_rows_Weight_1 j e k m p z C E r u D q J I F L P Q R M O S U V)]) := by kernel_rfl
def S_rows_Weight : List AV → Option (Ob × AV)
  | [AV.agg [AV.int .i64 j, AV.int .i64 e, AV.float k, AV.float m, AV.float p, AV.float z, AV.float C, AV.float E, AV.float r, AV.float u, AV.float D, AV.float q, AV.int .i64 J, AV.float I], AV.agg [AV.float F, AV.float L, AV.float P, AV.float Q, AV.float R], AV.agg [AV.float M, AV.float O, AV.float S, AV.float U, AV.float V]] => some (Ob.tt, AV.tup [AV.float (s_rows_Weight_0 j e k m p z C E r u D q J I F L P Q R M O S U V), AV.int .i64 (s_rows_Weight_1 j e k m p z C E r u D q J I F L P Q R M O S U V)])
  | _ => none
theorem t_rows_Weight : SOkM Try.prog false (33, fun args => match S_rows_Weight args with | some (o, v) => some (o, v, []) | none => none) := SOkM.flat (N := 96) menv99_ok Try.func33 ann_rows_Weight Try.call33 fun args o v h ho => by
  unfold S_rows_Weight at h
  split at h
  · rename_i j e k m p z C E r u D q J I F L P Q R M O S U V
    cases h
    have ho2 := ho
    have this := show outB (evFnM Try.prog false menv99 [] [] 96 Ann.no Try.f33 [AV.agg [AV.int .i64 j, AV.int .i64 e, AV.float k, AV.float m, AV.float p, AV.float z, AV.float C, AV.float E, AV.float r, AV.float u, AV.float D, AV.float q, AV.int .i64 J, AV.float I], AV.agg [AV.float F, AV.float L, AV.float P, AV.float Q, AV.float R], AV.agg [AV.float M, AV.float O, AV.float S, AV.float U, AV.float V]] []) = _ from e_rows_Weight j e k m p z C E r u D q J I F L P Q R M O S U V
    exact ⟨this, rfl⟩
  · cases h
def c_rows_Weight : SFM := fun args => match S_rows_Weight args with | some (o, v) => some (o, v, []) | none => none
theorem c_rows_Weight_ok : SOkM Try.prog false (33, c_rows_Weight) := t_rows_Weight
def mss99 : List (FuncId × SFM) := (33, c_rows_Weight) :: mss98
def menv100 : EnvM := mkEnvM mxs mss99 mws2
theorem mss99_ok : All (SOkM Try.prog false) mss99 := All.cons c_rows_Weight_ok mss98_ok
theorem menv100_ok : menv100.Ok Try.prog false := mkEnvM_ok mxs_ok mss99_ok mws2_ok
theorem ann_num_none_float64_ : FnOk Try.prog false 0 Try.f75 Ann.no := (fnNo _)
def s_num_none_float64__0 (j : Nat) : Bool := (!(feq j j))
theorem e_num_none_float64_ (j : Nat) : outB (evFnM Try.prog false menv100 [] [] 96 Ann.no Try.f75 [AV.float j] []) = some (true, AV.bool (s_num_none_float64__0 j)) := by kernel_rfl
def S_num_none_float64_ : List AV → Option (Ob × AV)
  | [AV.float j] => some (Ob.tt, AV.bool (s_num_none_float64__0 j))
  | _ => none
theorem t_num_none_float64_ : SOkM Try.prog false (75, fun args => match S_num_none_float64_ args with | some (o, v) => some (o, v, []) | none => none) := SOkM.flat (N := 96) menv100_ok Try.func75 ann_num_none_float64_ Try.call75 fun args o v h ho => by
  unfold S_num_none_float64_ at h
  split at h
  · rename_i j
    cases h
    have ho2 := ho
    have this := show outB (evFnM Try.prog false menv100 [] [] 96 Ann.no Try.f75 [AV.float j] []) = _ from e_num_none_float64_ j
    exact ⟨this, rfl⟩
  · cases h
def c_num_none_float64_ : SFM := fun args => match S_num_none_float64_ args with | some (o, v) => some (o, v, []) | none => none
theorem c_num_none_float64__ok : SOkM Try.prog false (75, c_num_none_float64_) := t_num_none_float64_
def mss100 : List (FuncId × SFM) := (75, c_num_none_float64_) :: mss99
def menv101 : EnvM := mkEnvM mxs mss100 mws2
theorem mss100_ok : All (SOkM Try.prog false) mss100 := All.cons c_num_none_float64__ok mss99_ok
theorem menv101_ok : menv101.Ok Try.prog false := mkEnvM_ok mxs_ok mss100_ok mws2_ok
theorem ann_num_minus_float64_ : FnOk Try.prog false 0 Try.f76 Ann.no := (fnNo _)
def s_num_minus_float64__0 (j : Nat) : Bool := (flt (fdiv 4607182418800017408 j) 0)
theorem e_num_minus_float64_ (j : Nat) : outB (evFnM Try.prog false menv101 [] [] 96 Ann.no Try.f76 [AV.float j] []) = some (true, AV.bool (s_num_minus_float64__0 j)) := by kernel_rfl
def S_num_minus_float64_ : List AV → Option (Ob × AV)
  | [AV.float j] => some (Ob.tt, AV.bool (s_num_minus_float64__0 j))
  | _ => none
theorem t_num_minus_float64_ : SOkM Try.prog false (76, fun args => match S_num_minus_float64_ args with | some (o, v) => some (o, v, []) | none => none) := SOkM.flat (N := 96) menv101_ok Try.func76 ann_num_minus_float64_ Try.call76 fun args o v h ho => by
  unfold S_num_minus_float64_ at h
  split at h
  · rename_i j
    cases h
    have ho2 := ho
    have this := show outB (evFnM Try.prog false menv101 [] [] 96 Ann.no Try.f76 [AV.float j] []) = _ from e_num_minus_float64_ j
    exact ⟨this, rfl⟩
  · cases h
def c_num_minus_float64_ : SFM := fun args => match S_num_minus_float64_ args with | some (o, v) => some (o, v, []) | none => none
theorem c_num_minus_float64__ok : SOkM Try.prog false (76, c_num_minus_float64_) := t_num_minus_float64_
def mss101 : List (FuncId × SFM) := (76, c_num_minus_float64_) :: mss100
def menv102 : EnvM := mkEnvM mxs mss101 mws2
theorem mss101_ok : All (SOkM Try.prog false) mss101 := All.cons c_num_minus_float64__ok mss100_ok
theorem menv102_ok : menv102.Ok Try.prog false := mkEnvM_ok mxs_ok mss101_ok mws2_ok
theorem ann_num_Most_float64_ : FnOk Try.prog false 0 Try.f45 Ann.no := (fnNo _)
def s_num_Most_float64__0 (j e : Nat) : Nat := (bif (((s_num_none_float64__0 j) || (flt j e)) || (((feq j 0) && (feq e 0)) && (s_num_minus_float64__0 j))) then e else j)
theorem e_num_Most_float64_ (j e : Nat) : outB (evFnM Try.prog false menv102 [] [] 96 Ann.no Try.f45 [AV.float j, AV.float e] []) = some (true, AV.float (s_num_Most_float64__0 j e)) := by kernel_rfl
def S_num_Most_float64_ : List AV → Option (Ob × AV)
  | [AV.float j, AV.float e] => some (Ob.tt, AV.float (s_num_Most_float64__0 j e))
  | _ => none
theorem t_num_Most_float64_ : SOkM Try.prog false (45, fun args => match S_num_Most_float64_ args with | some (o, v) => some (o, v, []) | none => none) := SOkM.flat (N := 96) menv102_ok Try.func45 ann_num_Most_float64_ Try.call45 fun args o v h ho => by
  unfold S_num_Most_float64_ at h
  split at h
  · rename_i j e
    cases h
    have ho2 := ho
    have this := show outB (evFnM Try.prog false menv102 [] [] 96 Ann.no Try.f45 [AV.float j, AV.float e] []) = _ from e_num_Most_float64_ j e
    exact ⟨this, rfl⟩
  · cases h
def c_num_Most_float64_ : SFM := fun args => match S_num_Most_float64_ args with | some (o, v) => some (o, v, []) | none => none
theorem c_num_Most_float64__ok : SOkM Try.prog false (45, c_num_Most_float64_) := t_num_Most_float64_
def mss102 : List (FuncId × SFM) := (45, c_num_Most_float64_) :: mss101
def menv103 : EnvM := mkEnvM mxs mss102 mws2
theorem mss102_ok : All (SOkM Try.prog false) mss102 := All.cons c_num_Most_float64__ok mss101_ok
theorem menv103_ok : menv103.Ok Try.prog false := mkEnvM_ok mxs_ok mss102_ok mws2_ok
structure V_solve_Left_L0 where
  v0 : Nat
  v1 : Int
def tpl_solve_Left_L0 : List AV := (AV.top :: AV.nul :: AV.top :: AV.top :: AV.top :: AV.top :: AV.top :: AV.nul :: tpA 15 (AV.nul :: AV.nul :: AV.nul :: tpA 59 ([])))
def cts_solve_Left_L0 : List CT := []
def phs_solve_Left_L0 : List Src := []
def T_solve_Left_L0 (ab : Nat) (Y ac av ar aB : Nat → Nat) (aC : Nat) (aD aE : Nat → Int) (aF aG aI aL aM aN aO aQ aX bb : Nat → Nat) (ba : Nat → Int) (bi : Nat → Nat) (bs : Int) (x : V_solve_Left_L0) (F0 F1 : Nat → List AV) : List AV × Heap := ((AV.top :: AV.view ab 5 F0 :: AV.top :: AV.top :: AV.top :: AV.top :: AV.top :: AV.float x.v0 :: tpA 15 (AV.view aC 14 F1 :: AV.int .i64 bs :: AV.int .i64 x.v1 :: tpA 59 ([]))), [])
def sh_solve_Left_L0 (ab : Nat) (Y ac av ar aB : Nat → Nat) (aC : Nat) (aD aE : Nat → Int) (aF aG aI aL aM aN aO aQ aX bb : Nat → Nat) (ba : Nat → Int) (bi : Nat → Nat) (bs : Int) (x : V_solve_Left_L0) : List AV × Heap := T_solve_Left_L0 ab Y ac av ar aB aC aD aE aF aG aI aL aM aN aO aQ aX bb ba bi bs x (fun j0 => [AV.float (Y j0), AV.float (ac j0), AV.float (av j0), AV.float (ar j0), AV.float (aB j0)]) (fun j0 => [AV.int .i64 (aD j0), AV.int .i64 (aE j0), AV.float (aF j0), AV.float (aG j0), AV.float (aI j0), AV.float (aL j0), AV.float (aM j0), AV.float (aN j0), AV.float (aO j0), AV.float (aQ j0), AV.float (aX j0), AV.float (bb j0), AV.int .i64 (ba j0), AV.float (bi j0)])
def step_solve_Left_L0 (ab : Nat) (Y ac av ar aB : Nat → Nat) (aC : Nat) (aD aE : Nat → Int) (aF aG aI aL aM aN aO aQ aX bb : Nat → Nat) (ba : Nat → Int) (bi : Nat → Nat) (bs : Int) (x : V_solve_Left_L0) : V_solve_Left_L0 := V_solve_Left_L0.mk (let x0 := aE (Int.toNat x.v1); let x1 := Int.toNat x0; let x2 := aB x1; let x3 := ar x1; let x4 := av x1; let x5 := ac x1; let x6 := Y x1; let x7 := aD (Int.toNat x.v1); let x8 := Int.toNat x7; let x9 := aB x8; let x10 := ar x8; let x11 := av x8; let x12 := ac x8; let x13 := Y x8; let x14 := bi (Int.toNat x.v1); let x15 := ba (Int.toNat x.v1); let x16 := bb (Int.toNat x.v1); let x17 := aX (Int.toNat x.v1); let x18 := aQ (Int.toNat x.v1); let x19 := aO (Int.toNat x.v1); let x20 := aN (Int.toNat x.v1); let x21 := aM (Int.toNat x.v1); let x22 := aL (Int.toNat x.v1); let x23 := aI (Int.toNat x.v1); let x24 := aG (Int.toNat x.v1); let x25 := aF (Int.toNat x.v1); let x26 := fsub x19 (s_rows_Speed_0 x7 x0 x25 x24 x23 x22 x21 x20 x19 x18 x17 x16 x15 x14 x13 x12 x11 x10 x9 x6 x5 x4 x3 x2); (bif ((!(flt 0 (s_rows_Weight_0 x7 x0 x25 x24 x23 x22 x21 x20 x19 x18 x17 x16 x15 x14 x13 x12 x11 x10 x9 x6 x5 x4 x3 x2))) || (((flt x26 0) && (fle x16 x18)) || ((flt 0 x26) && (fle x17 x16)))) then x.v0 else (s_num_Most_float64__0 x.v0 (fabs x26)))) (IntKind.wrap .i64 (x.v1 + (1 : Int)))
def go_solve_Left_L0 (ab : Nat) (Y ac av ar aB : Nat → Nat) (aC : Nat) (aD aE : Nat → Int) (aF aG aI aL aM aN aO aQ aX bb : Nat → Nat) (ba : Nat → Int) (bi : Nat → Nat) (bs : Int) (x : V_solve_Left_L0) : Bool := (bif (!(ilt x.v1 bs)) then false else true)
def ok_solve_Left_L0 (ab : Nat) (Y ac av ar aB : Nat → Nat) (aC : Nat) (aD aE : Nat → Int) (aF aG aI aL aM aN aO aQ aX bb : Nat → Nat) (ba : Nat → Int) (bi : Nat → Nat) (bs : Int) (x : V_solve_Left_L0) : Bool := let x0 := aD (Int.toNat x.v1); let x1 := Int.toNat x0; let x2 := aE (Int.toNat x.v1); let x3 := Int.toNat x2; let x4 := ((ile (0 : Int) x2) && (Nat.blt x3 ab)) && (((ile (0 : Int) x0) && (Nat.blt x1 ab)) && ((ile (0 : Int) x.v1) && (Nat.blt (Int.toNat x.v1) aC))); let x5 := aB x3; let x6 := ar x3; let x7 := av x3; let x8 := ac x3; let x9 := Y x3; let x10 := aB x1; let x11 := ar x1; let x12 := av x1; let x13 := ac x1; let x14 := Y x1; let x15 := bi (Int.toNat x.v1); let x16 := ba (Int.toNat x.v1); let x17 := bb (Int.toNat x.v1); let x18 := aX (Int.toNat x.v1); let x19 := aQ (Int.toNat x.v1); let x20 := aO (Int.toNat x.v1); let x21 := aN (Int.toNat x.v1); let x22 := aM (Int.toNat x.v1); let x23 := aL (Int.toNat x.v1); let x24 := aI (Int.toNat x.v1); let x25 := aG (Int.toNat x.v1); let x26 := aF (Int.toNat x.v1); let x27 := fsub x20 (s_rows_Speed_0 x0 x2 x26 x25 x24 x23 x22 x21 x20 x19 x18 x17 x16 x15 x14 x13 x12 x11 x10 x9 x8 x7 x6 x5); let x28 := flt x27 0; let x29 := mrgB x28 x4 x4; let x30 := flt 0 x27; let x31 := x28 && (fle x17 x19); let x32 := !(flt 0 (s_rows_Weight_0 x0 x2 x26 x25 x24 x23 x22 x21 x20 x19 x18 x17 x16 x15 x14 x13 x12 x11 x10 x9 x8 x7 x6 x5)); let x33 := mrgB x32 x4 (mrgB x31 x29 (mrgB x30 x29 x29)); (mrgB (!(ilt x.v1 bs)) true (mrgB (x32 || (x31 || (x30 && (fle x18 x17)))) x33 x33))
def L_solve_Left_L0 (ab : Nat) (Y ac av ar aB : Nat → Nat) (aC : Nat) (aD aE : Nat → Int) (aF aG aI aL aM aN aO aQ aX bb : Nat → Nat) (ba : Nat → Int) (bi : Nat → Nat) (bs : Int) (x : V_solve_Left_L0) : V_solve_Left_L0 := lastL (ok_solve_Left_L0 ab Y ac av ar aB aC aD aE aF aG aI aL aM aN aO aQ aX bb ba bi bs) (go_solve_Left_L0 ab Y ac av ar aB aC aD aE aF aG aI aL aM aN aO aQ aX bb ba bi bs) (step_solve_Left_L0 ab Y ac av ar aB aC aD aE aF aG aI aL aM aN aO aQ aX bb ba bi bs) x
def E_solve_Left_L0 (ab : Nat) (Y ac av ar aB : Nat → Nat) (aC : Nat) (aD aE : Nat → Int) (aF aG aI aL aM aN aO aQ aX bb : Nat → Nat) (ba : Nat → Int) (bi : Nat → Nat) (bs : Int) (x : V_solve_Left_L0) : Bool := endsL (ok_solve_Left_L0 ab Y ac av ar aB aC aD aE aF aG aI aL aM aN aO aQ aX bb ba bi bs) (go_solve_Left_L0 ab Y ac av ar aB aC aD aE aF aG aI aL aM aN aO aQ aX bb ba bi bs) (step_solve_Left_L0 ab Y ac av ar aB aC aD aE aF aG aI aL aM aN aO aQ aX bb ba bi bs) x
theorem all_solve_Left_L0 (ab : Nat) (Y ac av ar aB : Nat → Nat) (aC : Nat) (aD aE : Nat → Int) (aF aG aI aL aM aN aO aQ aX bb : Nat → Nat) (ba : Nat → Int) (bi : Nat → Nat) (bs : Int) (x : V_solve_Left_L0) : rnd Try.prog false menv103 [] [] 96 Ann.no (subC [1, 1, 1, 0, 1, 0, 0] (codeOf Try.f14)) 0 [] tpl_solve_Left_L0 cts_solve_Left_L0 (true :: false :: tpB 21 (false :: false :: tpB 60 ([]))) [] (sh_solve_Left_L0 ab Y ac av ar aB aC aD aE aF aG aI aL aM aN aO aQ aX bb ba bi bs x) = (true, true, go_solve_Left_L0 ab Y ac av ar aB aC aD aE aF aG aI aL aM aN aO aQ aX bb ba bi bs x, ok_solve_Left_L0 ab Y ac av ar aB aC aD aE aF aG aI aL aM aN aO aQ aX bb ba bi bs x, true, sh_solve_Left_L0 ab Y ac av ar aB aC aD aE aF aG aI aL aM aN aO aQ aX bb ba bi bs (step_solve_Left_L0 ab Y ac av ar aB aC aD aE aF aG aI aL aM aN aO aQ aX bb ba bi bs x), true) := by kernel_rfl
def fam_solve_Left_L0 (ab : Nat) (Y ac av ar aB : Nat → Nat) (aC : Nat) (aD aE : Nat → Int) (aF aG aI aL aM aN aO aQ aX bb : Nat → Nat) (ba : Nat → Int) (bi : Nat → Nat) (bs : Int) : Fam Try.prog false menv103 [] [] 96 0 Ann.no (subC [1, 1, 1, 0, 1, 0, 0] (codeOf Try.f14)) V_solve_Left_L0 where
  sh := sh_solve_Left_L0 ab Y ac av ar aB aC aD aE aF aG aI aL aM aN aO aQ aX bb ba bi bs
  ok := ok_solve_Left_L0 ab Y ac av ar aB aC aD aE aF aG aI aL aM aN aO aQ aX bb ba bi bs
  go := go_solve_Left_L0 ab Y ac av ar aB aC aD aE aF aG aI aL aM aN aO aQ aX bb ba bi bs
  step := step_solve_Left_L0 ab Y ac av ar aB aC aD aE aF aG aI aL aM aN aO aQ aX bb ba bi bs
  chg := (true :: false :: tpB 21 (false :: false :: tpB 60 ([])))
  chgH := []
  tpl := tpl_solve_Left_L0
  cts := cts_solve_Left_L0
  keep := 0
  srcs := []
  ann := (annNo (subC [1, 1, 1, 0, 1, 0, 0] (codeOf Try.f14)))
  le := by kernel_rfl
  kept := by kernel_rfl
  keptB := by kernel_rfl
  all := all_solve_Left_L0 ab Y ac av ar aB aC aD aE aF aG aI aL aM aN aO aQ aX bb ba bi bs
  len := fun x => by kernel_rfl
  head := fun x y => by kernel_rfl
  con := fun x y => by kernel_rfl
  conH := fun x y => by kernel_rfl
def F_solve_Left_L0 : St → Option Ch := fun s => cond (Nat.beq s.tm.length 85 && Nat.beq s.H.length 0) (tkTops 1 (alL tpl_solve_Left_L0 s.tm) fun t0 => tkCons t0 fun e t1 => tkView 5 e fun s0 f0 => tkTops 5 t1 fun t2 => tkCons t2 fun m t3 => tkF m fun s6 => tkTops 15 t3 fun t4 => tkCons t4 fun z t5 => tkView 14 z fun s7 f1 => tkCons t5 fun C t6 => tkI .i64 C fun s22 => tkCons t6 fun E t7 => tkI .i64 E fun s23 => tkTops 59 t7 fun t8 => tkNil t8 <| tkNil (alH cts_solve_Left_L0 (s.H ++ List.map phan phs_solve_Left_L0)) <| Fam.out (fam_solve_Left_L0 s0 (fL f0 0) (fL f0 1) (fL f0 2) (fL f0 3) (fL f0 4) s7 (iL f1 0) (iL f1 1) (fL f1 2) (fL f1 3) (fL f1 4) (fL f1 5) (fL f1 6) (fL f1 7) (fL f1 8) (fL f1 9) (fL f1 10) (fL f1 11) (iL f1 12) (fL f1 13) s22) s ((allB fun i => isNrm [Ck.f, Ck.f, Ck.f, Ck.f, Ck.f] (f0 i)) && (allB fun i => isNrm [Ck.i .i64, Ck.i .i64, Ck.f, Ck.f, Ck.f, Ck.f, Ck.f, Ck.f, Ck.f, Ck.f, Ck.f, Ck.f, Ck.i .i64, Ck.f] (f1 i))) (V_solve_Left_L0.mk s6 s23)) none
theorem F_solve_Left_L0_ok : ∀ s ch, F_solve_Left_L0 s = some ch → AllI s ch ∧ LoopSpec Try.prog false 0 (subC [1, 1, 1, 0, 1, 0, 0] (codeOf Try.f14)) s (sel ch) := by
  intro s ch h
  unfold F_solve_Left_L0 at h
  obtain ⟨hl, h0⟩ := cond_some h rfl
  clear h
  obtain ⟨hl, hb⟩ := and_beq2 hl
  obtain ⟨t0, e0, h1⟩ := tkTops_some h0
  obtain ⟨e, t1, rfl, h2⟩ := tkCons_some h1
  obtain ⟨s0, f0, rfl, h3⟩ := tkView_some h2
  obtain ⟨t2, rfl, h4⟩ := tkTops_some h3
  obtain ⟨m, t3, rfl, h5⟩ := tkCons_some h4
  obtain ⟨s6, rfl, h6⟩ := tkF_some h5
  obtain ⟨t4, rfl, h7⟩ := tkTops_some h6
  obtain ⟨z, t5, rfl, h8⟩ := tkCons_some h7
  obtain ⟨s7, f1, rfl, h9⟩ := tkView_some h8
  obtain ⟨C, t6, rfl, h10⟩ := tkCons_some h9
  obtain ⟨s22, rfl, h11⟩ := tkI_some h10
  obtain ⟨E, t7, rfl, h12⟩ := tkCons_some h11
  obtain ⟨s23, rfl, h13⟩ := tkI_some h12
  obtain ⟨t8, rfl, h14⟩ := tkTops_some h13
  obtain ⟨rfl, h15⟩ := tkNil_some h14
  obtain ⟨eH, h16⟩ := tkNil_some h15
  refine Fam.spec menv103_ok (fam_solve_Left_L0 s0 (fL f0 0) (fL f0 1) (fL f0 2) (fL f0 3) (fL f0 4) s7 (iL f1 0) (iL f1 1) (fL f1 2) (fL f1 3) (fL f1 4) (fL f1 5) (fL f1 6) (fL f1 7) (fL f1 8) (fL f1 9) (fL f1 10) (fL f1 11) (iL f1 12) (fL f1 13) s22) (phs := phs_solve_Left_L0) (hl.trans (by kernel_rfl)) (hb.trans (by kernel_rfl)) ?_ ?_ h16
  · rw [← hdr_alH cts_solve_Left_L0 (s.H ++ List.map phan phs_solve_Left_L0), eH]; kernel_rfl
  · intro hq
    simp only [Bool.and_eq_true] at hq
    obtain ⟨hq0, hq1⟩ := hq
    have n0 := nrm_fun hq0
    have n1 := nrm_fun hq1
    show sh_solve_Left_L0 s0 (fL f0 0) (fL f0 1) (fL f0 2) (fL f0 3) (fL f0 4) s7 (iL f1 0) (iL f1 1) (fL f1 2) (fL f1 3) (fL f1 4) (fL f1 5) (fL f1 6) (fL f1 7) (fL f1 8) (fL f1 9) (fL f1 10) (fL f1 11) (iL f1 12) (fL f1 13) s22 (V_solve_Left_L0.mk s6 s23) = (alL tpl_solve_Left_L0 s.tm, alH cts_solve_Left_L0 (s.H ++ List.map phan phs_solve_Left_L0))
    rw [e0, eH]
    refine Eq.trans (show sh_solve_Left_L0 s0 (fL f0 0) (fL f0 1) (fL f0 2) (fL f0 3) (fL f0 4) s7 (iL f1 0) (iL f1 1) (fL f1 2) (fL f1 3) (fL f1 4) (fL f1 5) (fL f1 6) (fL f1 7) (fL f1 8) (fL f1 9) (fL f1 10) (fL f1 11) (iL f1 12) (fL f1 13) s22 (V_solve_Left_L0.mk s6 s23) = T_solve_Left_L0 s0 (fL f0 0) (fL f0 1) (fL f0 2) (fL f0 3) (fL f0 4) s7 (iL f1 0) (iL f1 1) (fL f1 2) (fL f1 3) (fL f1 4) (fL f1 5) (fL f1 6) (fL f1 7) (fL f1 8) (fL f1 9) (fL f1 10) (fL f1 11) (iL f1 12) (fL f1 13) s22 (V_solve_Left_L0.mk s6 s23) (fun i => mkN [Ck.f, Ck.f, Ck.f, Ck.f, Ck.f] (f0 i) 0) (fun i => mkN [Ck.i .i64, Ck.i .i64, Ck.f, Ck.f, Ck.f, Ck.f, Ck.f, Ck.f, Ck.f, Ck.f, Ck.f, Ck.f, Ck.i .i64, Ck.f] (f1 i) 0) by kernel_rfl) ?_
    rw [n0, n1]
    kernel_rfl
theorem ann_solve_Left : FnOk Try.prog false 0 Try.f14 (Ann.two Ann.no (Ann.two Ann.no (Ann.two Ann.no (Ann.two (Ann.two Ann.no (Ann.one (Ann.loop F_solve_Left_L0))) Ann.no)))) := (fnOk_of (c := codeOf Try.f14) (by kernel_rfl) (annSeq (a := (subC [0] (codeOf Try.f14))) (b := (subC [1] (codeOf Try.f14))) (by kernel_rfl) (annNo (subC [0] (codeOf Try.f14))) (annSeq (a := (subC [1, 0] (codeOf Try.f14))) (b := (subC [1, 1] (codeOf Try.f14))) (by kernel_rfl) (annNo (subC [1, 0] (codeOf Try.f14))) (annSeq (a := (subC [1, 1, 0] (codeOf Try.f14))) (b := (subC [1, 1, 1] (codeOf Try.f14))) (by kernel_rfl) (annNo (subC [1, 1, 0] (codeOf Try.f14))) (annSeq (a := (subC [1, 1, 1, 0] (codeOf Try.f14))) (b := (subC [1, 1, 1, 1] (codeOf Try.f14))) (by kernel_rfl) (annSeq (a := (subC [1, 1, 1, 0, 0] (codeOf Try.f14))) (b := (subC [1, 1, 1, 0, 1] (codeOf Try.f14))) (by kernel_rfl) (annNo (subC [1, 1, 1, 0, 0] (codeOf Try.f14))) (annBlock (a := (subC [1, 1, 1, 0, 1, 0] (codeOf Try.f14))) (i := 0) (by kernel_rfl) (annLoop (a := (subC [1, 1, 1, 0, 1, 0, 0] (codeOf Try.f14))) (by kernel_rfl) F_solve_Left_L0_ok))) (annNo (subC [1, 1, 1, 1] (codeOf Try.f14))))))))
def s_solve_Left_0 (l : Nat) (aa ad : Nat → Int) (ae af ag ah ai aj ak al am an : Nat → Nat) (ao : Nat → Int) (ap : Nat → Nat) (X : Nat) (au aw ax ay az : Nat → Nat) : Nat := (bif (!(ieq (s_solve_asked_0 l aa ad ae af ag ah ai aj ak al am an ao ap X au aw ax ay az) (0 : Int))) then 0 else ((L_solve_Left_L0 X au aw ax ay az l aa ad ae af ag ah ai aj ak al am an ao ap (Int.ofNat l) (V_solve_Left_L0.mk 0 (0 : Int))).v0))
def s_solve_Left_1 (l : Nat) (aa ad : Nat → Int) (ae af ag ah ai aj ak al am an : Nat → Nat) (ao : Nat → Int) (ap : Nat → Nat) (X : Nat) (au aw ax ay az : Nat → Nat) : Int := (bif (!(ieq (s_solve_asked_0 l aa ad ae af ag ah ai aj ak al am an ao ap X au aw ax ay az) (0 : Int))) then (s_solve_asked_0 l aa ad ae af ag ah ai aj ak al am an ao ap X au aw ax ay az) else (0 : Int))
def q_solve_Left (l : Nat) (aa ad : Nat → Int) (ae af ag ah ai aj ak al am an : Nat → Nat) (ao : Nat → Int) (ap : Nat → Nat) (X : Nat) (au aw ax ay az : Nat → Nat) : Bool := (let x0 := ((allB fun _ => true) && (allB fun _ => true)) && (o_solve_asked l aa ad ae af ag ah ai aj ak al am an ao ap X au aw ax ay az); (mrgB (!(ieq (s_solve_asked_0 l aa ad ae af ag ah ai aj ak al am an ao ap X au aw ax ay az) (0 : Int))) x0 (x0 && (((allB fun _ => true) && (allB fun _ => true)) && (E_solve_Left_L0 X au aw ax ay az l aa ad ae af ag ah ai aj ak al am an ao ap (Int.ofNat l) (V_solve_Left_L0.mk 0 (0 : Int)))))))
def r_solve_Left (l : Nat) (aa ad : Nat → Int) (ae af ag ah ai aj ak al am an : Nat → Nat) (ao : Nat → Int) (ap : Nat → Nat) (X : Nat) (au aw ax ay az : Nat → Nat) : AV := AV.tup [AV.float (s_solve_Left_0 l aa ad ae af ag ah ai aj ak al am an ao ap X au aw ax ay az), AV.int .i64 (s_solve_Left_1 l aa ad ae af ag ah ai aj ak al am an ao ap X au aw ax ay az)]
theorem e_solve_Left (l : Nat) (aa ad : Nat → Int) (ae af ag ah ai aj ak al am an : Nat → Nat) (ao : Nat → Int) (ap : Nat → Nat) (X : Nat) (au aw ax ay az : Nat → Nat) : outB (evFnM Try.prog false menv103 [] [] 96 (Ann.two Ann.no (Ann.two Ann.no (Ann.two Ann.no (Ann.two (Ann.two Ann.no (Ann.one (Ann.loop F_solve_Left_L0))) Ann.no)))) Try.f14 [AV.view l 14 (fun i0 => [AV.int .i64 (aa i0), AV.int .i64 (ad i0), AV.float (ae i0), AV.float (af i0), AV.float (ag i0), AV.float (ah i0), AV.float (ai i0), AV.float (aj i0), AV.float (ak i0), AV.float (al i0), AV.float (am i0), AV.float (an i0), AV.int .i64 (ao i0), AV.float (ap i0)]), AV.view X 5 (fun i0 => [AV.float (au i0), AV.float (aw i0), AV.float (ax i0), AV.float (ay i0), AV.float (az i0)])] []) = some (q_solve_Left l aa ad ae af ag ah ai aj ak al am an ao ap X au aw ax ay az, r_solve_Left l aa ad ae af ag ah ai aj ak al am an ao ap X au aw ax ay az) := by kernel_rfl
def o_solve_Left (l : Nat) (aa ad : Nat → Int) (ae af ag ah ai aj ak al am an : Nat → Nat) (ao : Nat → Int) (ap : Nat → Nat) (X : Nat) (au aw ax ay az : Nat → Nat) : Bool := let x0 := o_solve_asked l aa ad ae af ag ah ai aj ak al am an ao ap X au aw ax ay az; (mrgB (!(ieq (s_solve_asked_0 l aa ad ae af ag ah ai aj ak al am an ao ap X au aw ax ay az) (0 : Int))) x0 (x0 && (E_solve_Left_L0 X au aw ax ay az l aa ad ae af ag ah ai aj ak al am an ao ap (Int.ofNat l) (V_solve_Left_L0.mk 0 (0 : Int)))))
def S_solve_Left : List AV → Option (Ob × AV)
  | [AV.view l 14 W, AV.view X 5 aA] => some (Ob.both (Ob.bit ((allB fun i => isNrm [Ck.i .i64, Ck.i .i64, Ck.f, Ck.f, Ck.f, Ck.f, Ck.f, Ck.f, Ck.f, Ck.f, Ck.f, Ck.f, Ck.i .i64, Ck.f] (W i)) && (allB fun i => isNrm [Ck.f, Ck.f, Ck.f, Ck.f, Ck.f] (aA i)))) (Ob.bit (o_solve_Left l (iL W 0) (iL W 1) (fL W 2) (fL W 3) (fL W 4) (fL W 5) (fL W 6) (fL W 7) (fL W 8) (fL W 9) (fL W 10) (fL W 11) (iL W 12) (fL W 13) X (fL aA 0) (fL aA 1) (fL aA 2) (fL aA 3) (fL aA 4))), r_solve_Left l (iL W 0) (iL W 1) (fL W 2) (fL W 3) (fL W 4) (fL W 5) (fL W 6) (fL W 7) (fL W 8) (fL W 9) (fL W 10) (fL W 11) (iL W 12) (fL W 13) X (fL aA 0) (fL aA 1) (fL aA 2) (fL aA 3) (fL aA 4))
  | _ => none
theorem ob_solve_Left (l : Nat) (aa ad : Nat → Int) (ae af ag ah ai aj ak al am an : Nat → Nat) (ao : Nat → Int) (ap : Nat → Nat) (X : Nat) (au aw ax ay az : Nat → Nat) (ho : o_solve_Left l aa ad ae af ag ah ai aj ak al am an ao ap X au aw ax ay az = true) : q_solve_Left l aa ad ae af ag ah ai aj ak al am an ao ap X au aw ax ay az = true := by
  unfold q_solve_Left
  unfold o_solve_Left at ho
  simp only [allB_true, eqT_self, mrgB_self, Bool.true_and, Bool.and_true] at ho ⊢
  exact ho
theorem t_solve_Left : SOkM Try.prog false (14, fun args => match S_solve_Left args with | some (o, v) => some (o, v, []) | none => none) := SOkM.flat (N := 96) menv103_ok Try.func14 ann_solve_Left Try.call14 fun args o v h ho => by
  unfold S_solve_Left at h
  split at h
  · rename_i l W X aA
    unfold r_solve_Left at h
    cases h
    rw [Ob.both_ok, Bool.and_eq_true] at ho
    obtain ⟨hn, ho2⟩ := ho
    simp only [Ob.ok, Bool.and_eq_true] at hn
    obtain ⟨n0, n1⟩ := hn
    replace n0 := nrm_fun n0
    replace n1 := nrm_fun n1
    have this := show outB (evFnM Try.prog false menv103 [] [] 96 (Ann.two Ann.no (Ann.two Ann.no (Ann.two Ann.no (Ann.two (Ann.two Ann.no (Ann.one (Ann.loop F_solve_Left_L0))) Ann.no)))) Try.f14 [AV.view l 14 (fun i => mkN [Ck.i .i64, Ck.i .i64, Ck.f, Ck.f, Ck.f, Ck.f, Ck.f, Ck.f, Ck.f, Ck.f, Ck.f, Ck.f, Ck.i .i64, Ck.f] (W i) 0), AV.view X 5 (fun i => mkN [Ck.f, Ck.f, Ck.f, Ck.f, Ck.f] (aA i) 0)] []) = _ from e_solve_Left l (iL W 0) (iL W 1) (fL W 2) (fL W 3) (fL W 4) (fL W 5) (fL W 6) (fL W 7) (fL W 8) (fL W 9) (fL W 10) (fL W 11) (iL W 12) (fL W 13) X (fL aA 0) (fL aA 1) (fL aA 2) (fL aA 3) (fL aA 4)
    rw [(ob_solve_Left l (iL W 0) (iL W 1) (fL W 2) (fL W 3) (fL W 4) (fL W 5) (fL W 6) (fL W 7) (fL W 8) (fL W 9) (fL W 10) (fL W 11) (iL W 12) (fL W 13) X (fL aA 0) (fL aA 1) (fL aA 2) (fL aA 3) (fL aA 4) ho2)] at this
    rw [n0, n1] at this
    exact ⟨this, rfl⟩
  · cases h
def c_solve_Left : SFM := fun args => match S_solve_Left args with | some (o, v) => some (o, v, []) | none => none
theorem c_solve_Left_ok : SOkM Try.prog false (14, c_solve_Left) := t_solve_Left
def mss103 : List (FuncId × SFM) := (14, c_solve_Left) :: mss102
def menv104 : EnvM := mkEnvM mxs mss103 mws2
theorem mss103_ok : All (SOkM Try.prog false) mss103 := All.cons c_solve_Left_ok mss102_ok
theorem menv104_ok : menv104.Ok Try.prog false := mkEnvM_ok mxs_ok mss103_ok mws2_ok
theorem ann_ref20_Speed : FnOk Try.prog false 0 Try.f80 Ann.no := (fnNo _)
def s_ref20_Speed_0 (j e : Int) (k m p z C E r u D q : Nat) (J : Int) (I F L P Q R M O S U V : Nat) : Nat := (bif (!(s_ref20_all_0 j e k m p z C E r u D q J I F L P Q R M O S U V)) then 0 else (s_ref20_speed_0 j e k m p z C E r u D q J I F L P Q R M O S U V))
def s_ref20_Speed_1 (j e : Int) (k m p z C E r u D q : Nat) (J : Int) (I F L P Q R M O S U V : Nat) : Int := (bif (!(s_ref20_all_0 j e k m p z C E r u D q J I F L P Q R M O S U V)) then (200 : Int) else (0 : Int))
theorem e_ref20_Speed (j e : Int) (k m p z C E r u D q : Nat) (J : Int) (I F L P Q R M O S U V : Nat) : outB (evFnM Try.prog false menv104 [] [] 96 Ann.no Try.f80 [AV.agg [AV.int .i64 j, AV.int .i64 e, AV.float k, AV.float m, AV.float p, AV.float z, AV.float C, AV.float E, AV.float r, AV.float u, AV.float D, AV.float q, AV.int .i64 J, AV.float I], AV.agg [AV.float F, AV.float L, AV.float P, AV.float Q, AV.float R], AV.agg [AV.float M, AV.float O, AV.float S, AV.float U, AV.float V]] []) = some (true, AV.tup [AV.float (s_ref20_Speed_0 j e k m p z C E r u D q J I F L P Q R M O S U V), AV.int .i64 (s_ref20_Speed_1 j e k m p z C E r u D q J I F L P Q R M O S U V)]) := by kernel_rfl
def S_ref20_Speed : List AV → Option (Ob × AV)
  | [AV.agg [AV.int .i64 j, AV.int .i64 e, AV.float k, AV.float m, AV.float p, AV.float z, AV.float C, AV.float E, AV.float r, AV.float u, AV.float D, AV.float q, AV.int .i64 J, AV.float I], AV.agg [AV.float F, AV.float L, AV.float P, AV.float Q, AV.float R], AV.agg [AV.float M, AV.float O, AV.float S, AV.float U, AV.float V]] => some (Ob.tt, AV.tup [AV.float (s_ref20_Speed_0 j e k m p z C E r u D q J I F L P Q R M O S U V), AV.int .i64 (s_ref20_Speed_1 j e k m p z C E r u D q J I F L P Q R M O S U V)])
  | _ => none
theorem t_ref20_Speed : SOkM Try.prog false (80, fun args => match S_ref20_Speed args with | some (o, v) => some (o, v, []) | none => none) := SOkM.flat (N := 96) menv104_ok Try.func80 ann_ref20_Speed Try.call80 fun args o v h ho => by
  unfold S_ref20_Speed at h
  split at h
  · rename_i j e k m p z C E r u D q J I F L P Q R M O S U V
    cases h
    have ho2 := ho
    have this := show outB (evFnM Try.prog false menv104 [] [] 96 Ann.no Try.f80 [AV.agg [AV.int .i64 j, AV.int .i64 e, AV.float k, AV.float m, AV.float p, AV.float z, AV.float C, AV.float E, AV.float r, AV.float u, AV.float D, AV.float q, AV.int .i64 J, AV.float I], AV.agg [AV.float F, AV.float L, AV.float P, AV.float Q, AV.float R], AV.agg [AV.float M, AV.float O, AV.float S, AV.float U, AV.float V]] []) = _ from e_ref20_Speed j e k m p z C E r u D q J I F L P Q R M O S U V
    exact ⟨this, rfl⟩
  · cases h
def c_ref20_Speed : SFM := fun args => match S_ref20_Speed args with | some (o, v) => some (o, v, []) | none => none
theorem c_ref20_Speed_ok : SOkM Try.prog false (80, c_ref20_Speed) := t_ref20_Speed
def mss104 : List (FuncId × SFM) := (80, c_ref20_Speed) :: mss103
def menv105 : EnvM := mkEnvM mxs mss104 mws2
theorem mss104_ok : All (SOkM Try.prog false) mss104 := All.cons c_ref20_Speed_ok mss103_ok
theorem menv105_ok : menv105.Ok Try.prog false := mkEnvM_ok mxs_ok mss104_ok mws2_ok
theorem ann_ref20_Weight : FnOk Try.prog false 0 Try.f81 Ann.no := (fnNo _)
def s_ref20_Weight_0 (j e : Int) (k m p z C E r u D q : Nat) (J : Int) (I F L P Q R M O S U V : Nat) : Nat := (bif (!(s_ref20_all_0 j e k m p z C E r u D q J I F L P Q R M O S U V)) then 0 else (s_ref20_weight_0 j e k m p z C E r u D q J I F L P Q R M O S U V))
def s_ref20_Weight_1 (j e : Int) (k m p z C E r u D q : Nat) (J : Int) (I F L P Q R M O S U V : Nat) : Int := (bif (!(s_ref20_all_0 j e k m p z C E r u D q J I F L P Q R M O S U V)) then (200 : Int) else (0 : Int))
theorem e_ref20_Weight (j e : Int) (k m p z C E r u D q : Nat) (J : Int) (I F L P Q R M O S U V : Nat) : outB (evFnM Try.prog false menv105 [] [] 96 Ann.no Try.f81 [AV.agg [AV.int .i64 j, AV.int .i64 e, AV.float k, AV.float m, AV.float p, AV.float z, AV.float C, AV.float E, AV.float r, AV.float u, AV.float D, AV.float q, AV.int .i64 J, AV.float I], AV.agg [AV.float F, AV.float L, AV.float P, AV.float Q, AV.float R], AV.agg [AV.float M, AV.float O, AV.float S, AV.float U, AV.float V]] []) = some (true, AV.tup [AV.float (s_ref20_Weight_0 j e k m p z C E r u D q J I F L P Q R M O S U V), AV.int .i64 (s_ref20_Weight_1 j e k m p z C E r u D q J I F L P Q R M O S U V)]) := by kernel_rfl
def S_ref20_Weight : List AV → Option (Ob × AV)
  | [AV.agg [AV.int .i64 j, AV.int .i64 e, AV.float k, AV.float m, AV.float p, AV.float z, AV.float C, AV.float E, AV.float r, AV.float u, AV.float D, AV.float q, AV.int .i64 J, AV.float I], AV.agg [AV.float F, AV.float L, AV.float P, AV.float Q, AV.float R], AV.agg [AV.float M, AV.float O, AV.float S, AV.float U, AV.float V]] => some (Ob.tt, AV.tup [AV.float (s_ref20_Weight_0 j e k m p z C E r u D q J I F L P Q R M O S U V), AV.int .i64 (s_ref20_Weight_1 j e k m p z C E r u D q J I F L P Q R M O S U V)])
  | _ => none
theorem t_ref20_Weight : SOkM Try.prog false (81, fun args => match S_ref20_Weight args with | some (o, v) => some (o, v, []) | none => none) := SOkM.flat (N := 96) menv105_ok Try.func81 ann_ref20_Weight Try.call81 fun args o v h ho => by
  unfold S_ref20_Weight at h
  split at h
  · rename_i j e k m p z C E r u D q J I F L P Q R M O S U V
    cases h
    have ho2 := ho
    have this := show outB (evFnM Try.prog false menv105 [] [] 96 Ann.no Try.f81 [AV.agg [AV.int .i64 j, AV.int .i64 e, AV.float k, AV.float m, AV.float p, AV.float z, AV.float C, AV.float E, AV.float r, AV.float u, AV.float D, AV.float q, AV.int .i64 J, AV.float I], AV.agg [AV.float F, AV.float L, AV.float P, AV.float Q, AV.float R], AV.agg [AV.float M, AV.float O, AV.float S, AV.float U, AV.float V]] []) = _ from e_ref20_Weight j e k m p z C E r u D q J I F L P Q R M O S U V
    exact ⟨this, rfl⟩
  · cases h
def c_ref20_Weight : SFM := fun args => match S_ref20_Weight args with | some (o, v) => some (o, v, []) | none => none
theorem c_ref20_Weight_ok : SOkM Try.prog false (81, c_ref20_Weight) := t_ref20_Weight
def mss105 : List (FuncId × SFM) := (81, c_ref20_Weight) :: mss104
def menv106 : EnvM := mkEnvM mxs mss105 mws2
theorem mss105_ok : All (SOkM Try.prog false) mss105 := All.cons c_ref20_Weight_ok mss104_ok
theorem menv106_ok : menv106.Ok Try.prog false := mkEnvM_ok mxs_ok mss105_ok mws2_ok
theorem ann_ref21_off : FnOk Try.prog false 0 Try.f48 Ann.no := (fnNo _)
def s_ref21_off_0 (j e : Int) (k m p z C E r u D q : Nat) (J : Int) (I F L P Q R M O S U V : Nat) : Nat := let x0 := fsub r (s_ref20_Speed_0 j e k m p z C E r u D q J I F L P Q R M O S U V); (bif (((!(flt 0 (s_ref20_Weight_0 j e k m p z C E r u D q J I F L P Q R M O S U V))) || ((flt x0 0) && (fle q u))) || ((flt 0 x0) && (fle D q))) then 0 else (fabs x0))
theorem e_ref21_off (j e : Int) (k m p z C E r u D q : Nat) (J : Int) (I F L P Q R M O S U V : Nat) : outB (evFnM Try.prog false menv106 [] [] 96 Ann.no Try.f48 [AV.agg [AV.int .i64 j, AV.int .i64 e, AV.float k, AV.float m, AV.float p, AV.float z, AV.float C, AV.float E, AV.float r, AV.float u, AV.float D, AV.float q, AV.int .i64 J, AV.float I], AV.agg [AV.float F, AV.float L, AV.float P, AV.float Q, AV.float R], AV.agg [AV.float M, AV.float O, AV.float S, AV.float U, AV.float V]] []) = some (true, AV.float (s_ref21_off_0 j e k m p z C E r u D q J I F L P Q R M O S U V)) := by kernel_rfl
def S_ref21_off : List AV → Option (Ob × AV)
  | [AV.agg [AV.int .i64 j, AV.int .i64 e, AV.float k, AV.float m, AV.float p, AV.float z, AV.float C, AV.float E, AV.float r, AV.float u, AV.float D, AV.float q, AV.int .i64 J, AV.float I], AV.agg [AV.float F, AV.float L, AV.float P, AV.float Q, AV.float R], AV.agg [AV.float M, AV.float O, AV.float S, AV.float U, AV.float V]] => some (Ob.tt, AV.float (s_ref21_off_0 j e k m p z C E r u D q J I F L P Q R M O S U V))
  | _ => none
theorem t_ref21_off : SOkM Try.prog false (48, fun args => match S_ref21_off args with | some (o, v) => some (o, v, []) | none => none) := SOkM.flat (N := 96) menv106_ok Try.func48 ann_ref21_off Try.call48 fun args o v h ho => by
  unfold S_ref21_off at h
  split at h
  · rename_i j e k m p z C E r u D q J I F L P Q R M O S U V
    cases h
    have ho2 := ho
    have this := show outB (evFnM Try.prog false menv106 [] [] 96 Ann.no Try.f48 [AV.agg [AV.int .i64 j, AV.int .i64 e, AV.float k, AV.float m, AV.float p, AV.float z, AV.float C, AV.float E, AV.float r, AV.float u, AV.float D, AV.float q, AV.int .i64 J, AV.float I], AV.agg [AV.float F, AV.float L, AV.float P, AV.float Q, AV.float R], AV.agg [AV.float M, AV.float O, AV.float S, AV.float U, AV.float V]] []) = _ from e_ref21_off j e k m p z C E r u D q J I F L P Q R M O S U V
    exact ⟨this, rfl⟩
  · cases h
def c_ref21_off : SFM := fun args => match S_ref21_off args with | some (o, v) => some (o, v, []) | none => none
theorem c_ref21_off_ok : SOkM Try.prog false (48, c_ref21_off) := t_ref21_off
def mss106 : List (FuncId × SFM) := (48, c_ref21_off) :: mss105
def menv107 : EnvM := mkEnvM mxs mss106 mws2
theorem mss106_ok : All (SOkM Try.prog false) mss106 := All.cons c_ref21_off_ok mss105_ok
theorem menv107_ok : menv107.Ok Try.prog false := mkEnvM_ok mxs_ok mss106_ok mws2_ok
theorem ann_ref01_Most : FnOk Try.prog false 0 Try.f47 Ann.no := (fnNo _)
def s_ref01_Most_0 (j e : Nat) : Nat := (bif (nanb j) then e else (bif ((nanb e) || (ile (s_ref01_place_0 e) (s_ref01_place_0 j))) then j else e))
theorem e_ref01_Most (j e : Nat) : outB (evFnM Try.prog false menv107 [] [] 96 Ann.no Try.f47 [AV.float j, AV.float e] []) = some ((let x0 := (!(nanb j)) && (!(nanb j)); let x1 := (!(nanb e)) && (!(nanb e)); let x2 := mrgB (nanb e) true ((mrgB (ieq (Int.fdiv (Int.ofNat e) (9223372036854775808 : Int)) (1 : Int)) x1 x1) && (mrgB (ieq (Int.fdiv (Int.ofNat j) (9223372036854775808 : Int)) (1 : Int)) x0 x0)); (mrgB (nanb j) true (mrgB ((nanb e) || (ile (s_ref01_place_0 e) (s_ref01_place_0 j))) x2 x2))), AV.float (s_ref01_Most_0 j e)) := by kernel_rfl
def S_ref01_Most : List AV → Option (Ob × AV)
  | [AV.float j, AV.float e] => some (Ob.tt, AV.float (s_ref01_Most_0 j e))
  | _ => none
theorem ob_ref01_Most (j e : Nat) : (let x0 := (!(nanb j)) && (!(nanb j)); let x1 := (!(nanb e)) && (!(nanb e)); let x2 := mrgB (nanb e) true ((mrgB (ieq (Int.fdiv (Int.ofNat e) (9223372036854775808 : Int)) (1 : Int)) x1 x1) && (mrgB (ieq (Int.fdiv (Int.ofNat j) (9223372036854775808 : Int)) (1 : Int)) x0 x0)); (mrgB (nanb j) true (mrgB ((nanb e) || (ile (s_ref01_place_0 e) (s_ref01_place_0 j))) x2 x2))) = true := by show ((mrgB (nanb j) true (mrgB ((nanb e) || (ile (s_ref01_place_0 e) (s_ref01_place_0 j))) (mrgB (nanb e) true ((mrgB (ieq (Int.fdiv (Int.ofNat e) (9223372036854775808 : Int)) (1 : Int)) ((!(nanb e)) && (!(nanb e))) ((!(nanb e)) && (!(nanb e)))) && (mrgB (ieq (Int.fdiv (Int.ofNat j) (9223372036854775808 : Int)) (1 : Int)) ((!(nanb j)) && (!(nanb j))) ((!(nanb j)) && (!(nanb j)))))) (mrgB (nanb e) true ((mrgB (ieq (Int.fdiv (Int.ofNat e) (9223372036854775808 : Int)) (1 : Int)) ((!(nanb e)) && (!(nanb e))) ((!(nanb e)) && (!(nanb e)))) && (mrgB (ieq (Int.fdiv (Int.ofNat j) (9223372036854775808 : Int)) (1 : Int)) ((!(nanb j)) && (!(nanb j))) ((!(nanb j)) && (!(nanb j))))))))) = true; (generalize (ieq (Int.fdiv (Int.ofNat e) (9223372036854775808 : Int)) (1 : Int)) = q0; generalize (ieq (Int.fdiv (Int.ofNat j) (9223372036854775808 : Int)) (1 : Int)) = q1; generalize (ile (s_ref01_place_0 e) (s_ref01_place_0 j)) = q2; generalize (nanb j) = q3; generalize (nanb e) = q4; cases q0 <;> cases q1 <;> cases q2 <;> cases q3 <;> cases q4 <;> rfl)
theorem t_ref01_Most : SOkM Try.prog false (47, fun args => match S_ref01_Most args with | some (o, v) => some (o, v, []) | none => none) := SOkM.flat (N := 96) menv107_ok Try.func47 ann_ref01_Most Try.call47 fun args o v h ho => by
  unfold S_ref01_Most at h
  split at h
  · rename_i j e
    cases h
    have ho2 := ho
    have this := show outB (evFnM Try.prog false menv107 [] [] 96 Ann.no Try.f47 [AV.float j, AV.float e] []) = _ from e_ref01_Most j e
    rw [(ob_ref01_Most j e)] at this
    exact ⟨this, rfl⟩
  · cases h
def c_ref01_Most : SFM := fun args => match S_ref01_Most args with | some (o, v) => some (o, v, []) | none => none
theorem c_ref01_Most_ok : SOkM Try.prog false (47, c_ref01_Most) := t_ref01_Most
def mss107 : List (FuncId × SFM) := (47, c_ref01_Most) :: mss106
def menv108 : EnvM := mkEnvM mxs mss107 mws2
theorem mss107_ok : All (SOkM Try.prog false) mss107 := All.cons c_ref01_Most_ok mss106_ok
theorem menv108_ok : menv108.Ok Try.prog false := mkEnvM_ok mxs_ok mss107_ok mws2_ok
structure V_ref21_Left_L0 where
  v0 : Nat
  v1 : Int
def tpl_ref21_Left_L0 : List AV := (AV.nul :: AV.nul :: AV.top :: AV.top :: AV.top :: AV.top :: AV.top :: AV.nul :: AV.nul :: tpA 36 ([]))
def cts_ref21_Left_L0 : List CT := []
def phs_ref21_Left_L0 : List Src := []
def T_ref21_Left_L0 (ab : Nat) (Y ac : Nat → Int) (av ar aB aC aD aE aF aG aI aL : Nat → Nat) (aM : Nat → Int) (aN : Nat → Nat) (aO : Nat) (aQ aX bb ba bi : Nat → Nat) (x : V_ref21_Left_L0) (F0 F1 : Nat → List AV) : List AV × Heap := ((AV.view ab 14 F0 :: AV.view aO 5 F1 :: AV.top :: AV.top :: AV.top :: AV.top :: AV.top :: AV.float x.v0 :: AV.int .i64 x.v1 :: tpA 36 ([])), [])
def sh_ref21_Left_L0 (ab : Nat) (Y ac : Nat → Int) (av ar aB aC aD aE aF aG aI aL : Nat → Nat) (aM : Nat → Int) (aN : Nat → Nat) (aO : Nat) (aQ aX bb ba bi : Nat → Nat) (x : V_ref21_Left_L0) : List AV × Heap := T_ref21_Left_L0 ab Y ac av ar aB aC aD aE aF aG aI aL aM aN aO aQ aX bb ba bi x (fun j0 => [AV.int .i64 (Y j0), AV.int .i64 (ac j0), AV.float (av j0), AV.float (ar j0), AV.float (aB j0), AV.float (aC j0), AV.float (aD j0), AV.float (aE j0), AV.float (aF j0), AV.float (aG j0), AV.float (aI j0), AV.float (aL j0), AV.int .i64 (aM j0), AV.float (aN j0)]) (fun j0 => [AV.float (aQ j0), AV.float (aX j0), AV.float (bb j0), AV.float (ba j0), AV.float (bi j0)])
def step_ref21_Left_L0 (ab : Nat) (Y ac : Nat → Int) (av ar aB aC aD aE aF aG aI aL : Nat → Nat) (aM : Nat → Int) (aN : Nat → Nat) (aO : Nat) (aQ aX bb ba bi : Nat → Nat) (x : V_ref21_Left_L0) : V_ref21_Left_L0 := V_ref21_Left_L0.mk (let x0 := ac (Int.toNat x.v1); let x1 := Int.toNat x0; let x2 := Y (Int.toNat x.v1); let x3 := Int.toNat x2; (s_ref01_Most_0 x.v0 (s_ref21_off_0 x2 x0 (av (Int.toNat x.v1)) (ar (Int.toNat x.v1)) (aB (Int.toNat x.v1)) (aC (Int.toNat x.v1)) (aD (Int.toNat x.v1)) (aE (Int.toNat x.v1)) (aF (Int.toNat x.v1)) (aG (Int.toNat x.v1)) (aI (Int.toNat x.v1)) (aL (Int.toNat x.v1)) (aM (Int.toNat x.v1)) (aN (Int.toNat x.v1)) (aQ x3) (aX x3) (bb x3) (ba x3) (bi x3) (aQ x1) (aX x1) (bb x1) (ba x1) (bi x1)))) (IntKind.wrap .i64 (x.v1 + (1 : Int)))
def go_ref21_Left_L0 (ab : Nat) (Y ac : Nat → Int) (av ar aB aC aD aE aF aG aI aL : Nat → Nat) (aM : Nat → Int) (aN : Nat → Nat) (aO : Nat) (aQ aX bb ba bi : Nat → Nat) (x : V_ref21_Left_L0) : Bool := (bif (!(ilt x.v1 (Int.ofNat ab))) then false else true)
def ok_ref21_Left_L0 (ab : Nat) (Y ac : Nat → Int) (av ar aB aC aD aE aF aG aI aL : Nat → Nat) (aM : Nat → Int) (aN : Nat → Nat) (aO : Nat) (aQ aX bb ba bi : Nat → Nat) (x : V_ref21_Left_L0) : Bool := let x0 := (ile (0 : Int) x.v1) && (Nat.blt (Int.toNat x.v1) ab); let x1 := Y (Int.toNat x.v1); let x2 := ac (Int.toNat x.v1); (mrgB (!(ilt x.v1 (Int.ofNat ab))) true (((ile (0 : Int) x2) && (Nat.blt (Int.toNat x2) aO)) && (x0 && (((ile (0 : Int) x1) && (Nat.blt (Int.toNat x1) aO)) && (x0 && x0)))))
def L_ref21_Left_L0 (ab : Nat) (Y ac : Nat → Int) (av ar aB aC aD aE aF aG aI aL : Nat → Nat) (aM : Nat → Int) (aN : Nat → Nat) (aO : Nat) (aQ aX bb ba bi : Nat → Nat) (x : V_ref21_Left_L0) : V_ref21_Left_L0 := lastL (ok_ref21_Left_L0 ab Y ac av ar aB aC aD aE aF aG aI aL aM aN aO aQ aX bb ba bi) (go_ref21_Left_L0 ab Y ac av ar aB aC aD aE aF aG aI aL aM aN aO aQ aX bb ba bi) (step_ref21_Left_L0 ab Y ac av ar aB aC aD aE aF aG aI aL aM aN aO aQ aX bb ba bi) x
def E_ref21_Left_L0 (ab : Nat) (Y ac : Nat → Int) (av ar aB aC aD aE aF aG aI aL : Nat → Nat) (aM : Nat → Int) (aN : Nat → Nat) (aO : Nat) (aQ aX bb ba bi : Nat → Nat) (x : V_ref21_Left_L0) : Bool := endsL (ok_ref21_Left_L0 ab Y ac av ar aB aC aD aE aF aG aI aL aM aN aO aQ aX bb ba bi) (go_ref21_Left_L0 ab Y ac av ar aB aC aD aE aF aG aI aL aM aN aO aQ aX bb ba bi) (step_ref21_Left_L0 ab Y ac av ar aB aC aD aE aF aG aI aL aM aN aO aQ aX bb ba bi) x
theorem all_ref21_Left_L0 (ab : Nat) (Y ac : Nat → Int) (av ar aB aC aD aE aF aG aI aL : Nat → Nat) (aM : Nat → Int) (aN : Nat → Nat) (aO : Nat) (aQ aX bb ba bi : Nat → Nat) (x : V_ref21_Left_L0) : rnd Try.prog false menv108 [] [] 96 Ann.no (subC [1, 1, 1, 1, 0, 1, 0, 0] (codeOf Try.f15)) 0 [] tpl_ref21_Left_L0 cts_ref21_Left_L0 (false :: false :: tpB 43 ([])) [] (sh_ref21_Left_L0 ab Y ac av ar aB aC aD aE aF aG aI aL aM aN aO aQ aX bb ba bi x) = (true, true, go_ref21_Left_L0 ab Y ac av ar aB aC aD aE aF aG aI aL aM aN aO aQ aX bb ba bi x, ok_ref21_Left_L0 ab Y ac av ar aB aC aD aE aF aG aI aL aM aN aO aQ aX bb ba bi x, true, sh_ref21_Left_L0 ab Y ac av ar aB aC aD aE aF aG aI aL aM aN aO aQ aX bb ba bi (step_ref21_Left_L0 ab Y ac av ar aB aC aD aE aF aG aI aL aM aN aO aQ aX bb ba bi x), true) := by kernel_rfl
def fam_ref21_Left_L0 (ab : Nat) (Y ac : Nat → Int) (av ar aB aC aD aE aF aG aI aL : Nat → Nat) (aM : Nat → Int) (aN : Nat → Nat) (aO : Nat) (aQ aX bb ba bi : Nat → Nat) : Fam Try.prog false menv108 [] [] 96 0 Ann.no (subC [1, 1, 1, 1, 0, 1, 0, 0] (codeOf Try.f15)) V_ref21_Left_L0 where
  sh := sh_ref21_Left_L0 ab Y ac av ar aB aC aD aE aF aG aI aL aM aN aO aQ aX bb ba bi
  ok := ok_ref21_Left_L0 ab Y ac av ar aB aC aD aE aF aG aI aL aM aN aO aQ aX bb ba bi
  go := go_ref21_Left_L0 ab Y ac av ar aB aC aD aE aF aG aI aL aM aN aO aQ aX bb ba bi
  step := step_ref21_Left_L0 ab Y ac av ar aB aC aD aE aF aG aI aL aM aN aO aQ aX bb ba bi
  chg := (false :: false :: tpB 43 ([]))
  chgH := []
  tpl := tpl_ref21_Left_L0
  cts := cts_ref21_Left_L0
  keep := 0
  srcs := []
  ann := (annNo (subC [1, 1, 1, 1, 0, 1, 0, 0] (codeOf Try.f15)))
  le := by kernel_rfl
  kept := by kernel_rfl
  keptB := by kernel_rfl
  all := all_ref21_Left_L0 ab Y ac av ar aB aC aD aE aF aG aI aL aM aN aO aQ aX bb ba bi
  len := fun x => by kernel_rfl
  head := fun x y => by kernel_rfl
  con := fun x y => by kernel_rfl
  conH := fun x y => by kernel_rfl
def F_ref21_Left_L0 : St → Option Ch := fun s => cond (Nat.beq s.tm.length 45 && Nat.beq s.H.length 0) (tkCons (alL tpl_ref21_Left_L0 s.tm) fun j t0 => tkView 14 j fun s0 f0 => tkCons t0 fun e t1 => tkView 5 e fun s15 f1 => tkTops 5 t1 fun t2 => tkCons t2 fun m t3 => tkF m fun s21 => tkCons t3 fun p t4 => tkI .i64 p fun s22 => tkTops 36 t4 fun t5 => tkNil t5 <| tkNil (alH cts_ref21_Left_L0 (s.H ++ List.map phan phs_ref21_Left_L0)) <| Fam.out (fam_ref21_Left_L0 s0 (iL f0 0) (iL f0 1) (fL f0 2) (fL f0 3) (fL f0 4) (fL f0 5) (fL f0 6) (fL f0 7) (fL f0 8) (fL f0 9) (fL f0 10) (fL f0 11) (iL f0 12) (fL f0 13) s15 (fL f1 0) (fL f1 1) (fL f1 2) (fL f1 3) (fL f1 4)) s ((allB fun i => isNrm [Ck.i .i64, Ck.i .i64, Ck.f, Ck.f, Ck.f, Ck.f, Ck.f, Ck.f, Ck.f, Ck.f, Ck.f, Ck.f, Ck.i .i64, Ck.f] (f0 i)) && (allB fun i => isNrm [Ck.f, Ck.f, Ck.f, Ck.f, Ck.f] (f1 i))) (V_ref21_Left_L0.mk s21 s22)) none
theorem F_ref21_Left_L0_ok : ∀ s ch, F_ref21_Left_L0 s = some ch → AllI s ch ∧ LoopSpec Try.prog false 0 (subC [1, 1, 1, 1, 0, 1, 0, 0] (codeOf Try.f15)) s (sel ch) := by
  intro s ch h
  unfold F_ref21_Left_L0 at h
  obtain ⟨hl, h0⟩ := cond_some h rfl
  clear h
  obtain ⟨hl, hb⟩ := and_beq2 hl
  obtain ⟨j, t0, e0, h1⟩ := tkCons_some h0
  obtain ⟨s0, f0, rfl, h2⟩ := tkView_some h1
  obtain ⟨e, t1, rfl, h3⟩ := tkCons_some h2
  obtain ⟨s15, f1, rfl, h4⟩ := tkView_some h3
  obtain ⟨t2, rfl, h5⟩ := tkTops_some h4
  obtain ⟨m, t3, rfl, h6⟩ := tkCons_some h5
  obtain ⟨s21, rfl, h7⟩ := tkF_some h6
  obtain ⟨p, t4, rfl, h8⟩ := tkCons_some h7
  obtain ⟨s22, rfl, h9⟩ := tkI_some h8
  obtain ⟨t5, rfl, h10⟩ := tkTops_some h9
  obtain ⟨rfl, h11⟩ := tkNil_some h10
  obtain ⟨eH, h12⟩ := tkNil_some h11
  refine Fam.spec menv108_ok (fam_ref21_Left_L0 s0 (iL f0 0) (iL f0 1) (fL f0 2) (fL f0 3) (fL f0 4) (fL f0 5) (fL f0 6) (fL f0 7) (fL f0 8) (fL f0 9) (fL f0 10) (fL f0 11) (iL f0 12) (fL f0 13) s15 (fL f1 0) (fL f1 1) (fL f1 2) (fL f1 3) (fL f1 4)) (phs := phs_ref21_Left_L0) (hl.trans (by kernel_rfl)) (hb.trans (by kernel_rfl)) ?_ ?_ h12
  · rw [← hdr_alH cts_ref21_Left_L0 (s.H ++ List.map phan phs_ref21_Left_L0), eH]; kernel_rfl
  · intro hq
    simp only [Bool.and_eq_true] at hq
    obtain ⟨hq0, hq1⟩ := hq
    have n0 := nrm_fun hq0
    have n1 := nrm_fun hq1
    show sh_ref21_Left_L0 s0 (iL f0 0) (iL f0 1) (fL f0 2) (fL f0 3) (fL f0 4) (fL f0 5) (fL f0 6) (fL f0 7) (fL f0 8) (fL f0 9) (fL f0 10) (fL f0 11) (iL f0 12) (fL f0 13) s15 (fL f1 0) (fL f1 1) (fL f1 2) (fL f1 3) (fL f1 4) (V_ref21_Left_L0.mk s21 s22) = (alL tpl_ref21_Left_L0 s.tm, alH cts_ref21_Left_L0 (s.H ++ List.map phan phs_ref21_Left_L0))
    rw [e0, eH]
    refine Eq.trans (show sh_ref21_Left_L0 s0 (iL f0 0) (iL f0 1) (fL f0 2) (fL f0 3) (fL f0 4) (fL f0 5) (fL f0 6) (fL f0 7) (fL f0 8) (fL f0 9) (fL f0 10) (fL f0 11) (iL f0 12) (fL f0 13) s15 (fL f1 0) (fL f1 1) (fL f1 2) (fL f1 3) (fL f1 4) (V_ref21_Left_L0.mk s21 s22) = T_ref21_Left_L0 s0 (iL f0 0) (iL f0 1) (fL f0 2) (fL f0 3) (fL f0 4) (fL f0 5) (fL f0 6) (fL f0 7) (fL f0 8) (fL f0 9) (fL f0 10) (fL f0 11) (iL f0 12) (fL f0 13) s15 (fL f1 0) (fL f1 1) (fL f1 2) (fL f1 3) (fL f1 4) (V_ref21_Left_L0.mk s21 s22) (fun i => mkN [Ck.i .i64, Ck.i .i64, Ck.f, Ck.f, Ck.f, Ck.f, Ck.f, Ck.f, Ck.f, Ck.f, Ck.f, Ck.f, Ck.i .i64, Ck.f] (f0 i) 0) (fun i => mkN [Ck.f, Ck.f, Ck.f, Ck.f, Ck.f] (f1 i) 0) by kernel_rfl) ?_
    rw [n0, n1]
    kernel_rfl
theorem ann_ref21_Left : FnOk Try.prog false 0 Try.f15 (Ann.two Ann.no (Ann.two Ann.no (Ann.two Ann.no (Ann.two Ann.no (Ann.two (Ann.two Ann.no (Ann.one (Ann.loop F_ref21_Left_L0))) Ann.no))))) := (fnOk_of (c := codeOf Try.f15) (by kernel_rfl) (annSeq (a := (subC [0] (codeOf Try.f15))) (b := (subC [1] (codeOf Try.f15))) (by kernel_rfl) (annNo (subC [0] (codeOf Try.f15))) (annSeq (a := (subC [1, 0] (codeOf Try.f15))) (b := (subC [1, 1] (codeOf Try.f15))) (by kernel_rfl) (annNo (subC [1, 0] (codeOf Try.f15))) (annSeq (a := (subC [1, 1, 0] (codeOf Try.f15))) (b := (subC [1, 1, 1] (codeOf Try.f15))) (by kernel_rfl) (annNo (subC [1, 1, 0] (codeOf Try.f15))) (annSeq (a := (subC [1, 1, 1, 0] (codeOf Try.f15))) (b := (subC [1, 1, 1, 1] (codeOf Try.f15))) (by kernel_rfl) (annNo (subC [1, 1, 1, 0] (codeOf Try.f15))) (annSeq (a := (subC [1, 1, 1, 1, 0] (codeOf Try.f15))) (b := (subC [1, 1, 1, 1, 1] (codeOf Try.f15))) (by kernel_rfl) (annSeq (a := (subC [1, 1, 1, 1, 0, 0] (codeOf Try.f15))) (b := (subC [1, 1, 1, 1, 0, 1] (codeOf Try.f15))) (by kernel_rfl) (annNo (subC [1, 1, 1, 1, 0, 0] (codeOf Try.f15))) (annBlock (a := (subC [1, 1, 1, 1, 0, 1, 0] (codeOf Try.f15))) (i := 0) (by kernel_rfl) (annLoop (a := (subC [1, 1, 1, 1, 0, 1, 0, 0] (codeOf Try.f15))) (by kernel_rfl) F_ref21_Left_L0_ok))) (annNo (subC [1, 1, 1, 1, 1] (codeOf Try.f15)))))))))
def s_ref21_Left_0 (l : Nat) (aa ad : Nat → Int) (ae af ag ah ai aj ak al am an : Nat → Nat) (ao : Nat → Int) (ap : Nat → Nat) (X : Nat) (au aw ax ay az : Nat → Nat) : Nat := (bif (!(ieq (s_ref21_Asked_0 l aa ad ae af ag ah ai aj ak al am an ao ap X au aw ax ay az) (0 : Int))) then 0 else ((L_ref21_Left_L0 l aa ad ae af ag ah ai aj ak al am an ao ap X au aw ax ay az (V_ref21_Left_L0.mk 0 (0 : Int))).v0))
def s_ref21_Left_1 (l : Nat) (aa ad : Nat → Int) (ae af ag ah ai aj ak al am an : Nat → Nat) (ao : Nat → Int) (ap : Nat → Nat) (X : Nat) (au aw ax ay az : Nat → Nat) : Int := (bif (!(ieq (s_ref21_Asked_0 l aa ad ae af ag ah ai aj ak al am an ao ap X au aw ax ay az) (0 : Int))) then (s_ref21_Asked_0 l aa ad ae af ag ah ai aj ak al am an ao ap X au aw ax ay az) else (0 : Int))
def q_ref21_Left (l : Nat) (aa ad : Nat → Int) (ae af ag ah ai aj ak al am an : Nat → Nat) (ao : Nat → Int) (ap : Nat → Nat) (X : Nat) (au aw ax ay az : Nat → Nat) : Bool := (let x0 := ((allB fun _ => true) && (allB fun _ => true)) && (o_ref21_Asked l aa ad ae af ag ah ai aj ak al am an ao ap X au aw ax ay az); (mrgB (!(ieq (s_ref21_Asked_0 l aa ad ae af ag ah ai aj ak al am an ao ap X au aw ax ay az) (0 : Int))) x0 (x0 && (((allB fun _ => true) && (allB fun _ => true)) && (E_ref21_Left_L0 l aa ad ae af ag ah ai aj ak al am an ao ap X au aw ax ay az (V_ref21_Left_L0.mk 0 (0 : Int)))))))
def r_ref21_Left (l : Nat) (aa ad : Nat → Int) (ae af ag ah ai aj ak al am an : Nat → Nat) (ao : Nat → Int) (ap : Nat → Nat) (X : Nat) (au aw ax ay az : Nat → Nat) : AV := AV.tup [AV.float (s_ref21_Left_0 l aa ad ae af ag ah ai aj ak al am an ao ap X au aw ax ay az), AV.int .i64 (s_ref21_Left_1 l aa ad ae af ag ah ai aj ak al am an ao ap X au aw ax ay az)]
theorem e_ref21_Left (l : Nat) (aa ad : Nat → Int) (ae af ag ah ai aj ak al am an : Nat → Nat) (ao : Nat → Int) (ap : Nat → Nat) (X : Nat) (au aw ax ay az : Nat → Nat) : outB (evFnM Try.prog false menv108 [] [] 96 (Ann.two Ann.no (Ann.two Ann.no (Ann.two Ann.no (Ann.two Ann.no (Ann.two (Ann.two Ann.no (Ann.one (Ann.loop F_ref21_Left_L0))) Ann.no))))) Try.f15 [AV.view l 14 (fun i0 => [AV.int .i64 (aa i0), AV.int .i64 (ad i0), AV.float (ae i0), AV.float (af i0), AV.float (ag i0), AV.float (ah i0), AV.float (ai i0), AV.float (aj i0), AV.float (ak i0), AV.float (al i0), AV.float (am i0), AV.float (an i0), AV.int .i64 (ao i0), AV.float (ap i0)]), AV.view X 5 (fun i0 => [AV.float (au i0), AV.float (aw i0), AV.float (ax i0), AV.float (ay i0), AV.float (az i0)])] []) = some (q_ref21_Left l aa ad ae af ag ah ai aj ak al am an ao ap X au aw ax ay az, r_ref21_Left l aa ad ae af ag ah ai aj ak al am an ao ap X au aw ax ay az) := by kernel_rfl
def o_ref21_Left (l : Nat) (aa ad : Nat → Int) (ae af ag ah ai aj ak al am an : Nat → Nat) (ao : Nat → Int) (ap : Nat → Nat) (X : Nat) (au aw ax ay az : Nat → Nat) : Bool := let x0 := o_ref21_Asked l aa ad ae af ag ah ai aj ak al am an ao ap X au aw ax ay az; (mrgB (!(ieq (s_ref21_Asked_0 l aa ad ae af ag ah ai aj ak al am an ao ap X au aw ax ay az) (0 : Int))) x0 (x0 && (E_ref21_Left_L0 l aa ad ae af ag ah ai aj ak al am an ao ap X au aw ax ay az (V_ref21_Left_L0.mk 0 (0 : Int)))))
def S_ref21_Left : List AV → Option (Ob × AV)
  | [AV.view l 14 W, AV.view X 5 aA] => some (Ob.both (Ob.bit ((allB fun i => isNrm [Ck.i .i64, Ck.i .i64, Ck.f, Ck.f, Ck.f, Ck.f, Ck.f, Ck.f, Ck.f, Ck.f, Ck.f, Ck.f, Ck.i .i64, Ck.f] (W i)) && (allB fun i => isNrm [Ck.f, Ck.f, Ck.f, Ck.f, Ck.f] (aA i)))) (Ob.bit (o_ref21_Left l (iL W 0) (iL W 1) (fL W 2) (fL W 3) (fL W 4) (fL W 5) (fL W 6) (fL W 7) (fL W 8) (fL W 9) (fL W 10) (fL W 11) (iL W 12) (fL W 13) X (fL aA 0) (fL aA 1) (fL aA 2) (fL aA 3) (fL aA 4))), r_ref21_Left l (iL W 0) (iL W 1) (fL W 2) (fL W 3) (fL W 4) (fL W 5) (fL W 6) (fL W 7) (fL W 8) (fL W 9) (fL W 10) (fL W 11) (iL W 12) (fL W 13) X (fL aA 0) (fL aA 1) (fL aA 2) (fL aA 3) (fL aA 4))
  | _ => none
theorem ob_ref21_Left (l : Nat) (aa ad : Nat → Int) (ae af ag ah ai aj ak al am an : Nat → Nat) (ao : Nat → Int) (ap : Nat → Nat) (X : Nat) (au aw ax ay az : Nat → Nat) (ho : o_ref21_Left l aa ad ae af ag ah ai aj ak al am an ao ap X au aw ax ay az = true) : q_ref21_Left l aa ad ae af ag ah ai aj ak al am an ao ap X au aw ax ay az = true := by
  unfold q_ref21_Left
  unfold o_ref21_Left at ho
  simp only [allB_true, eqT_self, mrgB_self, Bool.true_and, Bool.and_true] at ho ⊢
  exact ho
theorem t_ref21_Left : SOkM Try.prog false (15, fun args => match S_ref21_Left args with | some (o, v) => some (o, v, []) | none => none) := SOkM.flat (N := 96) menv108_ok Try.func15 ann_ref21_Left Try.call15 fun args o v h ho => by
  unfold S_ref21_Left at h
  split at h
  · rename_i l W X aA
    unfold r_ref21_Left at h
    cases h
    rw [Ob.both_ok, Bool.and_eq_true] at ho
    obtain ⟨hn, ho2⟩ := ho
    simp only [Ob.ok, Bool.and_eq_true] at hn
    obtain ⟨n0, n1⟩ := hn
    replace n0 := nrm_fun n0
    replace n1 := nrm_fun n1
    have this := show outB (evFnM Try.prog false menv108 [] [] 96 (Ann.two Ann.no (Ann.two Ann.no (Ann.two Ann.no (Ann.two Ann.no (Ann.two (Ann.two Ann.no (Ann.one (Ann.loop F_ref21_Left_L0))) Ann.no))))) Try.f15 [AV.view l 14 (fun i => mkN [Ck.i .i64, Ck.i .i64, Ck.f, Ck.f, Ck.f, Ck.f, Ck.f, Ck.f, Ck.f, Ck.f, Ck.f, Ck.f, Ck.i .i64, Ck.f] (W i) 0), AV.view X 5 (fun i => mkN [Ck.f, Ck.f, Ck.f, Ck.f, Ck.f] (aA i) 0)] []) = _ from e_ref21_Left l (iL W 0) (iL W 1) (fL W 2) (fL W 3) (fL W 4) (fL W 5) (fL W 6) (fL W 7) (fL W 8) (fL W 9) (fL W 10) (fL W 11) (iL W 12) (fL W 13) X (fL aA 0) (fL aA 1) (fL aA 2) (fL aA 3) (fL aA 4)
    rw [(ob_ref21_Left l (iL W 0) (iL W 1) (fL W 2) (fL W 3) (fL W 4) (fL W 5) (fL W 6) (fL W 7) (fL W 8) (fL W 9) (fL W 10) (fL W 11) (iL W 12) (fL W 13) X (fL aA 0) (fL aA 1) (fL aA 2) (fL aA 3) (fL aA 4) ho2)] at this
    rw [n0, n1] at this
    exact ⟨this, rfl⟩
  · cases h
def c_ref21_Left : SFM := fun args => match S_ref21_Left args with | some (o, v) => some (o, v, []) | none => none
theorem c_ref21_Left_ok : SOkM Try.prog false (15, c_ref21_Left) := t_ref21_Left
def mss108 : List (FuncId × SFM) := (15, c_ref21_Left) :: mss107
def menv109 : EnvM := mkEnvM mxs mss108 mws2
theorem mss108_ok : All (SOkM Try.prog false) mss108 := All.cons c_ref21_Left_ok mss107_ok
theorem menv109_ok : menv109.Ok Try.prog false := mkEnvM_ok mxs_ok mss108_ok mws2_ok
theorem ann_ref02_Bits : FnOk Try.prog false 0 Try.f49 Ann.no := (fnNo _)
def s_ref02_Bits_0 (j : Nat) : Int := (bif (!(feq j j)) then (9221120237041090561 : Int) else (Int.ofNat j))
theorem e_ref02_Bits (j : Nat) : outB (evFnM Try.prog false menv109 [] [] 96 Ann.no Try.f49 [AV.float j] []) = some ((mrgB (!(feq j j)) true (!(nanb j))), AV.int .u64 (s_ref02_Bits_0 j)) := by kernel_rfl
def S_ref02_Bits : List AV → Option (Ob × AV)
  | [AV.float j] => some (Ob.tt, AV.int .u64 (s_ref02_Bits_0 j))
  | _ => none
theorem ob_ref02_Bits (j : Nat) : (mrgB (!(feq j j)) true (!(nanb j))) = true := by show ((mrgB (!(feq j j)) true (!(nanb j)))) = true; (try simp only [feq_self]) <;> (generalize (nanb j) = q0; cases q0 <;> rfl)
theorem t_ref02_Bits : SOkM Try.prog false (49, fun args => match S_ref02_Bits args with | some (o, v) => some (o, v, []) | none => none) := SOkM.flat (N := 96) menv109_ok Try.func49 ann_ref02_Bits Try.call49 fun args o v h ho => by
  unfold S_ref02_Bits at h
  split at h
  · rename_i j
    cases h
    have ho2 := ho
    have this := show outB (evFnM Try.prog false menv109 [] [] 96 Ann.no Try.f49 [AV.float j] []) = _ from e_ref02_Bits j
    rw [(ob_ref02_Bits j)] at this
    exact ⟨this, rfl⟩
  · cases h
def c_ref02_Bits : SFM := fun args => match S_ref02_Bits args with | some (o, v) => some (o, v, []) | none => none
theorem c_ref02_Bits_ok : SOkM Try.prog false (49, c_ref02_Bits) := t_ref02_Bits
def mss109 : List (FuncId × SFM) := (49, c_ref02_Bits) :: mss108
def menv110 : EnvM := mkEnvM mxs mss109 mws2
theorem mss109_ok : All (SOkM Try.prog false) mss109 := All.cons c_ref02_Bits_ok mss108_ok
theorem menv110_ok : menv110.Ok Try.prog false := mkEnvM_ok mxs_ok mss109_ok mws2_ok
theorem ann_ref02_Is : FnOk Try.prog false 0 Try.f18 Ann.no := (fnNo _)
def s_ref02_Is_0 (j e : Nat) : Bool := (ieq (s_ref02_Bits_0 j) (s_ref02_Bits_0 e))
theorem e_ref02_Is (j e : Nat) : outB (evFnM Try.prog false menv110 [] [] 96 Ann.no Try.f18 [AV.float j, AV.float e] []) = some (true, AV.bool (s_ref02_Is_0 j e)) := by kernel_rfl
def S_ref02_Is : List AV → Option (Ob × AV)
  | [AV.float j, AV.float e] => some (Ob.tt, AV.bool (s_ref02_Is_0 j e))
  | _ => none
theorem t_ref02_Is : SOkM Try.prog false (18, fun args => match S_ref02_Is args with | some (o, v) => some (o, v, []) | none => none) := SOkM.flat (N := 96) menv110_ok Try.func18 ann_ref02_Is Try.call18 fun args o v h ho => by
  unfold S_ref02_Is at h
  split at h
  · rename_i j e
    cases h
    have ho2 := ho
    have this := show outB (evFnM Try.prog false menv110 [] [] 96 Ann.no Try.f18 [AV.float j, AV.float e] []) = _ from e_ref02_Is j e
    exact ⟨this, rfl⟩
  · cases h
def c_ref02_Is : SFM := fun args => match S_ref02_Is args with | some (o, v) => some (o, v, []) | none => none
theorem c_ref02_Is_ok : SOkM Try.prog false (18, c_ref02_Is) := t_ref02_Is
def mss110 : List (FuncId × SFM) := (18, c_ref02_Is) :: mss109
def menv111 : EnvM := mkEnvM mxs mss110 mws2
theorem mss110_ok : All (SOkM Try.prog false) mss110 := All.cons c_ref02_Is_ok mss109_ok
theorem menv111_ok : menv111.Ok Try.prog false := mkEnvM_ok mxs_ok mss110_ok mws2_ok
theorem ann_ref02_Same : FnOk Try.prog false 0 Try.f56 Ann.no := (fnNo _)
def s_ref02_Same_0 (j e k m : Nat) : Bool := ((s_ref02_Is_0 j k) && (s_ref02_Is_0 e m))
theorem e_ref02_Same (j e k m : Nat) : outB (evFnM Try.prog false menv111 [] [] 96 Ann.no Try.f56 [AV.agg [AV.float j, AV.float e], AV.agg [AV.float k, AV.float m]] []) = some (true, AV.bool (s_ref02_Same_0 j e k m)) := by kernel_rfl
def S_ref02_Same : List AV → Option (Ob × AV)
  | [AV.agg [AV.float j, AV.float e], AV.agg [AV.float k, AV.float m]] => some (Ob.tt, AV.bool (s_ref02_Same_0 j e k m))
  | _ => none
theorem t_ref02_Same : SOkM Try.prog false (56, fun args => match S_ref02_Same args with | some (o, v) => some (o, v, []) | none => none) := SOkM.flat (N := 96) menv111_ok Try.func56 ann_ref02_Same Try.call56 fun args o v h ho => by
  unfold S_ref02_Same at h
  split at h
  · rename_i j e k m
    cases h
    have ho2 := ho
    have this := show outB (evFnM Try.prog false menv111 [] [] 96 Ann.no Try.f56 [AV.agg [AV.float j, AV.float e], AV.agg [AV.float k, AV.float m]] []) = _ from e_ref02_Same j e k m
    exact ⟨this, rfl⟩
  · cases h
def c_ref02_Same : SFM := fun args => match S_ref02_Same args with | some (o, v) => some (o, v, []) | none => none
theorem c_ref02_Same_ok : SOkM Try.prog false (56, c_ref02_Same) := t_ref02_Same
def mss111 : List (FuncId × SFM) := (56, c_ref02_Same) :: mss110
def menv112 : EnvM := mkEnvM mxs mss111 mws2
theorem mss111_ok : All (SOkM Try.prog false) mss111 := All.cons c_ref02_Same_ok mss110_ok
theorem menv112_ok : menv112.Ok Try.prog false := mkEnvM_ok mxs_ok mss111_ok mws2_ok
theorem ann_ref01_Same : FnOk Try.prog false 0 Try.f85 Ann.no := (fnNo _)
def s_ref01_Same_0 (j e : Nat) : Bool := (bif ((nanb j) || (nanb e)) then ((nanb j) && (nanb e)) else (ieq (Int.ofNat j) (Int.ofNat e)))
theorem e_ref01_Same (j e : Nat) : outB (evFnM Try.prog false menv112 [] [] 96 Ann.no Try.f85 [AV.float j, AV.float e] []) = some ((mrgB ((nanb j) || (nanb e)) true ((!(nanb e)) && (!(nanb j)))), AV.bool (s_ref01_Same_0 j e)) := by kernel_rfl
def S_ref01_Same : List AV → Option (Ob × AV)
  | [AV.float j, AV.float e] => some (Ob.tt, AV.bool (s_ref01_Same_0 j e))
  | _ => none
theorem ob_ref01_Same (j e : Nat) : (mrgB ((nanb j) || (nanb e)) true ((!(nanb e)) && (!(nanb j)))) = true := by show ((mrgB ((nanb j) || (nanb e)) true ((!(nanb e)) && (!(nanb j))))) = true; (generalize (nanb e) = q0; generalize (nanb j) = q1; cases q0 <;> cases q1 <;> rfl)
theorem t_ref01_Same : SOkM Try.prog false (85, fun args => match S_ref01_Same args with | some (o, v) => some (o, v, []) | none => none) := SOkM.flat (N := 96) menv112_ok Try.func85 ann_ref01_Same Try.call85 fun args o v h ho => by
  unfold S_ref01_Same at h
  split at h
  · rename_i j e
    cases h
    have ho2 := ho
    have this := show outB (evFnM Try.prog false menv112 [] [] 96 Ann.no Try.f85 [AV.float j, AV.float e] []) = _ from e_ref01_Same j e
    rw [(ob_ref01_Same j e)] at this
    exact ⟨this, rfl⟩
  · cases h
def c_ref01_Same : SFM := fun args => match S_ref01_Same args with | some (o, v) => some (o, v, []) | none => none
theorem c_ref01_Same_ok : SOkM Try.prog false (85, c_ref01_Same) := t_ref01_Same
def mss112 : List (FuncId × SFM) := (85, c_ref01_Same) :: mss111
def menv113 : EnvM := mkEnvM mxs mss112 mws2
theorem mss112_ok : All (SOkM Try.prog false) mss112 := All.cons c_ref01_Same_ok mss111_ok
theorem menv113_ok : menv113.Ok Try.prog false := mkEnvM_ok mxs_ok mss112_ok mws2_ok
theorem ann_ref01_SameAll : FnOk Try.prog false 0 Try.f57 Ann.no := (fnNo _)
def s_ref01_SameAll_0 (aa au : Nat → Nat) : Bool := let x0 := !(s_ref01_Same_0 (aa 5) (au 5)); let x1 := !(s_ref01_Same_0 (aa 4) (au 4)); let x2 := !(s_ref01_Same_0 (aa 3) (au 3)); let x3 := !(s_ref01_Same_0 (aa 2) (au 2)); let x4 := !(s_ref01_Same_0 (aa 1) (au 1)); let x5 := !(s_ref01_Same_0 (aa 0) (au 0)); (bif (x5 || (x4 || (x3 || (x2 || (x1 || (x0 || (!(s_ref01_Same_0 (aa 6) (au 6))))))))) then (bif x5 then false else (bif x4 then false else (bif x3 then false else (bif x2 then false else (bif x1 then false else (x0 && false)))))) else true)
theorem e_ref01_SameAll (aa au : Nat → Nat) : outB (evFnM Try.prog false menv113 [10, 14] [] 96 Ann.no Try.f57 [AV.view 7 1 (fun i0 => [AV.float (aa i0)]), AV.view 7 1 (fun i0 => [AV.float (au i0)])] []) = some (true, AV.bool (s_ref01_SameAll_0 aa au)) := by kernel_rfl
def S_ref01_SameAll : List AV → Option (Ob × AV)
  | [AV.view 7 1 W, AV.view 7 1 aA] => some (Ob.bit ((allB fun i => isNrm [Ck.f] (W i)) && (allB fun i => isNrm [Ck.f] (aA i))), AV.bool (s_ref01_SameAll_0 (fL W 0) (fL aA 0)))
  | _ => none
theorem t_ref01_SameAll : SOkM Try.prog false (57, fun args => match S_ref01_SameAll args with | some (o, v) => some (o, v, []) | none => none) := SOkM.flat (N := 96) menv113_ok Try.func57 ann_ref01_SameAll Try.call57 fun args o v h ho => by
  unfold S_ref01_SameAll at h
  split at h
  · rename_i W aA
    cases h
    have hn := ho
    simp only [Ob.ok, Bool.and_eq_true] at hn
    obtain ⟨n0, n1⟩ := hn
    replace n0 := nrm_fun n0
    replace n1 := nrm_fun n1
    have this := show outB (evFnM Try.prog false menv113 [10, 14] [] 96 Ann.no Try.f57 [AV.view 7 1 (fun i => mkN [Ck.f] (W i) 0), AV.view 7 1 (fun i => mkN [Ck.f] (aA i) 0)] []) = _ from e_ref01_SameAll (fL W 0) (fL aA 0)
    rw [n0, n1] at this
    exact ⟨this, rfl⟩
  · cases h
def c_ref01_SameAll : SFM := fun args => match S_ref01_SameAll args with | some (o, v) => some (o, v, []) | none => none
theorem c_ref01_SameAll_ok : SOkM Try.prog false (57, c_ref01_SameAll) := t_ref01_SameAll
def mss113 : List (FuncId × SFM) := (57, c_ref01_SameAll) :: mss112
def menv114 : EnvM := mkEnvM mxs mss113 mws2
theorem mss113_ok : All (SOkM Try.prog false) mss113 := All.cons c_ref01_SameAll_ok mss112_ok
theorem menv114_ok : menv114.Ok Try.prog false := mkEnvM_ok mxs_ok mss113_ok mws2_ok
theorem ann_ref21_SameRow : FnOk Try.prog false 0 Try.f29 Ann.no := (fnNo _)
def s_ref21_SameRow_0 (j e : Int) (k m p z C E r u D q : Nat) (J : Int) (I : Nat) (F L : Int) (P Q R M O S U V bJ co : Nat) (cn : Int) (cp : Nat) : Bool := (bif (((((!(ieq j F)) || (!(ieq e L))) || (!(ieq J cn))) || (!(s_ref02_Same_0 k m P Q))) || (!(s_ref02_Same_0 p z R M))) then false else (s_ref01_SameAll_0 (fun j0 => let x0 := (j0 - 1) - 1; let x1 := x0 - 1; let x2 := x1 - 1; (bif (Nat.beq j0 0) then C else (bif (Nat.beq (j0 - 1) 0) then E else (bif (Nat.beq x0 0) then r else (bif (Nat.beq x1 0) then u else (bif (Nat.beq x2 0) then D else (bif (Nat.beq (x2 - 1) 0) then q else I))))))) (fun j0 => let x0 := (j0 - 1) - 1; let x1 := x0 - 1; let x2 := x1 - 1; (bif (Nat.beq j0 0) then O else (bif (Nat.beq (j0 - 1) 0) then S else (bif (Nat.beq x0 0) then U else (bif (Nat.beq x1 0) then V else (bif (Nat.beq x2 0) then bJ else (bif (Nat.beq (x2 - 1) 0) then co else cp)))))))))
theorem e_ref21_SameRow (j e : Int) (k m p z C E r u D q : Nat) (J : Int) (I : Nat) (F L : Int) (P Q R M O S U V bJ co : Nat) (cn : Int) (cp : Nat) : outB (evFnM Try.prog false menv114 [] [] 96 Ann.no Try.f29 [AV.agg [AV.int .i64 j, AV.int .i64 e, AV.float k, AV.float m, AV.float p, AV.float z, AV.float C, AV.float E, AV.float r, AV.float u, AV.float D, AV.float q, AV.int .i64 J, AV.float I], AV.agg [AV.int .i64 F, AV.int .i64 L, AV.float P, AV.float Q, AV.float R, AV.float M, AV.float O, AV.float S, AV.float U, AV.float V, AV.float bJ, AV.float co, AV.int .i64 cn, AV.float cp]] []) = some ((mrgB (((((!(ieq j F)) || (!(ieq e L))) || (!(ieq J cn))) || (!(s_ref02_Same_0 k m P Q))) || (!(s_ref02_Same_0 p z R M))) true ((allB fun _ => true) && (allB fun _ => true))), AV.bool (s_ref21_SameRow_0 j e k m p z C E r u D q J I F L P Q R M O S U V bJ co cn cp)) := by kernel_rfl
def S_ref21_SameRow : List AV → Option (Ob × AV)
  | [AV.agg [AV.int .i64 j, AV.int .i64 e, AV.float k, AV.float m, AV.float p, AV.float z, AV.float C, AV.float E, AV.float r, AV.float u, AV.float D, AV.float q, AV.int .i64 J, AV.float I], AV.agg [AV.int .i64 F, AV.int .i64 L, AV.float P, AV.float Q, AV.float R, AV.float M, AV.float O, AV.float S, AV.float U, AV.float V, AV.float bJ, AV.float co, AV.int .i64 cn, AV.float cp]] => some (Ob.tt, AV.bool (s_ref21_SameRow_0 j e k m p z C E r u D q J I F L P Q R M O S U V bJ co cn cp))
  | _ => none
theorem ob_ref21_SameRow (j e : Int) (k m p z C E r u D q : Nat) (J : Int) (I : Nat) (F L : Int) (P Q R M O S U V bJ co : Nat) (cn : Int) (cp : Nat) : (mrgB (((((!(ieq j F)) || (!(ieq e L))) || (!(ieq J cn))) || (!(s_ref02_Same_0 k m P Q))) || (!(s_ref02_Same_0 p z R M))) true ((allB fun _ => true) && (allB fun _ => true))) = true := by (try simp only [allB_true, eqT_self, mrgB_self, Bool.true_and, Bool.and_true]) <;> first | rfl | simp
theorem t_ref21_SameRow : SOkM Try.prog false (29, fun args => match S_ref21_SameRow args with | some (o, v) => some (o, v, []) | none => none) := SOkM.flat (N := 96) menv114_ok Try.func29 ann_ref21_SameRow Try.call29 fun args o v h ho => by
  unfold S_ref21_SameRow at h
  split at h
  · rename_i j e k m p z C E r u D q J I F L P Q R M O S U V bJ co cn cp
    cases h
    have ho2 := ho
    have this := show outB (evFnM Try.prog false menv114 [] [] 96 Ann.no Try.f29 [AV.agg [AV.int .i64 j, AV.int .i64 e, AV.float k, AV.float m, AV.float p, AV.float z, AV.float C, AV.float E, AV.float r, AV.float u, AV.float D, AV.float q, AV.int .i64 J, AV.float I], AV.agg [AV.int .i64 F, AV.int .i64 L, AV.float P, AV.float Q, AV.float R, AV.float M, AV.float O, AV.float S, AV.float U, AV.float V, AV.float bJ, AV.float co, AV.int .i64 cn, AV.float cp]] []) = _ from e_ref21_SameRow j e k m p z C E r u D q J I F L P Q R M O S U V bJ co cn cp
    rw [(ob_ref21_SameRow j e k m p z C E r u D q J I F L P Q R M O S U V bJ co cn cp)] at this
    exact ⟨this, rfl⟩
  · cases h
def c_ref21_SameRow : SFM := fun args => match S_ref21_SameRow args with | some (o, v) => some (o, v, []) | none => none
theorem c_ref21_SameRow_ok : SOkM Try.prog false (29, c_ref21_SameRow) := t_ref21_SameRow
def mss114 : List (FuncId × SFM) := (29, c_ref21_SameRow) :: mss113
def menv115 : EnvM := mkEnvM mxs mss114 mws2
theorem mss114_ok : All (SOkM Try.prog false) mss114 := All.cons c_ref21_SameRow_ok mss113_ok
theorem menv115_ok : menv115.Ok Try.prog false := mkEnvM_ok mxs_ok mss114_ok mws2_ok
structure V_ref21_SameRows_L0 where
  v0 : Int
def tpl_ref21_SameRows_L0 : List AV := (AV.nul :: AV.nul :: AV.top :: AV.top :: AV.top :: AV.nul :: tpA 21 ([]))
def cts_ref21_SameRows_L0 : List CT := []
def phs_ref21_SameRows_L0 : List Src := []
def T_ref21_SameRows_L0 (ab : Nat) (Y ac : Nat → Int) (av ar aB aC aD aE aF aG aI aL : Nat → Nat) (aM : Nat → Int) (aN : Nat → Nat) (aO : Nat) (aQ aX : Nat → Int) (bb ba bi bs bU bV bW bX bY bZ : Nat → Nat) (b0 : Nat → Int) (b1 : Nat → Nat) (x : V_ref21_SameRows_L0) (F0 F1 : Nat → List AV) : List AV × Heap := ((AV.view ab 14 F0 :: AV.view aO 14 F1 :: AV.top :: AV.top :: AV.top :: AV.int .i64 x.v0 :: tpA 21 ([])), [])
def sh_ref21_SameRows_L0 (ab : Nat) (Y ac : Nat → Int) (av ar aB aC aD aE aF aG aI aL : Nat → Nat) (aM : Nat → Int) (aN : Nat → Nat) (aO : Nat) (aQ aX : Nat → Int) (bb ba bi bs bU bV bW bX bY bZ : Nat → Nat) (b0 : Nat → Int) (b1 : Nat → Nat) (x : V_ref21_SameRows_L0) : List AV × Heap := T_ref21_SameRows_L0 ab Y ac av ar aB aC aD aE aF aG aI aL aM aN aO aQ aX bb ba bi bs bU bV bW bX bY bZ b0 b1 x (fun j0 => [AV.int .i64 (Y j0), AV.int .i64 (ac j0), AV.float (av j0), AV.float (ar j0), AV.float (aB j0), AV.float (aC j0), AV.float (aD j0), AV.float (aE j0), AV.float (aF j0), AV.float (aG j0), AV.float (aI j0), AV.float (aL j0), AV.int .i64 (aM j0), AV.float (aN j0)]) (fun j0 => [AV.int .i64 (aQ j0), AV.int .i64 (aX j0), AV.float (bb j0), AV.float (ba j0), AV.float (bi j0), AV.float (bs j0), AV.float (bU j0), AV.float (bV j0), AV.float (bW j0), AV.float (bX j0), AV.float (bY j0), AV.float (bZ j0), AV.int .i64 (b0 j0), AV.float (b1 j0)])
def step_ref21_SameRows_L0 (ab : Nat) (Y ac : Nat → Int) (av ar aB aC aD aE aF aG aI aL : Nat → Nat) (aM : Nat → Int) (aN : Nat → Nat) (aO : Nat) (aQ aX : Nat → Int) (bb ba bi bs bU bV bW bX bY bZ : Nat → Nat) (b0 : Nat → Int) (b1 : Nat → Nat) (x : V_ref21_SameRows_L0) : V_ref21_SameRows_L0 := V_ref21_SameRows_L0.mk (IntKind.wrap .i64 (x.v0 + (1 : Int)))
def go_ref21_SameRows_L0 (ab : Nat) (Y ac : Nat → Int) (av ar aB aC aD aE aF aG aI aL : Nat → Nat) (aM : Nat → Int) (aN : Nat → Nat) (aO : Nat) (aQ aX : Nat → Int) (bb ba bi bs bU bV bW bX bY bZ : Nat → Nat) (b0 : Nat → Int) (b1 : Nat → Nat) (x : V_ref21_SameRows_L0) : Bool := let x0 := !(ilt x.v0 (Int.ofNat ab)); (bif (bif x0 then false else (!(s_ref21_SameRow_0 (Y (Int.toNat x.v0)) (ac (Int.toNat x.v0)) (av (Int.toNat x.v0)) (ar (Int.toNat x.v0)) (aB (Int.toNat x.v0)) (aC (Int.toNat x.v0)) (aD (Int.toNat x.v0)) (aE (Int.toNat x.v0)) (aF (Int.toNat x.v0)) (aG (Int.toNat x.v0)) (aI (Int.toNat x.v0)) (aL (Int.toNat x.v0)) (aM (Int.toNat x.v0)) (aN (Int.toNat x.v0)) (aQ (Int.toNat x.v0)) (aX (Int.toNat x.v0)) (bb (Int.toNat x.v0)) (ba (Int.toNat x.v0)) (bi (Int.toNat x.v0)) (bs (Int.toNat x.v0)) (bU (Int.toNat x.v0)) (bV (Int.toNat x.v0)) (bW (Int.toNat x.v0)) (bX (Int.toNat x.v0)) (bY (Int.toNat x.v0)) (bZ (Int.toNat x.v0)) (b0 (Int.toNat x.v0)) (b1 (Int.toNat x.v0))))) then false else (bif x0 then false else true))
def ok_ref21_SameRows_L0 (ab : Nat) (Y ac : Nat → Int) (av ar aB aC aD aE aF aG aI aL : Nat → Nat) (aM : Nat → Int) (aN : Nat → Nat) (aO : Nat) (aQ aX : Nat → Int) (bb ba bi bs bU bV bW bX bY bZ : Nat → Nat) (b0 : Nat → Int) (b1 : Nat → Nat) (x : V_ref21_SameRows_L0) : Bool := let x0 := ((ile (0 : Int) x.v0) && (Nat.blt (Int.toNat x.v0) aO)) && ((ile (0 : Int) x.v0) && (Nat.blt (Int.toNat x.v0) ab)); let x1 := !(ilt x.v0 (Int.ofNat ab)); (mrgB (bif x1 then false else (!(s_ref21_SameRow_0 (Y (Int.toNat x.v0)) (ac (Int.toNat x.v0)) (av (Int.toNat x.v0)) (ar (Int.toNat x.v0)) (aB (Int.toNat x.v0)) (aC (Int.toNat x.v0)) (aD (Int.toNat x.v0)) (aE (Int.toNat x.v0)) (aF (Int.toNat x.v0)) (aG (Int.toNat x.v0)) (aI (Int.toNat x.v0)) (aL (Int.toNat x.v0)) (aM (Int.toNat x.v0)) (aN (Int.toNat x.v0)) (aQ (Int.toNat x.v0)) (aX (Int.toNat x.v0)) (bb (Int.toNat x.v0)) (ba (Int.toNat x.v0)) (bi (Int.toNat x.v0)) (bs (Int.toNat x.v0)) (bU (Int.toNat x.v0)) (bV (Int.toNat x.v0)) (bW (Int.toNat x.v0)) (bX (Int.toNat x.v0)) (bY (Int.toNat x.v0)) (bZ (Int.toNat x.v0)) (b0 (Int.toNat x.v0)) (b1 (Int.toNat x.v0))))) x0 (mrgB x1 true x0))
def L_ref21_SameRows_L0 (ab : Nat) (Y ac : Nat → Int) (av ar aB aC aD aE aF aG aI aL : Nat → Nat) (aM : Nat → Int) (aN : Nat → Nat) (aO : Nat) (aQ aX : Nat → Int) (bb ba bi bs bU bV bW bX bY bZ : Nat → Nat) (b0 : Nat → Int) (b1 : Nat → Nat) (x : V_ref21_SameRows_L0) : V_ref21_SameRows_L0 := lastL (ok_ref21_SameRows_L0 ab Y ac av ar aB aC aD aE aF aG aI aL aM aN aO aQ aX bb ba bi bs bU bV bW bX bY bZ b0 b1) (go_ref21_SameRows_L0 ab Y ac av ar aB aC aD aE aF aG aI aL aM aN aO aQ aX bb ba bi bs bU bV bW bX bY bZ b0 b1) (step_ref21_SameRows_L0 ab Y ac av ar aB aC aD aE aF aG aI aL aM aN aO aQ aX bb ba bi bs bU bV bW bX bY bZ b0 b1) x
def E_ref21_SameRows_L0 (ab : Nat) (Y ac : Nat → Int) (av ar aB aC aD aE aF aG aI aL : Nat → Nat) (aM : Nat → Int) (aN : Nat → Nat) (aO : Nat) (aQ aX : Nat → Int) (bb ba bi bs bU bV bW bX bY bZ : Nat → Nat) (b0 : Nat → Int) (b1 : Nat → Nat) (x : V_ref21_SameRows_L0) : Bool := endsL (ok_ref21_SameRows_L0 ab Y ac av ar aB aC aD aE aF aG aI aL aM aN aO aQ aX bb ba bi bs bU bV bW bX bY bZ b0 b1) (go_ref21_SameRows_L0 ab Y ac av ar aB aC aD aE aF aG aI aL aM aN aO aQ aX bb ba bi bs bU bV bW bX bY bZ b0 b1) (step_ref21_SameRows_L0 ab Y ac av ar aB aC aD aE aF aG aI aL aM aN aO aQ aX bb ba bi bs bU bV bW bX bY bZ b0 b1) x
theorem all_ref21_SameRows_L0 (ab : Nat) (Y ac : Nat → Int) (av ar aB aC aD aE aF aG aI aL : Nat → Nat) (aM : Nat → Int) (aN : Nat → Nat) (aO : Nat) (aQ aX : Nat → Int) (bb ba bi bs bU bV bW bX bY bZ : Nat → Nat) (b0 : Nat → Int) (b1 : Nat → Nat) (x : V_ref21_SameRows_L0) : rnd Try.prog false menv115 [] [] 96 Ann.no (subC [1, 1, 0, 1, 0, 0] (codeOf Try.f16)) 0 [] tpl_ref21_SameRows_L0 cts_ref21_SameRows_L0 (false :: false :: tpB 25 ([])) [] (sh_ref21_SameRows_L0 ab Y ac av ar aB aC aD aE aF aG aI aL aM aN aO aQ aX bb ba bi bs bU bV bW bX bY bZ b0 b1 x) = (true, true, go_ref21_SameRows_L0 ab Y ac av ar aB aC aD aE aF aG aI aL aM aN aO aQ aX bb ba bi bs bU bV bW bX bY bZ b0 b1 x, ok_ref21_SameRows_L0 ab Y ac av ar aB aC aD aE aF aG aI aL aM aN aO aQ aX bb ba bi bs bU bV bW bX bY bZ b0 b1 x, true, sh_ref21_SameRows_L0 ab Y ac av ar aB aC aD aE aF aG aI aL aM aN aO aQ aX bb ba bi bs bU bV bW bX bY bZ b0 b1 (step_ref21_SameRows_L0 ab Y ac av ar aB aC aD aE aF aG aI aL aM aN aO aQ aX bb ba bi bs bU bV bW bX bY bZ b0 b1 x), true) := by kernel_rfl
def fam_ref21_SameRows_L0 (ab : Nat) (Y ac : Nat → Int) (av ar aB aC aD aE aF aG aI aL : Nat → Nat) (aM : Nat → Int) (aN : Nat → Nat) (aO : Nat) (aQ aX : Nat → Int) (bb ba bi bs bU bV bW bX bY bZ : Nat → Nat) (b0 : Nat → Int) (b1 : Nat → Nat) : Fam Try.prog false menv115 [] [] 96 0 Ann.no (subC [1, 1, 0, 1, 0, 0] (codeOf Try.f16)) V_ref21_SameRows_L0 where
  sh := sh_ref21_SameRows_L0 ab Y ac av ar aB aC aD aE aF aG aI aL aM aN aO aQ aX bb ba bi bs bU bV bW bX bY bZ b0 b1
  ok := ok_ref21_SameRows_L0 ab Y ac av ar aB aC aD aE aF aG aI aL aM aN aO aQ aX bb ba bi bs bU bV bW bX bY bZ b0 b1
  go := go_ref21_SameRows_L0 ab Y ac av ar aB aC aD aE aF aG aI aL aM aN aO aQ aX bb ba bi bs bU bV bW bX bY bZ b0 b1
  step := step_ref21_SameRows_L0 ab Y ac av ar aB aC aD aE aF aG aI aL aM aN aO aQ aX bb ba bi bs bU bV bW bX bY bZ b0 b1
  chg := (false :: false :: tpB 25 ([]))
  chgH := []
  tpl := tpl_ref21_SameRows_L0
  cts := cts_ref21_SameRows_L0
  keep := 0
  srcs := []
  ann := (annNo (subC [1, 1, 0, 1, 0, 0] (codeOf Try.f16)))
  le := by kernel_rfl
  kept := by kernel_rfl
  keptB := by kernel_rfl
  all := all_ref21_SameRows_L0 ab Y ac av ar aB aC aD aE aF aG aI aL aM aN aO aQ aX bb ba bi bs bU bV bW bX bY bZ b0 b1
  len := fun x => by kernel_rfl
  head := fun x y => by kernel_rfl
  con := fun x y => by kernel_rfl
  conH := fun x y => by kernel_rfl
def F_ref21_SameRows_L0 : St → Option Ch := fun s => cond (Nat.beq s.tm.length 27 && Nat.beq s.H.length 0) (tkCons (alL tpl_ref21_SameRows_L0 s.tm) fun j t0 => tkView 14 j fun s0 f0 => tkCons t0 fun e t1 => tkView 14 e fun s15 f1 => tkTops 3 t1 fun t2 => tkCons t2 fun m t3 => tkI .i64 m fun s30 => tkTops 21 t3 fun t4 => tkNil t4 <| tkNil (alH cts_ref21_SameRows_L0 (s.H ++ List.map phan phs_ref21_SameRows_L0)) <| Fam.out (fam_ref21_SameRows_L0 s0 (iL f0 0) (iL f0 1) (fL f0 2) (fL f0 3) (fL f0 4) (fL f0 5) (fL f0 6) (fL f0 7) (fL f0 8) (fL f0 9) (fL f0 10) (fL f0 11) (iL f0 12) (fL f0 13) s15 (iL f1 0) (iL f1 1) (fL f1 2) (fL f1 3) (fL f1 4) (fL f1 5) (fL f1 6) (fL f1 7) (fL f1 8) (fL f1 9) (fL f1 10) (fL f1 11) (iL f1 12) (fL f1 13)) s ((allB fun i => isNrm [Ck.i .i64, Ck.i .i64, Ck.f, Ck.f, Ck.f, Ck.f, Ck.f, Ck.f, Ck.f, Ck.f, Ck.f, Ck.f, Ck.i .i64, Ck.f] (f0 i)) && (allB fun i => isNrm [Ck.i .i64, Ck.i .i64, Ck.f, Ck.f, Ck.f, Ck.f, Ck.f, Ck.f, Ck.f, Ck.f, Ck.f, Ck.f, Ck.i .i64, Ck.f] (f1 i))) (V_ref21_SameRows_L0.mk s30)) none
theorem F_ref21_SameRows_L0_ok : ∀ s ch, F_ref21_SameRows_L0 s = some ch → AllI s ch ∧ LoopSpec Try.prog false 0 (subC [1, 1, 0, 1, 0, 0] (codeOf Try.f16)) s (sel ch) := by
  intro s ch h
  unfold F_ref21_SameRows_L0 at h
  obtain ⟨hl, h0⟩ := cond_some h rfl
  clear h
  obtain ⟨hl, hb⟩ := and_beq2 hl
  obtain ⟨j, t0, e0, h1⟩ := tkCons_some h0
  obtain ⟨s0, f0, rfl, h2⟩ := tkView_some h1
  obtain ⟨e, t1, rfl, h3⟩ := tkCons_some h2
  obtain ⟨s15, f1, rfl, h4⟩ := tkView_some h3
  obtain ⟨t2, rfl, h5⟩ := tkTops_some h4
  obtain ⟨m, t3, rfl, h6⟩ := tkCons_some h5
  obtain ⟨s30, rfl, h7⟩ := tkI_some h6
  obtain ⟨t4, rfl, h8⟩ := tkTops_some h7
  obtain ⟨rfl, h9⟩ := tkNil_some h8
  obtain ⟨eH, h10⟩ := tkNil_some h9
  refine Fam.spec menv115_ok (fam_ref21_SameRows_L0 s0 (iL f0 0) (iL f0 1) (fL f0 2) (fL f0 3) (fL f0 4) (fL f0 5) (fL f0 6) (fL f0 7) (fL f0 8) (fL f0 9) (fL f0 10) (fL f0 11) (iL f0 12) (fL f0 13) s15 (iL f1 0) (iL f1 1) (fL f1 2) (fL f1 3) (fL f1 4) (fL f1 5) (fL f1 6) (fL f1 7) (fL f1 8) (fL f1 9) (fL f1 10) (fL f1 11) (iL f1 12) (fL f1 13)) (phs := phs_ref21_SameRows_L0) (hl.trans (by kernel_rfl)) (hb.trans (by kernel_rfl)) ?_ ?_ h10
  · rw [← hdr_alH cts_ref21_SameRows_L0 (s.H ++ List.map phan phs_ref21_SameRows_L0), eH]; kernel_rfl
  · intro hq
    simp only [Bool.and_eq_true] at hq
    obtain ⟨hq0, hq1⟩ := hq
    have n0 := nrm_fun hq0
    have n1 := nrm_fun hq1
    show sh_ref21_SameRows_L0 s0 (iL f0 0) (iL f0 1) (fL f0 2) (fL f0 3) (fL f0 4) (fL f0 5) (fL f0 6) (fL f0 7) (fL f0 8) (fL f0 9) (fL f0 10) (fL f0 11) (iL f0 12) (fL f0 13) s15 (iL f1 0) (iL f1 1) (fL f1 2) (fL f1 3) (fL f1 4) (fL f1 5) (fL f1 6) (fL f1 7) (fL f1 8) (fL f1 9) (fL f1 10) (fL f1 11) (iL f1 12) (fL f1 13) (V_ref21_SameRows_L0.mk s30) = (alL tpl_ref21_SameRows_L0 s.tm, alH cts_ref21_SameRows_L0 (s.H ++ List.map phan phs_ref21_SameRows_L0))
    rw [e0, eH]
    refine Eq.trans (show sh_ref21_SameRows_L0 s0 (iL f0 0) (iL f0 1) (fL f0 2) (fL f0 3) (fL f0 4) (fL f0 5) (fL f0 6) (fL f0 7) (fL f0 8) (fL f0 9) (fL f0 10) (fL f0 11) (iL f0 12) (fL f0 13) s15 (iL f1 0) (iL f1 1) (fL f1 2) (fL f1 3) (fL f1 4) (fL f1 5) (fL f1 6) (fL f1 7) (fL f1 8) (fL f1 9) (fL f1 10) (fL f1 11) (iL f1 12) (fL f1 13) (V_ref21_SameRows_L0.mk s30) = T_ref21_SameRows_L0 s0 (iL f0 0) (iL f0 1) (fL f0 2) (fL f0 3) (fL f0 4) (fL f0 5) (fL f0 6) (fL f0 7) (fL f0 8) (fL f0 9) (fL f0 10) (fL f0 11) (iL f0 12) (fL f0 13) s15 (iL f1 0) (iL f1 1) (fL f1 2) (fL f1 3) (fL f1 4) (fL f1 5) (fL f1 6) (fL f1 7) (fL f1 8) (fL f1 9) (fL f1 10) (fL f1 11) (iL f1 12) (fL f1 13) (V_ref21_SameRows_L0.mk s30) (fun i => mkN [Ck.i .i64, Ck.i .i64, Ck.f, Ck.f, Ck.f, Ck.f, Ck.f, Ck.f, Ck.f, Ck.f, Ck.f, Ck.f, Ck.i .i64, Ck.f] (f0 i) 0) (fun i => mkN [Ck.i .i64, Ck.i .i64, Ck.f, Ck.f, Ck.f, Ck.f, Ck.f, Ck.f, Ck.f, Ck.f, Ck.f, Ck.f, Ck.i .i64, Ck.f] (f1 i) 0) by kernel_rfl) ?_
    rw [n0, n1]
    kernel_rfl
theorem ann_ref21_SameRows : FnOk Try.prog false 0 Try.f16 (Ann.two Ann.no (Ann.two Ann.no (Ann.two (Ann.two Ann.no (Ann.one (Ann.loop F_ref21_SameRows_L0))) Ann.no))) := (fnOk_of (c := codeOf Try.f16) (by kernel_rfl) (annSeq (a := (subC [0] (codeOf Try.f16))) (b := (subC [1] (codeOf Try.f16))) (by kernel_rfl) (annNo (subC [0] (codeOf Try.f16))) (annSeq (a := (subC [1, 0] (codeOf Try.f16))) (b := (subC [1, 1] (codeOf Try.f16))) (by kernel_rfl) (annNo (subC [1, 0] (codeOf Try.f16))) (annSeq (a := (subC [1, 1, 0] (codeOf Try.f16))) (b := (subC [1, 1, 1] (codeOf Try.f16))) (by kernel_rfl) (annSeq (a := (subC [1, 1, 0, 0] (codeOf Try.f16))) (b := (subC [1, 1, 0, 1] (codeOf Try.f16))) (by kernel_rfl) (annNo (subC [1, 1, 0, 0] (codeOf Try.f16))) (annBlock (a := (subC [1, 1, 0, 1, 0] (codeOf Try.f16))) (i := 0) (by kernel_rfl) (annLoop (a := (subC [1, 1, 0, 1, 0, 0] (codeOf Try.f16))) (by kernel_rfl) F_ref21_SameRows_L0_ok))) (annNo (subC [1, 1, 1] (codeOf Try.f16)))))))
def s_ref21_SameRows_0 (l : Nat) (aa ad : Nat → Int) (ae af ag ah ai aj ak al am an : Nat → Nat) (ao : Nat → Int) (ap : Nat → Nat) (X : Nat) (au aw : Nat → Int) (ax ay az bK bL bM bN bO bP bQ : Nat → Nat) (bR : Nat → Int) (bS : Nat → Nat) : Bool := let x0 := (L_ref21_SameRows_L0 l aa ad ae af ag ah ai aj ak al am an ao ap X au aw ax ay az bK bL bM bN bO bP bQ bR bS (V_ref21_SameRows_L0.mk (0 : Int))).v0; let x1 := Int.toNat x0; (bif (!(ieq (Int.ofNat l) (Int.ofNat X))) then false else (bif (bif (!(ilt x0 (Int.ofNat l))) then false else (!(s_ref21_SameRow_0 (aa x1) (ad x1) (ae x1) (af x1) (ag x1) (ah x1) (ai x1) (aj x1) (ak x1) (al x1) (am x1) (an x1) (ao x1) (ap x1) (au x1) (aw x1) (ax x1) (ay x1) (az x1) (bK x1) (bL x1) (bM x1) (bN x1) (bO x1) (bP x1) (bQ x1) (bR x1) (bS x1)))) then false else true))
def q_ref21_SameRows (l : Nat) (aa ad : Nat → Int) (ae af ag ah ai aj ak al am an : Nat → Nat) (ao : Nat → Int) (ap : Nat → Nat) (X : Nat) (au aw : Nat → Int) (ax ay az bK bL bM bN bO bP bQ : Nat → Nat) (bR : Nat → Int) (bS : Nat → Nat) : Bool := (let x0 := ((allB fun _ => true) && (allB fun _ => true)) && (E_ref21_SameRows_L0 l aa ad ae af ag ah ai aj ak al am an ao ap X au aw ax ay az bK bL bM bN bO bP bQ bR bS (V_ref21_SameRows_L0.mk (0 : Int))); let x1 := (L_ref21_SameRows_L0 l aa ad ae af ag ah ai aj ak al am an ao ap X au aw ax ay az bK bL bM bN bO bP bQ bR bS (V_ref21_SameRows_L0.mk (0 : Int))).v0; let x2 := Int.toNat x1; (mrgB (!(ieq (Int.ofNat l) (Int.ofNat X))) true (mrgB (bif (!(ilt x1 (Int.ofNat l))) then false else (!(s_ref21_SameRow_0 (aa x2) (ad x2) (ae x2) (af x2) (ag x2) (ah x2) (ai x2) (aj x2) (ak x2) (al x2) (am x2) (an x2) (ao x2) (ap x2) (au x2) (aw x2) (ax x2) (ay x2) (az x2) (bK x2) (bL x2) (bM x2) (bN x2) (bO x2) (bP x2) (bQ x2) (bR x2) (bS x2)))) x0 x0)))
theorem e_ref21_SameRows (l : Nat) (aa ad : Nat → Int) (ae af ag ah ai aj ak al am an : Nat → Nat) (ao : Nat → Int) (ap : Nat → Nat) (X : Nat) (au aw : Nat → Int) (ax ay az bK bL bM bN bO bP bQ : Nat → Nat) (bR : Nat → Int) (bS : Nat → Nat) : outB (evFnM Try.prog false menv115 [] [] 96 (Ann.two Ann.no (Ann.two Ann.no (Ann.two (Ann.two Ann.no (Ann.one (Ann.loop F_ref21_SameRows_L0))) Ann.no))) Try.f16 [AV.view l 14 (fun i0 => [AV.int .i64 (aa i0), AV.int .i64 (ad i0), AV.float (ae i0), AV.float (af i0), AV.float (ag i0), AV.float (ah i0), AV.float (ai i0), AV.float (aj i0), AV.float (ak i0), AV.float (al i0), AV.float (am i0), AV.float (an i0), AV.int .i64 (ao i0), AV.float (ap i0)]), AV.view X 14 (fun i0 => [AV.int .i64 (au i0), AV.int .i64 (aw i0), AV.float (ax i0), AV.float (ay i0), AV.float (az i0), AV.float (bK i0), AV.float (bL i0), AV.float (bM i0), AV.float (bN i0), AV.float (bO i0), AV.float (bP i0), AV.float (bQ i0), AV.int .i64 (bR i0), AV.float (bS i0)])] []) = some (q_ref21_SameRows l aa ad ae af ag ah ai aj ak al am an ao ap X au aw ax ay az bK bL bM bN bO bP bQ bR bS, AV.bool (s_ref21_SameRows_0 l aa ad ae af ag ah ai aj ak al am an ao ap X au aw ax ay az bK bL bM bN bO bP bQ bR bS)) := by kernel_rfl
def o_ref21_SameRows (l : Nat) (aa ad : Nat → Int) (ae af ag ah ai aj ak al am an : Nat → Nat) (ao : Nat → Int) (ap : Nat → Nat) (X : Nat) (au aw : Nat → Int) (ax ay az bK bL bM bN bO bP bQ : Nat → Nat) (bR : Nat → Int) (bS : Nat → Nat) : Bool := let x0 := E_ref21_SameRows_L0 l aa ad ae af ag ah ai aj ak al am an ao ap X au aw ax ay az bK bL bM bN bO bP bQ bR bS (V_ref21_SameRows_L0.mk (0 : Int)); let x1 := (L_ref21_SameRows_L0 l aa ad ae af ag ah ai aj ak al am an ao ap X au aw ax ay az bK bL bM bN bO bP bQ bR bS (V_ref21_SameRows_L0.mk (0 : Int))).v0; let x2 := Int.toNat x1; (mrgB (!(ieq (Int.ofNat l) (Int.ofNat X))) true (mrgB (bif (!(ilt x1 (Int.ofNat l))) then false else (!(s_ref21_SameRow_0 (aa x2) (ad x2) (ae x2) (af x2) (ag x2) (ah x2) (ai x2) (aj x2) (ak x2) (al x2) (am x2) (an x2) (ao x2) (ap x2) (au x2) (aw x2) (ax x2) (ay x2) (az x2) (bK x2) (bL x2) (bM x2) (bN x2) (bO x2) (bP x2) (bQ x2) (bR x2) (bS x2)))) x0 x0))
def S_ref21_SameRows : List AV → Option (Ob × AV)
  | [AV.view l 14 W, AV.view X 14 aA] => some (Ob.both (Ob.bit ((allB fun i => isNrm [Ck.i .i64, Ck.i .i64, Ck.f, Ck.f, Ck.f, Ck.f, Ck.f, Ck.f, Ck.f, Ck.f, Ck.f, Ck.f, Ck.i .i64, Ck.f] (W i)) && (allB fun i => isNrm [Ck.i .i64, Ck.i .i64, Ck.f, Ck.f, Ck.f, Ck.f, Ck.f, Ck.f, Ck.f, Ck.f, Ck.f, Ck.f, Ck.i .i64, Ck.f] (aA i)))) (Ob.bit (o_ref21_SameRows l (iL W 0) (iL W 1) (fL W 2) (fL W 3) (fL W 4) (fL W 5) (fL W 6) (fL W 7) (fL W 8) (fL W 9) (fL W 10) (fL W 11) (iL W 12) (fL W 13) X (iL aA 0) (iL aA 1) (fL aA 2) (fL aA 3) (fL aA 4) (fL aA 5) (fL aA 6) (fL aA 7) (fL aA 8) (fL aA 9) (fL aA 10) (fL aA 11) (iL aA 12) (fL aA 13))), AV.bool (s_ref21_SameRows_0 l (iL W 0) (iL W 1) (fL W 2) (fL W 3) (fL W 4) (fL W 5) (fL W 6) (fL W 7) (fL W 8) (fL W 9) (fL W 10) (fL W 11) (iL W 12) (fL W 13) X (iL aA 0) (iL aA 1) (fL aA 2) (fL aA 3) (fL aA 4) (fL aA 5) (fL aA 6) (fL aA 7) (fL aA 8) (fL aA 9) (fL aA 10) (fL aA 11) (iL aA 12) (fL aA 13)))
  | _ => none
theorem ob_ref21_SameRows (l : Nat) (aa ad : Nat → Int) (ae af ag ah ai aj ak al am an : Nat → Nat) (ao : Nat → Int) (ap : Nat → Nat) (X : Nat) (au aw : Nat → Int) (ax ay az bK bL bM bN bO bP bQ : Nat → Nat) (bR : Nat → Int) (bS : Nat → Nat) (ho : o_ref21_SameRows l aa ad ae af ag ah ai aj ak al am an ao ap X au aw ax ay az bK bL bM bN bO bP bQ bR bS = true) : q_ref21_SameRows l aa ad ae af ag ah ai aj ak al am an ao ap X au aw ax ay az bK bL bM bN bO bP bQ bR bS = true := by
  unfold q_ref21_SameRows
  unfold o_ref21_SameRows at ho
  simp only [allB_true, eqT_self, mrgB_self, Bool.true_and, Bool.and_true] at ho ⊢
  exact ho
theorem t_ref21_SameRows : SOkM Try.prog false (16, fun args => match S_ref21_SameRows args with | some (o, v) => some (o, v, []) | none => none) := SOkM.flat (N := 96) menv115_ok Try.func16 ann_ref21_SameRows Try.call16 fun args o v h ho => by
  unfold S_ref21_SameRows at h
  split at h
  · rename_i l W X aA
    cases h
    rw [Ob.both_ok, Bool.and_eq_true] at ho
    obtain ⟨hn, ho2⟩ := ho
    simp only [Ob.ok, Bool.and_eq_true] at hn
    obtain ⟨n0, n1⟩ := hn
    replace n0 := nrm_fun n0
    replace n1 := nrm_fun n1
    have this := show outB (evFnM Try.prog false menv115 [] [] 96 (Ann.two Ann.no (Ann.two Ann.no (Ann.two (Ann.two Ann.no (Ann.one (Ann.loop F_ref21_SameRows_L0))) Ann.no))) Try.f16 [AV.view l 14 (fun i => mkN [Ck.i .i64, Ck.i .i64, Ck.f, Ck.f, Ck.f, Ck.f, Ck.f, Ck.f, Ck.f, Ck.f, Ck.f, Ck.f, Ck.i .i64, Ck.f] (W i) 0), AV.view X 14 (fun i => mkN [Ck.i .i64, Ck.i .i64, Ck.f, Ck.f, Ck.f, Ck.f, Ck.f, Ck.f, Ck.f, Ck.f, Ck.f, Ck.f, Ck.i .i64, Ck.f] (aA i) 0)] []) = _ from e_ref21_SameRows l (iL W 0) (iL W 1) (fL W 2) (fL W 3) (fL W 4) (fL W 5) (fL W 6) (fL W 7) (fL W 8) (fL W 9) (fL W 10) (fL W 11) (iL W 12) (fL W 13) X (iL aA 0) (iL aA 1) (fL aA 2) (fL aA 3) (fL aA 4) (fL aA 5) (fL aA 6) (fL aA 7) (fL aA 8) (fL aA 9) (fL aA 10) (fL aA 11) (iL aA 12) (fL aA 13)
    rw [(ob_ref21_SameRows l (iL W 0) (iL W 1) (fL W 2) (fL W 3) (fL W 4) (fL W 5) (fL W 6) (fL W 7) (fL W 8) (fL W 9) (fL W 10) (fL W 11) (iL W 12) (fL W 13) X (iL aA 0) (iL aA 1) (fL aA 2) (fL aA 3) (fL aA 4) (fL aA 5) (fL aA 6) (fL aA 7) (fL aA 8) (fL aA 9) (fL aA 10) (fL aA 11) (iL aA 12) (fL aA 13) ho2)] at this
    rw [n0, n1] at this
    exact ⟨this, rfl⟩
  · cases h
def c_ref21_SameRows : SFM := fun args => match S_ref21_SameRows args with | some (o, v) => some (o, v, []) | none => none
theorem c_ref21_SameRows_ok : SOkM Try.prog false (16, c_ref21_SameRows) := t_ref21_SameRows
def mss115 : List (FuncId × SFM) := (16, c_ref21_SameRows) :: mss114
def menv116 : EnvM := mkEnvM mxs mss115 mws2
theorem mss115_ok : All (SOkM Try.prog false) mss115 := All.cons c_ref21_SameRows_ok mss114_ok
theorem menv116_ok : menv116.Ok Try.prog false := mkEnvM_ok mxs_ok mss115_ok mws2_ok
theorem ann_ref21_SameStill : FnOk Try.prog false 0 Try.f28 Ann.no := (fnNo _)
def s_ref21_SameStill_0 (j e k m p z C E r u : Nat) : Bool := ((((s_ref02_Is_0 j z) && (s_ref02_Is_0 e C)) && (s_ref02_Same_0 k m E r)) && (s_ref02_Is_0 p u))
theorem e_ref21_SameStill (j e k m p z C E r u : Nat) : outB (evFnM Try.prog false menv116 [] [] 96 Ann.no Try.f28 [AV.agg [AV.float j, AV.float e, AV.float k, AV.float m, AV.float p], AV.agg [AV.float z, AV.float C, AV.float E, AV.float r, AV.float u]] []) = some (true, AV.bool (s_ref21_SameStill_0 j e k m p z C E r u)) := by kernel_rfl
def S_ref21_SameStill : List AV → Option (Ob × AV)
  | [AV.agg [AV.float j, AV.float e, AV.float k, AV.float m, AV.float p], AV.agg [AV.float z, AV.float C, AV.float E, AV.float r, AV.float u]] => some (Ob.tt, AV.bool (s_ref21_SameStill_0 j e k m p z C E r u))
  | _ => none
theorem t_ref21_SameStill : SOkM Try.prog false (28, fun args => match S_ref21_SameStill args with | some (o, v) => some (o, v, []) | none => none) := SOkM.flat (N := 96) menv116_ok Try.func28 ann_ref21_SameStill Try.call28 fun args o v h ho => by
  unfold S_ref21_SameStill at h
  split at h
  · rename_i j e k m p z C E r u
    cases h
    have ho2 := ho
    have this := show outB (evFnM Try.prog false menv116 [] [] 96 Ann.no Try.f28 [AV.agg [AV.float j, AV.float e, AV.float k, AV.float m, AV.float p], AV.agg [AV.float z, AV.float C, AV.float E, AV.float r, AV.float u]] []) = _ from e_ref21_SameStill j e k m p z C E r u
    exact ⟨this, rfl⟩
  · cases h
def c_ref21_SameStill : SFM := fun args => match S_ref21_SameStill args with | some (o, v) => some (o, v, []) | none => none
theorem c_ref21_SameStill_ok : SOkM Try.prog false (28, c_ref21_SameStill) := t_ref21_SameStill
def mss116 : List (FuncId × SFM) := (28, c_ref21_SameStill) :: mss115
def menv117 : EnvM := mkEnvM mxs mss116 mws2
theorem mss116_ok : All (SOkM Try.prog false) mss116 := All.cons c_ref21_SameStill_ok mss115_ok
theorem menv117_ok : menv117.Ok Try.prog false := mkEnvM_ok mxs_ok mss116_ok mws2_ok
structure V_ref21_SameStills_L0 where
  v0 : Int
def tpl_ref21_SameStills_L0 : List AV := (AV.nul :: AV.nul :: AV.top :: AV.top :: AV.top :: AV.nul :: tpA 21 ([]))
def cts_ref21_SameStills_L0 : List CT := []
def phs_ref21_SameStills_L0 : List Src := []
def T_ref21_SameStills_L0 (ab : Nat) (Y ac av ar aB : Nat → Nat) (aC : Nat) (aD aE aF aG aI : Nat → Nat) (x : V_ref21_SameStills_L0) (F0 F1 : Nat → List AV) : List AV × Heap := ((AV.view ab 5 F0 :: AV.view aC 5 F1 :: AV.top :: AV.top :: AV.top :: AV.int .i64 x.v0 :: tpA 21 ([])), [])
def sh_ref21_SameStills_L0 (ab : Nat) (Y ac av ar aB : Nat → Nat) (aC : Nat) (aD aE aF aG aI : Nat → Nat) (x : V_ref21_SameStills_L0) : List AV × Heap := T_ref21_SameStills_L0 ab Y ac av ar aB aC aD aE aF aG aI x (fun j0 => [AV.float (Y j0), AV.float (ac j0), AV.float (av j0), AV.float (ar j0), AV.float (aB j0)]) (fun j0 => [AV.float (aD j0), AV.float (aE j0), AV.float (aF j0), AV.float (aG j0), AV.float (aI j0)])
def step_ref21_SameStills_L0 (ab : Nat) (Y ac av ar aB : Nat → Nat) (aC : Nat) (aD aE aF aG aI : Nat → Nat) (x : V_ref21_SameStills_L0) : V_ref21_SameStills_L0 := V_ref21_SameStills_L0.mk (IntKind.wrap .i64 (x.v0 + (1 : Int)))
def go_ref21_SameStills_L0 (ab : Nat) (Y ac av ar aB : Nat → Nat) (aC : Nat) (aD aE aF aG aI : Nat → Nat) (x : V_ref21_SameStills_L0) : Bool := (bif (bif (!(ilt x.v0 (Int.ofNat ab))) then false else (!(s_ref21_SameStill_0 (Y (Int.toNat x.v0)) (ac (Int.toNat x.v0)) (av (Int.toNat x.v0)) (ar (Int.toNat x.v0)) (aB (Int.toNat x.v0)) (aD (Int.toNat x.v0)) (aE (Int.toNat x.v0)) (aF (Int.toNat x.v0)) (aG (Int.toNat x.v0)) (aI (Int.toNat x.v0))))) then false else (bif (!(ilt x.v0 (Int.ofNat ab))) then false else true))
def ok_ref21_SameStills_L0 (ab : Nat) (Y ac av ar aB : Nat → Nat) (aC : Nat) (aD aE aF aG aI : Nat → Nat) (x : V_ref21_SameStills_L0) : Bool := let x0 := ((ile (0 : Int) x.v0) && (Nat.blt (Int.toNat x.v0) aC)) && ((ile (0 : Int) x.v0) && (Nat.blt (Int.toNat x.v0) ab)); let x1 := !(ilt x.v0 (Int.ofNat ab)); (mrgB (bif x1 then false else (!(s_ref21_SameStill_0 (Y (Int.toNat x.v0)) (ac (Int.toNat x.v0)) (av (Int.toNat x.v0)) (ar (Int.toNat x.v0)) (aB (Int.toNat x.v0)) (aD (Int.toNat x.v0)) (aE (Int.toNat x.v0)) (aF (Int.toNat x.v0)) (aG (Int.toNat x.v0)) (aI (Int.toNat x.v0))))) x0 (mrgB x1 true x0))
def L_ref21_SameStills_L0 (ab : Nat) (Y ac av ar aB : Nat → Nat) (aC : Nat) (aD aE aF aG aI : Nat → Nat) (x : V_ref21_SameStills_L0) : V_ref21_SameStills_L0 := lastL (ok_ref21_SameStills_L0 ab Y ac av ar aB aC aD aE aF aG aI) (go_ref21_SameStills_L0 ab Y ac av ar aB aC aD aE aF aG aI) (step_ref21_SameStills_L0 ab Y ac av ar aB aC aD aE aF aG aI) x
def E_ref21_SameStills_L0 (ab : Nat) (Y ac av ar aB : Nat → Nat) (aC : Nat) (aD aE aF aG aI : Nat → Nat) (x : V_ref21_SameStills_L0) : Bool := endsL (ok_ref21_SameStills_L0 ab Y ac av ar aB aC aD aE aF aG aI) (go_ref21_SameStills_L0 ab Y ac av ar aB aC aD aE aF aG aI) (step_ref21_SameStills_L0 ab Y ac av ar aB aC aD aE aF aG aI) x
theorem all_ref21_SameStills_L0 (ab : Nat) (Y ac av ar aB : Nat → Nat) (aC : Nat) (aD aE aF aG aI : Nat → Nat) (x : V_ref21_SameStills_L0) : rnd Try.prog false menv117 [] [] 96 Ann.no (subC [1, 1, 0, 1, 0, 0] (codeOf Try.f17)) 0 [] tpl_ref21_SameStills_L0 cts_ref21_SameStills_L0 (false :: false :: tpB 25 ([])) [] (sh_ref21_SameStills_L0 ab Y ac av ar aB aC aD aE aF aG aI x) = (true, true, go_ref21_SameStills_L0 ab Y ac av ar aB aC aD aE aF aG aI x, ok_ref21_SameStills_L0 ab Y ac av ar aB aC aD aE aF aG aI x, true, sh_ref21_SameStills_L0 ab Y ac av ar aB aC aD aE aF aG aI (step_ref21_SameStills_L0 ab Y ac av ar aB aC aD aE aF aG aI x), true) := by kernel_rfl
def fam_ref21_SameStills_L0 (ab : Nat) (Y ac av ar aB : Nat → Nat) (aC : Nat) (aD aE aF aG aI : Nat → Nat) : Fam Try.prog false menv117 [] [] 96 0 Ann.no (subC [1, 1, 0, 1, 0, 0] (codeOf Try.f17)) V_ref21_SameStills_L0 where
  sh := sh_ref21_SameStills_L0 ab Y ac av ar aB aC aD aE aF aG aI
  ok := ok_ref21_SameStills_L0 ab Y ac av ar aB aC aD aE aF aG aI
  go := go_ref21_SameStills_L0 ab Y ac av ar aB aC aD aE aF aG aI
  step := step_ref21_SameStills_L0 ab Y ac av ar aB aC aD aE aF aG aI
  chg := (false :: false :: tpB 25 ([]))
  chgH := []
  tpl := tpl_ref21_SameStills_L0
  cts := cts_ref21_SameStills_L0
  keep := 0
  srcs := []
  ann := (annNo (subC [1, 1, 0, 1, 0, 0] (codeOf Try.f17)))
  le := by kernel_rfl
  kept := by kernel_rfl
  keptB := by kernel_rfl
  all := all_ref21_SameStills_L0 ab Y ac av ar aB aC aD aE aF aG aI
  len := fun x => by kernel_rfl
  head := fun x y => by kernel_rfl
  con := fun x y => by kernel_rfl
  conH := fun x y => by kernel_rfl
def F_ref21_SameStills_L0 : St → Option Ch := fun s => cond (Nat.beq s.tm.length 27 && Nat.beq s.H.length 0) (tkCons (alL tpl_ref21_SameStills_L0 s.tm) fun j t0 => tkView 5 j fun s0 f0 => tkCons t0 fun e t1 => tkView 5 e fun s6 f1 => tkTops 3 t1 fun t2 => tkCons t2 fun m t3 => tkI .i64 m fun s12 => tkTops 21 t3 fun t4 => tkNil t4 <| tkNil (alH cts_ref21_SameStills_L0 (s.H ++ List.map phan phs_ref21_SameStills_L0)) <| Fam.out (fam_ref21_SameStills_L0 s0 (fL f0 0) (fL f0 1) (fL f0 2) (fL f0 3) (fL f0 4) s6 (fL f1 0) (fL f1 1) (fL f1 2) (fL f1 3) (fL f1 4)) s ((allB fun i => isNrm [Ck.f, Ck.f, Ck.f, Ck.f, Ck.f] (f0 i)) && (allB fun i => isNrm [Ck.f, Ck.f, Ck.f, Ck.f, Ck.f] (f1 i))) (V_ref21_SameStills_L0.mk s12)) none
theorem F_ref21_SameStills_L0_ok : ∀ s ch, F_ref21_SameStills_L0 s = some ch → AllI s ch ∧ LoopSpec Try.prog false 0 (subC [1, 1, 0, 1, 0, 0] (codeOf Try.f17)) s (sel ch) := by
  intro s ch h
  unfold F_ref21_SameStills_L0 at h
  obtain ⟨hl, h0⟩ := cond_some h rfl
  clear h
  obtain ⟨hl, hb⟩ := and_beq2 hl
  obtain ⟨j, t0, e0, h1⟩ := tkCons_some h0
  obtain ⟨s0, f0, rfl, h2⟩ := tkView_some h1
  obtain ⟨e, t1, rfl, h3⟩ := tkCons_some h2
  obtain ⟨s6, f1, rfl, h4⟩ := tkView_some h3
  obtain ⟨t2, rfl, h5⟩ := tkTops_some h4
  obtain ⟨m, t3, rfl, h6⟩ := tkCons_some h5
  obtain ⟨s12, rfl, h7⟩ := tkI_some h6
  obtain ⟨t4, rfl, h8⟩ := tkTops_some h7
  obtain ⟨rfl, h9⟩ := tkNil_some h8
  obtain ⟨eH, h10⟩ := tkNil_some h9
  refine Fam.spec menv117_ok (fam_ref21_SameStills_L0 s0 (fL f0 0) (fL f0 1) (fL f0 2) (fL f0 3) (fL f0 4) s6 (fL f1 0) (fL f1 1) (fL f1 2) (fL f1 3) (fL f1 4)) (phs := phs_ref21_SameStills_L0) (hl.trans (by kernel_rfl)) (hb.trans (by kernel_rfl)) ?_ ?_ h10
  · rw [← hdr_alH cts_ref21_SameStills_L0 (s.H ++ List.map phan phs_ref21_SameStills_L0), eH]; kernel_rfl
  · intro hq
    simp only [Bool.and_eq_true] at hq
    obtain ⟨hq0, hq1⟩ := hq
    have n0 := nrm_fun hq0
    have n1 := nrm_fun hq1
    show sh_ref21_SameStills_L0 s0 (fL f0 0) (fL f0 1) (fL f0 2) (fL f0 3) (fL f0 4) s6 (fL f1 0) (fL f1 1) (fL f1 2) (fL f1 3) (fL f1 4) (V_ref21_SameStills_L0.mk s12) = (alL tpl_ref21_SameStills_L0 s.tm, alH cts_ref21_SameStills_L0 (s.H ++ List.map phan phs_ref21_SameStills_L0))
    rw [e0, eH]
    refine Eq.trans (show sh_ref21_SameStills_L0 s0 (fL f0 0) (fL f0 1) (fL f0 2) (fL f0 3) (fL f0 4) s6 (fL f1 0) (fL f1 1) (fL f1 2) (fL f1 3) (fL f1 4) (V_ref21_SameStills_L0.mk s12) = T_ref21_SameStills_L0 s0 (fL f0 0) (fL f0 1) (fL f0 2) (fL f0 3) (fL f0 4) s6 (fL f1 0) (fL f1 1) (fL f1 2) (fL f1 3) (fL f1 4) (V_ref21_SameStills_L0.mk s12) (fun i => mkN [Ck.f, Ck.f, Ck.f, Ck.f, Ck.f] (f0 i) 0) (fun i => mkN [Ck.f, Ck.f, Ck.f, Ck.f, Ck.f] (f1 i) 0) by kernel_rfl) ?_
    rw [n0, n1]
    kernel_rfl
theorem ann_ref21_SameStills : FnOk Try.prog false 0 Try.f17 (Ann.two Ann.no (Ann.two Ann.no (Ann.two (Ann.two Ann.no (Ann.one (Ann.loop F_ref21_SameStills_L0))) Ann.no))) := (fnOk_of (c := codeOf Try.f17) (by kernel_rfl) (annSeq (a := (subC [0] (codeOf Try.f17))) (b := (subC [1] (codeOf Try.f17))) (by kernel_rfl) (annNo (subC [0] (codeOf Try.f17))) (annSeq (a := (subC [1, 0] (codeOf Try.f17))) (b := (subC [1, 1] (codeOf Try.f17))) (by kernel_rfl) (annNo (subC [1, 0] (codeOf Try.f17))) (annSeq (a := (subC [1, 1, 0] (codeOf Try.f17))) (b := (subC [1, 1, 1] (codeOf Try.f17))) (by kernel_rfl) (annSeq (a := (subC [1, 1, 0, 0] (codeOf Try.f17))) (b := (subC [1, 1, 0, 1] (codeOf Try.f17))) (by kernel_rfl) (annNo (subC [1, 1, 0, 0] (codeOf Try.f17))) (annBlock (a := (subC [1, 1, 0, 1, 0] (codeOf Try.f17))) (i := 0) (by kernel_rfl) (annLoop (a := (subC [1, 1, 0, 1, 0, 0] (codeOf Try.f17))) (by kernel_rfl) F_ref21_SameStills_L0_ok))) (annNo (subC [1, 1, 1] (codeOf Try.f17)))))))
def s_ref21_SameStills_0 (l : Nat) (aa ad ae af ag : Nat → Nat) (X : Nat) (au aw ax ay az : Nat → Nat) : Bool := let x0 := (L_ref21_SameStills_L0 l aa ad ae af ag X au aw ax ay az (V_ref21_SameStills_L0.mk (0 : Int))).v0; let x1 := Int.toNat x0; (bif (!(ieq (Int.ofNat l) (Int.ofNat X))) then false else (bif (bif (!(ilt x0 (Int.ofNat l))) then false else (!(s_ref21_SameStill_0 (aa x1) (ad x1) (ae x1) (af x1) (ag x1) (au x1) (aw x1) (ax x1) (ay x1) (az x1)))) then false else true))
def q_ref21_SameStills (l : Nat) (aa ad ae af ag : Nat → Nat) (X : Nat) (au aw ax ay az : Nat → Nat) : Bool := (let x0 := ((allB fun _ => true) && (allB fun _ => true)) && (E_ref21_SameStills_L0 l aa ad ae af ag X au aw ax ay az (V_ref21_SameStills_L0.mk (0 : Int))); let x1 := (L_ref21_SameStills_L0 l aa ad ae af ag X au aw ax ay az (V_ref21_SameStills_L0.mk (0 : Int))).v0; let x2 := Int.toNat x1; (mrgB (!(ieq (Int.ofNat l) (Int.ofNat X))) true (mrgB (bif (!(ilt x1 (Int.ofNat l))) then false else (!(s_ref21_SameStill_0 (aa x2) (ad x2) (ae x2) (af x2) (ag x2) (au x2) (aw x2) (ax x2) (ay x2) (az x2)))) x0 x0)))
theorem e_ref21_SameStills (l : Nat) (aa ad ae af ag : Nat → Nat) (X : Nat) (au aw ax ay az : Nat → Nat) : outB (evFnM Try.prog false menv117 [] [] 96 (Ann.two Ann.no (Ann.two Ann.no (Ann.two (Ann.two Ann.no (Ann.one (Ann.loop F_ref21_SameStills_L0))) Ann.no))) Try.f17 [AV.view l 5 (fun i0 => [AV.float (aa i0), AV.float (ad i0), AV.float (ae i0), AV.float (af i0), AV.float (ag i0)]), AV.view X 5 (fun i0 => [AV.float (au i0), AV.float (aw i0), AV.float (ax i0), AV.float (ay i0), AV.float (az i0)])] []) = some (q_ref21_SameStills l aa ad ae af ag X au aw ax ay az, AV.bool (s_ref21_SameStills_0 l aa ad ae af ag X au aw ax ay az)) := by kernel_rfl
def o_ref21_SameStills (l : Nat) (aa ad ae af ag : Nat → Nat) (X : Nat) (au aw ax ay az : Nat → Nat) : Bool := let x0 := E_ref21_SameStills_L0 l aa ad ae af ag X au aw ax ay az (V_ref21_SameStills_L0.mk (0 : Int)); let x1 := (L_ref21_SameStills_L0 l aa ad ae af ag X au aw ax ay az (V_ref21_SameStills_L0.mk (0 : Int))).v0; let x2 := Int.toNat x1; (mrgB (!(ieq (Int.ofNat l) (Int.ofNat X))) true (mrgB (bif (!(ilt x1 (Int.ofNat l))) then false else (!(s_ref21_SameStill_0 (aa x2) (ad x2) (ae x2) (af x2) (ag x2) (au x2) (aw x2) (ax x2) (ay x2) (az x2)))) x0 x0))
def S_ref21_SameStills : List AV → Option (Ob × AV)
  | [AV.view l 5 W, AV.view X 5 aA] => some (Ob.both (Ob.bit ((allB fun i => isNrm [Ck.f, Ck.f, Ck.f, Ck.f, Ck.f] (W i)) && (allB fun i => isNrm [Ck.f, Ck.f, Ck.f, Ck.f, Ck.f] (aA i)))) (Ob.bit (o_ref21_SameStills l (fL W 0) (fL W 1) (fL W 2) (fL W 3) (fL W 4) X (fL aA 0) (fL aA 1) (fL aA 2) (fL aA 3) (fL aA 4))), AV.bool (s_ref21_SameStills_0 l (fL W 0) (fL W 1) (fL W 2) (fL W 3) (fL W 4) X (fL aA 0) (fL aA 1) (fL aA 2) (fL aA 3) (fL aA 4)))
  | _ => none
theorem ob_ref21_SameStills (l : Nat) (aa ad ae af ag : Nat → Nat) (X : Nat) (au aw ax ay az : Nat → Nat) (ho : o_ref21_SameStills l aa ad ae af ag X au aw ax ay az = true) : q_ref21_SameStills l aa ad ae af ag X au aw ax ay az = true := by
  unfold q_ref21_SameStills
  unfold o_ref21_SameStills at ho
  simp only [allB_true, eqT_self, mrgB_self, Bool.true_and, Bool.and_true] at ho ⊢
  exact ho
theorem t_ref21_SameStills : SOkM Try.prog false (17, fun args => match S_ref21_SameStills args with | some (o, v) => some (o, v, []) | none => none) := SOkM.flat (N := 96) menv117_ok Try.func17 ann_ref21_SameStills Try.call17 fun args o v h ho => by
  unfold S_ref21_SameStills at h
  split at h
  · rename_i l W X aA
    cases h
    rw [Ob.both_ok, Bool.and_eq_true] at ho
    obtain ⟨hn, ho2⟩ := ho
    simp only [Ob.ok, Bool.and_eq_true] at hn
    obtain ⟨n0, n1⟩ := hn
    replace n0 := nrm_fun n0
    replace n1 := nrm_fun n1
    have this := show outB (evFnM Try.prog false menv117 [] [] 96 (Ann.two Ann.no (Ann.two Ann.no (Ann.two (Ann.two Ann.no (Ann.one (Ann.loop F_ref21_SameStills_L0))) Ann.no))) Try.f17 [AV.view l 5 (fun i => mkN [Ck.f, Ck.f, Ck.f, Ck.f, Ck.f] (W i) 0), AV.view X 5 (fun i => mkN [Ck.f, Ck.f, Ck.f, Ck.f, Ck.f] (aA i) 0)] []) = _ from e_ref21_SameStills l (fL W 0) (fL W 1) (fL W 2) (fL W 3) (fL W 4) X (fL aA 0) (fL aA 1) (fL aA 2) (fL aA 3) (fL aA 4)
    rw [(ob_ref21_SameStills l (fL W 0) (fL W 1) (fL W 2) (fL W 3) (fL W 4) X (fL aA 0) (fL aA 1) (fL aA 2) (fL aA 3) (fL aA 4) ho2)] at this
    rw [n0, n1] at this
    exact ⟨this, rfl⟩
  · cases h
def c_ref21_SameStills : SFM := fun args => match S_ref21_SameStills args with | some (o, v) => some (o, v, []) | none => none
theorem c_ref21_SameStills_ok : SOkM Try.prog false (17, c_ref21_SameStills) := t_ref21_SameStills
def mss117 : List (FuncId × SFM) := (17, c_ref21_SameStills) :: mss116
def menv118 : EnvM := mkEnvM mxs mss117 mws2
theorem mss117_ok : All (SOkM Try.prog false) mss117 := All.cons c_ref21_SameStills_ok mss116_ok
theorem menv118_ok : menv118.Ok Try.prog false := mkEnvM_ok mxs_ok mss117_ok mws2_ok
end Go.Proofs.Ytofpjfohijljgaa
end
