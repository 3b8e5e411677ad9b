/- The contracts of the functions that these laws reach, loops too, printed by a program of this work: each says what the Go function gives, up to which NaN. -/
import Derived.Test.YtofpjfohijljgaaLFnsSB
set_option linter.unusedVariables false
set_option linter.unusedSimpArgs false
set_option maxRecDepth 100000
set_option maxHeartbeats 4000000
noncomputable section
namespace Go.Proofs.Ytofpjfohijljgaa
open Go.Lst
open Go.Sim (fadd fsub fmul fdiv fneg feq flt fle fsqrt cn nanb fabs fcps fsame feq_self cps_cn fabs_cn)
theorem ann_ref02_End : FnOk Try.prog false 0 Try.f73 Ann.no := (fnNo _)
def s_ref02_End_0 (j : Nat) : Bool := (feq (fsub j j) 0)
theorem e_ref02_End (j : Nat) : outB (evFnM Try.prog false menv76 [] [] 96 Ann.no Try.f73 [AV.float j] []) = some (true, AV.bool (s_ref02_End_0 j)) := by kernel_rfl
def S_ref02_End : List AV → Option (Ob × AV)
  | [AV.float j] => some (Ob.tt, AV.bool (s_ref02_End_0 j))
  | _ => none
theorem t_ref02_End : SOkM Try.prog false (73, fun args => match S_ref02_End args with | some (o, v) => some (o, v, []) | none => none) := SOkM.flat (N := 96) menv76_ok Try.func73 ann_ref02_End Try.call73 fun args o v h ho => by
  unfold S_ref02_End at h
  split at h
  · rename_i j
    cases h
    have ho2 := ho
    have this := show outB (evFnM Try.prog false menv76 [] [] 96 Ann.no Try.f73 [AV.float j] []) = _ from e_ref02_End j
    exact ⟨this, rfl⟩
  · cases h
def c_ref02_End : SFM := fun args => match S_ref02_End args with | some (o, v) => some (o, v, []) | none => none
theorem c_ref02_End_ok : SOkM Try.prog false (73, c_ref02_End) := t_ref02_End
def mss76 : List (FuncId × SFM) := (73, c_ref02_End) :: mss75
def menv77 : EnvM := mkEnvM mxs mss76 mws2
theorem mss76_ok : All (SOkM Try.prog false) mss76 := All.cons c_ref02_End_ok mss75_ok
theorem menv77_ok : menv77.Ok Try.prog false := mkEnvM_ok mxs_ok mss76_ok mws2_ok
theorem ann_ref02_Finite : FnOk Try.prog false 0 Try.f100 Ann.no := (fnNo _)
def s_ref02_Finite_0 (j e : Nat) : Bool := ((s_ref02_End_0 j) && (s_ref02_End_0 e))
theorem e_ref02_Finite (j e : Nat) : outB (evFnM Try.prog false menv77 [] [] 96 Ann.no Try.f100 [AV.agg [AV.float j, AV.float e]] []) = some (true, AV.bool (s_ref02_Finite_0 j e)) := by kernel_rfl
def S_ref02_Finite : List AV → Option (Ob × AV)
  | [AV.agg [AV.float j, AV.float e]] => some (Ob.tt, AV.bool (s_ref02_Finite_0 j e))
  | _ => none
theorem t_ref02_Finite : SOkM Try.prog false (100, fun args => match S_ref02_Finite args with | some (o, v) => some (o, v, []) | none => none) := SOkM.flat (N := 96) menv77_ok Try.func100 ann_ref02_Finite Try.call100 fun args o v h ho => by
  unfold S_ref02_Finite at h
  split at h
  · rename_i j e
    cases h
    have ho2 := ho
    have this := show outB (evFnM Try.prog false menv77 [] [] 96 Ann.no Try.f100 [AV.agg [AV.float j, AV.float e]] []) = _ from e_ref02_Finite j e
    exact ⟨this, rfl⟩
  · cases h
def c_ref02_Finite : SFM := fun args => match S_ref02_Finite args with | some (o, v) => some (o, v, []) | none => none
theorem c_ref02_Finite_ok : SOkM Try.prog false (100, c_ref02_Finite) := t_ref02_Finite
def mss77 : List (FuncId × SFM) := (100, c_ref02_Finite) :: mss76
def menv78 : EnvM := mkEnvM mxs mss77 mws2
theorem mss77_ok : All (SOkM Try.prog false) mss77 := All.cons c_ref02_Finite_ok mss76_ok
theorem menv78_ok : menv78.Ok Try.prog false := mkEnvM_ok mxs_ok mss77_ok mws2_ok
theorem ann_ref20_May : FnOk Try.prog false 0 Try.f84 Ann.no := (fnNo _)
def s_ref20_May_0 (j e : Int) (k m p z C E r u D q : Nat) (J : Int) (I : Nat) : Bool := ((((((((((s_ref02_Finite_0 k m) && (s_ref02_Finite_0 p z)) && ((s_ref02_End_0 C) && (s_ref02_End_0 E))) && (((s_ref02_End_0 r) && (s_ref02_End_0 q)) && (s_ref02_End_0 I))) && (ile (0 : Int) j)) && (ile (0 : Int) e)) && (!(ieq j e))) && (fle 0 I)) && (fle u D)) && (ile (-1 : Int) J))
theorem e_ref20_May (j e : Int) (k m p z C E r u D q : Nat) (J : Int) (I : Nat) : outB (evFnM Try.prog false menv78 [] [] 96 Ann.no Try.f84 [AV.agg [AV.int .i64 j, AV.int .i64 e, AV.float k, AV.float m, AV.float p, AV.float z, AV.float C, AV.float E, AV.float r, AV.float u, AV.float D, AV.float q, AV.int .i64 J, AV.float I]] []) = some (true, AV.bool (s_ref20_May_0 j e k m p z C E r u D q J I)) := by kernel_rfl
def S_ref20_May : List AV → Option (Ob × AV)
  | [AV.agg [AV.int .i64 j, AV.int .i64 e, AV.float k, AV.float m, AV.float p, AV.float z, AV.float C, AV.float E, AV.float r, AV.float u, AV.float D, AV.float q, AV.int .i64 J, AV.float I]] => some (Ob.tt, AV.bool (s_ref20_May_0 j e k m p z C E r u D q J I))
  | _ => none
theorem t_ref20_May : SOkM Try.prog false (84, fun args => match S_ref20_May args with | some (o, v) => some (o, v, []) | none => none) := SOkM.flat (N := 96) menv78_ok Try.func84 ann_ref20_May Try.call84 fun args o v h ho => by
  unfold S_ref20_May at h
  split at h
  · rename_i j e k m p z C E r u D q J I
    cases h
    have ho2 := ho
    have this := show outB (evFnM Try.prog false menv78 [] [] 96 Ann.no Try.f84 [AV.agg [AV.int .i64 j, AV.int .i64 e, AV.float k, AV.float m, AV.float p, AV.float z, AV.float C, AV.float E, AV.float r, AV.float u, AV.float D, AV.float q, AV.int .i64 J, AV.float I]] []) = _ from e_ref20_May j e k m p z C E r u D q J I
    exact ⟨this, rfl⟩
  · cases h
def c_ref20_May : SFM := fun args => match S_ref20_May args with | some (o, v) => some (o, v, []) | none => none
theorem c_ref20_May_ok : SOkM Try.prog false (84, c_ref20_May) := t_ref20_May
def mss78 : List (FuncId × SFM) := (84, c_ref20_May) :: mss77
def menv79 : EnvM := mkEnvM mxs mss78 mws2
theorem mss78_ok : All (SOkM Try.prog false) mss78 := All.cons c_ref20_May_ok mss77_ok
theorem menv79_ok : menv79.Ok Try.prog false := mkEnvM_ok mxs_ok mss78_ok mws2_ok
theorem ann_ref20_Check : FnOk Try.prog false 0 Try.f55 Ann.no := (fnNo _)
def s_ref20_Check_0 (j e : Int) (k m p z C E r u D q : Nat) (J : Int) (I : Nat) (F L : Int) : Int := (bif ((((!(s_ref20_May_0 j e k m p z C E r u D q J I)) || (ile L j)) || (ile L e)) || (ile F J)) then (200 : Int) else (0 : Int))
theorem e_ref20_Check (j e : Int) (k m p z C E r u D q : Nat) (J : Int) (I : Nat) (F L : Int) : outB (evFnM Try.prog false menv79 [] [] 96 Ann.no Try.f55 [AV.agg [AV.int .i64 j, AV.int .i64 e, AV.float k, AV.float m, AV.float p, AV.float z, AV.float C, AV.float E, AV.float r, AV.float u, AV.float D, AV.float q, AV.int .i64 J, AV.float I], AV.int .i64 F, AV.int .i64 L] []) = some (true, AV.int .i64 (s_ref20_Check_0 j e k m p z C E r u D q J I F L)) := by kernel_rfl
def S_ref20_Check : List AV → Option (Ob × AV)
  | [AV.agg [AV.int .i64 j, AV.int .i64 e, AV.float k, AV.float m, AV.float p, AV.float z, AV.float C, AV.float E, AV.float r, AV.float u, AV.float D, AV.float q, AV.int .i64 J, AV.float I], AV.int .i64 F, AV.int .i64 L] => some (Ob.tt, AV.int .i64 (s_ref20_Check_0 j e k m p z C E r u D q J I F L))
  | _ => none
theorem t_ref20_Check : SOkM Try.prog false (55, fun args => match S_ref20_Check args with | some (o, v) => some (o, v, []) | none => none) := SOkM.flat (N := 96) menv79_ok Try.func55 ann_ref20_Check Try.call55 fun args o v h ho => by
  unfold S_ref20_Check at h
  split at h
  · rename_i j e k m p z C E r u D q J I F L
    cases h
    have ho2 := ho
    have this := show outB (evFnM Try.prog false menv79 [] [] 96 Ann.no Try.f55 [AV.agg [AV.int .i64 j, AV.int .i64 e, AV.float k, AV.float m, AV.float p, AV.float z, AV.float C, AV.float E, AV.float r, AV.float u, AV.float D, AV.float q, AV.int .i64 J, AV.float I], AV.int .i64 F, AV.int .i64 L] []) = _ from e_ref20_Check j e k m p z C E r u D q J I F L
    exact ⟨this, rfl⟩
  · cases h
def c_ref20_Check : SFM := fun args => match S_ref20_Check args with | some (o, v) => some (o, v, []) | none => none
theorem c_ref20_Check_ok : SOkM Try.prog false (55, c_ref20_Check) := t_ref20_Check
def mss79 : List (FuncId × SFM) := (55, c_ref20_Check) :: mss78
def menv80 : EnvM := mkEnvM mxs mss79 mws2
theorem mss79_ok : All (SOkM Try.prog false) mss79 := All.cons c_ref20_Check_ok mss78_ok
theorem menv80_ok : menv80.Ok Try.prog false := mkEnvM_ok mxs_ok mss79_ok mws2_ok
theorem ann_ref21_still : FnOk Try.prog false 0 Try.f67 Ann.no := (fnNo _)
def s_ref21_still_0 (j e k m p : Nat) : Bool := ((((fle 0 j) && (fle j 9218868437227405311)) && (fle 0 e)) && (fle e 9218868437227405311))
theorem e_ref21_still (j e k m p : Nat) : outB (evFnM Try.prog false menv80 [] [] 96 Ann.no Try.f67 [AV.agg [AV.float j, AV.float e, AV.float k, AV.float m, AV.float p]] []) = some (true, AV.bool (s_ref21_still_0 j e k m p)) := by kernel_rfl
def S_ref21_still : List AV → Option (Ob × AV)
  | [AV.agg [AV.float j, AV.float e, AV.float k, AV.float m, AV.float p]] => some (Ob.tt, AV.bool (s_ref21_still_0 j e k m p))
  | _ => none
theorem t_ref21_still : SOkM Try.prog false (67, fun args => match S_ref21_still args with | some (o, v) => some (o, v, []) | none => none) := SOkM.flat (N := 96) menv80_ok Try.func67 ann_ref21_still Try.call67 fun args o v h ho => by
  unfold S_ref21_still at h
  split at h
  · rename_i j e k m p
    cases h
    have ho2 := ho
    have this := show outB (evFnM Try.prog false menv80 [] [] 96 Ann.no Try.f67 [AV.agg [AV.float j, AV.float e, AV.float k, AV.float m, AV.float p]] []) = _ from e_ref21_still j e k m p
    exact ⟨this, rfl⟩
  · cases h
def c_ref21_still : SFM := fun args => match S_ref21_still args with | some (o, v) => some (o, v, []) | none => none
theorem c_ref21_still_ok : SOkM Try.prog false (67, c_ref21_still) := t_ref21_still
def mss80 : List (FuncId × SFM) := (67, c_ref21_still) :: mss79
def menv81 : EnvM := mkEnvM mxs mss80 mws2
theorem mss80_ok : All (SOkM Try.prog false) mss80 := All.cons c_ref21_still_ok mss79_ok
theorem menv81_ok : menv81.Ok Try.prog false := mkEnvM_ok mxs_ok mss80_ok mws2_ok
structure V_ref21_Asked_L0 where
  v0 : Int
def tpl_ref21_Asked_L0 : List AV := (AV.nul :: AV.nul :: AV.top :: AV.top :: AV.top :: AV.nul :: tpA 37 ([]))
def cts_ref21_Asked_L0 : List CT := []
def phs_ref21_Asked_L0 : List Src := []
def T_ref21_Asked_L0 (ab : Nat) (Y ac : Nat → Int) (av ar aB aC aD aE aF aG aI aL : Nat → Nat) (aM : Nat → Int) (aN : Nat → Nat) (aO : Nat) (aQ aX bb ba bi : Nat → Nat) (x : V_ref21_Asked_L0) (F0 F1 : Nat → List AV) : List AV × Heap := ((AV.view ab 14 F0 :: AV.view aO 5 F1 :: AV.top :: AV.top :: AV.top :: AV.int .i64 x.v0 :: tpA 37 ([])), [])
def sh_ref21_Asked_L0 (ab : Nat) (Y ac : Nat → Int) (av ar aB aC aD aE aF aG aI aL : Nat → Nat) (aM : Nat → Int) (aN : Nat → Nat) (aO : Nat) (aQ aX bb ba bi : Nat → Nat) (x : V_ref21_Asked_L0) : List AV × Heap := T_ref21_Asked_L0 ab Y ac av ar aB aC aD aE aF aG aI aL aM aN aO aQ aX bb ba bi x (fun j0 => [AV.int .i64 (Y j0), AV.int .i64 (ac j0), AV.float (av j0), AV.float (ar j0), AV.float (aB j0), AV.float (aC j0), AV.float (aD j0), AV.float (aE j0), AV.float (aF j0), AV.float (aG j0), AV.float (aI j0), AV.float (aL j0), AV.int .i64 (aM j0), AV.float (aN j0)]) (fun j0 => [AV.float (aQ j0), AV.float (aX j0), AV.float (bb j0), AV.float (ba j0), AV.float (bi j0)])
def step_ref21_Asked_L0 (ab : Nat) (Y ac : Nat → Int) (av ar aB aC aD aE aF aG aI aL : Nat → Nat) (aM : Nat → Int) (aN : Nat → Nat) (aO : Nat) (x : V_ref21_Asked_L0) : V_ref21_Asked_L0 := V_ref21_Asked_L0.mk (IntKind.wrap .i64 (x.v0 + (1 : Int)))
def go_ref21_Asked_L0 (ab : Nat) (Y ac : Nat → Int) (av ar aB aC aD aE aF aG aI aL : Nat → Nat) (aM : Nat → Int) (aN : Nat → Nat) (aO : Nat) (x : V_ref21_Asked_L0) : Bool := let x0 := !(ilt x.v0 (Int.ofNat ab)); (bif (bif x0 then false else (!(ieq (s_ref20_Check_0 (Y (Int.toNat x.v0)) (ac (Int.toNat x.v0)) (av (Int.toNat x.v0)) (ar (Int.toNat x.v0)) (aB (Int.toNat x.v0)) (aC (Int.toNat x.v0)) (aD (Int.toNat x.v0)) (aE (Int.toNat x.v0)) (aF (Int.toNat x.v0)) (aG (Int.toNat x.v0)) (aI (Int.toNat x.v0)) (aL (Int.toNat x.v0)) (aM (Int.toNat x.v0)) (aN (Int.toNat x.v0)) (Int.ofNat ab) (Int.ofNat aO)) (0 : Int)))) then false else (bif x0 then false else true))
def ok_ref21_Asked_L0 (ab : Nat) (Y ac : Nat → Int) (av ar aB aC aD aE aF aG aI aL : Nat → Nat) (aM : Nat → Int) (aN : Nat → Nat) (aO : Nat) (x : V_ref21_Asked_L0) : Bool := let x0 := (ile (0 : Int) x.v0) && (Nat.blt (Int.toNat x.v0) ab); let x1 := !(ilt x.v0 (Int.ofNat ab)); (mrgB (bif x1 then false else (!(ieq (s_ref20_Check_0 (Y (Int.toNat x.v0)) (ac (Int.toNat x.v0)) (av (Int.toNat x.v0)) (ar (Int.toNat x.v0)) (aB (Int.toNat x.v0)) (aC (Int.toNat x.v0)) (aD (Int.toNat x.v0)) (aE (Int.toNat x.v0)) (aF (Int.toNat x.v0)) (aG (Int.toNat x.v0)) (aI (Int.toNat x.v0)) (aL (Int.toNat x.v0)) (aM (Int.toNat x.v0)) (aN (Int.toNat x.v0)) (Int.ofNat ab) (Int.ofNat aO)) (0 : Int)))) x0 (mrgB x1 true x0))
def L_ref21_Asked_L0 (ab : Nat) (Y ac : Nat → Int) (av ar aB aC aD aE aF aG aI aL : Nat → Nat) (aM : Nat → Int) (aN : Nat → Nat) (aO : Nat) (x : V_ref21_Asked_L0) : V_ref21_Asked_L0 := lastL (ok_ref21_Asked_L0 ab Y ac av ar aB aC aD aE aF aG aI aL aM aN aO) (go_ref21_Asked_L0 ab Y ac av ar aB aC aD aE aF aG aI aL aM aN aO) (step_ref21_Asked_L0 ab Y ac av ar aB aC aD aE aF aG aI aL aM aN aO) x
def E_ref21_Asked_L0 (ab : Nat) (Y ac : Nat → Int) (av ar aB aC aD aE aF aG aI aL : Nat → Nat) (aM : Nat → Int) (aN : Nat → Nat) (aO : Nat) (x : V_ref21_Asked_L0) : Bool := endsL (ok_ref21_Asked_L0 ab Y ac av ar aB aC aD aE aF aG aI aL aM aN aO) (go_ref21_Asked_L0 ab Y ac av ar aB aC aD aE aF aG aI aL aM aN aO) (step_ref21_Asked_L0 ab Y ac av ar aB aC aD aE aF aG aI aL aM aN aO) x
theorem all_ref21_Asked_L0 (ab : Nat) (Y ac : Nat → Int) (av ar aB aC aD aE aF aG aI aL : Nat → Nat) (aM : Nat → Int) (aN : Nat → Nat) (aO : Nat) (aQ aX bb ba bi : Nat → Nat) (x : V_ref21_Asked_L0) : rnd Try.prog false menv81 [] [] 96 Ann.no (subC [1, 1, 0, 1, 0, 0] (codeOf Try.f41)) 0 [] tpl_ref21_Asked_L0 cts_ref21_Asked_L0 (false :: false :: tpB 41 ([])) [] (sh_ref21_Asked_L0 ab Y ac av ar aB aC aD aE aF aG aI aL aM aN aO aQ aX bb ba bi x) = (true, true, go_ref21_Asked_L0 ab Y ac av ar aB aC aD aE aF aG aI aL aM aN aO x, ok_ref21_Asked_L0 ab Y ac av ar aB aC aD aE aF aG aI aL aM aN aO x, true, sh_ref21_Asked_L0 ab Y ac av ar aB aC aD aE aF aG aI aL aM aN aO aQ aX bb ba bi (step_ref21_Asked_L0 ab Y ac av ar aB aC aD aE aF aG aI aL aM aN aO x), true) := by kernel_rfl
def fam_ref21_Asked_L0 (ab : Nat) (Y ac : Nat → Int) (av ar aB aC aD aE aF aG aI aL : Nat → Nat) (aM : Nat → Int) (aN : Nat → Nat) (aO : Nat) (aQ aX bb ba bi : Nat → Nat) : Fam Try.prog false menv81 [] [] 96 0 Ann.no (subC [1, 1, 0, 1, 0, 0] (codeOf Try.f41)) V_ref21_Asked_L0 where
  sh := sh_ref21_Asked_L0 ab Y ac av ar aB aC aD aE aF aG aI aL aM aN aO aQ aX bb ba bi
  ok := ok_ref21_Asked_L0 ab Y ac av ar aB aC aD aE aF aG aI aL aM aN aO
  go := go_ref21_Asked_L0 ab Y ac av ar aB aC aD aE aF aG aI aL aM aN aO
  step := step_ref21_Asked_L0 ab Y ac av ar aB aC aD aE aF aG aI aL aM aN aO
  chg := (false :: false :: tpB 41 ([]))
  chgH := []
  tpl := tpl_ref21_Asked_L0
  cts := cts_ref21_Asked_L0
  keep := 0
  srcs := []
  ann := (annNo (subC [1, 1, 0, 1, 0, 0] (codeOf Try.f41)))
  le := by kernel_rfl
  kept := by kernel_rfl
  keptB := by kernel_rfl
  all := all_ref21_Asked_L0 ab Y ac av ar aB aC aD aE aF aG aI aL aM aN aO aQ aX bb ba bi
  len := fun x => by kernel_rfl
  head := fun x y => by kernel_rfl
  con := fun x y => by kernel_rfl
  conH := fun x y => by kernel_rfl
def F_ref21_Asked_L0 : St → Option Ch := fun s => cond (Nat.beq s.tm.length 43 && Nat.beq s.H.length 0) (tkCons (alL tpl_ref21_Asked_L0 s.tm) fun j t0 => tkView 14 j fun s0 f0 => tkCons t0 fun e t1 => tkView 5 e fun s15 f1 => tkTops 3 t1 fun t2 => tkCons t2 fun m t3 => tkI .i64 m fun s21 => tkTops 37 t3 fun t4 => tkNil t4 <| tkNil (alH cts_ref21_Asked_L0 (s.H ++ List.map phan phs_ref21_Asked_L0)) <| Fam.out (fam_ref21_Asked_L0 s0 (iL f0 0) (iL f0 1) (fL f0 2) (fL f0 3) (fL f0 4) (fL f0 5) (fL f0 6) (fL f0 7) (fL f0 8) (fL f0 9) (fL f0 10) (fL f0 11) (iL f0 12) (fL f0 13) s15 (fL f1 0) (fL f1 1) (fL f1 2) (fL f1 3) (fL f1 4)) s ((allB fun i => isNrm [Ck.i .i64, Ck.i .i64, Ck.f, Ck.f, Ck.f, Ck.f, Ck.f, Ck.f, Ck.f, Ck.f, Ck.f, Ck.f, Ck.i .i64, Ck.f] (f0 i)) && (allB fun i => isNrm [Ck.f, Ck.f, Ck.f, Ck.f, Ck.f] (f1 i))) (V_ref21_Asked_L0.mk s21)) none
theorem F_ref21_Asked_L0_ok : ∀ s ch, F_ref21_Asked_L0 s = some ch → AllI s ch ∧ LoopSpec Try.prog false 0 (subC [1, 1, 0, 1, 0, 0] (codeOf Try.f41)) s (sel ch) := by
  intro s ch h
  unfold F_ref21_Asked_L0 at h
  obtain ⟨hl, h0⟩ := cond_some h rfl
  clear h
  obtain ⟨hl, hb⟩ := and_beq2 hl
  obtain ⟨j, t0, e0, h1⟩ := tkCons_some h0
  obtain ⟨s0, f0, rfl, h2⟩ := tkView_some h1
  obtain ⟨e, t1, rfl, h3⟩ := tkCons_some h2
  obtain ⟨s15, f1, rfl, h4⟩ := tkView_some h3
  obtain ⟨t2, rfl, h5⟩ := tkTops_some h4
  obtain ⟨m, t3, rfl, h6⟩ := tkCons_some h5
  obtain ⟨s21, rfl, h7⟩ := tkI_some h6
  obtain ⟨t4, rfl, h8⟩ := tkTops_some h7
  obtain ⟨rfl, h9⟩ := tkNil_some h8
  obtain ⟨eH, h10⟩ := tkNil_some h9
  refine Fam.spec menv81_ok (fam_ref21_Asked_L0 s0 (iL f0 0) (iL f0 1) (fL f0 2) (fL f0 3) (fL f0 4) (fL f0 5) (fL f0 6) (fL f0 7) (fL f0 8) (fL f0 9) (fL f0 10) (fL f0 11) (iL f0 12) (fL f0 13) s15 (fL f1 0) (fL f1 1) (fL f1 2) (fL f1 3) (fL f1 4)) (phs := phs_ref21_Asked_L0) (hl.trans (by kernel_rfl)) (hb.trans (by kernel_rfl)) ?_ ?_ h10
  · rw [← hdr_alH cts_ref21_Asked_L0 (s.H ++ List.map phan phs_ref21_Asked_L0), eH]; kernel_rfl
  · intro hq
    simp only [Bool.and_eq_true] at hq
    obtain ⟨hq0, hq1⟩ := hq
    have n0 := nrm_fun hq0
    have n1 := nrm_fun hq1
    show sh_ref21_Asked_L0 s0 (iL f0 0) (iL f0 1) (fL f0 2) (fL f0 3) (fL f0 4) (fL f0 5) (fL f0 6) (fL f0 7) (fL f0 8) (fL f0 9) (fL f0 10) (fL f0 11) (iL f0 12) (fL f0 13) s15 (fL f1 0) (fL f1 1) (fL f1 2) (fL f1 3) (fL f1 4) (V_ref21_Asked_L0.mk s21) = (alL tpl_ref21_Asked_L0 s.tm, alH cts_ref21_Asked_L0 (s.H ++ List.map phan phs_ref21_Asked_L0))
    rw [e0, eH]
    refine Eq.trans (show sh_ref21_Asked_L0 s0 (iL f0 0) (iL f0 1) (fL f0 2) (fL f0 3) (fL f0 4) (fL f0 5) (fL f0 6) (fL f0 7) (fL f0 8) (fL f0 9) (fL f0 10) (fL f0 11) (iL f0 12) (fL f0 13) s15 (fL f1 0) (fL f1 1) (fL f1 2) (fL f1 3) (fL f1 4) (V_ref21_Asked_L0.mk s21) = T_ref21_Asked_L0 s0 (iL f0 0) (iL f0 1) (fL f0 2) (fL f0 3) (fL f0 4) (fL f0 5) (fL f0 6) (fL f0 7) (fL f0 8) (fL f0 9) (fL f0 10) (fL f0 11) (iL f0 12) (fL f0 13) s15 (fL f1 0) (fL f1 1) (fL f1 2) (fL f1 3) (fL f1 4) (V_ref21_Asked_L0.mk s21) (fun i => mkN [Ck.i .i64, Ck.i .i64, Ck.f, Ck.f, Ck.f, Ck.f, Ck.f, Ck.f, Ck.f, Ck.f, Ck.f, Ck.f, Ck.i .i64, Ck.f] (f0 i) 0) (fun i => mkN [Ck.f, Ck.f, Ck.f, Ck.f, Ck.f] (f1 i) 0) by kernel_rfl) ?_
    rw [n0, n1]
    kernel_rfl
structure V_ref21_Asked_L1 where
  v0 : Int
def tpl_ref21_Asked_L1 : List AV := (AV.top :: AV.nul :: AV.top :: AV.top :: AV.top :: AV.top :: AV.nul :: tpA 36 ([]))
def cts_ref21_Asked_L1 : List CT := []
def phs_ref21_Asked_L1 : List Src := []
def T_ref21_Asked_L1 (ab : Nat) (Y ac av ar aB : Nat → Nat) (x : V_ref21_Asked_L1) (F0 : Nat → List AV) : List AV × Heap := ((AV.top :: AV.view ab 5 F0 :: AV.top :: AV.top :: AV.top :: AV.top :: AV.int .i64 x.v0 :: tpA 36 ([])), [])
def sh_ref21_Asked_L1 (ab : Nat) (Y ac av ar aB : Nat → Nat) (x : V_ref21_Asked_L1) : List AV × Heap := T_ref21_Asked_L1 ab Y ac av ar aB x (fun j0 => [AV.float (Y j0), AV.float (ac j0), AV.float (av j0), AV.float (ar j0), AV.float (aB j0)])
def step_ref21_Asked_L1 (ab : Nat) (Y ac av ar aB : Nat → Nat) (x : V_ref21_Asked_L1) : V_ref21_Asked_L1 := V_ref21_Asked_L1.mk (IntKind.wrap .i64 (x.v0 + (1 : Int)))
def go_ref21_Asked_L1 (ab : Nat) (Y ac av ar aB : Nat → Nat) (x : V_ref21_Asked_L1) : Bool := (bif (bif (!(ilt x.v0 (Int.ofNat ab))) then false else (!(s_ref21_still_0 (Y (Int.toNat x.v0)) (ac (Int.toNat x.v0)) (av (Int.toNat x.v0)) (ar (Int.toNat x.v0)) (aB (Int.toNat x.v0))))) then false else (bif (!(ilt x.v0 (Int.ofNat ab))) then false else true))
def ok_ref21_Asked_L1 (ab : Nat) (Y ac av ar aB : Nat → Nat) (x : V_ref21_Asked_L1) : Bool := (mrgB (bif (!(ilt x.v0 (Int.ofNat ab))) then false else (!(s_ref21_still_0 (Y (Int.toNat x.v0)) (ac (Int.toNat x.v0)) (av (Int.toNat x.v0)) (ar (Int.toNat x.v0)) (aB (Int.toNat x.v0))))) ((ile (0 : Int) x.v0) && (Nat.blt (Int.toNat x.v0) ab)) (mrgB (!(ilt x.v0 (Int.ofNat ab))) true ((ile (0 : Int) x.v0) && (Nat.blt (Int.toNat x.v0) ab))))
def L_ref21_Asked_L1 (ab : Nat) (Y ac av ar aB : Nat → Nat) (x : V_ref21_Asked_L1) : V_ref21_Asked_L1 := lastL (ok_ref21_Asked_L1 ab Y ac av ar aB) (go_ref21_Asked_L1 ab Y ac av ar aB) (step_ref21_Asked_L1 ab Y ac av ar aB) x
def E_ref21_Asked_L1 (ab : Nat) (Y ac av ar aB : Nat → Nat) (x : V_ref21_Asked_L1) : Bool := endsL (ok_ref21_Asked_L1 ab Y ac av ar aB) (go_ref21_Asked_L1 ab Y ac av ar aB) (step_ref21_Asked_L1 ab Y ac av ar aB) x
theorem all_ref21_Asked_L1 (ab : Nat) (Y ac av ar aB : Nat → Nat) (x : V_ref21_Asked_L1) : rnd Try.prog false menv81 [] [] 96 Ann.no (subC [1, 1, 1, 0, 1, 0, 0] (codeOf Try.f41)) 0 [] tpl_ref21_Asked_L1 cts_ref21_Asked_L1 (true :: false :: tpB 41 ([])) [] (sh_ref21_Asked_L1 ab Y ac av ar aB x) = (true, true, go_ref21_Asked_L1 ab Y ac av ar aB x, ok_ref21_Asked_L1 ab Y ac av ar aB x, true, sh_ref21_Asked_L1 ab Y ac av ar aB (step_ref21_Asked_L1 ab Y ac av ar aB x), true) := by kernel_rfl
def fam_ref21_Asked_L1 (ab : Nat) (Y ac av ar aB : Nat → Nat) : Fam Try.prog false menv81 [] [] 96 0 Ann.no (subC [1, 1, 1, 0, 1, 0, 0] (codeOf Try.f41)) V_ref21_Asked_L1 where
  sh := sh_ref21_Asked_L1 ab Y ac av ar aB
  ok := ok_ref21_Asked_L1 ab Y ac av ar aB
  go := go_ref21_Asked_L1 ab Y ac av ar aB
  step := step_ref21_Asked_L1 ab Y ac av ar aB
  chg := (true :: false :: tpB 41 ([]))
  chgH := []
  tpl := tpl_ref21_Asked_L1
  cts := cts_ref21_Asked_L1
  keep := 0
  srcs := []
  ann := (annNo (subC [1, 1, 1, 0, 1, 0, 0] (codeOf Try.f41)))
  le := by kernel_rfl
  kept := by kernel_rfl
  keptB := by kernel_rfl
  all := all_ref21_Asked_L1 ab Y ac av ar aB
  len := fun x => by kernel_rfl
  head := fun x y => by kernel_rfl
  con := fun x y => by kernel_rfl
  conH := fun x y => by kernel_rfl
def F_ref21_Asked_L1 : St → Option Ch := fun s => cond (Nat.beq s.tm.length 43 && Nat.beq s.H.length 0) (tkTops 1 (alL tpl_ref21_Asked_L1 s.tm) fun t0 => tkCons t0 fun e t1 => tkView 5 e fun s0 f0 => tkTops 4 t1 fun t2 => tkCons t2 fun m t3 => tkI .i64 m fun s6 => tkTops 36 t3 fun t4 => tkNil t4 <| tkNil (alH cts_ref21_Asked_L1 (s.H ++ List.map phan phs_ref21_Asked_L1)) <| Fam.out (fam_ref21_Asked_L1 s0 (fL f0 0) (fL f0 1) (fL f0 2) (fL f0 3) (fL f0 4)) s (allB fun i => isNrm [Ck.f, Ck.f, Ck.f, Ck.f, Ck.f] (f0 i)) (V_ref21_Asked_L1.mk s6)) none
theorem F_ref21_Asked_L1_ok : ∀ s ch, F_ref21_Asked_L1 s = some ch → AllI s ch ∧ LoopSpec Try.prog false 0 (subC [1, 1, 1, 0, 1, 0, 0] (codeOf Try.f41)) s (sel ch) := by
  intro s ch h
  unfold F_ref21_Asked_L1 at h
  obtain ⟨hl, h0⟩ := cond_some h rfl
  clear h
  obtain ⟨hl, hb⟩ := and_beq2 hl
  obtain ⟨t0, e0, h1⟩ := tkTops_some h0
  obtain ⟨e, t1, rfl, h2⟩ := tkCons_some h1
  obtain ⟨s0, f0, rfl, h3⟩ := tkView_some h2
  obtain ⟨t2, rfl, h4⟩ := tkTops_some h3
  obtain ⟨m, t3, rfl, h5⟩ := tkCons_some h4
  obtain ⟨s6, rfl, h6⟩ := tkI_some h5
  obtain ⟨t4, rfl, h7⟩ := tkTops_some h6
  obtain ⟨rfl, h8⟩ := tkNil_some h7
  obtain ⟨eH, h9⟩ := tkNil_some h8
  refine Fam.spec menv81_ok (fam_ref21_Asked_L1 s0 (fL f0 0) (fL f0 1) (fL f0 2) (fL f0 3) (fL f0 4)) (phs := phs_ref21_Asked_L1) (hl.trans (by kernel_rfl)) (hb.trans (by kernel_rfl)) ?_ ?_ h9
  · rw [← hdr_alH cts_ref21_Asked_L1 (s.H ++ List.map phan phs_ref21_Asked_L1), eH]; kernel_rfl
  · intro hq
    have hq0 := hq
    have n0 := nrm_fun hq0
    show sh_ref21_Asked_L1 s0 (fL f0 0) (fL f0 1) (fL f0 2) (fL f0 3) (fL f0 4) (V_ref21_Asked_L1.mk s6) = (alL tpl_ref21_Asked_L1 s.tm, alH cts_ref21_Asked_L1 (s.H ++ List.map phan phs_ref21_Asked_L1))
    rw [e0, eH]
    refine Eq.trans (show sh_ref21_Asked_L1 s0 (fL f0 0) (fL f0 1) (fL f0 2) (fL f0 3) (fL f0 4) (V_ref21_Asked_L1.mk s6) = T_ref21_Asked_L1 s0 (fL f0 0) (fL f0 1) (fL f0 2) (fL f0 3) (fL f0 4) (V_ref21_Asked_L1.mk s6) (fun i => mkN [Ck.f, Ck.f, Ck.f, Ck.f, Ck.f] (f0 i) 0) by kernel_rfl) ?_
    rw [n0]
    kernel_rfl
theorem ann_ref21_Asked : FnOk Try.prog false 0 Try.f41 (Ann.two Ann.no (Ann.two Ann.no (Ann.two (Ann.two Ann.no (Ann.one (Ann.loop F_ref21_Asked_L0))) (Ann.two (Ann.two Ann.no (Ann.one (Ann.loop F_ref21_Asked_L1))) Ann.no)))) := (fnOk_of (c := codeOf Try.f41) (by kernel_rfl) (annSeq (a := (subC [0] (codeOf Try.f41))) (b := (subC [1] (codeOf Try.f41))) (by kernel_rfl) (annNo (subC [0] (codeOf Try.f41))) (annSeq (a := (subC [1, 0] (codeOf Try.f41))) (b := (subC [1, 1] (codeOf Try.f41))) (by kernel_rfl) (annNo (subC [1, 0] (codeOf Try.f41))) (annSeq (a := (subC [1, 1, 0] (codeOf Try.f41))) (b := (subC [1, 1, 1] (codeOf Try.f41))) (by kernel_rfl) (annSeq (a := (subC [1, 1, 0, 0] (codeOf Try.f41))) (b := (subC [1, 1, 0, 1] (codeOf Try.f41))) (by kernel_rfl) (annNo (subC [1, 1, 0, 0] (codeOf Try.f41))) (annBlock (a := (subC [1, 1, 0, 1, 0] (codeOf Try.f41))) (i := 0) (by kernel_rfl) (annLoop (a := (subC [1, 1, 0, 1, 0, 0] (codeOf Try.f41))) (by kernel_rfl) F_ref21_Asked_L0_ok))) (annSeq (a := (subC [1, 1, 1, 0] (codeOf Try.f41))) (b := (subC [1, 1, 1, 1] (codeOf Try.f41))) (by kernel_rfl) (annSeq (a := (subC [1, 1, 1, 0, 0] (codeOf Try.f41))) (b := (subC [1, 1, 1, 0, 1] (codeOf Try.f41))) (by kernel_rfl) (annNo (subC [1, 1, 1, 0, 0] (codeOf Try.f41))) (annBlock (a := (subC [1, 1, 1, 0, 1, 0] (codeOf Try.f41))) (i := 2) (by kernel_rfl) (annLoop (a := (subC [1, 1, 1, 0, 1, 0, 0] (codeOf Try.f41))) (by kernel_rfl) F_ref21_Asked_L1_ok))) (annNo (subC [1, 1, 1, 1] (codeOf Try.f41))))))))
def s_ref21_Asked_0 (l : Nat) (aa ad : Nat → Int) (ae af ag ah ai aj ak al am an : Nat → Nat) (ao : Nat → Int) (ap : Nat → Nat) (X : Nat) (au aw ax ay az : Nat → Nat) : Int := let x0 := (L_ref21_Asked_L1 X au aw ax ay az (V_ref21_Asked_L1.mk (0 : Int))).v0; let x1 := Int.toNat x0; let x2 := (L_ref21_Asked_L0 l aa ad ae af ag ah ai aj ak al am an ao ap X (V_ref21_Asked_L0.mk (0 : Int))).v0; let x3 := Int.toNat x2; (bif ((ilt (1048576 : Int) (Int.ofNat l)) || (ilt (1024 : Int) (Int.ofNat X))) then (4 : Int) else (bif (bif (!(ilt x2 (Int.ofNat l))) then false else (!(ieq (s_ref20_Check_0 (aa x3) (ad x3) (ae x3) (af x3) (ag x3) (ah x3) (ai x3) (aj x3) (ak x3) (al x3) (am x3) (an x3) (ao x3) (ap x3) (Int.ofNat l) (Int.ofNat X)) (0 : Int)))) then (200 : Int) else (bif (bif (!(ilt x0 (Int.ofNat X))) then false else (!(s_ref21_still_0 (au x1) (aw x1) (ax x1) (ay x1) (az x1)))) then (200 : Int) else (0 : Int))))
def q_ref21_Asked (l : Nat) (aa ad : Nat → Int) (ae af ag ah ai aj ak al am an : Nat → Nat) (ao : Nat → Int) (ap : Nat → Nat) (X : Nat) (au aw ax ay az : Nat → Nat) : Bool := (let x0 := ((allB fun _ => true) && (allB fun _ => true)) && (E_ref21_Asked_L0 l aa ad ae af ag ah ai aj ak al am an ao ap X (V_ref21_Asked_L0.mk (0 : Int))); let x1 := x0 && ((allB fun _ => true) && (E_ref21_Asked_L1 X au aw ax ay az (V_ref21_Asked_L1.mk (0 : Int)))); let x2 := (L_ref21_Asked_L1 X au aw ax ay az (V_ref21_Asked_L1.mk (0 : Int))).v0; let x3 := Int.toNat x2; let x4 := (L_ref21_Asked_L0 l aa ad ae af ag ah ai aj ak al am an ao ap X (V_ref21_Asked_L0.mk (0 : Int))).v0; let x5 := Int.toNat x4; (mrgB ((ilt (1048576 : Int) (Int.ofNat l)) || (ilt (1024 : Int) (Int.ofNat X))) true (mrgB (bif (!(ilt x4 (Int.ofNat l))) then false else (!(ieq (s_ref20_Check_0 (aa x5) (ad x5) (ae x5) (af x5) (ag x5) (ah x5) (ai x5) (aj x5) (ak x5) (al x5) (am x5) (an x5) (ao x5) (ap x5) (Int.ofNat l) (Int.ofNat X)) (0 : Int)))) x0 (mrgB (bif (!(ilt x2 (Int.ofNat X))) then false else (!(s_ref21_still_0 (au x3) (aw x3) (ax x3) (ay x3) (az x3)))) x1 x1))))
theorem e_ref21_Asked (l : Nat) (aa ad : Nat → Int) (ae af ag ah ai aj ak al am an : Nat → Nat) (ao : Nat → Int) (ap : Nat → Nat) (X : Nat) (au aw ax ay az : Nat → Nat) : outB (evFnM Try.prog false menv81 [] [] 96 (Ann.two Ann.no (Ann.two Ann.no (Ann.two (Ann.two Ann.no (Ann.one (Ann.loop F_ref21_Asked_L0))) (Ann.two (Ann.two Ann.no (Ann.one (Ann.loop F_ref21_Asked_L1))) Ann.no)))) Try.f41 [AV.view l 14 (fun i0 => [AV.int .i64 (aa i0), AV.int .i64 (ad i0), AV.float (ae i0), AV.float (af i0), AV.float (ag i0), AV.float (ah i0), AV.float (ai i0), AV.float (aj i0), AV.float (ak i0), AV.float (al i0), AV.float (am i0), AV.float (an i0), AV.int .i64 (ao i0), AV.float (ap i0)]), AV.view X 5 (fun i0 => [AV.float (au i0), AV.float (aw i0), AV.float (ax i0), AV.float (ay i0), AV.float (az i0)])] []) = some (q_ref21_Asked l aa ad ae af ag ah ai aj ak al am an ao ap X au aw ax ay az, AV.int .i64 (s_ref21_Asked_0 l aa ad ae af ag ah ai aj ak al am an ao ap X au aw ax ay az)) := by kernel_rfl
def o_ref21_Asked (l : Nat) (aa ad : Nat → Int) (ae af ag ah ai aj ak al am an : Nat → Nat) (ao : Nat → Int) (ap : Nat → Nat) (X : Nat) (au aw ax ay az : Nat → Nat) : Bool := let x0 := E_ref21_Asked_L0 l aa ad ae af ag ah ai aj ak al am an ao ap X (V_ref21_Asked_L0.mk (0 : Int)); let x1 := x0 && (E_ref21_Asked_L1 X au aw ax ay az (V_ref21_Asked_L1.mk (0 : Int))); let x2 := (L_ref21_Asked_L1 X au aw ax ay az (V_ref21_Asked_L1.mk (0 : Int))).v0; let x3 := Int.toNat x2; let x4 := (L_ref21_Asked_L0 l aa ad ae af ag ah ai aj ak al am an ao ap X (V_ref21_Asked_L0.mk (0 : Int))).v0; let x5 := Int.toNat x4; (mrgB ((ilt (1048576 : Int) (Int.ofNat l)) || (ilt (1024 : Int) (Int.ofNat X))) true (mrgB (bif (!(ilt x4 (Int.ofNat l))) then false else (!(ieq (s_ref20_Check_0 (aa x5) (ad x5) (ae x5) (af x5) (ag x5) (ah x5) (ai x5) (aj x5) (ak x5) (al x5) (am x5) (an x5) (ao x5) (ap x5) (Int.ofNat l) (Int.ofNat X)) (0 : Int)))) x0 (mrgB (bif (!(ilt x2 (Int.ofNat X))) then false else (!(s_ref21_still_0 (au x3) (aw x3) (ax x3) (ay x3) (az x3)))) x1 x1)))
def S_ref21_Asked : List AV → Option (Ob × AV)
  | [AV.view l 14 W, AV.view X 5 aA] => some (Ob.both (Ob.bit ((allB fun i => isNrm [Ck.i .i64, Ck.i .i64, Ck.f, Ck.f, Ck.f, Ck.f, Ck.f, Ck.f, Ck.f, Ck.f, Ck.f, Ck.f, Ck.i .i64, Ck.f] (W i)) && (allB fun i => isNrm [Ck.f, Ck.f, Ck.f, Ck.f, Ck.f] (aA i)))) (Ob.bit (o_ref21_Asked l (iL W 0) (iL W 1) (fL W 2) (fL W 3) (fL W 4) (fL W 5) (fL W 6) (fL W 7) (fL W 8) (fL W 9) (fL W 10) (fL W 11) (iL W 12) (fL W 13) X (fL aA 0) (fL aA 1) (fL aA 2) (fL aA 3) (fL aA 4))), AV.int .i64 (s_ref21_Asked_0 l (iL W 0) (iL W 1) (fL W 2) (fL W 3) (fL W 4) (fL W 5) (fL W 6) (fL W 7) (fL W 8) (fL W 9) (fL W 10) (fL W 11) (iL W 12) (fL W 13) X (fL aA 0) (fL aA 1) (fL aA 2) (fL aA 3) (fL aA 4)))
  | _ => none
theorem ob_ref21_Asked (l : Nat) (aa ad : Nat → Int) (ae af ag ah ai aj ak al am an : Nat → Nat) (ao : Nat → Int) (ap : Nat → Nat) (X : Nat) (au aw ax ay az : Nat → Nat) (ho : o_ref21_Asked l aa ad ae af ag ah ai aj ak al am an ao ap X au aw ax ay az = true) : q_ref21_Asked l aa ad ae af ag ah ai aj ak al am an ao ap X au aw ax ay az = true := by
  unfold q_ref21_Asked
  unfold o_ref21_Asked at ho
  simp only [allB_true, eqT_self, mrgB_self, Bool.true_and, Bool.and_true] at ho ⊢
  exact ho
theorem t_ref21_Asked : SOkM Try.prog false (41, fun args => match S_ref21_Asked args with | some (o, v) => some (o, v, []) | none => none) := SOkM.flat (N := 96) menv81_ok Try.func41 ann_ref21_Asked Try.call41 fun args o v h ho => by
  unfold S_ref21_Asked at h
  split at h
  · rename_i l W X aA
    cases h
    rw [Ob.both_ok, Bool.and_eq_true] at ho
    obtain ⟨hn, ho2⟩ := ho
    simp only [Ob.ok, Bool.and_eq_true] at hn
    obtain ⟨n0, n1⟩ := hn
    replace n0 := nrm_fun n0
    replace n1 := nrm_fun n1
    have this := show outB (evFnM Try.prog false menv81 [] [] 96 (Ann.two Ann.no (Ann.two Ann.no (Ann.two (Ann.two Ann.no (Ann.one (Ann.loop F_ref21_Asked_L0))) (Ann.two (Ann.two Ann.no (Ann.one (Ann.loop F_ref21_Asked_L1))) Ann.no)))) Try.f41 [AV.view l 14 (fun i => mkN [Ck.i .i64, Ck.i .i64, Ck.f, Ck.f, Ck.f, Ck.f, Ck.f, Ck.f, Ck.f, Ck.f, Ck.f, Ck.f, Ck.i .i64, Ck.f] (W i) 0), AV.view X 5 (fun i => mkN [Ck.f, Ck.f, Ck.f, Ck.f, Ck.f] (aA i) 0)] []) = _ from e_ref21_Asked l (iL W 0) (iL W 1) (fL W 2) (fL W 3) (fL W 4) (fL W 5) (fL W 6) (fL W 7) (fL W 8) (fL W 9) (fL W 10) (fL W 11) (iL W 12) (fL W 13) X (fL aA 0) (fL aA 1) (fL aA 2) (fL aA 3) (fL aA 4)
    rw [(ob_ref21_Asked l (iL W 0) (iL W 1) (fL W 2) (fL W 3) (fL W 4) (fL W 5) (fL W 6) (fL W 7) (fL W 8) (fL W 9) (fL W 10) (fL W 11) (iL W 12) (fL W 13) X (fL aA 0) (fL aA 1) (fL aA 2) (fL aA 3) (fL aA 4) ho2)] at this
    rw [n0, n1] at this
    exact ⟨this, rfl⟩
  · cases h
def c_ref21_Asked : SFM := fun args => match S_ref21_Asked args with | some (o, v) => some (o, v, []) | none => none
theorem c_ref21_Asked_ok : SOkM Try.prog false (41, c_ref21_Asked) := t_ref21_Asked
def mss81 : List (FuncId × SFM) := (41, c_ref21_Asked) :: mss80
def menv82 : EnvM := mkEnvM mxs mss81 mws2
theorem mss81_ok : All (SOkM Try.prog false) mss81 := All.cons c_ref21_Asked_ok mss80_ok
theorem menv82_ok : menv82.Ok Try.prog false := mkEnvM_ok mxs_ok mss81_ok mws2_ok
theorem ann_ref20_Rests : FnOk Try.prog false 0 Try.f93 Ann.no := (fnNo _)
def s_ref20_Rests_0 (j e k m p : Nat) : Bool := ((((s_ref02_End_0 j) && (s_ref02_End_0 e)) && (fle 0 j)) && (fle 0 e))
theorem e_ref20_Rests (j e k m p : Nat) : outB (evFnM Try.prog false menv82 [] [] 96 Ann.no Try.f93 [AV.agg [AV.float j, AV.float e, AV.float k, AV.float m, AV.float p]] []) = some (true, AV.bool (s_ref20_Rests_0 j e k m p)) := by kernel_rfl
def S_ref20_Rests : List AV → Option (Ob × AV)
  | [AV.agg [AV.float j, AV.float e, AV.float k, AV.float m, AV.float p]] => some (Ob.tt, AV.bool (s_ref20_Rests_0 j e k m p))
  | _ => none
theorem t_ref20_Rests : SOkM Try.prog false (93, fun args => match S_ref20_Rests args with | some (o, v) => some (o, v, []) | none => none) := SOkM.flat (N := 96) menv82_ok Try.func93 ann_ref20_Rests Try.call93 fun args o v h ho => by
  unfold S_ref20_Rests at h
  split at h
  · rename_i j e k m p
    cases h
    have ho2 := ho
    have this := show outB (evFnM Try.prog false menv82 [] [] 96 Ann.no Try.f93 [AV.agg [AV.float j, AV.float e, AV.float k, AV.float m, AV.float p]] []) = _ from e_ref20_Rests j e k m p
    exact ⟨this, rfl⟩
  · cases h
def c_ref20_Rests : SFM := fun args => match S_ref20_Rests args with | some (o, v) => some (o, v, []) | none => none
theorem c_ref20_Rests_ok : SOkM Try.prog false (93, c_ref20_Rests) := t_ref20_Rests
def mss82 : List (FuncId × SFM) := (93, c_ref20_Rests) :: mss81
def menv83 : EnvM := mkEnvM mxs mss82 mws2
theorem mss82_ok : All (SOkM Try.prog false) mss82 := All.cons c_ref20_Rests_ok mss81_ok
theorem menv83_ok : menv83.Ok Try.prog false := mkEnvM_ok mxs_ok mss82_ok mws2_ok
theorem ann_ref20_all : FnOk Try.prog false 0 Try.f68 Ann.no := (fnNo _)
def s_ref20_all_0 (j e : Int) (k m p z C E r u D q : Nat) (J : Int) (I F L P Q R M O S U V : Nat) : Bool := (((s_ref20_May_0 j e k m p z C E r u D q J I) && (s_ref20_Rests_0 F L P Q R)) && (s_ref20_Rests_0 M O S U V))
theorem e_ref20_all (j e : Int) (k m p z C E r u D q : Nat) (J : Int) (I F L P Q R M O S U V : Nat) : outB (evFnM Try.prog false menv83 [] [] 96 Ann.no Try.f68 [AV.agg [AV.int .i64 j, AV.int .i64 e, AV.float k, AV.float m, AV.float p, AV.float z, AV.float C, AV.float E, AV.float r, AV.float u, AV.float D, AV.float q, AV.int .i64 J, AV.float I], AV.agg [AV.float F, AV.float L, AV.float P, AV.float Q, AV.float R], AV.agg [AV.float M, AV.float O, AV.float S, AV.float U, AV.float V]] []) = some (true, AV.bool (s_ref20_all_0 j e k m p z C E r u D q J I F L P Q R M O S U V)) := by kernel_rfl
def S_ref20_all : List AV → Option (Ob × AV)
  | [AV.agg [AV.int .i64 j, AV.int .i64 e, AV.float k, AV.float m, AV.float p, AV.float z, AV.float C, AV.float E, AV.float r, AV.float u, AV.float D, AV.float q, AV.int .i64 J, AV.float I], AV.agg [AV.float F, AV.float L, AV.float P, AV.float Q, AV.float R], AV.agg [AV.float M, AV.float O, AV.float S, AV.float U, AV.float V]] => some (Ob.tt, AV.bool (s_ref20_all_0 j e k m p z C E r u D q J I F L P Q R M O S U V))
  | _ => none
theorem t_ref20_all : SOkM Try.prog false (68, fun args => match S_ref20_all args with | some (o, v) => some (o, v, []) | none => none) := SOkM.flat (N := 96) menv83_ok Try.func68 ann_ref20_all Try.call68 fun args o v h ho => by
  unfold S_ref20_all at h
  split at h
  · rename_i j e k m p z C E r u D q J I F L P Q R M O S U V
    cases h
    have ho2 := ho
    have this := show outB (evFnM Try.prog false menv83 [] [] 96 Ann.no Try.f68 [AV.agg [AV.int .i64 j, AV.int .i64 e, AV.float k, AV.float m, AV.float p, AV.float z, AV.float C, AV.float E, AV.float r, AV.float u, AV.float D, AV.float q, AV.int .i64 J, AV.float I], AV.agg [AV.float F, AV.float L, AV.float P, AV.float Q, AV.float R], AV.agg [AV.float M, AV.float O, AV.float S, AV.float U, AV.float V]] []) = _ from e_ref20_all j e k m p z C E r u D q J I F L P Q R M O S U V
    exact ⟨this, rfl⟩
  · cases h
def c_ref20_all : SFM := fun args => match S_ref20_all args with | some (o, v) => some (o, v, []) | none => none
theorem c_ref20_all_ok : SOkM Try.prog false (68, c_ref20_all) := t_ref20_all
def mss83 : List (FuncId × SFM) := (68, c_ref20_all) :: mss82
def menv84 : EnvM := mkEnvM mxs mss83 mws2
theorem mss83_ok : All (SOkM Try.prog false) mss83 := All.cons c_ref20_all_ok mss82_ok
theorem menv84_ok : menv84.Ok Try.prog false := mkEnvM_ok mxs_ok mss83_ok mws2_ok
theorem ann_ref02_Vec : FnOk Try.prog false 0 Try.f103 Ann.no := (fnNo _)
def s_ref02_Vec_0 (j e : Nat) : Nat := j
def s_ref02_Vec_1 (j e : Nat) : Nat := e
theorem e_ref02_Vec (j e : Nat) : outB (evFnM Try.prog false menv84 [] [] 96 Ann.no Try.f103 [AV.float j, AV.float e] []) = some (true, AV.agg [AV.float (s_ref02_Vec_0 j e), AV.float (s_ref02_Vec_1 j e)]) := by kernel_rfl
def S_ref02_Vec : List AV → Option (Ob × AV)
  | [AV.float j, AV.float e] => some (Ob.tt, AV.agg [AV.float (s_ref02_Vec_0 j e), AV.float (s_ref02_Vec_1 j e)])
  | _ => none
theorem t_ref02_Vec : SOkM Try.prog false (103, fun args => match S_ref02_Vec args with | some (o, v) => some (o, v, []) | none => none) := SOkM.flat (N := 96) menv84_ok Try.func103 ann_ref02_Vec Try.call103 fun args o v h ho => by
  unfold S_ref02_Vec at h
  split at h
  · rename_i j e
    cases h
    have ho2 := ho
    have this := show outB (evFnM Try.prog false menv84 [] [] 96 Ann.no Try.f103 [AV.float j, AV.float e] []) = _ from e_ref02_Vec j e
    exact ⟨this, rfl⟩
  · cases h
def c_ref02_Vec : SFM := fun args => match S_ref02_Vec args with | some (o, v) => some (o, v, []) | none => none
theorem c_ref02_Vec_ok : SOkM Try.prog false (103, c_ref02_Vec) := t_ref02_Vec
def mss84 : List (FuncId × SFM) := (103, c_ref02_Vec) :: mss83
def menv85 : EnvM := mkEnvM mxs mss84 mws2
theorem mss84_ok : All (SOkM Try.prog false) mss84 := All.cons c_ref02_Vec_ok mss83_ok
theorem menv85_ok : menv85.Ok Try.prog false := mkEnvM_ok mxs_ok mss84_ok mws2_ok
theorem ann_ref02_More : FnOk Try.prog false 0 Try.f94 Ann.no := (fnNo _)
def s_ref02_More_0 (j e k m p : Nat) : Nat := (s_ref02_Vec_0 (fadd j (fmul k m)) (fadd e (fmul k p)))
def s_ref02_More_1 (j e k m p : Nat) : Nat := (s_ref02_Vec_1 (fadd j (fmul k m)) (fadd e (fmul k p)))
theorem e_ref02_More (j e k m p : Nat) : outB (evFnM Try.prog false menv85 [] [] 96 Ann.no Try.f94 [AV.agg [AV.float j, AV.float e], AV.float k, AV.agg [AV.float m, AV.float p]] []) = some (true, AV.agg [AV.float (s_ref02_More_0 j e k m p), AV.float (s_ref02_More_1 j e k m p)]) := by kernel_rfl
def S_ref02_More : List AV → Option (Ob × AV)
  | [AV.agg [AV.float j, AV.float e], AV.float k, AV.agg [AV.float m, AV.float p]] => some (Ob.tt, AV.agg [AV.float (s_ref02_More_0 j e k m p), AV.float (s_ref02_More_1 j e k m p)])
  | _ => none
theorem t_ref02_More : SOkM Try.prog false (94, fun args => match S_ref02_More args with | some (o, v) => some (o, v, []) | none => none) := SOkM.flat (N := 96) menv85_ok Try.func94 ann_ref02_More Try.call94 fun args o v h ho => by
  unfold S_ref02_More at h
  split at h
  · rename_i j e k m p
    cases h
    have ho2 := ho
    have this := show outB (evFnM Try.prog false menv85 [] [] 96 Ann.no Try.f94 [AV.agg [AV.float j, AV.float e], AV.float k, AV.agg [AV.float m, AV.float p]] []) = _ from e_ref02_More j e k m p
    exact ⟨this, rfl⟩
  · cases h
def c_ref02_More : SFM := fun args => match S_ref02_More args with | some (o, v) => some (o, v, []) | none => none
theorem c_ref02_More_ok : SOkM Try.prog false (94, c_ref02_More) := t_ref02_More
def mss85 : List (FuncId × SFM) := (94, c_ref02_More) :: mss84
def menv86 : EnvM := mkEnvM mxs mss85 mws2
theorem mss85_ok : All (SOkM Try.prog false) mss85 := All.cons c_ref02_More_ok mss84_ok
theorem menv86_ok : menv86.Ok Try.prog false := mkEnvM_ok mxs_ok mss85_ok mws2_ok
theorem ann_ref20_pushed : FnOk Try.prog false 0 Try.f69 Ann.no := (fnNo _)
def s_ref20_pushed_0 (j e k m p z C E r : Nat) : Nat := j
def s_ref20_pushed_1 (j e k m p z C E r : Nat) : Nat := e
def s_ref20_pushed_2 (j e k m p z C E r : Nat) : Nat := (bif (!(feq j 0)) then (s_ref02_More_0 k m (fmul j r) z C) else k)
def s_ref20_pushed_3 (j e k m p z C E r : Nat) : Nat := (bif (!(feq j 0)) then (s_ref02_More_1 k m (fmul j r) z C) else m)
def s_ref20_pushed_4 (j e k m p z C E r : Nat) : Nat := (bif (!(feq e 0)) then (fadd p (fmul e (fmul r E))) else p)
theorem e_ref20_pushed (j e k m p z C E r : Nat) : outB (evFnM Try.prog false menv86 [] [] 96 Ann.no Try.f69 [AV.agg [AV.float j, AV.float e, AV.float k, AV.float m, AV.float p], AV.agg [AV.float z, AV.float C], AV.float E, AV.float r] []) = some (true, AV.agg [AV.float (s_ref20_pushed_0 j e k m p z C E r), AV.float (s_ref20_pushed_1 j e k m p z C E r), AV.float (s_ref20_pushed_2 j e k m p z C E r), AV.float (s_ref20_pushed_3 j e k m p z C E r), AV.float (s_ref20_pushed_4 j e k m p z C E r)]) := by kernel_rfl
def S_ref20_pushed : List AV → Option (Ob × AV)
  | [AV.agg [AV.float j, AV.float e, AV.float k, AV.float m, AV.float p], AV.agg [AV.float z, AV.float C], AV.float E, AV.float r] => some (Ob.tt, AV.agg [AV.float (s_ref20_pushed_0 j e k m p z C E r), AV.float (s_ref20_pushed_1 j e k m p z C E r), AV.float (s_ref20_pushed_2 j e k m p z C E r), AV.float (s_ref20_pushed_3 j e k m p z C E r), AV.float (s_ref20_pushed_4 j e k m p z C E r)])
  | _ => none
theorem t_ref20_pushed : SOkM Try.prog false (69, fun args => match S_ref20_pushed args with | some (o, v) => some (o, v, []) | none => none) := SOkM.flat (N := 96) menv86_ok Try.func69 ann_ref20_pushed Try.call69 fun args o v h ho => by
  unfold S_ref20_pushed at h
  split at h
  · rename_i j e k m p z C E r
    cases h
    have ho2 := ho
    have this := show outB (evFnM Try.prog false menv86 [] [] 96 Ann.no Try.f69 [AV.agg [AV.float j, AV.float e, AV.float k, AV.float m, AV.float p], AV.agg [AV.float z, AV.float C], AV.float E, AV.float r] []) = _ from e_ref20_pushed j e k m p z C E r
    exact ⟨this, rfl⟩
  · cases h
def c_ref20_pushed : SFM := fun args => match S_ref20_pushed args with | some (o, v) => some (o, v, []) | none => none
theorem c_ref20_pushed_ok : SOkM Try.prog false (69, c_ref20_pushed) := t_ref20_pushed
def mss86 : List (FuncId × SFM) := (69, c_ref20_pushed) :: mss85
def menv87 : EnvM := mkEnvM mxs mss86 mws2
theorem mss86_ok : All (SOkM Try.prog false) mss86 := All.cons c_ref20_pushed_ok mss85_ok
theorem menv87_ok : menv87.Ok Try.prog false := mkEnvM_ok mxs_ok mss86_ok mws2_ok
theorem ann_ref20_Warm : FnOk Try.prog false 0 Try.f42 Ann.no := (fnNo _)
def s_ref20_Warm_0 (j e : Int) (k m p z C E r u D q : Nat) (J : Int) (I F L P Q R M O S U V : Nat) : Nat := (bif (!(s_ref20_all_0 j e k m p z C E r u D q J I F L P Q R M O S U V)) then 0 else (s_ref20_pushed_0 F L P Q R k m C q))
def s_ref20_Warm_1 (j e : Int) (k m p z C E r u D q : Nat) (J : Int) (I F L P Q R M O S U V : Nat) : Nat := (bif (!(s_ref20_all_0 j e k m p z C E r u D q J I F L P Q R M O S U V)) then 0 else (s_ref20_pushed_1 F L P Q R k m C q))
def s_ref20_Warm_2 (j e : Int) (k m p z C E r u D q : Nat) (J : Int) (I F L P Q R M O S U V : Nat) : Nat := (bif (!(s_ref20_all_0 j e k m p z C E r u D q J I F L P Q R M O S U V)) then 0 else (s_ref20_pushed_2 F L P Q R k m C q))
def s_ref20_Warm_3 (j e : Int) (k m p z C E r u D q : Nat) (J : Int) (I F L P Q R M O S U V : Nat) : Nat := (bif (!(s_ref20_all_0 j e k m p z C E r u D q J I F L P Q R M O S U V)) then 0 else (s_ref20_pushed_3 F L P Q R k m C q))
def s_ref20_Warm_4 (j e : Int) (k m p z C E r u D q : Nat) (J : Int) (I F L P Q R M O S U V : Nat) : Nat := (bif (!(s_ref20_all_0 j e k m p z C E r u D q J I F L P Q R M O S U V)) then 0 else (s_ref20_pushed_4 F L P Q R k m C q))
def s_ref20_Warm_5 (j e : Int) (k m p z C E r u D q : Nat) (J : Int) (I F L P Q R M O S U V : Nat) : Nat := (bif (!(s_ref20_all_0 j e k m p z C E r u D q J I F L P Q R M O S U V)) then 0 else (s_ref20_pushed_0 M O S U V p z E q))
def s_ref20_Warm_6 (j e : Int) (k m p z C E r u D q : Nat) (J : Int) (I F L P Q R M O S U V : Nat) : Nat := (bif (!(s_ref20_all_0 j e k m p z C E r u D q J I F L P Q R M O S U V)) then 0 else (s_ref20_pushed_1 M O S U V p z E q))
def s_ref20_Warm_7 (j e : Int) (k m p z C E r u D q : Nat) (J : Int) (I F L P Q R M O S U V : Nat) : Nat := (bif (!(s_ref20_all_0 j e k m p z C E r u D q J I F L P Q R M O S U V)) then 0 else (s_ref20_pushed_2 M O S U V p z E q))
def s_ref20_Warm_8 (j e : Int) (k m p z C E r u D q : Nat) (J : Int) (I F L P Q R M O S U V : Nat) : Nat := (bif (!(s_ref20_all_0 j e k m p z C E r u D q J I F L P Q R M O S U V)) then 0 else (s_ref20_pushed_3 M O S U V p z E q))
def s_ref20_Warm_9 (j e : Int) (k m p z C E r u D q : Nat) (J : Int) (I F L P Q R M O S U V : Nat) : Nat := (bif (!(s_ref20_all_0 j e k m p z C E r u D q J I F L P Q R M O S U V)) then 0 else (s_ref20_pushed_4 M O S U V p z E q))
def s_ref20_Warm_10 (j e : Int) (k m p z C E r u D q : Nat) (J : Int) (I F L P Q R M O S U V : Nat) : Int := (bif (!(s_ref20_all_0 j e k m p z C E r u D q J I F L P Q R M O S U V)) then (200 : Int) else (0 : Int))
def r_ref20_Warm (j e : Int) (k m p z C E r u D q : Nat) (J : Int) (I F L P Q R M O S U V : Nat) : AV := AV.tup [AV.agg [AV.float (s_ref20_Warm_0 j e k m p z C E r u D q J I F L P Q R M O S U V), AV.float (s_ref20_Warm_1 j e k m p z C E r u D q J I F L P Q R M O S U V), AV.float (s_ref20_Warm_2 j e k m p z C E r u D q J I F L P Q R M O S U V), AV.float (s_ref20_Warm_3 j e k m p z C E r u D q J I F L P Q R M O S U V), AV.float (s_ref20_Warm_4 j e k m p z C E r u D q J I F L P Q R M O S U V)], AV.agg [AV.float (s_ref20_Warm_5 j e k m p z C E r u D q J I F L P Q R M O S U V), AV.float (s_ref20_Warm_6 j e k m p z C E r u D q J I F L P Q R M O S U V), AV.float (s_ref20_Warm_7 j e k m p z C E r u D q J I F L P Q R M O S U V), AV.float (s_ref20_Warm_8 j e k m p z C E r u D q J I F L P Q R M O S U V), AV.float (s_ref20_Warm_9 j e k m p z C E r u D q J I F L P Q R M O S U V)], AV.int .i64 (s_ref20_Warm_10 j e k m p z C E r u D q J I F L P Q R M O S U V)]
theorem e_ref20_Warm (j e : Int) (k m p z C E r u D q : Nat) (J : Int) (I F L P Q R M O S U V : Nat) : outB (evFnM Try.prog false menv87 [] [] 96 Ann.no Try.f42 [AV.agg [AV.int .i64 j, AV.int .i64 e, AV.float k, AV.float m, AV.float p, AV.float z, AV.float C, AV.float E, AV.float r, AV.float u, AV.float D, AV.float q, AV.int .i64 J, AV.float I], AV.agg [AV.float F, AV.float L, AV.float P, AV.float Q, AV.float R], AV.agg [AV.float M, AV.float O, AV.float S, AV.float U, AV.float V]] []) = some (true, r_ref20_Warm j e k m p z C E r u D q J I F L P Q R M O S U V) := by kernel_rfl
def S_ref20_Warm : List AV → Option (Ob × AV)
  | [AV.agg [AV.int .i64 j, AV.int .i64 e, AV.float k, AV.float m, AV.float p, AV.float z, AV.float C, AV.float E, AV.float r, AV.float u, AV.float D, AV.float q, AV.int .i64 J, AV.float I], AV.agg [AV.float F, AV.float L, AV.float P, AV.float Q, AV.float R], AV.agg [AV.float M, AV.float O, AV.float S, AV.float U, AV.float V]] => some (Ob.tt, r_ref20_Warm j e k m p z C E r u D q J I F L P Q R M O S U V)
  | _ => none
theorem t_ref20_Warm : SOkM Try.prog false (42, fun args => match S_ref20_Warm args with | some (o, v) => some (o, v, []) | none => none) := SOkM.flat (N := 96) menv87_ok Try.func42 ann_ref20_Warm Try.call42 fun args o v h ho => by
  unfold S_ref20_Warm at h
  split at h
  · rename_i j e k m p z C E r u D q J I F L P Q R M O S U V
    unfold r_ref20_Warm at h
    cases h
    have ho2 := ho
    have this := show outB (evFnM Try.prog false menv87 [] [] 96 Ann.no Try.f42 [AV.agg [AV.int .i64 j, AV.int .i64 e, AV.float k, AV.float m, AV.float p, AV.float z, AV.float C, AV.float E, AV.float r, AV.float u, AV.float D, AV.float q, AV.int .i64 J, AV.float I], AV.agg [AV.float F, AV.float L, AV.float P, AV.float Q, AV.float R], AV.agg [AV.float M, AV.float O, AV.float S, AV.float U, AV.float V]] []) = _ from e_ref20_Warm j e k m p z C E r u D q J I F L P Q R M O S U V
    exact ⟨this, rfl⟩
  · cases h
def c_ref20_Warm : SFM := fun args => match S_ref20_Warm args with | some (o, v) => some (o, v, []) | none => none
theorem c_ref20_Warm_ok : SOkM Try.prog false (42, c_ref20_Warm) := t_ref20_Warm
def mss87 : List (FuncId × SFM) := (42, c_ref20_Warm) :: mss86
def menv88 : EnvM := mkEnvM mxs mss87 mws2
theorem mss87_ok : All (SOkM Try.prog false) mss87 := All.cons c_ref20_Warm_ok mss86_ok
theorem menv88_ok : menv88.Ok Try.prog false := mkEnvM_ok mxs_ok mss87_ok mws2_ok
theorem ann_ref02_Dot : FnOk Try.prog false 0 Try.f95 Ann.no := (fnNo _)
def s_ref02_Dot_0 (j e k m : Nat) : Nat := (fadd (fmul j k) (fmul e m))
theorem e_ref02_Dot (j e k m : Nat) : outB (evFnM Try.prog false menv88 [] [] 96 Ann.no Try.f95 [AV.agg [AV.float j, AV.float e], AV.agg [AV.float k, AV.float m]] []) = some (true, AV.float (s_ref02_Dot_0 j e k m)) := by kernel_rfl
def S_ref02_Dot : List AV → Option (Ob × AV)
  | [AV.agg [AV.float j, AV.float e], AV.agg [AV.float k, AV.float m]] => some (Ob.tt, AV.float (s_ref02_Dot_0 j e k m))
  | _ => none
theorem t_ref02_Dot : SOkM Try.prog false (95, fun args => match S_ref02_Dot args with | some (o, v) => some (o, v, []) | none => none) := SOkM.flat (N := 96) menv88_ok Try.func95 ann_ref02_Dot Try.call95 fun args o v h ho => by
  unfold S_ref02_Dot at h
  split at h
  · rename_i j e k m
    cases h
    have ho2 := ho
    have this := show outB (evFnM Try.prog false menv88 [] [] 96 Ann.no Try.f95 [AV.agg [AV.float j, AV.float e], AV.agg [AV.float k, AV.float m]] []) = _ from e_ref02_Dot j e k m
    exact ⟨this, rfl⟩
  · cases h
def c_ref02_Dot : SFM := fun args => match S_ref02_Dot args with | some (o, v) => some (o, v, []) | none => none
theorem c_ref02_Dot_ok : SOkM Try.prog false (95, c_ref02_Dot) := t_ref02_Dot
def mss88 : List (FuncId × SFM) := (95, c_ref02_Dot) :: mss87
def menv89 : EnvM := mkEnvM mxs mss88 mws2
theorem mss88_ok : All (SOkM Try.prog false) mss88 := All.cons c_ref02_Dot_ok mss87_ok
theorem menv89_ok : menv89.Ok Try.prog false := mkEnvM_ok mxs_ok mss88_ok mws2_ok
theorem ann_ref20_speed : FnOk Try.prog false 0 Try.f70 Ann.no := (fnNo _)
def s_ref20_speed_0 (j e : Int) (k m p z C E r u D q : Nat) (J : Int) (I F L P Q R M O S U V : Nat) : Nat := (fadd (fadd (fadd (s_ref02_Dot_0 k m P Q) (fmul C R)) (s_ref02_Dot_0 p z S U)) (fmul E V))
theorem e_ref20_speed (j e : Int) (k m p z C E r u D q : Nat) (J : Int) (I F L P Q R M O S U V : Nat) : outB (evFnM Try.prog false menv89 [] [] 96 Ann.no Try.f70 [AV.agg [AV.int .i64 j, AV.int .i64 e, AV.float k, AV.float m, AV.float p, AV.float z, AV.float C, AV.float E, AV.float r, AV.float u, AV.float D, AV.float q, AV.int .i64 J, AV.float I], AV.agg [AV.float F, AV.float L, AV.float P, AV.float Q, AV.float R], AV.agg [AV.float M, AV.float O, AV.float S, AV.float U, AV.float V]] []) = some (true, AV.float (s_ref20_speed_0 j e k m p z C E r u D q J I F L P Q R M O S U V)) := by kernel_rfl
def S_ref20_speed : List AV → Option (Ob × AV)
  | [AV.agg [AV.int .i64 j, AV.int .i64 e, AV.float k, AV.float m, AV.float p, AV.float z, AV.float C, AV.float E, AV.float r, AV.float u, AV.float D, AV.float q, AV.int .i64 J, AV.float I], AV.agg [AV.float F, AV.float L, AV.float P, AV.float Q, AV.float R], AV.agg [AV.float M, AV.float O, AV.float S, AV.float U, AV.float V]] => some (Ob.tt, AV.float (s_ref20_speed_0 j e k m p z C E r u D q J I F L P Q R M O S U V))
  | _ => none
theorem t_ref20_speed : SOkM Try.prog false (70, fun args => match S_ref20_speed args with | some (o, v) => some (o, v, []) | none => none) := SOkM.flat (N := 96) menv89_ok Try.func70 ann_ref20_speed Try.call70 fun args o v h ho => by
  unfold S_ref20_speed at h
  split at h
  · rename_i j e k m p z C E r u D q J I F L P Q R M O S U V
    cases h
    have ho2 := ho
    have this := show outB (evFnM Try.prog false menv89 [] [] 96 Ann.no Try.f70 [AV.agg [AV.int .i64 j, AV.int .i64 e, AV.float k, AV.float m, AV.float p, AV.float z, AV.float C, AV.float E, AV.float r, AV.float u, AV.float D, AV.float q, AV.int .i64 J, AV.float I], AV.agg [AV.float F, AV.float L, AV.float P, AV.float Q, AV.float R], AV.agg [AV.float M, AV.float O, AV.float S, AV.float U, AV.float V]] []) = _ from e_ref20_speed j e k m p z C E r u D q J I F L P Q R M O S U V
    exact ⟨this, rfl⟩
  · cases h
def c_ref20_speed : SFM := fun args => match S_ref20_speed args with | some (o, v) => some (o, v, []) | none => none
theorem c_ref20_speed_ok : SOkM Try.prog false (70, c_ref20_speed) := t_ref20_speed
def mss89 : List (FuncId × SFM) := (70, c_ref20_speed) :: mss88
def menv90 : EnvM := mkEnvM mxs mss89 mws2
theorem mss89_ok : All (SOkM Try.prog false) mss89 := All.cons c_ref20_speed_ok mss88_ok
theorem menv90_ok : menv90.Ok Try.prog false := mkEnvM_ok mxs_ok mss89_ok mws2_ok
theorem ann_ref02_Square : FnOk Try.prog false 0 Try.f96 Ann.no := (fnNo _)
def s_ref02_Square_0 (j e : Nat) : Nat := (s_ref02_Dot_0 j e j e)
theorem e_ref02_Square (j e : Nat) : outB (evFnM Try.prog false menv90 [] [] 96 Ann.no Try.f96 [AV.agg [AV.float j, AV.float e]] []) = some (true, AV.float (s_ref02_Square_0 j e)) := by kernel_rfl
def S_ref02_Square : List AV → Option (Ob × AV)
  | [AV.agg [AV.float j, AV.float e]] => some (Ob.tt, AV.float (s_ref02_Square_0 j e))
  | _ => none
theorem t_ref02_Square : SOkM Try.prog false (96, fun args => match S_ref02_Square args with | some (o, v) => some (o, v, []) | none => none) := SOkM.flat (N := 96) menv90_ok Try.func96 ann_ref02_Square Try.call96 fun args o v h ho => by
  unfold S_ref02_Square at h
  split at h
  · rename_i j e
    cases h
    have ho2 := ho
    have this := show outB (evFnM Try.prog false menv90 [] [] 96 Ann.no Try.f96 [AV.agg [AV.float j, AV.float e]] []) = _ from e_ref02_Square j e
    exact ⟨this, rfl⟩
  · cases h
def c_ref02_Square : SFM := fun args => match S_ref02_Square args with | some (o, v) => some (o, v, []) | none => none
theorem c_ref02_Square_ok : SOkM Try.prog false (96, c_ref02_Square) := t_ref02_Square
def mss90 : List (FuncId × SFM) := (96, c_ref02_Square) :: mss89
def menv91 : EnvM := mkEnvM mxs mss90 mws2
theorem mss90_ok : All (SOkM Try.prog false) mss90 := All.cons c_ref02_Square_ok mss89_ok
theorem menv91_ok : menv91.Ok Try.prog false := mkEnvM_ok mxs_ok mss90_ok mws2_ok
theorem ann_ref20_weight : FnOk Try.prog false 0 Try.f71 Ann.no := (fnNo _)
def s_ref20_weight_0 (j e : Int) (k m p z C E r u D q : Nat) (J : Int) (I F L P Q R M O S U V : Nat) : Nat := (fadd (fadd (fadd (fmul F (s_ref02_Square_0 k m)) (fmul L (fmul C C))) (fmul M (s_ref02_Square_0 p z))) (fmul O (fmul E E)))
theorem e_ref20_weight (j e : Int) (k m p z C E r u D q : Nat) (J : Int) (I F L P Q R M O S U V : Nat) : outB (evFnM Try.prog false menv91 [] [] 96 Ann.no Try.f71 [AV.agg [AV.int .i64 j, AV.int .i64 e, AV.float k, AV.float m, AV.float p, AV.float z, AV.float C, AV.float E, AV.float r, AV.float u, AV.float D, AV.float q, AV.int .i64 J, AV.float I], AV.agg [AV.float F, AV.float L, AV.float P, AV.float Q, AV.float R], AV.agg [AV.float M, AV.float O, AV.float S, AV.float U, AV.float V]] []) = some (true, AV.float (s_ref20_weight_0 j e k m p z C E r u D q J I F L P Q R M O S U V)) := by kernel_rfl
def S_ref20_weight : List AV → Option (Ob × AV)
  | [AV.agg [AV.int .i64 j, AV.int .i64 e, AV.float k, AV.float m, AV.float p, AV.float z, AV.float C, AV.float E, AV.float r, AV.float u, AV.float D, AV.float q, AV.int .i64 J, AV.float I], AV.agg [AV.float F, AV.float L, AV.float P, AV.float Q, AV.float R], AV.agg [AV.float M, AV.float O, AV.float S, AV.float U, AV.float V]] => some (Ob.tt, AV.float (s_ref20_weight_0 j e k m p z C E r u D q J I F L P Q R M O S U V))
  | _ => none
theorem t_ref20_weight : SOkM Try.prog false (71, fun args => match S_ref20_weight args with | some (o, v) => some (o, v, []) | none => none) := SOkM.flat (N := 96) menv91_ok Try.func71 ann_ref20_weight Try.call71 fun args o v h ho => by
  unfold S_ref20_weight at h
  split at h
  · rename_i j e k m p z C E r u D q J I F L P Q R M O S U V
    cases h
    have ho2 := ho
    have this := show outB (evFnM Try.prog false menv91 [] [] 96 Ann.no Try.f71 [AV.agg [AV.int .i64 j, AV.int .i64 e, AV.float k, AV.float m, AV.float p, AV.float z, AV.float C, AV.float E, AV.float r, AV.float u, AV.float D, AV.float q, AV.int .i64 J, AV.float I], AV.agg [AV.float F, AV.float L, AV.float P, AV.float Q, AV.float R], AV.agg [AV.float M, AV.float O, AV.float S, AV.float U, AV.float V]] []) = _ from e_ref20_weight j e k m p z C E r u D q J I F L P Q R M O S U V
    exact ⟨this, rfl⟩
  · cases h
def c_ref20_weight : SFM := fun args => match S_ref20_weight args with | some (o, v) => some (o, v, []) | none => none
theorem c_ref20_weight_ok : SOkM Try.prog false (71, c_ref20_weight) := t_ref20_weight
def mss91 : List (FuncId × SFM) := (71, c_ref20_weight) :: mss90
def menv92 : EnvM := mkEnvM mxs mss91 mws2
theorem mss91_ok : All (SOkM Try.prog false) mss91 := All.cons c_ref20_weight_ok mss90_ok
theorem menv92_ok : menv92.Ok Try.prog false := mkEnvM_ok mxs_ok mss91_ok mws2_ok
theorem ann_ref01_place : FnOk Try.prog false 0 Try.f79 Ann.no := (fnNo _)
def s_ref01_place_0 (j : Nat) : Int := (bif (ieq (Int.fdiv (Int.ofNat j) (9223372036854775808 : Int)) (1 : Int)) then (IntKind.wrap .i64 ((IntKind.wrap .i64 ((0 : Int) - (IntKind.wrap .i64 (Int.fdiv (IntKind.wrap .u64 ((Int.ofNat j) * (2 : Int))) (2 : Int))))) - (1 : Int))) else (IntKind.wrap .i64 (Int.fdiv (IntKind.wrap .u64 ((Int.ofNat j) * (2 : Int))) (2 : Int))))
def o_ref01_place (j : Nat) : Bool := (mrgB (ieq (Int.fdiv (Int.ofNat j) (9223372036854775808 : Int)) (1 : Int)) ((!(nanb j)) && (!(nanb j))) ((!(nanb j)) && (!(nanb j))))
theorem e_ref01_place (j : Nat) : outB (evFnM Try.prog false menv92 [] [] 96 Ann.no Try.f79 [AV.float j] []) = some (o_ref01_place j, AV.int .i64 (s_ref01_place_0 j)) := by kernel_rfl
def S_ref01_place : List AV → Option (Ob × AV)
  | [AV.float j] => some (Ob.bit (o_ref01_place j), AV.int .i64 (s_ref01_place_0 j))
  | _ => none
theorem t_ref01_place : SOkM Try.prog false (79, fun args => match S_ref01_place args with | some (o, v) => some (o, v, []) | none => none) := SOkM.flat (N := 96) menv92_ok Try.func79 ann_ref01_place Try.call79 fun args o v h ho => by
  unfold S_ref01_place at h
  split at h
  · rename_i j
    cases h
    have ho2 := ho
    have this := show outB (evFnM Try.prog false menv92 [] [] 96 Ann.no Try.f79 [AV.float j] []) = _ from e_ref01_place j
    rw [show o_ref01_place j = true from ho2] at this
    exact ⟨this, rfl⟩
  · cases h
def c_ref01_place : SFM := fun args => match S_ref01_place args with | some (o, v) => some (o, v, []) | none => none
theorem c_ref01_place_ok : SOkM Try.prog false (79, c_ref01_place) := t_ref01_place
def mss92 : List (FuncId × SFM) := (79, c_ref01_place) :: mss91
def menv93 : EnvM := mkEnvM mxs mss92 mws2
theorem mss92_ok : All (SOkM Try.prog false) mss92 := All.cons c_ref01_place_ok mss91_ok
theorem menv93_ok : menv93.Ok Try.prog false := mkEnvM_ok mxs_ok mss92_ok mws2_ok
theorem ann_ref01_worth : FnOk Try.prog false 0 Try.f104 Ann.no := (fnNo _)
def s_ref01_worth_0 (j : Nat) : Int := (bif (ieq (s_ref01_place_0 j) (-1 : Int)) then (0 : Int) else (s_ref01_place_0 j))
def o_ref01_worth (j : Nat) : Bool := (mrgB (ieq (s_ref01_place_0 j) (-1 : Int)) (mrgB (ieq (Int.fdiv (Int.ofNat j) (9223372036854775808 : Int)) (1 : Int)) ((!(nanb j)) && (!(nanb j))) ((!(nanb j)) && (!(nanb j)))) (mrgB (ieq (Int.fdiv (Int.ofNat j) (9223372036854775808 : Int)) (1 : Int)) ((!(nanb j)) && (!(nanb j))) ((!(nanb j)) && (!(nanb j)))))
theorem e_ref01_worth (j : Nat) : outB (evFnM Try.prog false menv93 [] [] 96 Ann.no Try.f104 [AV.float j] []) = some (o_ref01_worth j, AV.int .i64 (s_ref01_worth_0 j)) := by kernel_rfl
def S_ref01_worth : List AV → Option (Ob × AV)
  | [AV.float j] => some (Ob.bit (o_ref01_worth j), AV.int .i64 (s_ref01_worth_0 j))
  | _ => none
theorem t_ref01_worth : SOkM Try.prog false (104, fun args => match S_ref01_worth args with | some (o, v) => some (o, v, []) | none => none) := SOkM.flat (N := 96) menv93_ok Try.func104 ann_ref01_worth Try.call104 fun args o v h ho => by
  unfold S_ref01_worth at h
  split at h
  · rename_i j
    cases h
    have ho2 := ho
    have this := show outB (evFnM Try.prog false menv93 [] [] 96 Ann.no Try.f104 [AV.float j] []) = _ from e_ref01_worth j
    rw [show o_ref01_worth j = true from ho2] at this
    exact ⟨this, rfl⟩
  · cases h
def c_ref01_worth : SFM := fun args => match S_ref01_worth args with | some (o, v) => some (o, v, []) | none => none
theorem c_ref01_worth_ok : SOkM Try.prog false (104, c_ref01_worth) := t_ref01_worth
def mss93 : List (FuncId × SFM) := (104, c_ref01_worth) :: mss92
def menv94 : EnvM := mkEnvM mxs mss93 mws2
theorem mss93_ok : All (SOkM Try.prog false) mss93 := All.cons c_ref01_worth_ok mss92_ok
theorem menv94_ok : menv94.Ok Try.prog false := mkEnvM_ok mxs_ok mss93_ok mws2_ok
theorem ann_ref01_above : FnOk Try.prog false 0 Try.f97 Ann.no := (fnNo _)
def s_ref01_above_0 (j e : Nat) : Bool := (((!(nanb j)) && (!(nanb e))) && (ilt (s_ref01_worth_0 e) (s_ref01_worth_0 j)))
theorem e_ref01_above (j e : Nat) : outB (evFnM Try.prog false menv94 [] [] 96 Ann.no Try.f97 [AV.float j, AV.float e] []) = some ((let x0 := (!(nanb j)) && (!(nanb j)); let x1 := mrgB (ieq (Int.fdiv (Int.ofNat j) (9223372036854775808 : Int)) (1 : Int)) x0 x0; let x2 := (!(nanb e)) && (!(nanb e)); let x3 := mrgB (ieq (Int.fdiv (Int.ofNat e) (9223372036854775808 : Int)) (1 : Int)) x2 x2; (mrgB ((!(nanb j)) && (!(nanb e))) ((mrgB (ieq (s_ref01_place_0 e) (-1 : Int)) x3 x3) && (mrgB (ieq (s_ref01_place_0 j) (-1 : Int)) x1 x1)) true)), AV.bool (s_ref01_above_0 j e)) := by kernel_rfl
def S_ref01_above : List AV → Option (Ob × AV)
  | [AV.float j, AV.float e] => some (Ob.tt, AV.bool (s_ref01_above_0 j e))
  | _ => none
theorem ob_ref01_above (j e : Nat) : (let x0 := (!(nanb j)) && (!(nanb j)); let x1 := mrgB (ieq (Int.fdiv (Int.ofNat j) (9223372036854775808 : Int)) (1 : Int)) x0 x0; let x2 := (!(nanb e)) && (!(nanb e)); let x3 := mrgB (ieq (Int.fdiv (Int.ofNat e) (9223372036854775808 : Int)) (1 : Int)) x2 x2; (mrgB ((!(nanb j)) && (!(nanb e))) ((mrgB (ieq (s_ref01_place_0 e) (-1 : Int)) x3 x3) && (mrgB (ieq (s_ref01_place_0 j) (-1 : Int)) x1 x1)) true)) = true := by show ((mrgB ((!(nanb j)) && (!(nanb e))) ((mrgB (ieq (s_ref01_place_0 e) (-1 : Int)) (mrgB (ieq (Int.fdiv (Int.ofNat e) (9223372036854775808 : Int)) (1 : Int)) ((!(nanb e)) && (!(nanb e))) ((!(nanb e)) && (!(nanb e)))) (mrgB (ieq (Int.fdiv (Int.ofNat e) (9223372036854775808 : Int)) (1 : Int)) ((!(nanb e)) && (!(nanb e))) ((!(nanb e)) && (!(nanb e))))) && (mrgB (ieq (s_ref01_place_0 j) (-1 : Int)) (mrgB (ieq (Int.fdiv (Int.ofNat j) (9223372036854775808 : Int)) (1 : Int)) ((!(nanb j)) && (!(nanb j))) ((!(nanb j)) && (!(nanb j)))) (mrgB (ieq (Int.fdiv (Int.ofNat j) (9223372036854775808 : Int)) (1 : Int)) ((!(nanb j)) && (!(nanb j))) ((!(nanb j)) && (!(nanb j)))))) true)) = true; (generalize (ieq (Int.fdiv (Int.ofNat e) (9223372036854775808 : Int)) (1 : Int)) = q0; generalize (ieq (Int.fdiv (Int.ofNat j) (9223372036854775808 : Int)) (1 : Int)) = q1; generalize (ieq (s_ref01_place_0 e) (-1 : Int)) = q2; generalize (ieq (s_ref01_place_0 j) (-1 : Int)) = q3; generalize (nanb j) = q4; generalize (nanb e) = q5; cases q0 <;> cases q1 <;> cases q2 <;> cases q3 <;> cases q4 <;> cases q5 <;> rfl)
theorem t_ref01_above : SOkM Try.prog false (97, fun args => match S_ref01_above args with | some (o, v) => some (o, v, []) | none => none) := SOkM.flat (N := 96) menv94_ok Try.func97 ann_ref01_above Try.call97 fun args o v h ho => by
  unfold S_ref01_above at h
  split at h
  · rename_i j e
    cases h
    have ho2 := ho
    have this := show outB (evFnM Try.prog false menv94 [] [] 96 Ann.no Try.f97 [AV.float j, AV.float e] []) = _ from e_ref01_above j e
    rw [(ob_ref01_above j e)] at this
    exact ⟨this, rfl⟩
  · cases h
def c_ref01_above : SFM := fun args => match S_ref01_above args with | some (o, v) => some (o, v, []) | none => none
theorem c_ref01_above_ok : SOkM Try.prog false (97, c_ref01_above) := t_ref01_above
def mss94 : List (FuncId × SFM) := (97, c_ref01_above) :: mss93
def menv95 : EnvM := mkEnvM mxs mss94 mws2
theorem mss94_ok : All (SOkM Try.prog false) mss94 := All.cons c_ref01_above_ok mss93_ok
theorem menv95_ok : menv95.Ok Try.prog false := mkEnvM_ok mxs_ok mss94_ok mws2_ok
theorem ann_ref01_Clamp : FnOk Try.prog false 0 Try.f72 Ann.no := (fnNo _)
def s_ref01_Clamp_0 (j e k : Nat) : Nat := (bif (!(s_ref01_above_0 j e)) then e else (bif (s_ref01_above_0 j k) then k else j))
theorem e_ref01_Clamp (j e k : Nat) : outB (evFnM Try.prog false menv95 [] [] 96 Ann.no Try.f72 [AV.float j, AV.float e, AV.float k] []) = some (true, AV.float (s_ref01_Clamp_0 j e k)) := by kernel_rfl
def S_ref01_Clamp : List AV → Option (Ob × AV)
  | [AV.float j, AV.float e, AV.float k] => some (Ob.tt, AV.float (s_ref01_Clamp_0 j e k))
  | _ => none
theorem t_ref01_Clamp : SOkM Try.prog false (72, fun args => match S_ref01_Clamp args with | some (o, v) => some (o, v, []) | none => none) := SOkM.flat (N := 96) menv95_ok Try.func72 ann_ref01_Clamp Try.call72 fun args o v h ho => by
  unfold S_ref01_Clamp at h
  split at h
  · rename_i j e k
    cases h
    have ho2 := ho
    have this := show outB (evFnM Try.prog false menv95 [] [] 96 Ann.no Try.f72 [AV.float j, AV.float e, AV.float k] []) = _ from e_ref01_Clamp j e k
    exact ⟨this, rfl⟩
  · cases h
def c_ref01_Clamp : SFM := fun args => match S_ref01_Clamp args with | some (o, v) => some (o, v, []) | none => none
theorem c_ref01_Clamp_ok : SOkM Try.prog false (72, c_ref01_Clamp) := t_ref01_Clamp
def mss95 : List (FuncId × SFM) := (72, c_ref01_Clamp) :: mss94
def menv96 : EnvM := mkEnvM mxs mss95 mws2
theorem mss95_ok : All (SOkM Try.prog false) mss95 := All.cons c_ref01_Clamp_ok mss94_ok
theorem menv96_ok : menv96.Ok Try.prog false := mkEnvM_ok mxs_ok mss95_ok mws2_ok
theorem ann_ref20_One : FnOk Try.prog false 0 Try.f43 Ann.no := (fnNo _)
def s_ref20_One_0 (j e : Int) (k m p z C E r u D q : Nat) (J : Int) (I F L P Q R M O S U V : Nat) : Int := let x0 := s_ref20_weight_0 j e k m p z C E r u D q J I F L P Q R M O S U V; let x1 := fsub r (s_ref20_speed_0 j e k m p z C E r u D q J I F L P Q R M O S U V); let x2 := s_ref01_Clamp_0 (fadd q (fdiv x1 x0)) u D; (bif (!(s_ref20_all_0 j e k m p z C E r u D q J I F L P Q R M O S U V)) then (0 : Int) else (bif (((!(flt 0 x0)) || (!((s_ref02_End_0 x0) && (s_ref02_End_0 x1)))) || (!((s_ref02_End_0 x2) && (s_ref02_End_0 (fsub x2 q))))) then j else j))
def s_ref20_One_1 (j e : Int) (k m p z C E r u D q : Nat) (J : Int) (I F L P Q R M O S U V : Nat) : Int := let x0 := s_ref20_weight_0 j e k m p z C E r u D q J I F L P Q R M O S U V; let x1 := fsub r (s_ref20_speed_0 j e k m p z C E r u D q J I F L P Q R M O S U V); let x2 := s_ref01_Clamp_0 (fadd q (fdiv x1 x0)) u D; (bif (!(s_ref20_all_0 j e k m p z C E r u D q J I F L P Q R M O S U V)) then (0 : Int) else (bif (((!(flt 0 x0)) || (!((s_ref02_End_0 x0) && (s_ref02_End_0 x1)))) || (!((s_ref02_End_0 x2) && (s_ref02_End_0 (fsub x2 q))))) then e else e))
def s_ref20_One_2 (j e : Int) (k m p z C E r u D q : Nat) (J : Int) (I F L P Q R M O S U V : Nat) : Nat := let x0 := s_ref20_weight_0 j e k m p z C E r u D q J I F L P Q R M O S U V; let x1 := fsub r (s_ref20_speed_0 j e k m p z C E r u D q J I F L P Q R M O S U V); let x2 := s_ref01_Clamp_0 (fadd q (fdiv x1 x0)) u D; (bif (!(s_ref20_all_0 j e k m p z C E r u D q J I F L P Q R M O S U V)) then 0 else (bif (((!(flt 0 x0)) || (!((s_ref02_End_0 x0) && (s_ref02_End_0 x1)))) || (!((s_ref02_End_0 x2) && (s_ref02_End_0 (fsub x2 q))))) then k else k))
def s_ref20_One_3 (j e : Int) (k m p z C E r u D q : Nat) (J : Int) (I F L P Q R M O S U V : Nat) : Nat := let x0 := s_ref20_weight_0 j e k m p z C E r u D q J I F L P Q R M O S U V; let x1 := fsub r (s_ref20_speed_0 j e k m p z C E r u D q J I F L P Q R M O S U V); let x2 := s_ref01_Clamp_0 (fadd q (fdiv x1 x0)) u D; (bif (!(s_ref20_all_0 j e k m p z C E r u D q J I F L P Q R M O S U V)) then 0 else (bif (((!(flt 0 x0)) || (!((s_ref02_End_0 x0) && (s_ref02_End_0 x1)))) || (!((s_ref02_End_0 x2) && (s_ref02_End_0 (fsub x2 q))))) then m else m))
def s_ref20_One_4 (j e : Int) (k m p z C E r u D q : Nat) (J : Int) (I F L P Q R M O S U V : Nat) : Nat := let x0 := s_ref20_weight_0 j e k m p z C E r u D q J I F L P Q R M O S U V; let x1 := fsub r (s_ref20_speed_0 j e k m p z C E r u D q J I F L P Q R M O S U V); let x2 := s_ref01_Clamp_0 (fadd q (fdiv x1 x0)) u D; (bif (!(s_ref20_all_0 j e k m p z C E r u D q J I F L P Q R M O S U V)) then 0 else (bif (((!(flt 0 x0)) || (!((s_ref02_End_0 x0) && (s_ref02_End_0 x1)))) || (!((s_ref02_End_0 x2) && (s_ref02_End_0 (fsub x2 q))))) then p else p))
def s_ref20_One_5 (j e : Int) (k m p z C E r u D q : Nat) (J : Int) (I F L P Q R M O S U V : Nat) : Nat := let x0 := s_ref20_weight_0 j e k m p z C E r u D q J I F L P Q R M O S U V; let x1 := fsub r (s_ref20_speed_0 j e k m p z C E r u D q J I F L P Q R M O S U V); let x2 := s_ref01_Clamp_0 (fadd q (fdiv x1 x0)) u D; (bif (!(s_ref20_all_0 j e k m p z C E r u D q J I F L P Q R M O S U V)) then 0 else (bif (((!(flt 0 x0)) || (!((s_ref02_End_0 x0) && (s_ref02_End_0 x1)))) || (!((s_ref02_End_0 x2) && (s_ref02_End_0 (fsub x2 q))))) then z else z))
def s_ref20_One_6 (j e : Int) (k m p z C E r u D q : Nat) (J : Int) (I F L P Q R M O S U V : Nat) : Nat := let x0 := s_ref20_weight_0 j e k m p z C E r u D q J I F L P Q R M O S U V; let x1 := fsub r (s_ref20_speed_0 j e k m p z C E r u D q J I F L P Q R M O S U V); let x2 := s_ref01_Clamp_0 (fadd q (fdiv x1 x0)) u D; (bif (!(s_ref20_all_0 j e k m p z C E r u D q J I F L P Q R M O S U V)) then 0 else (bif (((!(flt 0 x0)) || (!((s_ref02_End_0 x0) && (s_ref02_End_0 x1)))) || (!((s_ref02_End_0 x2) && (s_ref02_End_0 (fsub x2 q))))) then C else C))
def s_ref20_One_7 (j e : Int) (k m p z C E r u D q : Nat) (J : Int) (I F L P Q R M O S U V : Nat) : Nat := let x0 := s_ref20_weight_0 j e k m p z C E r u D q J I F L P Q R M O S U V; let x1 := fsub r (s_ref20_speed_0 j e k m p z C E r u D q J I F L P Q R M O S U V); let x2 := s_ref01_Clamp_0 (fadd q (fdiv x1 x0)) u D; (bif (!(s_ref20_all_0 j e k m p z C E r u D q J I F L P Q R M O S U V)) then 0 else (bif (((!(flt 0 x0)) || (!((s_ref02_End_0 x0) && (s_ref02_End_0 x1)))) || (!((s_ref02_End_0 x2) && (s_ref02_End_0 (fsub x2 q))))) then E else E))
def s_ref20_One_8 (j e : Int) (k m p z C E r u D q : Nat) (J : Int) (I F L P Q R M O S U V : Nat) : Nat := let x0 := s_ref20_weight_0 j e k m p z C E r u D q J I F L P Q R M O S U V; let x1 := fsub r (s_ref20_speed_0 j e k m p z C E r u D q J I F L P Q R M O S U V); let x2 := s_ref01_Clamp_0 (fadd q (fdiv x1 x0)) u D; (bif (!(s_ref20_all_0 j e k m p z C E r u D q J I F L P Q R M O S U V)) then 0 else (bif (((!(flt 0 x0)) || (!((s_ref02_End_0 x0) && (s_ref02_End_0 x1)))) || (!((s_ref02_End_0 x2) && (s_ref02_End_0 (fsub x2 q))))) then r else r))
def s_ref20_One_9 (j e : Int) (k m p z C E r u D q : Nat) (J : Int) (I F L P Q R M O S U V : Nat) : Nat := let x0 := s_ref20_weight_0 j e k m p z C E r u D q J I F L P Q R M O S U V; let x1 := fsub r (s_ref20_speed_0 j e k m p z C E r u D q J I F L P Q R M O S U V); let x2 := s_ref01_Clamp_0 (fadd q (fdiv x1 x0)) u D; (bif (!(s_ref20_all_0 j e k m p z C E r u D q J I F L P Q R M O S U V)) then 0 else (bif (((!(flt 0 x0)) || (!((s_ref02_End_0 x0) && (s_ref02_End_0 x1)))) || (!((s_ref02_End_0 x2) && (s_ref02_End_0 (fsub x2 q))))) then u else u))
def s_ref20_One_10 (j e : Int) (k m p z C E r u D q : Nat) (J : Int) (I F L P Q R M O S U V : Nat) : Nat := let x0 := s_ref20_weight_0 j e k m p z C E r u D q J I F L P Q R M O S U V; let x1 := fsub r (s_ref20_speed_0 j e k m p z C E r u D q J I F L P Q R M O S U V); let x2 := s_ref01_Clamp_0 (fadd q (fdiv x1 x0)) u D; (bif (!(s_ref20_all_0 j e k m p z C E r u D q J I F L P Q R M O S U V)) then 0 else (bif (((!(flt 0 x0)) || (!((s_ref02_End_0 x0) && (s_ref02_End_0 x1)))) || (!((s_ref02_End_0 x2) && (s_ref02_End_0 (fsub x2 q))))) then D else D))
def s_ref20_One_11 (j e : Int) (k m p z C E r u D q : Nat) (J : Int) (I F L P Q R M O S U V : Nat) : Nat := let x0 := s_ref20_weight_0 j e k m p z C E r u D q J I F L P Q R M O S U V; let x1 := fsub r (s_ref20_speed_0 j e k m p z C E r u D q J I F L P Q R M O S U V); let x2 := s_ref01_Clamp_0 (fadd q (fdiv x1 x0)) u D; (bif (!(s_ref20_all_0 j e k m p z C E r u D q J I F L P Q R M O S U V)) then 0 else (bif (((!(flt 0 x0)) || (!((s_ref02_End_0 x0) && (s_ref02_End_0 x1)))) || (!((s_ref02_End_0 x2) && (s_ref02_End_0 (fsub x2 q))))) then q else x2))
def s_ref20_One_12 (j e : Int) (k m p z C E r u D q : Nat) (J : Int) (I F L P Q R M O S U V : Nat) : Int := let x0 := s_ref20_weight_0 j e k m p z C E r u D q J I F L P Q R M O S U V; let x1 := fsub r (s_ref20_speed_0 j e k m p z C E r u D q J I F L P Q R M O S U V); let x2 := s_ref01_Clamp_0 (fadd q (fdiv x1 x0)) u D; (bif (!(s_ref20_all_0 j e k m p z C E r u D q J I F L P Q R M O S U V)) then (0 : Int) else (bif (((!(flt 0 x0)) || (!((s_ref02_End_0 x0) && (s_ref02_End_0 x1)))) || (!((s_ref02_End_0 x2) && (s_ref02_End_0 (fsub x2 q))))) then J else J))
def s_ref20_One_13 (j e : Int) (k m p z C E r u D q : Nat) (J : Int) (I F L P Q R M O S U V : Nat) : Nat := let x0 := s_ref20_weight_0 j e k m p z C E r u D q J I F L P Q R M O S U V; let x1 := fsub r (s_ref20_speed_0 j e k m p z C E r u D q J I F L P Q R M O S U V); let x2 := s_ref01_Clamp_0 (fadd q (fdiv x1 x0)) u D; (bif (!(s_ref20_all_0 j e k m p z C E r u D q J I F L P Q R M O S U V)) then 0 else (bif (((!(flt 0 x0)) || (!((s_ref02_End_0 x0) && (s_ref02_End_0 x1)))) || (!((s_ref02_End_0 x2) && (s_ref02_End_0 (fsub x2 q))))) then I else I))
def s_ref20_One_14 (j e : Int) (k m p z C E r u D q : Nat) (J : Int) (I F L P Q R M O S U V : Nat) : Nat := let x0 := s_ref20_weight_0 j e k m p z C E r u D q J I F L P Q R M O S U V; let x1 := fsub r (s_ref20_speed_0 j e k m p z C E r u D q J I F L P Q R M O S U V); let x2 := s_ref01_Clamp_0 (fadd q (fdiv x1 x0)) u D; let x3 := fsub x2 q; (bif (!(s_ref20_all_0 j e k m p z C E r u D q J I F L P Q R M O S U V)) then 0 else (bif (((!(flt 0 x0)) || (!((s_ref02_End_0 x0) && (s_ref02_End_0 x1)))) || (!((s_ref02_End_0 x2) && (s_ref02_End_0 x3)))) then F else (s_ref20_pushed_0 F L P Q R k m C x3)))
def s_ref20_One_15 (j e : Int) (k m p z C E r u D q : Nat) (J : Int) (I F L P Q R M O S U V : Nat) : Nat := let x0 := s_ref20_weight_0 j e k m p z C E r u D q J I F L P Q R M O S U V; let x1 := fsub r (s_ref20_speed_0 j e k m p z C E r u D q J I F L P Q R M O S U V); let x2 := s_ref01_Clamp_0 (fadd q (fdiv x1 x0)) u D; let x3 := fsub x2 q; (bif (!(s_ref20_all_0 j e k m p z C E r u D q J I F L P Q R M O S U V)) then 0 else (bif (((!(flt 0 x0)) || (!((s_ref02_End_0 x0) && (s_ref02_End_0 x1)))) || (!((s_ref02_End_0 x2) && (s_ref02_End_0 x3)))) then L else (s_ref20_pushed_1 F L P Q R k m C x3)))
def s_ref20_One_16 (j e : Int) (k m p z C E r u D q : Nat) (J : Int) (I F L P Q R M O S U V : Nat) : Nat := let x0 := s_ref20_weight_0 j e k m p z C E r u D q J I F L P Q R M O S U V; let x1 := fsub r (s_ref20_speed_0 j e k m p z C E r u D q J I F L P Q R M O S U V); let x2 := s_ref01_Clamp_0 (fadd q (fdiv x1 x0)) u D; let x3 := fsub x2 q; (bif (!(s_ref20_all_0 j e k m p z C E r u D q J I F L P Q R M O S U V)) then 0 else (bif (((!(flt 0 x0)) || (!((s_ref02_End_0 x0) && (s_ref02_End_0 x1)))) || (!((s_ref02_End_0 x2) && (s_ref02_End_0 x3)))) then P else (s_ref20_pushed_2 F L P Q R k m C x3)))
def s_ref20_One_17 (j e : Int) (k m p z C E r u D q : Nat) (J : Int) (I F L P Q R M O S U V : Nat) : Nat := let x0 := s_ref20_weight_0 j e k m p z C E r u D q J I F L P Q R M O S U V; let x1 := fsub r (s_ref20_speed_0 j e k m p z C E r u D q J I F L P Q R M O S U V); let x2 := s_ref01_Clamp_0 (fadd q (fdiv x1 x0)) u D; let x3 := fsub x2 q; (bif (!(s_ref20_all_0 j e k m p z C E r u D q J I F L P Q R M O S U V)) then 0 else (bif (((!(flt 0 x0)) || (!((s_ref02_End_0 x0) && (s_ref02_End_0 x1)))) || (!((s_ref02_End_0 x2) && (s_ref02_End_0 x3)))) then Q else (s_ref20_pushed_3 F L P Q R k m C x3)))
def s_ref20_One_18 (j e : Int) (k m p z C E r u D q : Nat) (J : Int) (I F L P Q R M O S U V : Nat) : Nat := let x0 := s_ref20_weight_0 j e k m p z C E r u D q J I F L P Q R M O S U V; let x1 := fsub r (s_ref20_speed_0 j e k m p z C E r u D q J I F L P Q R M O S U V); let x2 := s_ref01_Clamp_0 (fadd q (fdiv x1 x0)) u D; let x3 := fsub x2 q; (bif (!(s_ref20_all_0 j e k m p z C E r u D q J I F L P Q R M O S U V)) then 0 else (bif (((!(flt 0 x0)) || (!((s_ref02_End_0 x0) && (s_ref02_End_0 x1)))) || (!((s_ref02_End_0 x2) && (s_ref02_End_0 x3)))) then R else (s_ref20_pushed_4 F L P Q R k m C x3)))
def s_ref20_One_19 (j e : Int) (k m p z C E r u D q : Nat) (J : Int) (I F L P Q R M O S U V : Nat) : Nat := let x0 := s_ref20_weight_0 j e k m p z C E r u D q J I F L P Q R M O S U V; let x1 := fsub r (s_ref20_speed_0 j e k m p z C E r u D q J I F L P Q R M O S U V); let x2 := s_ref01_Clamp_0 (fadd q (fdiv x1 x0)) u D; let x3 := fsub x2 q; (bif (!(s_ref20_all_0 j e k m p z C E r u D q J I F L P Q R M O S U V)) then 0 else (bif (((!(flt 0 x0)) || (!((s_ref02_End_0 x0) && (s_ref02_End_0 x1)))) || (!((s_ref02_End_0 x2) && (s_ref02_End_0 x3)))) then M else (s_ref20_pushed_0 M O S U V p z E x3)))
def s_ref20_One_20 (j e : Int) (k m p z C E r u D q : Nat) (J : Int) (I F L P Q R M O S U V : Nat) : Nat := let x0 := s_ref20_weight_0 j e k m p z C E r u D q J I F L P Q R M O S U V; let x1 := fsub r (s_ref20_speed_0 j e k m p z C E r u D q J I F L P Q R M O S U V); let x2 := s_ref01_Clamp_0 (fadd q (fdiv x1 x0)) u D; let x3 := fsub x2 q; (bif (!(s_ref20_all_0 j e k m p z C E r u D q J I F L P Q R M O S U V)) then 0 else (bif (((!(flt 0 x0)) || (!((s_ref02_End_0 x0) && (s_ref02_End_0 x1)))) || (!((s_ref02_End_0 x2) && (s_ref02_End_0 x3)))) then O else (s_ref20_pushed_1 M O S U V p z E x3)))
def s_ref20_One_21 (j e : Int) (k m p z C E r u D q : Nat) (J : Int) (I F L P Q R M O S U V : Nat) : Nat := let x0 := s_ref20_weight_0 j e k m p z C E r u D q J I F L P Q R M O S U V; let x1 := fsub r (s_ref20_speed_0 j e k m p z C E r u D q J I F L P Q R M O S U V); let x2 := s_ref01_Clamp_0 (fadd q (fdiv x1 x0)) u D; let x3 := fsub x2 q; (bif (!(s_ref20_all_0 j e k m p z C E r u D q J I F L P Q R M O S U V)) then 0 else (bif (((!(flt 0 x0)) || (!((s_ref02_End_0 x0) && (s_ref02_End_0 x1)))) || (!((s_ref02_End_0 x2) && (s_ref02_End_0 x3)))) then S else (s_ref20_pushed_2 M O S U V p z E x3)))
def s_ref20_One_22 (j e : Int) (k m p z C E r u D q : Nat) (J : Int) (I F L P Q R M O S U V : Nat) : Nat := let x0 := s_ref20_weight_0 j e k m p z C E r u D q J I F L P Q R M O S U V; let x1 := fsub r (s_ref20_speed_0 j e k m p z C E r u D q J I F L P Q R M O S U V); let x2 := s_ref01_Clamp_0 (fadd q (fdiv x1 x0)) u D; let x3 := fsub x2 q; (bif (!(s_ref20_all_0 j e k m p z C E r u D q J I F L P Q R M O S U V)) then 0 else (bif (((!(flt 0 x0)) || (!((s_ref02_End_0 x0) && (s_ref02_End_0 x1)))) || (!((s_ref02_End_0 x2) && (s_ref02_End_0 x3)))) then U else (s_ref20_pushed_3 M O S U V p z E x3)))
def s_ref20_One_23 (j e : Int) (k m p z C E r u D q : Nat) (J : Int) (I F L P Q R M O S U V : Nat) : Nat := let x0 := s_ref20_weight_0 j e k m p z C E r u D q J I F L P Q R M O S U V; let x1 := fsub r (s_ref20_speed_0 j e k m p z C E r u D q J I F L P Q R M O S U V); let x2 := s_ref01_Clamp_0 (fadd q (fdiv x1 x0)) u D; let x3 := fsub x2 q; (bif (!(s_ref20_all_0 j e k m p z C E r u D q J I F L P Q R M O S U V)) then 0 else (bif (((!(flt 0 x0)) || (!((s_ref02_End_0 x0) && (s_ref02_End_0 x1)))) || (!((s_ref02_End_0 x2) && (s_ref02_End_0 x3)))) then V else (s_ref20_pushed_4 M O S U V p z E x3)))
def s_ref20_One_24 (j e : Int) (k m p z C E r u D q : Nat) (J : Int) (I F L P Q R M O S U V : Nat) : Int := let x0 := s_ref20_weight_0 j e k m p z C E r u D q J I F L P Q R M O S U V; let x1 := fsub r (s_ref20_speed_0 j e k m p z C E r u D q J I F L P Q R M O S U V); let x2 := s_ref01_Clamp_0 (fadd q (fdiv x1 x0)) u D; (bif (!(s_ref20_all_0 j e k m p z C E r u D q J I F L P Q R M O S U V)) then (200 : Int) else (bif (((!(flt 0 x0)) || (!((s_ref02_End_0 x0) && (s_ref02_End_0 x1)))) || (!((s_ref02_End_0 x2) && (s_ref02_End_0 (fsub x2 q))))) then (0 : Int) else (0 : Int)))
def r_ref20_One (j e : Int) (k m p z C E r u D q : Nat) (J : Int) (I F L P Q R M O S U V : Nat) : AV := AV.tup [AV.agg [AV.int .i64 (s_ref20_One_0 j e k m p z C E r u D q J I F L P Q R M O S U V), AV.int .i64 (s_ref20_One_1 j e k m p z C E r u D q J I F L P Q R M O S U V), AV.float (s_ref20_One_2 j e k m p z C E r u D q J I F L P Q R M O S U V), AV.float (s_ref20_One_3 j e k m p z C E r u D q J I F L P Q R M O S U V), AV.float (s_ref20_One_4 j e k m p z C E r u D q J I F L P Q R M O S U V), AV.float (s_ref20_One_5 j e k m p z C E r u D q J I F L P Q R M O S U V), AV.float (s_ref20_One_6 j e k m p z C E r u D q J I F L P Q R M O S U V), AV.float (s_ref20_One_7 j e k m p z C E r u D q J I F L P Q R M O S U V), AV.float (s_ref20_One_8 j e k m p z C E r u D q J I F L P Q R M O S U V), AV.float (s_ref20_One_9 j e k m p z C E r u D q J I F L P Q R M O S U V), AV.float (s_ref20_One_10 j e k m p z C E r u D q J I F L P Q R M O S U V), AV.float (s_ref20_One_11 j e k m p z C E r u D q J I F L P Q R M O S U V), AV.int .i64 (s_ref20_One_12 j e k m p z C E r u D q J I F L P Q R M O S U V), AV.float (s_ref20_One_13 j e k m p z C E r u D q J I F L P Q R M O S U V)], AV.agg [AV.float (s_ref20_One_14 j e k m p z C E r u D q J I F L P Q R M O S U V), AV.float (s_ref20_One_15 j e k m p z C E r u D q J I F L P Q R M O S U V), AV.float (s_ref20_One_16 j e k m p z C E r u D q J I F L P Q R M O S U V), AV.float (s_ref20_One_17 j e k m p z C E r u D q J I F L P Q R M O S U V), AV.float (s_ref20_One_18 j e k m p z C E r u D q J I F L P Q R M O S U V)], AV.agg [AV.float (s_ref20_One_19 j e k m p z C E r u D q J I F L P Q R M O S U V), AV.float (s_ref20_One_20 j e k m p z C E r u D q J I F L P Q R M O S U V), AV.float (s_ref20_One_21 j e k m p z C E r u D q J I F L P Q R M O S U V), AV.float (s_ref20_One_22 j e k m p z C E r u D q J I F L P Q R M O S U V), AV.float (s_ref20_One_23 j e k m p z C E r u D q J I F L P Q R M O S U V)], AV.int .i64 (s_ref20_One_24 j e k m p z C E r u D q J I F L P Q R M O S U V)]
theorem e_ref20_One (j e : Int) (k m p z C E r u D q : Nat) (J : Int) (I F L P Q R M O S U V : Nat) : outB (evFnM Try.prog false menv96 [] [] 96 Ann.no Try.f43 [AV.agg [AV.int .i64 j, AV.int .i64 e, AV.float k, AV.float m, AV.float p, AV.float z, AV.float C, AV.float E, AV.float r, AV.float u, AV.float D, AV.float q, AV.int .i64 J, AV.float I], AV.agg [AV.float F, AV.float L, AV.float P, AV.float Q, AV.float R], AV.agg [AV.float M, AV.float O, AV.float S, AV.float U, AV.float V]] []) = some (true, r_ref20_One j e k m p z C E r u D q J I F L P Q R M O S U V) := by kernel_rfl
def S_ref20_One : List AV → Option (Ob × AV)
  | [AV.agg [AV.int .i64 j, AV.int .i64 e, AV.float k, AV.float m, AV.float p, AV.float z, AV.float C, AV.float E, AV.float r, AV.float u, AV.float D, AV.float q, AV.int .i64 J, AV.float I], AV.agg [AV.float F, AV.float L, AV.float P, AV.float Q, AV.float R], AV.agg [AV.float M, AV.float O, AV.float S, AV.float U, AV.float V]] => some (Ob.tt, r_ref20_One j e k m p z C E r u D q J I F L P Q R M O S U V)
  | _ => none
theorem t_ref20_One : SOkM Try.prog false (43, fun args => match S_ref20_One args with | some (o, v) => some (o, v, []) | none => none) := SOkM.flat (N := 96) menv96_ok Try.func43 ann_ref20_One Try.call43 fun args o v h ho => by
  unfold S_ref20_One at h
  split at h
  · rename_i j e k m p z C E r u D q J I F L P Q R M O S U V
    unfold r_ref20_One at h
    cases h
    have ho2 := ho
    have this := show outB (evFnM Try.prog false menv96 [] [] 96 Ann.no Try.f43 [AV.agg [AV.int .i64 j, AV.int .i64 e, AV.float k, AV.float m, AV.float p, AV.float z, AV.float C, AV.float E, AV.float r, AV.float u, AV.float D, AV.float q, AV.int .i64 J, AV.float I], AV.agg [AV.float F, AV.float L, AV.float P, AV.float Q, AV.float R], AV.agg [AV.float M, AV.float O, AV.float S, AV.float U, AV.float V]] []) = _ from e_ref20_One j e k m p z C E r u D q J I F L P Q R M O S U V
    exact ⟨this, rfl⟩
  · cases h
def c_ref20_One : SFM := fun args => match S_ref20_One args with | some (o, v) => some (o, v, []) | none => none
theorem c_ref20_One_ok : SOkM Try.prog false (43, c_ref20_One) := t_ref20_One
def mss96 : List (FuncId × SFM) := (43, c_ref20_One) :: mss95
def menv97 : EnvM := mkEnvM mxs mss96 mws2
theorem mss96_ok : All (SOkM Try.prog false) mss96 := All.cons c_ref20_One_ok mss95_ok
theorem menv97_ok : menv97.Ok Try.prog false := mkEnvM_ok mxs_ok mss96_ok mws2_ok
structure V_ref21_All_L0 where
  v0 : Int
  v1 : (Nat → Nat)
  v2 : (Nat → Nat)
  v3 : (Nat → Nat)
  v4 : (Nat → Nat)
  v5 : (Nat → Nat)
def tpl_ref21_All_L0 : List AV := (AV.top :: AV.top :: AV.nul :: tpA 7 (AV.nul :: AV.nul :: AV.nul :: tpA 171 ([])))
def cts_ref21_All_L0 : List CT := [CT.keep, CT.keep]
def phs_ref21_All_L0 : List Src := []
def T_ref21_All_L0 (ab : Int) (Y ac : Nat) (av ar : Nat → Int) (aB aC aD aE aF aG aI aL aM aN : Nat → Nat) (aO : Nat → Int) (aQ : Nat → Nat) (x : V_ref21_All_L0) (F0 F1 : Nat → List AV) : List AV × Heap := ((AV.top :: AV.top :: AV.int .i64 ab :: tpA 7 (AV.lst 0 0 14 Y Y :: AV.lst 1 0 5 ac ac :: AV.int .i64 x.v0 :: tpA 171 ([]))), [⟨.sym Y 14 F0, 56, 0⟩, ⟨.sym ac 5 F1, 50, 0⟩])
def sh_ref21_All_L0 (ab : Int) (Y ac : Nat) (av ar : Nat → Int) (aB aC aD aE aF aG aI aL aM aN : Nat → Nat) (aO : Nat → Int) (aQ : Nat → Nat) (x : V_ref21_All_L0) : List AV × Heap := T_ref21_All_L0 ab Y ac av ar aB aC aD aE aF aG aI aL aM aN aO aQ x (fun j0 => [AV.int .i64 (av j0), AV.int .i64 (ar j0), AV.float (aB j0), AV.float (aC j0), AV.float (aD j0), AV.float (aE j0), AV.float (aF j0), AV.float (aG j0), AV.float (aI j0), AV.float (aL j0), AV.float (aM j0), AV.float (aN j0), AV.int .i64 (aO j0), AV.float (aQ j0)]) (fun j0 => [AV.float (x.v1 j0), AV.float (x.v2 j0), AV.float (x.v3 j0), AV.float (x.v4 j0), AV.float (x.v5 j0)])
def step_ref21_All_L0 (Y ac : Nat) (av ar : Nat → Int) (aB aC aD aE aF aG aI aL aM aN : Nat → Nat) (aO : Nat → Int) (aQ : Nat → Nat) (x : V_ref21_All_L0) : V_ref21_All_L0 := V_ref21_All_L0.mk (IntKind.wrap .i64 (x.v0 + (1 : Int))) (fun j0 => let x0 := ar (Int.toNat x.v0); let x1 := Int.toNat x0; let x2 := x.v5 x1; let x3 := x.v4 x1; let x4 := x.v3 x1; let x5 := x.v2 x1; let x6 := x.v1 x1; let x7 := av (Int.toNat x.v0); let x8 := Int.toNat x7; let x9 := x.v5 x8; let x10 := x.v4 x8; let x11 := x.v3 x8; let x12 := x.v2 x8; let x13 := x.v1 x8; let x14 := aQ (Int.toNat x.v0); let x15 := aO (Int.toNat x.v0); let x16 := aN (Int.toNat x.v0); let x17 := aM (Int.toNat x.v0); let x18 := aL (Int.toNat x.v0); let x19 := aI (Int.toNat x.v0); let x20 := aG (Int.toNat x.v0); let x21 := aF (Int.toNat x.v0); let x22 := aE (Int.toNat x.v0); let x23 := aD (Int.toNat x.v0); let x24 := aC (Int.toNat x.v0); let x25 := aB (Int.toNat x.v0); (bif (Nat.beq j0 x1) then (s_ref20_Warm_5 x7 x0 x25 x24 x23 x22 x21 x20 x19 x18 x17 x16 x15 x14 x13 x12 x11 x10 x9 x6 x5 x4 x3 x2) else (bif (Nat.beq j0 x8) then (s_ref20_Warm_0 x7 x0 x25 x24 x23 x22 x21 x20 x19 x18 x17 x16 x15 x14 x13 x12 x11 x10 x9 x6 x5 x4 x3 x2) else (x.v1 j0)))) (fun j0 => let x0 := ar (Int.toNat x.v0); let x1 := Int.toNat x0; let x2 := x.v5 x1; let x3 := x.v4 x1; let x4 := x.v3 x1; let x5 := x.v2 x1; let x6 := x.v1 x1; let x7 := av (Int.toNat x.v0); let x8 := Int.toNat x7; let x9 := x.v5 x8; let x10 := x.v4 x8; let x11 := x.v3 x8; let x12 := x.v2 x8; let x13 := x.v1 x8; let x14 := aQ (Int.toNat x.v0); let x15 := aO (Int.toNat x.v0); let x16 := aN (Int.toNat x.v0); let x17 := aM (Int.toNat x.v0); let x18 := aL (Int.toNat x.v0); let x19 := aI (Int.toNat x.v0); let x20 := aG (Int.toNat x.v0); let x21 := aF (Int.toNat x.v0); let x22 := aE (Int.toNat x.v0); let x23 := aD (Int.toNat x.v0); let x24 := aC (Int.toNat x.v0); let x25 := aB (Int.toNat x.v0); (bif (Nat.beq j0 x1) then (s_ref20_Warm_6 x7 x0 x25 x24 x23 x22 x21 x20 x19 x18 x17 x16 x15 x14 x13 x12 x11 x10 x9 x6 x5 x4 x3 x2) else (bif (Nat.beq j0 x8) then (s_ref20_Warm_1 x7 x0 x25 x24 x23 x22 x21 x20 x19 x18 x17 x16 x15 x14 x13 x12 x11 x10 x9 x6 x5 x4 x3 x2) else (x.v2 j0)))) (fun j0 => let x0 := ar (Int.toNat x.v0); let x1 := Int.toNat x0; let x2 := x.v5 x1; let x3 := x.v4 x1; let x4 := x.v3 x1; let x5 := x.v2 x1; let x6 := x.v1 x1; let x7 := av (Int.toNat x.v0); let x8 := Int.toNat x7; let x9 := x.v5 x8; let x10 := x.v4 x8; let x11 := x.v3 x8; let x12 := x.v2 x8; let x13 := x.v1 x8; let x14 := aQ (Int.toNat x.v0); let x15 := aO (Int.toNat x.v0); let x16 := aN (Int.toNat x.v0); let x17 := aM (Int.toNat x.v0); let x18 := aL (Int.toNat x.v0); let x19 := aI (Int.toNat x.v0); let x20 := aG (Int.toNat x.v0); let x21 := aF (Int.toNat x.v0); let x22 := aE (Int.toNat x.v0); let x23 := aD (Int.toNat x.v0); let x24 := aC (Int.toNat x.v0); let x25 := aB (Int.toNat x.v0); (bif (Nat.beq j0 x1) then (s_ref20_Warm_7 x7 x0 x25 x24 x23 x22 x21 x20 x19 x18 x17 x16 x15 x14 x13 x12 x11 x10 x9 x6 x5 x4 x3 x2) else (bif (Nat.beq j0 x8) then (s_ref20_Warm_2 x7 x0 x25 x24 x23 x22 x21 x20 x19 x18 x17 x16 x15 x14 x13 x12 x11 x10 x9 x6 x5 x4 x3 x2) else (x.v3 j0)))) (fun j0 => let x0 := ar (Int.toNat x.v0); let x1 := Int.toNat x0; let x2 := x.v5 x1; let x3 := x.v4 x1; let x4 := x.v3 x1; let x5 := x.v2 x1; let x6 := x.v1 x1; let x7 := av (Int.toNat x.v0); let x8 := Int.toNat x7; let x9 := x.v5 x8; let x10 := x.v4 x8; let x11 := x.v3 x8; let x12 := x.v2 x8; let x13 := x.v1 x8; let x14 := aQ (Int.toNat x.v0); let x15 := aO (Int.toNat x.v0); let x16 := aN (Int.toNat x.v0); let x17 := aM (Int.toNat x.v0); let x18 := aL (Int.toNat x.v0); let x19 := aI (Int.toNat x.v0); let x20 := aG (Int.toNat x.v0); let x21 := aF (Int.toNat x.v0); let x22 := aE (Int.toNat x.v0); let x23 := aD (Int.toNat x.v0); let x24 := aC (Int.toNat x.v0); let x25 := aB (Int.toNat x.v0); (bif (Nat.beq j0 x1) then (s_ref20_Warm_8 x7 x0 x25 x24 x23 x22 x21 x20 x19 x18 x17 x16 x15 x14 x13 x12 x11 x10 x9 x6 x5 x4 x3 x2) else (bif (Nat.beq j0 x8) then (s_ref20_Warm_3 x7 x0 x25 x24 x23 x22 x21 x20 x19 x18 x17 x16 x15 x14 x13 x12 x11 x10 x9 x6 x5 x4 x3 x2) else (x.v4 j0)))) (fun j0 => let x0 := ar (Int.toNat x.v0); let x1 := Int.toNat x0; let x2 := x.v5 x1; let x3 := x.v4 x1; let x4 := x.v3 x1; let x5 := x.v2 x1; let x6 := x.v1 x1; let x7 := av (Int.toNat x.v0); let x8 := Int.toNat x7; let x9 := x.v5 x8; let x10 := x.v4 x8; let x11 := x.v3 x8; let x12 := x.v2 x8; let x13 := x.v1 x8; let x14 := aQ (Int.toNat x.v0); let x15 := aO (Int.toNat x.v0); let x16 := aN (Int.toNat x.v0); let x17 := aM (Int.toNat x.v0); let x18 := aL (Int.toNat x.v0); let x19 := aI (Int.toNat x.v0); let x20 := aG (Int.toNat x.v0); let x21 := aF (Int.toNat x.v0); let x22 := aE (Int.toNat x.v0); let x23 := aD (Int.toNat x.v0); let x24 := aC (Int.toNat x.v0); let x25 := aB (Int.toNat x.v0); (bif (Nat.beq j0 x1) then (s_ref20_Warm_9 x7 x0 x25 x24 x23 x22 x21 x20 x19 x18 x17 x16 x15 x14 x13 x12 x11 x10 x9 x6 x5 x4 x3 x2) else (bif (Nat.beq j0 x8) then (s_ref20_Warm_4 x7 x0 x25 x24 x23 x22 x21 x20 x19 x18 x17 x16 x15 x14 x13 x12 x11 x10 x9 x6 x5 x4 x3 x2) else (x.v5 j0))))
def go_ref21_All_L0 (Y ac : Nat) (av ar : Nat → Int) (aB aC aD aE aF aG aI aL aM aN : Nat → Nat) (aO : Nat → Int) (aQ : Nat → Nat) (x : V_ref21_All_L0) : Bool := (bif (!(ilt x.v0 (Int.ofNat Y))) then false else true)
def ok_ref21_All_L0 (Y ac : Nat) (av ar : Nat → Int) (aB aC aD aE aF aG aI aL aM aN : Nat → Nat) (aO : Nat → Int) (aQ : Nat → Nat) (x : V_ref21_All_L0) : Bool := let x0 := Nat.blt (Int.toNat x.v0) Y; let x1 := (ile (0 : Int) x.v0) && x0; let x2 := av (Int.toNat x.v0); let x3 := Nat.blt (Int.toNat x2) ac; let x4 := (ile (0 : Int) x2) && x3; let x5 := ar (Int.toNat x.v0); let x6 := Nat.blt (Int.toNat x5) ac; let x7 := (ile (0 : Int) x5) && x6; (mrgB (!(ilt x.v0 (Int.ofNat Y))) true (x6 && (x7 && (x0 && (x1 && (x3 && (x4 && (x0 && (x1 && (x6 && (x7 && (x0 && (x1 && (x3 && (x4 && (x0 && (x1 && (x0 && x1))))))))))))))))))
def L_ref21_All_L0 (Y ac : Nat) (av ar : Nat → Int) (aB aC aD aE aF aG aI aL aM aN : Nat → Nat) (aO : Nat → Int) (aQ : Nat → Nat) (x : V_ref21_All_L0) : V_ref21_All_L0 := lastL (ok_ref21_All_L0 Y ac av ar aB aC aD aE aF aG aI aL aM aN aO aQ) (go_ref21_All_L0 Y ac av ar aB aC aD aE aF aG aI aL aM aN aO aQ) (step_ref21_All_L0 Y ac av ar aB aC aD aE aF aG aI aL aM aN aO aQ) x
def E_ref21_All_L0 (Y ac : Nat) (av ar : Nat → Int) (aB aC aD aE aF aG aI aL aM aN : Nat → Nat) (aO : Nat → Int) (aQ : Nat → Nat) (x : V_ref21_All_L0) : Bool := endsL (ok_ref21_All_L0 Y ac av ar aB aC aD aE aF aG aI aL aM aN aO aQ) (go_ref21_All_L0 Y ac av ar aB aC aD aE aF aG aI aL aM aN aO aQ) (step_ref21_All_L0 Y ac av ar aB aC aD aE aF aG aI aL aM aN aO aQ) x
theorem all_ref21_All_L0 (ab : Int) (Y ac : Nat) (av ar : Nat → Int) (aB aC aD aE aF aG aI aL aM aN : Nat → Nat) (aO : Nat → Int) (aQ : Nat → Nat) (x : V_ref21_All_L0) : rnd Try.prog false menv97 [] [] 96 Ann.no (subC [1, 1, 1, 1, 1, 1, 1, 1, 0, 1, 0, 0] (codeOf Try.f13)) 0 [⟨some 0, 0, 0, []⟩, ⟨some 1, 0, 0, []⟩] tpl_ref21_All_L0 cts_ref21_All_L0 (true :: true :: false :: tpB 7 (false :: false :: tpB 172 ([]))) [false, true] (sh_ref21_All_L0 ab Y ac av ar aB aC aD aE aF aG aI aL aM aN aO aQ x) = (true, true, go_ref21_All_L0 Y ac av ar aB aC aD aE aF aG aI aL aM aN aO aQ x, ok_ref21_All_L0 Y ac av ar aB aC aD aE aF aG aI aL aM aN aO aQ x, true, sh_ref21_All_L0 ab Y ac av ar aB aC aD aE aF aG aI aL aM aN aO aQ (step_ref21_All_L0 Y ac av ar aB aC aD aE aF aG aI aL aM aN aO aQ x), true) := by kernel_rfl
def fam_ref21_All_L0 (ab : Int) (Y ac : Nat) (av ar : Nat → Int) (aB aC aD aE aF aG aI aL aM aN : Nat → Nat) (aO : Nat → Int) (aQ : Nat → Nat) : Fam Try.prog false menv97 [] [] 96 0 Ann.no (subC [1, 1, 1, 1, 1, 1, 1, 1, 0, 1, 0, 0] (codeOf Try.f13)) V_ref21_All_L0 where
  sh := sh_ref21_All_L0 ab Y ac av ar aB aC aD aE aF aG aI aL aM aN aO aQ
  ok := ok_ref21_All_L0 Y ac av ar aB aC aD aE aF aG aI aL aM aN aO aQ
  go := go_ref21_All_L0 Y ac av ar aB aC aD aE aF aG aI aL aM aN aO aQ
  step := step_ref21_All_L0 Y ac av ar aB aC aD aE aF aG aI aL aM aN aO aQ
  chg := (true :: true :: false :: tpB 7 (false :: false :: tpB 172 ([])))
  chgH := [false, true]
  tpl := tpl_ref21_All_L0
  cts := cts_ref21_All_L0
  keep := 0
  srcs := [⟨some 0, 0, 0, []⟩, ⟨some 1, 0, 0, []⟩]
  ann := (annNo (subC [1, 1, 1, 1, 1, 1, 1, 1, 0, 1, 0, 0] (codeOf Try.f13)))
  le := by kernel_rfl
  kept := by kernel_rfl
  keptB := by kernel_rfl
  all := all_ref21_All_L0 ab Y ac av ar aB aC aD aE aF aG aI aL aM aN aO aQ
  len := fun x => by kernel_rfl
  head := fun x y => by kernel_rfl
  con := fun x y => by kernel_rfl
  conH := fun x y => by kernel_rfl
def F_ref21_All_L0 : St → Option Ch := fun s => cond (Nat.beq s.tm.length 184 && Nat.beq s.H.length 2) (tkTops 2 (alL tpl_ref21_All_L0 s.tm) fun t0 => tkCons t0 fun e t1 => tkI .i64 e fun s0 => tkTops 7 t1 fun t2 => tkCons t2 fun m t3 => tkLst 0 0 14 m fun s1 s2 => tkCons t3 fun p t4 => tkLst 1 0 5 p fun s3 s4 => tkCons t4 fun z t5 => tkI .i64 z fun s5 => tkTops 171 t5 fun t6 => tkNil t6 <| tkCons (alH cts_ref21_All_L0 (s.H ++ List.map phan phs_ref21_All_L0)) fun b7 t7 => tkSym 56 0 14 b7 fun s6 f0 => tkCons t7 fun b8 t8 => tkSym 50 0 5 b8 fun s21 f1 => tkNil t8 <| Fam.out (fam_ref21_All_L0 s0 s1 s3 (iL f0 0) (iL f0 1) (fL f0 2) (fL f0 3) (fL f0 4) (fL f0 5) (fL f0 6) (fL f0 7) (fL f0 8) (fL f0 9) (fL f0 10) (fL f0 11) (iL f0 12) (fL f0 13)) s ((((((allB fun i => isNrm [Ck.i .i64, Ck.i .i64, Ck.f, Ck.f, Ck.f, Ck.f, Ck.f, Ck.f, Ck.f, Ck.f, Ck.f, Ck.f, Ck.i .i64, Ck.f] (f0 i)) && (allB fun i => isNrm [Ck.f, Ck.f, Ck.f, Ck.f, Ck.f] (f1 i))) && (eqT s2 s1)) && (eqT s4 s3)) && (eqT s6 s1)) && (eqT s21 s3)) (V_ref21_All_L0.mk s5 (fL f1 0) (fL f1 1) (fL f1 2) (fL f1 3) (fL f1 4))) none
theorem F_ref21_All_L0_ok : ∀ s ch, F_ref21_All_L0 s = some ch → AllI s ch ∧ LoopSpec Try.prog false 0 (subC [1, 1, 1, 1, 1, 1, 1, 1, 0, 1, 0, 0] (codeOf Try.f13)) s (sel ch) := by
  intro s ch h
  unfold F_ref21_All_L0 at h
  obtain ⟨hl, h0⟩ := cond_some h rfl
  clear h
  obtain ⟨hl, hb⟩ := and_beq2 hl
  obtain ⟨t0, e0, h1⟩ := tkTops_some h0
  obtain ⟨e, t1, rfl, h2⟩ := tkCons_some h1
  obtain ⟨s0, rfl, h3⟩ := tkI_some h2
  obtain ⟨t2, rfl, h4⟩ := tkTops_some h3
  obtain ⟨m, t3, rfl, h5⟩ := tkCons_some h4
  obtain ⟨s1, s2, rfl, h6⟩ := tkLst_some h5
  obtain ⟨p, t4, rfl, h7⟩ := tkCons_some h6
  obtain ⟨s3, s4, rfl, h8⟩ := tkLst_some h7
  obtain ⟨z, t5, rfl, h9⟩ := tkCons_some h8
  obtain ⟨s5, rfl, h10⟩ := tkI_some h9
  obtain ⟨t6, rfl, h11⟩ := tkTops_some h10
  obtain ⟨rfl, h12⟩ := tkNil_some h11
  obtain ⟨b7, t7, eH, h13⟩ := tkCons_some h12
  obtain ⟨s6, f0, rfl, h14⟩ := tkSym_some h13
  obtain ⟨b8, t8, rfl, h15⟩ := tkCons_some h14
  obtain ⟨s21, f1, rfl, h16⟩ := tkSym_some h15
  obtain ⟨rfl, h17⟩ := tkNil_some h16
  refine Fam.spec menv97_ok (fam_ref21_All_L0 s0 s1 s3 (iL f0 0) (iL f0 1) (fL f0 2) (fL f0 3) (fL f0 4) (fL f0 5) (fL f0 6) (fL f0 7) (fL f0 8) (fL f0 9) (fL f0 10) (fL f0 11) (iL f0 12) (fL f0 13)) (phs := phs_ref21_All_L0) (hl.trans (by kernel_rfl)) (hb.trans (by kernel_rfl)) ?_ ?_ h17
  · rw [← hdr_alH cts_ref21_All_L0 (s.H ++ List.map phan phs_ref21_All_L0), eH]; kernel_rfl
  · intro hq
    simp only [Bool.and_eq_true] at hq
    obtain ⟨⟨⟨⟨⟨hq0, hq1⟩, hq2⟩, hq3⟩, hq4⟩, hq5⟩ := hq
    have n0 := nrm_fun hq0
    have n1 := nrm_fun hq1
    have hx := eqT_eq hq2; subst s2
    have hx := eqT_eq hq3; subst s4
    have hx := eqT_eq hq4; subst s6
    have hx := eqT_eq hq5; subst s21
    show sh_ref21_All_L0 s0 s1 s3 (iL f0 0) (iL f0 1) (fL f0 2) (fL f0 3) (fL f0 4) (fL f0 5) (fL f0 6) (fL f0 7) (fL f0 8) (fL f0 9) (fL f0 10) (fL f0 11) (iL f0 12) (fL f0 13) (V_ref21_All_L0.mk s5 (fL f1 0) (fL f1 1) (fL f1 2) (fL f1 3) (fL f1 4)) = (alL tpl_ref21_All_L0 s.tm, alH cts_ref21_All_L0 (s.H ++ List.map phan phs_ref21_All_L0))
    rw [e0, eH]
    refine Eq.trans (show sh_ref21_All_L0 s0 s1 s3 (iL f0 0) (iL f0 1) (fL f0 2) (fL f0 3) (fL f0 4) (fL f0 5) (fL f0 6) (fL f0 7) (fL f0 8) (fL f0 9) (fL f0 10) (fL f0 11) (iL f0 12) (fL f0 13) (V_ref21_All_L0.mk s5 (fL f1 0) (fL f1 1) (fL f1 2) (fL f1 3) (fL f1 4)) = T_ref21_All_L0 s0 s1 s3 (iL f0 0) (iL f0 1) (fL f0 2) (fL f0 3) (fL f0 4) (fL f0 5) (fL f0 6) (fL f0 7) (fL f0 8) (fL f0 9) (fL f0 10) (fL f0 11) (iL f0 12) (fL f0 13) (V_ref21_All_L0.mk s5 (fL f1 0) (fL f1 1) (fL f1 2) (fL f1 3) (fL f1 4)) (fun i => mkN [Ck.i .i64, Ck.i .i64, Ck.f, Ck.f, Ck.f, Ck.f, Ck.f, Ck.f, Ck.f, Ck.f, Ck.f, Ck.f, Ck.i .i64, Ck.f] (f0 i) 0) (fun i => mkN [Ck.f, Ck.f, Ck.f, Ck.f, Ck.f] (f1 i) 0) by kernel_rfl) ?_
    rw [n0, n1]
    kernel_rfl
structure V_ref21_All_L1 where
  v0 : Int
  v1 : (Nat → Int)
  v2 : (Nat → Int)
  v3 : (Nat → Nat)
  v4 : (Nat → Nat)
  v5 : (Nat → Nat)
  v6 : (Nat → Nat)
  v7 : (Nat → Nat)
  v8 : (Nat → Nat)
  v9 : (Nat → Nat)
  v10 : (Nat → Nat)
  v11 : (Nat → Nat)
  v12 : (Nat → Nat)
  v13 : (Nat → Int)
  v14 : (Nat → Nat)
  v15 : (Nat → Nat)
  v16 : (Nat → Nat)
  v17 : (Nat → Nat)
  v18 : (Nat → Nat)
  v19 : (Nat → Nat)
def tpl_ref21_All_L1 : List AV := (AV.top :: AV.top :: AV.nul :: tpA 7 (AV.nul :: AV.nul :: AV.top :: AV.top :: AV.top :: AV.top :: AV.nul :: AV.nul :: tpA 166 ([])))
def cts_ref21_All_L1 : List CT := [CT.keep, CT.keep]
def phs_ref21_All_L1 : List Src := []
def T_ref21_All_L1 (ab : Int) (Y ac : Nat) (av : Int) (x : V_ref21_All_L1) (F0 F1 : Nat → List AV) : List AV × Heap := ((AV.top :: AV.top :: AV.int .i64 ab :: tpA 7 (AV.lst 0 0 14 Y Y :: AV.lst 1 0 5 ac ac :: AV.top :: AV.top :: AV.top :: AV.top :: AV.int .i64 av :: AV.int .i64 x.v0 :: tpA 166 ([]))), [⟨.sym Y 14 F0, 56, 0⟩, ⟨.sym ac 5 F1, 50, 0⟩])
def sh_ref21_All_L1 (ab : Int) (Y ac : Nat) (av : Int) (x : V_ref21_All_L1) : List AV × Heap := T_ref21_All_L1 ab Y ac av x (fun j0 => [AV.int .i64 (x.v1 j0), AV.int .i64 (x.v2 j0), AV.float (x.v3 j0), AV.float (x.v4 j0), AV.float (x.v5 j0), AV.float (x.v6 j0), AV.float (x.v7 j0), AV.float (x.v8 j0), AV.float (x.v9 j0), AV.float (x.v10 j0), AV.float (x.v11 j0), AV.float (x.v12 j0), AV.int .i64 (x.v13 j0), AV.float (x.v14 j0)]) (fun j0 => [AV.float (x.v15 j0), AV.float (x.v16 j0), AV.float (x.v17 j0), AV.float (x.v18 j0), AV.float (x.v19 j0)])
def w_step_ref21_All_L1 {T : Type} (Y ac : Nat) (x : V_ref21_All_L1) (K : Int → Int → Nat → Nat → Nat → Nat → Nat → Nat → Nat → Nat → Nat → Nat → Int → Nat → Nat → Nat → Nat → Nat → Nat → Nat → Nat → Nat → Nat → Nat → T) : T := let x0 := x.v13 (Int.toNat x.v0); let x1 := ile (0 : Int) x0; let x2 := x.v1 (Int.toNat x.v0); let x3 := bif x1 then x2 else x2; let x4 := x.v2 (Int.toNat x.v0); let x5 := bif x1 then x4 else x4; let x6 := x.v3 (Int.toNat x.v0); let x7 := bif x1 then x6 else x6; let x8 := x.v4 (Int.toNat x.v0); let x9 := bif x1 then x8 else x8; let x10 := x.v5 (Int.toNat x.v0); let x11 := bif x1 then x10 else x10; let x12 := x.v6 (Int.toNat x.v0); let x13 := bif x1 then x12 else x12; let x14 := x.v7 (Int.toNat x.v0); let x15 := bif x1 then x14 else x14; let x16 := x.v8 (Int.toNat x.v0); let x17 := bif x1 then x16 else x16; let x18 := x.v9 (Int.toNat x.v0); let x19 := bif x1 then x18 else x18; let x20 := Nat.beq (Int.toNat x.v0) (Int.toNat x.v0); let x21 := x.v14 (Int.toNat x.v0); let x22 := fmul x21 (x.v12 (Int.toNat x0)); let x23 := bif (!(flt 0 x22)) then 0 else x22; let x24 := x.v10 (Int.toNat x.v0); let x25 := bif x1 then (bif x20 then (fsub 0 x23) else x24) else x24; let x26 := x.v11 (Int.toNat x.v0); let x27 := bif x1 then (bif x20 then x23 else x26) else x26; let x28 := x.v12 (Int.toNat x.v0); let x29 := bif x1 then x28 else x28; let x30 := bif x1 then x0 else x0; let x31 := bif x1 then x21 else x21; let x32 := Int.toNat x3; let x33 := x.v15 x32; let x34 := x.v16 x32; let x35 := x.v17 x32; let x36 := x.v18 x32; let x37 := x.v19 x32; let x38 := Int.toNat x5; let x39 := x.v15 x38; let x40 := x.v16 x38; let x41 := x.v17 x38; let x42 := x.v18 x38; let x43 := x.v19 x38; K x3 x5 x7 x9 x11 x13 x15 x17 x19 x25 x27 x29 x30 x31 x33 x34 x35 x36 x37 x39 x40 x41 x42 x43
def step_ref21_All_L1 (Y ac : Nat) (x : V_ref21_All_L1) : V_ref21_All_L1 := V_ref21_All_L1.mk (IntKind.wrap .i64 (x.v0 + (1 : Int))) (fun j0 => let x0 := x.v13 (Int.toNat x.v0); let x1 := ile (0 : Int) x0; let x2 := bif x1 then (x.v1 j0) else (x.v1 j0); (bif (ieq (w_step_ref21_All_L1 Y ac x s_ref20_One_24) (0 : Int)) then (bif (Nat.beq j0 (Int.toNat x.v0)) then (w_step_ref21_All_L1 Y ac x s_ref20_One_0) else x2) else x2)) (fun j0 => let x0 := x.v13 (Int.toNat x.v0); let x1 := ile (0 : Int) x0; let x2 := bif x1 then (x.v2 j0) else (x.v2 j0); (bif (ieq (w_step_ref21_All_L1 Y ac x s_ref20_One_24) (0 : Int)) then (bif (Nat.beq j0 (Int.toNat x.v0)) then (w_step_ref21_All_L1 Y ac x s_ref20_One_1) else x2) else x2)) (fun j0 => let x0 := x.v13 (Int.toNat x.v0); let x1 := ile (0 : Int) x0; let x2 := bif x1 then (x.v3 j0) else (x.v3 j0); (bif (ieq (w_step_ref21_All_L1 Y ac x s_ref20_One_24) (0 : Int)) then (bif (Nat.beq j0 (Int.toNat x.v0)) then (w_step_ref21_All_L1 Y ac x s_ref20_One_2) else x2) else x2)) (fun j0 => let x0 := x.v13 (Int.toNat x.v0); let x1 := ile (0 : Int) x0; let x2 := bif x1 then (x.v4 j0) else (x.v4 j0); (bif (ieq (w_step_ref21_All_L1 Y ac x s_ref20_One_24) (0 : Int)) then (bif (Nat.beq j0 (Int.toNat x.v0)) then (w_step_ref21_All_L1 Y ac x s_ref20_One_3) else x2) else x2)) (fun j0 => let x0 := x.v13 (Int.toNat x.v0); let x1 := ile (0 : Int) x0; let x2 := bif x1 then (x.v5 j0) else (x.v5 j0); (bif (ieq (w_step_ref21_All_L1 Y ac x s_ref20_One_24) (0 : Int)) then (bif (Nat.beq j0 (Int.toNat x.v0)) then (w_step_ref21_All_L1 Y ac x s_ref20_One_4) else x2) else x2)) (fun j0 => let x0 := x.v13 (Int.toNat x.v0); let x1 := ile (0 : Int) x0; let x2 := bif x1 then (x.v6 j0) else (x.v6 j0); (bif (ieq (w_step_ref21_All_L1 Y ac x s_ref20_One_24) (0 : Int)) then (bif (Nat.beq j0 (Int.toNat x.v0)) then (w_step_ref21_All_L1 Y ac x s_ref20_One_5) else x2) else x2)) (fun j0 => let x0 := x.v13 (Int.toNat x.v0); let x1 := ile (0 : Int) x0; let x2 := bif x1 then (x.v7 j0) else (x.v7 j0); (bif (ieq (w_step_ref21_All_L1 Y ac x s_ref20_One_24) (0 : Int)) then (bif (Nat.beq j0 (Int.toNat x.v0)) then (w_step_ref21_All_L1 Y ac x s_ref20_One_6) else x2) else x2)) (fun j0 => let x0 := x.v13 (Int.toNat x.v0); let x1 := ile (0 : Int) x0; let x2 := bif x1 then (x.v8 j0) else (x.v8 j0); (bif (ieq (w_step_ref21_All_L1 Y ac x s_ref20_One_24) (0 : Int)) then (bif (Nat.beq j0 (Int.toNat x.v0)) then (w_step_ref21_All_L1 Y ac x s_ref20_One_7) else x2) else x2)) (fun j0 => let x0 := x.v13 (Int.toNat x.v0); let x1 := ile (0 : Int) x0; let x2 := bif x1 then (x.v9 j0) else (x.v9 j0); (bif (ieq (w_step_ref21_All_L1 Y ac x s_ref20_One_24) (0 : Int)) then (bif (Nat.beq j0 (Int.toNat x.v0)) then (w_step_ref21_All_L1 Y ac x s_ref20_One_8) else x2) else x2)) (fun j0 => let x0 := x.v13 (Int.toNat x.v0); let x1 := x.v14 (Int.toNat x.v0); let x2 := fmul x1 (x.v12 (Int.toNat x0)); let x3 := bif (!(flt 0 x2)) then 0 else x2; let x4 := fsub 0 x3; let x5 := Nat.beq j0 (Int.toNat x.v0); let x6 := ile (0 : Int) x0; let x7 := bif x6 then (bif x5 then x4 else (x.v10 j0)) else (x.v10 j0); let x8 := x.v2 (Int.toNat x.v0); let x9 := bif x6 then x8 else x8; let x10 := Int.toNat x9; let x11 := x.v19 x10; let x12 := x.v18 x10; let x13 := x.v17 x10; let x14 := x.v16 x10; let x15 := x.v15 x10; let x16 := x.v1 (Int.toNat x.v0); let x17 := bif x6 then x16 else x16; let x18 := Int.toNat x17; let x19 := x.v19 x18; let x20 := x.v18 x18; let x21 := x.v17 x18; let x22 := x.v16 x18; let x23 := x.v15 x18; let x24 := bif x6 then x1 else x1; let x25 := bif x6 then x0 else x0; let x26 := x.v12 (Int.toNat x.v0); let x27 := bif x6 then x26 else x26; let x28 := x.v11 (Int.toNat x.v0); let x29 := Nat.beq (Int.toNat x.v0) (Int.toNat x.v0); let x30 := bif x6 then (bif x29 then x3 else x28) else x28; let x31 := x.v10 (Int.toNat x.v0); let x32 := bif x6 then (bif x29 then x4 else x31) else x31; let x33 := x.v9 (Int.toNat x.v0); let x34 := bif x6 then x33 else x33; let x35 := x.v8 (Int.toNat x.v0); let x36 := bif x6 then x35 else x35; let x37 := x.v7 (Int.toNat x.v0); let x38 := bif x6 then x37 else x37; let x39 := x.v6 (Int.toNat x.v0); let x40 := bif x6 then x39 else x39; let x41 := x.v5 (Int.toNat x.v0); let x42 := bif x6 then x41 else x41; let x43 := x.v4 (Int.toNat x.v0); let x44 := bif x6 then x43 else x43; let x45 := x.v3 (Int.toNat x.v0); let x46 := bif x6 then x45 else x45; (bif (ieq (s_ref20_One_24 x17 x9 x46 x44 x42 x40 x38 x36 x34 x32 x30 x27 x25 x24 x23 x22 x21 x20 x19 x15 x14 x13 x12 x11) (0 : Int)) then (bif x5 then (s_ref20_One_9 x17 x9 x46 x44 x42 x40 x38 x36 x34 x32 x30 x27 x25 x24 x23 x22 x21 x20 x19 x15 x14 x13 x12 x11) else x7) else x7)) (fun j0 => let x0 := x.v13 (Int.toNat x.v0); let x1 := x.v14 (Int.toNat x.v0); let x2 := fmul x1 (x.v12 (Int.toNat x0)); let x3 := bif (!(flt 0 x2)) then 0 else x2; let x4 := Nat.beq j0 (Int.toNat x.v0); let x5 := ile (0 : Int) x0; let x6 := bif x5 then (bif x4 then x3 else (x.v11 j0)) else (x.v11 j0); (bif (ieq (w_step_ref21_All_L1 Y ac x s_ref20_One_24) (0 : Int)) then (bif x4 then (w_step_ref21_All_L1 Y ac x s_ref20_One_10) else x6) else x6)) (fun j0 => let x0 := x.v13 (Int.toNat x.v0); let x1 := ile (0 : Int) x0; let x2 := bif x1 then (x.v12 j0) else (x.v12 j0); (bif (ieq (w_step_ref21_All_L1 Y ac x s_ref20_One_24) (0 : Int)) then (bif (Nat.beq j0 (Int.toNat x.v0)) then (w_step_ref21_All_L1 Y ac x s_ref20_One_11) else x2) else x2)) (fun j0 => let x0 := x.v13 (Int.toNat x.v0); let x1 := ile (0 : Int) x0; let x2 := bif x1 then (x.v13 j0) else (x.v13 j0); (bif (ieq (w_step_ref21_All_L1 Y ac x s_ref20_One_24) (0 : Int)) then (bif (Nat.beq j0 (Int.toNat x.v0)) then (w_step_ref21_All_L1 Y ac x s_ref20_One_12) else x2) else x2)) (fun j0 => let x0 := x.v13 (Int.toNat x.v0); let x1 := ile (0 : Int) x0; let x2 := bif x1 then (x.v14 j0) else (x.v14 j0); (bif (ieq (w_step_ref21_All_L1 Y ac x s_ref20_One_24) (0 : Int)) then (bif (Nat.beq j0 (Int.toNat x.v0)) then (w_step_ref21_All_L1 Y ac x s_ref20_One_13) else x2) else x2)) (fun j0 => let x0 := x.v2 (Int.toNat x.v0); let x1 := x.v13 (Int.toNat x.v0); let x2 := ile (0 : Int) x1; let x3 := bif x2 then x0 else x0; let x4 := Int.toNat x3; let x5 := x.v1 (Int.toNat x.v0); let x6 := bif x2 then x5 else x5; let x7 := Int.toNat x6; (bif (ieq (w_step_ref21_All_L1 Y ac x s_ref20_One_24) (0 : Int)) then (bif (Nat.beq j0 x4) then (w_step_ref21_All_L1 Y ac x s_ref20_One_19) else (bif (Nat.beq j0 x7) then (w_step_ref21_All_L1 Y ac x s_ref20_One_14) else (x.v15 j0))) else (x.v15 j0))) (fun j0 => let x0 := x.v2 (Int.toNat x.v0); let x1 := x.v13 (Int.toNat x.v0); let x2 := ile (0 : Int) x1; let x3 := bif x2 then x0 else x0; let x4 := Int.toNat x3; let x5 := x.v1 (Int.toNat x.v0); let x6 := bif x2 then x5 else x5; let x7 := Int.toNat x6; (bif (ieq (w_step_ref21_All_L1 Y ac x s_ref20_One_24) (0 : Int)) then (bif (Nat.beq j0 x4) then (w_step_ref21_All_L1 Y ac x s_ref20_One_20) else (bif (Nat.beq j0 x7) then (w_step_ref21_All_L1 Y ac x s_ref20_One_15) else (x.v16 j0))) else (x.v16 j0))) (fun j0 => let x0 := x.v2 (Int.toNat x.v0); let x1 := x.v13 (Int.toNat x.v0); let x2 := ile (0 : Int) x1; let x3 := bif x2 then x0 else x0; let x4 := Int.toNat x3; let x5 := x.v1 (Int.toNat x.v0); let x6 := bif x2 then x5 else x5; let x7 := Int.toNat x6; (bif (ieq (w_step_ref21_All_L1 Y ac x s_ref20_One_24) (0 : Int)) then (bif (Nat.beq j0 x4) then (w_step_ref21_All_L1 Y ac x s_ref20_One_21) else (bif (Nat.beq j0 x7) then (w_step_ref21_All_L1 Y ac x s_ref20_One_16) else (x.v17 j0))) else (x.v17 j0))) (fun j0 => let x0 := x.v2 (Int.toNat x.v0); let x1 := x.v13 (Int.toNat x.v0); let x2 := ile (0 : Int) x1; let x3 := bif x2 then x0 else x0; let x4 := Int.toNat x3; let x5 := x.v1 (Int.toNat x.v0); let x6 := bif x2 then x5 else x5; let x7 := Int.toNat x6; (bif (ieq (w_step_ref21_All_L1 Y ac x s_ref20_One_24) (0 : Int)) then (bif (Nat.beq j0 x4) then (w_step_ref21_All_L1 Y ac x s_ref20_One_22) else (bif (Nat.beq j0 x7) then (w_step_ref21_All_L1 Y ac x s_ref20_One_17) else (x.v18 j0))) else (x.v18 j0))) (fun j0 => let x0 := x.v2 (Int.toNat x.v0); let x1 := x.v13 (Int.toNat x.v0); let x2 := ile (0 : Int) x1; let x3 := bif x2 then x0 else x0; let x4 := Int.toNat x3; let x5 := x.v1 (Int.toNat x.v0); let x6 := bif x2 then x5 else x5; let x7 := Int.toNat x6; (bif (ieq (w_step_ref21_All_L1 Y ac x s_ref20_One_24) (0 : Int)) then (bif (Nat.beq j0 x4) then (w_step_ref21_All_L1 Y ac x s_ref20_One_23) else (bif (Nat.beq j0 x7) then (w_step_ref21_All_L1 Y ac x s_ref20_One_18) else (x.v19 j0))) else (x.v19 j0)))
def go_ref21_All_L1 (Y ac : Nat) (x : V_ref21_All_L1) : Bool := (bif (!(ilt x.v0 (Int.ofNat Y))) then false else true)
def ok_ref21_All_L1 (Y ac : Nat) (x : V_ref21_All_L1) : Bool := let x0 := Nat.blt (Int.toNat x.v0) Y; let x1 := (ile (0 : Int) x.v0) && x0; let x2 := x0 && x1; let x3 := x.v13 (Int.toNat x.v0); let x4 := Int.toNat x3; let x5 := Nat.blt x4 Y; let x6 := ile (0 : Int) x3; let x7 := x5 && ((x6 && x5) && (x0 && (x1 && (x0 && (x1 && x2))))); let x8 := x.v14 (Int.toNat x.v0); let x9 := fmul x8 (x.v12 x4); let x10 := !(flt 0 x9); let x11 := x.v1 (Int.toNat x.v0); let x12 := bif x6 then x11 else x11; let x13 := Int.toNat x12; let x14 := Nat.blt x13 ac; let x15 := (ile (0 : Int) x12) && x14; let x16 := x.v2 (Int.toNat x.v0); let x17 := bif x6 then x16 else x16; let x18 := Int.toNat x17; let x19 := Nat.blt x18 ac; let x20 := (ile (0 : Int) x17) && x19; let x21 := x19 && (x20 && (x0 && (x1 && (x14 && (x15 && (x0 && (x1 && (x0 && (x1 && (mrgB x6 (x0 && (x1 && (x0 && (x1 && (mrgB x10 x7 x7))))) x2)))))))))); let x22 := x.v12 (Int.toNat x.v0); let x23 := x.v11 (Int.toNat x.v0); let x24 := bif x10 then 0 else x9; let x25 := Nat.beq (Int.toNat x.v0) (Int.toNat x.v0); let x26 := x.v10 (Int.toNat x.v0); let x27 := x.v9 (Int.toNat x.v0); let x28 := x.v8 (Int.toNat x.v0); let x29 := x.v7 (Int.toNat x.v0); let x30 := x.v6 (Int.toNat x.v0); let x31 := x.v5 (Int.toNat x.v0); let x32 := x.v4 (Int.toNat x.v0); let x33 := x.v3 (Int.toNat x.v0); (mrgB (!(ilt x.v0 (Int.ofNat Y))) true (mrgB (ieq (s_ref20_One_24 x12 x17 (bif x6 then x33 else x33) (bif x6 then x32 else x32) (bif x6 then x31 else x31) (bif x6 then x30 else x30) (bif x6 then x29 else x29) (bif x6 then x28 else x28) (bif x6 then x27 else x27) (bif x6 then (bif x25 then (fsub 0 x24) else x26) else x26) (bif x6 then (bif x25 then x24 else x23) else x23) (bif x6 then x22 else x22) (bif x6 then x3 else x3) (bif x6 then x8 else x8) (x.v15 x13) (x.v16 x13) (x.v17 x13) (x.v18 x13) (x.v19 x13) (x.v15 x18) (x.v16 x18) (x.v17 x18) (x.v18 x18) (x.v19 x18)) (0 : Int)) (x0 && (x1 && (x19 && (x20 && (x0 && (x1 && (x14 && (x15 && (x0 && (x1 && x21)))))))))) x21))
def L_ref21_All_L1 (Y ac : Nat) (x : V_ref21_All_L1) : V_ref21_All_L1 := lastL (ok_ref21_All_L1 Y ac) (go_ref21_All_L1 Y ac) (step_ref21_All_L1 Y ac) x
def E_ref21_All_L1 (Y ac : Nat) (x : V_ref21_All_L1) : Bool := endsL (ok_ref21_All_L1 Y ac) (go_ref21_All_L1 Y ac) (step_ref21_All_L1 Y ac) x
theorem all_ref21_All_L1 (ab : Int) (Y ac : Nat) (av : Int) (x : V_ref21_All_L1) : rnd Try.prog false menv97 [] [] 96 Ann.no (subC [1, 1, 1, 1, 1, 1, 1, 1, 1, 0, 1, 0, 0, 1, 0, 0, 1, 0, 0] (codeOf Try.f13)) 0 [⟨some 0, 0, 0, []⟩, ⟨some 1, 0, 0, []⟩] tpl_ref21_All_L1 cts_ref21_All_L1 (true :: true :: false :: tpB 7 (false :: false :: true :: true :: true :: true :: false :: tpB 167 ([]))) [true, true] (sh_ref21_All_L1 ab Y ac av x) = (true, true, go_ref21_All_L1 Y ac x, ok_ref21_All_L1 Y ac x, true, sh_ref21_All_L1 ab Y ac av (step_ref21_All_L1 Y ac x), true) := by kernel_rfl
def fam_ref21_All_L1 (ab : Int) (Y ac : Nat) (av : Int) : Fam Try.prog false menv97 [] [] 96 0 Ann.no (subC [1, 1, 1, 1, 1, 1, 1, 1, 1, 0, 1, 0, 0, 1, 0, 0, 1, 0, 0] (codeOf Try.f13)) V_ref21_All_L1 where
  sh := sh_ref21_All_L1 ab Y ac av
  ok := ok_ref21_All_L1 Y ac
  go := go_ref21_All_L1 Y ac
  step := step_ref21_All_L1 Y ac
  chg := (true :: true :: false :: tpB 7 (false :: false :: true :: true :: true :: true :: false :: tpB 167 ([])))
  chgH := [true, true]
  tpl := tpl_ref21_All_L1
  cts := cts_ref21_All_L1
  keep := 0
  srcs := [⟨some 0, 0, 0, []⟩, ⟨some 1, 0, 0, []⟩]
  ann := (annNo (subC [1, 1, 1, 1, 1, 1, 1, 1, 1, 0, 1, 0, 0, 1, 0, 0, 1, 0, 0] (codeOf Try.f13)))
  le := by kernel_rfl
  kept := by kernel_rfl
  keptB := by kernel_rfl
  all := all_ref21_All_L1 ab Y ac av
  len := fun x => by kernel_rfl
  head := fun x y => by kernel_rfl
  con := fun x y => by kernel_rfl
  conH := fun x y => by kernel_rfl
def F_ref21_All_L1 : St → Option Ch := fun s => cond (Nat.beq s.tm.length 184 && Nat.beq s.H.length 2) (tkTops 2 (alL tpl_ref21_All_L1 s.tm) fun t0 => tkCons t0 fun e t1 => tkI .i64 e fun s0 => tkTops 7 t1 fun t2 => tkCons t2 fun m t3 => tkLst 0 0 14 m fun s1 s2 => tkCons t3 fun p t4 => tkLst 1 0 5 p fun s3 s4 => tkTops 4 t4 fun t5 => tkCons t5 fun C t6 => tkI .i64 C fun s5 => tkCons t6 fun E t7 => tkI .i64 E fun s6 => tkTops 166 t7 fun t8 => tkNil t8 <| tkCons (alH cts_ref21_All_L1 (s.H ++ List.map phan phs_ref21_All_L1)) fun b9 t9 => tkSym 56 0 14 b9 fun s7 f0 => tkCons t9 fun b10 t10 => tkSym 50 0 5 b10 fun s22 f1 => tkNil t10 <| Fam.out (fam_ref21_All_L1 s0 s1 s3 s5) s ((((((allB fun i => isNrm [Ck.i .i64, Ck.i .i64, Ck.f, Ck.f, Ck.f, Ck.f, Ck.f, Ck.f, Ck.f, Ck.f, Ck.f, Ck.f, Ck.i .i64, Ck.f] (f0 i)) && (allB fun i => isNrm [Ck.f, Ck.f, Ck.f, Ck.f, Ck.f] (f1 i))) && (eqT s2 s1)) && (eqT s4 s3)) && (eqT s7 s1)) && (eqT s22 s3)) (V_ref21_All_L1.mk s6 (iL f0 0) (iL f0 1) (fL f0 2) (fL f0 3) (fL f0 4) (fL f0 5) (fL f0 6) (fL f0 7) (fL f0 8) (fL f0 9) (fL f0 10) (fL f0 11) (iL f0 12) (fL f0 13) (fL f1 0) (fL f1 1) (fL f1 2) (fL f1 3) (fL f1 4))) none
theorem F_ref21_All_L1_ok : ∀ s ch, F_ref21_All_L1 s = some ch → AllI s ch ∧ LoopSpec Try.prog false 0 (subC [1, 1, 1, 1, 1, 1, 1, 1, 1, 0, 1, 0, 0, 1, 0, 0, 1, 0, 0] (codeOf Try.f13)) s (sel ch) := by
  intro s ch h
  unfold F_ref21_All_L1 at h
  obtain ⟨hl, h0⟩ := cond_some h rfl
  clear h
  obtain ⟨hl, hb⟩ := and_beq2 hl
  obtain ⟨t0, e0, h1⟩ := tkTops_some h0
  obtain ⟨e, t1, rfl, h2⟩ := tkCons_some h1
  obtain ⟨s0, rfl, h3⟩ := tkI_some h2
  obtain ⟨t2, rfl, h4⟩ := tkTops_some h3
  obtain ⟨m, t3, rfl, h5⟩ := tkCons_some h4
  obtain ⟨s1, s2, rfl, h6⟩ := tkLst_some h5
  obtain ⟨p, t4, rfl, h7⟩ := tkCons_some h6
  obtain ⟨s3, s4, rfl, h8⟩ := tkLst_some h7
  obtain ⟨t5, rfl, h9⟩ := tkTops_some h8
  obtain ⟨C, t6, rfl, h10⟩ := tkCons_some h9
  obtain ⟨s5, rfl, h11⟩ := tkI_some h10
  obtain ⟨E, t7, rfl, h12⟩ := tkCons_some h11
  obtain ⟨s6, rfl, h13⟩ := tkI_some h12
  obtain ⟨t8, rfl, h14⟩ := tkTops_some h13
  obtain ⟨rfl, h15⟩ := tkNil_some h14
  obtain ⟨b9, t9, eH, h16⟩ := tkCons_some h15
  obtain ⟨s7, f0, rfl, h17⟩ := tkSym_some h16
  obtain ⟨b10, t10, rfl, h18⟩ := tkCons_some h17
  obtain ⟨s22, f1, rfl, h19⟩ := tkSym_some h18
  obtain ⟨rfl, h20⟩ := tkNil_some h19
  refine Fam.spec menv97_ok (fam_ref21_All_L1 s0 s1 s3 s5) (phs := phs_ref21_All_L1) (hl.trans (by kernel_rfl)) (hb.trans (by kernel_rfl)) ?_ ?_ h20
  · rw [← hdr_alH cts_ref21_All_L1 (s.H ++ List.map phan phs_ref21_All_L1), eH]; kernel_rfl
  · intro hq
    simp only [Bool.and_eq_true] at hq
    obtain ⟨⟨⟨⟨⟨hq0, hq1⟩, hq2⟩, hq3⟩, hq4⟩, hq5⟩ := hq
    have n0 := nrm_fun hq0
    have n1 := nrm_fun hq1
    have hx := eqT_eq hq2; subst s2
    have hx := eqT_eq hq3; subst s4
    have hx := eqT_eq hq4; subst s7
    have hx := eqT_eq hq5; subst s22
    show sh_ref21_All_L1 s0 s1 s3 s5 (V_ref21_All_L1.mk s6 (iL f0 0) (iL f0 1) (fL f0 2) (fL f0 3) (fL f0 4) (fL f0 5) (fL f0 6) (fL f0 7) (fL f0 8) (fL f0 9) (fL f0 10) (fL f0 11) (iL f0 12) (fL f0 13) (fL f1 0) (fL f1 1) (fL f1 2) (fL f1 3) (fL f1 4)) = (alL tpl_ref21_All_L1 s.tm, alH cts_ref21_All_L1 (s.H ++ List.map phan phs_ref21_All_L1))
    rw [e0, eH]
    refine Eq.trans (show sh_ref21_All_L1 s0 s1 s3 s5 (V_ref21_All_L1.mk s6 (iL f0 0) (iL f0 1) (fL f0 2) (fL f0 3) (fL f0 4) (fL f0 5) (fL f0 6) (fL f0 7) (fL f0 8) (fL f0 9) (fL f0 10) (fL f0 11) (iL f0 12) (fL f0 13) (fL f1 0) (fL f1 1) (fL f1 2) (fL f1 3) (fL f1 4)) = T_ref21_All_L1 s0 s1 s3 s5 (V_ref21_All_L1.mk s6 (iL f0 0) (iL f0 1) (fL f0 2) (fL f0 3) (fL f0 4) (fL f0 5) (fL f0 6) (fL f0 7) (fL f0 8) (fL f0 9) (fL f0 10) (fL f0 11) (iL f0 12) (fL f0 13) (fL f1 0) (fL f1 1) (fL f1 2) (fL f1 3) (fL f1 4)) (fun i => mkN [Ck.i .i64, Ck.i .i64, Ck.f, Ck.f, Ck.f, Ck.f, Ck.f, Ck.f, Ck.f, Ck.f, Ck.f, Ck.f, Ck.i .i64, Ck.f] (f0 i) 0) (fun i => mkN [Ck.f, Ck.f, Ck.f, Ck.f, Ck.f] (f1 i) 0) by kernel_rfl) ?_
    rw [n0, n1]
    kernel_rfl
structure V_ref21_All_L2 where
  v0 : Int
  v1 : (Nat → Int)
  v2 : (Nat → Int)
  v3 : (Nat → Nat)
  v4 : (Nat → Nat)
  v5 : (Nat → Nat)
  v6 : (Nat → Nat)
  v7 : (Nat → Nat)
  v8 : (Nat → Nat)
  v9 : (Nat → Nat)
  v10 : (Nat → Nat)
  v11 : (Nat → Nat)
  v12 : (Nat → Nat)
  v13 : (Nat → Int)
  v14 : (Nat → Nat)
  v15 : (Nat → Nat)
  v16 : (Nat → Nat)
  v17 : (Nat → Nat)
  v18 : (Nat → Nat)
  v19 : (Nat → Nat)
def tpl_ref21_All_L2 : List AV := (AV.top :: AV.top :: AV.nul :: tpA 7 (AV.nul :: AV.nul :: AV.top :: AV.top :: AV.top :: AV.top :: AV.nul :: tpA 167 ([])))
def cts_ref21_All_L2 : List CT := [CT.keep, CT.keep]
def phs_ref21_All_L2 : List Src := []
def T_ref21_All_L2 (ab : Int) (Y ac : Nat) (x : V_ref21_All_L2) (F0 F1 : Nat → List AV) : List AV × Heap := ((AV.top :: AV.top :: AV.int .i64 ab :: tpA 7 (AV.lst 0 0 14 Y Y :: AV.lst 1 0 5 ac ac :: AV.top :: AV.top :: AV.top :: AV.top :: AV.int .i64 x.v0 :: tpA 167 ([]))), [⟨.sym Y 14 F0, 56, 0⟩, ⟨.sym ac 5 F1, 50, 0⟩])
def sh_ref21_All_L2 (ab : Int) (Y ac : Nat) (x : V_ref21_All_L2) : List AV × Heap := T_ref21_All_L2 ab Y ac x (fun j0 => [AV.int .i64 (x.v1 j0), AV.int .i64 (x.v2 j0), AV.float (x.v3 j0), AV.float (x.v4 j0), AV.float (x.v5 j0), AV.float (x.v6 j0), AV.float (x.v7 j0), AV.float (x.v8 j0), AV.float (x.v9 j0), AV.float (x.v10 j0), AV.float (x.v11 j0), AV.float (x.v12 j0), AV.int .i64 (x.v13 j0), AV.float (x.v14 j0)]) (fun j0 => [AV.float (x.v15 j0), AV.float (x.v16 j0), AV.float (x.v17 j0), AV.float (x.v18 j0), AV.float (x.v19 j0)])
def step_ref21_All_L2 (ab : Int) (Y ac : Nat) (x : V_ref21_All_L2) : V_ref21_All_L2 := V_ref21_All_L2.mk (IntKind.wrap .i64 (x.v0 + (1 : Int))) ((L_ref21_All_L1 Y ac (V_ref21_All_L1.mk (0 : Int) x.v1 x.v2 x.v3 x.v4 x.v5 x.v6 x.v7 x.v8 x.v9 x.v10 x.v11 x.v12 x.v13 x.v14 x.v15 x.v16 x.v17 x.v18 x.v19)).v1) ((L_ref21_All_L1 Y ac (V_ref21_All_L1.mk (0 : Int) x.v1 x.v2 x.v3 x.v4 x.v5 x.v6 x.v7 x.v8 x.v9 x.v10 x.v11 x.v12 x.v13 x.v14 x.v15 x.v16 x.v17 x.v18 x.v19)).v2) ((L_ref21_All_L1 Y ac (V_ref21_All_L1.mk (0 : Int) x.v1 x.v2 x.v3 x.v4 x.v5 x.v6 x.v7 x.v8 x.v9 x.v10 x.v11 x.v12 x.v13 x.v14 x.v15 x.v16 x.v17 x.v18 x.v19)).v3) ((L_ref21_All_L1 Y ac (V_ref21_All_L1.mk (0 : Int) x.v1 x.v2 x.v3 x.v4 x.v5 x.v6 x.v7 x.v8 x.v9 x.v10 x.v11 x.v12 x.v13 x.v14 x.v15 x.v16 x.v17 x.v18 x.v19)).v4) ((L_ref21_All_L1 Y ac (V_ref21_All_L1.mk (0 : Int) x.v1 x.v2 x.v3 x.v4 x.v5 x.v6 x.v7 x.v8 x.v9 x.v10 x.v11 x.v12 x.v13 x.v14 x.v15 x.v16 x.v17 x.v18 x.v19)).v5) ((L_ref21_All_L1 Y ac (V_ref21_All_L1.mk (0 : Int) x.v1 x.v2 x.v3 x.v4 x.v5 x.v6 x.v7 x.v8 x.v9 x.v10 x.v11 x.v12 x.v13 x.v14 x.v15 x.v16 x.v17 x.v18 x.v19)).v6) ((L_ref21_All_L1 Y ac (V_ref21_All_L1.mk (0 : Int) x.v1 x.v2 x.v3 x.v4 x.v5 x.v6 x.v7 x.v8 x.v9 x.v10 x.v11 x.v12 x.v13 x.v14 x.v15 x.v16 x.v17 x.v18 x.v19)).v7) ((L_ref21_All_L1 Y ac (V_ref21_All_L1.mk (0 : Int) x.v1 x.v2 x.v3 x.v4 x.v5 x.v6 x.v7 x.v8 x.v9 x.v10 x.v11 x.v12 x.v13 x.v14 x.v15 x.v16 x.v17 x.v18 x.v19)).v8) ((L_ref21_All_L1 Y ac (V_ref21_All_L1.mk (0 : Int) x.v1 x.v2 x.v3 x.v4 x.v5 x.v6 x.v7 x.v8 x.v9 x.v10 x.v11 x.v12 x.v13 x.v14 x.v15 x.v16 x.v17 x.v18 x.v19)).v9) ((L_ref21_All_L1 Y ac (V_ref21_All_L1.mk (0 : Int) x.v1 x.v2 x.v3 x.v4 x.v5 x.v6 x.v7 x.v8 x.v9 x.v10 x.v11 x.v12 x.v13 x.v14 x.v15 x.v16 x.v17 x.v18 x.v19)).v10) ((L_ref21_All_L1 Y ac (V_ref21_All_L1.mk (0 : Int) x.v1 x.v2 x.v3 x.v4 x.v5 x.v6 x.v7 x.v8 x.v9 x.v10 x.v11 x.v12 x.v13 x.v14 x.v15 x.v16 x.v17 x.v18 x.v19)).v11) ((L_ref21_All_L1 Y ac (V_ref21_All_L1.mk (0 : Int) x.v1 x.v2 x.v3 x.v4 x.v5 x.v6 x.v7 x.v8 x.v9 x.v10 x.v11 x.v12 x.v13 x.v14 x.v15 x.v16 x.v17 x.v18 x.v19)).v12) ((L_ref21_All_L1 Y ac (V_ref21_All_L1.mk (0 : Int) x.v1 x.v2 x.v3 x.v4 x.v5 x.v6 x.v7 x.v8 x.v9 x.v10 x.v11 x.v12 x.v13 x.v14 x.v15 x.v16 x.v17 x.v18 x.v19)).v13) ((L_ref21_All_L1 Y ac (V_ref21_All_L1.mk (0 : Int) x.v1 x.v2 x.v3 x.v4 x.v5 x.v6 x.v7 x.v8 x.v9 x.v10 x.v11 x.v12 x.v13 x.v14 x.v15 x.v16 x.v17 x.v18 x.v19)).v14) ((L_ref21_All_L1 Y ac (V_ref21_All_L1.mk (0 : Int) x.v1 x.v2 x.v3 x.v4 x.v5 x.v6 x.v7 x.v8 x.v9 x.v10 x.v11 x.v12 x.v13 x.v14 x.v15 x.v16 x.v17 x.v18 x.v19)).v15) ((L_ref21_All_L1 Y ac (V_ref21_All_L1.mk (0 : Int) x.v1 x.v2 x.v3 x.v4 x.v5 x.v6 x.v7 x.v8 x.v9 x.v10 x.v11 x.v12 x.v13 x.v14 x.v15 x.v16 x.v17 x.v18 x.v19)).v16) ((L_ref21_All_L1 Y ac (V_ref21_All_L1.mk (0 : Int) x.v1 x.v2 x.v3 x.v4 x.v5 x.v6 x.v7 x.v8 x.v9 x.v10 x.v11 x.v12 x.v13 x.v14 x.v15 x.v16 x.v17 x.v18 x.v19)).v17) ((L_ref21_All_L1 Y ac (V_ref21_All_L1.mk (0 : Int) x.v1 x.v2 x.v3 x.v4 x.v5 x.v6 x.v7 x.v8 x.v9 x.v10 x.v11 x.v12 x.v13 x.v14 x.v15 x.v16 x.v17 x.v18 x.v19)).v18) ((L_ref21_All_L1 Y ac (V_ref21_All_L1.mk (0 : Int) x.v1 x.v2 x.v3 x.v4 x.v5 x.v6 x.v7 x.v8 x.v9 x.v10 x.v11 x.v12 x.v13 x.v14 x.v15 x.v16 x.v17 x.v18 x.v19)).v19)
def go_ref21_All_L2 (ab : Int) (Y ac : Nat) (x : V_ref21_All_L2) : Bool := (bif (!(ilt x.v0 ab)) then false else true)
def ok_ref21_All_L2 (ab : Int) (Y ac : Nat) (x : V_ref21_All_L2) : Bool := (mrgB (!(ilt x.v0 ab)) true (((((((allB fun _ => true) && (allB fun _ => true)) && (eqT Y Y)) && (eqT ac ac)) && (eqT Y Y)) && (eqT ac ac)) && (E_ref21_All_L1 Y ac (V_ref21_All_L1.mk (0 : Int) x.v1 x.v2 x.v3 x.v4 x.v5 x.v6 x.v7 x.v8 x.v9 x.v10 x.v11 x.v12 x.v13 x.v14 x.v15 x.v16 x.v17 x.v18 x.v19))))
def L_ref21_All_L2 (ab : Int) (Y ac : Nat) (x : V_ref21_All_L2) : V_ref21_All_L2 := lastL (ok_ref21_All_L2 ab Y ac) (go_ref21_All_L2 ab Y ac) (step_ref21_All_L2 ab Y ac) x
def E_ref21_All_L2 (ab : Int) (Y ac : Nat) (x : V_ref21_All_L2) : Bool := endsL (ok_ref21_All_L2 ab Y ac) (go_ref21_All_L2 ab Y ac) (step_ref21_All_L2 ab Y ac) x
theorem all_ref21_All_L2 (ab : Int) (Y ac : Nat) (x : V_ref21_All_L2) : rnd Try.prog false menv97 [] [] 96 (Ann.two Ann.no (Ann.two (Ann.one (Ann.two Ann.no (Ann.one (Ann.loop F_ref21_All_L1)))) Ann.no)) (subC [1, 1, 1, 1, 1, 1, 1, 1, 1, 0, 1, 0, 0] (codeOf Try.f13)) 0 [⟨some 0, 0, 0, []⟩, ⟨some 1, 0, 0, []⟩] tpl_ref21_All_L2 cts_ref21_All_L2 (true :: true :: false :: tpB 7 (false :: false :: tpB 172 ([]))) [true, true] (sh_ref21_All_L2 ab Y ac x) = (true, true, go_ref21_All_L2 ab Y ac x, ok_ref21_All_L2 ab Y ac x, true, sh_ref21_All_L2 ab Y ac (step_ref21_All_L2 ab Y ac x), true) := by kernel_rfl
def fam_ref21_All_L2 (ab : Int) (Y ac : Nat) : Fam Try.prog false menv97 [] [] 96 0 (Ann.two Ann.no (Ann.two (Ann.one (Ann.two Ann.no (Ann.one (Ann.loop F_ref21_All_L1)))) Ann.no)) (subC [1, 1, 1, 1, 1, 1, 1, 1, 1, 0, 1, 0, 0] (codeOf Try.f13)) V_ref21_All_L2 where
  sh := sh_ref21_All_L2 ab Y ac
  ok := ok_ref21_All_L2 ab Y ac
  go := go_ref21_All_L2 ab Y ac
  step := step_ref21_All_L2 ab Y ac
  chg := (true :: true :: false :: tpB 7 (false :: false :: tpB 172 ([])))
  chgH := [true, true]
  tpl := tpl_ref21_All_L2
  cts := cts_ref21_All_L2
  keep := 0
  srcs := [⟨some 0, 0, 0, []⟩, ⟨some 1, 0, 0, []⟩]
  ann := (annSeq (a := (subC [1, 1, 1, 1, 1, 1, 1, 1, 1, 0, 1, 0, 0, 0] (codeOf Try.f13))) (b := (subC [1, 1, 1, 1, 1, 1, 1, 1, 1, 0, 1, 0, 0, 1] (codeOf Try.f13))) (by kernel_rfl) (annNo (subC [1, 1, 1, 1, 1, 1, 1, 1, 1, 0, 1, 0, 0, 0] (codeOf Try.f13))) (annSeq (a := (subC [1, 1, 1, 1, 1, 1, 1, 1, 1, 0, 1, 0, 0, 1, 0] (codeOf Try.f13))) (b := (subC [1, 1, 1, 1, 1, 1, 1, 1, 1, 0, 1, 0, 0, 1, 1] (codeOf Try.f13))) (by kernel_rfl) (annBlock (a := (subC [1, 1, 1, 1, 1, 1, 1, 1, 1, 0, 1, 0, 0, 1, 0, 0] (codeOf Try.f13))) (i := 3) (by kernel_rfl) (annSeq (a := (subC [1, 1, 1, 1, 1, 1, 1, 1, 1, 0, 1, 0, 0, 1, 0, 0, 0] (codeOf Try.f13))) (b := (subC [1, 1, 1, 1, 1, 1, 1, 1, 1, 0, 1, 0, 0, 1, 0, 0, 1] (codeOf Try.f13))) (by kernel_rfl) (annNo (subC [1, 1, 1, 1, 1, 1, 1, 1, 1, 0, 1, 0, 0, 1, 0, 0, 0] (codeOf Try.f13))) (annBlock (a := (subC [1, 1, 1, 1, 1, 1, 1, 1, 1, 0, 1, 0, 0, 1, 0, 0, 1, 0] (codeOf Try.f13))) (i := 4) (by kernel_rfl) (annLoop (a := (subC [1, 1, 1, 1, 1, 1, 1, 1, 1, 0, 1, 0, 0, 1, 0, 0, 1, 0, 0] (codeOf Try.f13))) (by kernel_rfl) F_ref21_All_L1_ok)))) (annNo (subC [1, 1, 1, 1, 1, 1, 1, 1, 1, 0, 1, 0, 0, 1, 1] (codeOf Try.f13)))))
  le := by kernel_rfl
  kept := by kernel_rfl
  keptB := by kernel_rfl
  all := all_ref21_All_L2 ab Y ac
  len := fun x => by kernel_rfl
  head := fun x y => by kernel_rfl
  con := fun x y => by kernel_rfl
  conH := fun x y => by kernel_rfl
def F_ref21_All_L2 : St → Option Ch := fun s => cond (Nat.beq s.tm.length 184 && Nat.beq s.H.length 2) (tkTops 2 (alL tpl_ref21_All_L2 s.tm) fun t0 => tkCons t0 fun e t1 => tkI .i64 e fun s0 => tkTops 7 t1 fun t2 => tkCons t2 fun m t3 => tkLst 0 0 14 m fun s1 s2 => tkCons t3 fun p t4 => tkLst 1 0 5 p fun s3 s4 => tkTops 4 t4 fun t5 => tkCons t5 fun C t6 => tkI .i64 C fun s5 => tkTops 167 t6 fun t7 => tkNil t7 <| tkCons (alH cts_ref21_All_L2 (s.H ++ List.map phan phs_ref21_All_L2)) fun b8 t8 => tkSym 56 0 14 b8 fun s6 f0 => tkCons t8 fun b9 t9 => tkSym 50 0 5 b9 fun s21 f1 => tkNil t9 <| Fam.out (fam_ref21_All_L2 s0 s1 s3) s ((((((allB fun i => isNrm [Ck.i .i64, Ck.i .i64, Ck.f, Ck.f, Ck.f, Ck.f, Ck.f, Ck.f, Ck.f, Ck.f, Ck.f, Ck.f, Ck.i .i64, Ck.f] (f0 i)) && (allB fun i => isNrm [Ck.f, Ck.f, Ck.f, Ck.f, Ck.f] (f1 i))) && (eqT s2 s1)) && (eqT s4 s3)) && (eqT s6 s1)) && (eqT s21 s3)) (V_ref21_All_L2.mk s5 (iL f0 0) (iL f0 1) (fL f0 2) (fL f0 3) (fL f0 4) (fL f0 5) (fL f0 6) (fL f0 7) (fL f0 8) (fL f0 9) (fL f0 10) (fL f0 11) (iL f0 12) (fL f0 13) (fL f1 0) (fL f1 1) (fL f1 2) (fL f1 3) (fL f1 4))) none
theorem F_ref21_All_L2_ok : ∀ s ch, F_ref21_All_L2 s = some ch → AllI s ch ∧ LoopSpec Try.prog false 0 (subC [1, 1, 1, 1, 1, 1, 1, 1, 1, 0, 1, 0, 0] (codeOf Try.f13)) s (sel ch) := by
  intro s ch h
  unfold F_ref21_All_L2 at h
  obtain ⟨hl, h0⟩ := cond_some h rfl
  clear h
  obtain ⟨hl, hb⟩ := and_beq2 hl
  obtain ⟨t0, e0, h1⟩ := tkTops_some h0
  obtain ⟨e, t1, rfl, h2⟩ := tkCons_some h1
  obtain ⟨s0, rfl, h3⟩ := tkI_some h2
  obtain ⟨t2, rfl, h4⟩ := tkTops_some h3
  obtain ⟨m, t3, rfl, h5⟩ := tkCons_some h4
  obtain ⟨s1, s2, rfl, h6⟩ := tkLst_some h5
  obtain ⟨p, t4, rfl, h7⟩ := tkCons_some h6
  obtain ⟨s3, s4, rfl, h8⟩ := tkLst_some h7
  obtain ⟨t5, rfl, h9⟩ := tkTops_some h8
  obtain ⟨C, t6, rfl, h10⟩ := tkCons_some h9
  obtain ⟨s5, rfl, h11⟩ := tkI_some h10
  obtain ⟨t7, rfl, h12⟩ := tkTops_some h11
  obtain ⟨rfl, h13⟩ := tkNil_some h12
  obtain ⟨b8, t8, eH, h14⟩ := tkCons_some h13
  obtain ⟨s6, f0, rfl, h15⟩ := tkSym_some h14
  obtain ⟨b9, t9, rfl, h16⟩ := tkCons_some h15
  obtain ⟨s21, f1, rfl, h17⟩ := tkSym_some h16
  obtain ⟨rfl, h18⟩ := tkNil_some h17
  refine Fam.spec menv97_ok (fam_ref21_All_L2 s0 s1 s3) (phs := phs_ref21_All_L2) (hl.trans (by kernel_rfl)) (hb.trans (by kernel_rfl)) ?_ ?_ h18
  · rw [← hdr_alH cts_ref21_All_L2 (s.H ++ List.map phan phs_ref21_All_L2), eH]; kernel_rfl
  · intro hq
    simp only [Bool.and_eq_true] at hq
    obtain ⟨⟨⟨⟨⟨hq0, hq1⟩, hq2⟩, hq3⟩, hq4⟩, hq5⟩ := hq
    have n0 := nrm_fun hq0
    have n1 := nrm_fun hq1
    have hx := eqT_eq hq2; subst s2
    have hx := eqT_eq hq3; subst s4
    have hx := eqT_eq hq4; subst s6
    have hx := eqT_eq hq5; subst s21
    show sh_ref21_All_L2 s0 s1 s3 (V_ref21_All_L2.mk s5 (iL f0 0) (iL f0 1) (fL f0 2) (fL f0 3) (fL f0 4) (fL f0 5) (fL f0 6) (fL f0 7) (fL f0 8) (fL f0 9) (fL f0 10) (fL f0 11) (iL f0 12) (fL f0 13) (fL f1 0) (fL f1 1) (fL f1 2) (fL f1 3) (fL f1 4)) = (alL tpl_ref21_All_L2 s.tm, alH cts_ref21_All_L2 (s.H ++ List.map phan phs_ref21_All_L2))
    rw [e0, eH]
    refine Eq.trans (show sh_ref21_All_L2 s0 s1 s3 (V_ref21_All_L2.mk s5 (iL f0 0) (iL f0 1) (fL f0 2) (fL f0 3) (fL f0 4) (fL f0 5) (fL f0 6) (fL f0 7) (fL f0 8) (fL f0 9) (fL f0 10) (fL f0 11) (iL f0 12) (fL f0 13) (fL f1 0) (fL f1 1) (fL f1 2) (fL f1 3) (fL f1 4)) = T_ref21_All_L2 s0 s1 s3 (V_ref21_All_L2.mk s5 (iL f0 0) (iL f0 1) (fL f0 2) (fL f0 3) (fL f0 4) (fL f0 5) (fL f0 6) (fL f0 7) (fL f0 8) (fL f0 9) (fL f0 10) (fL f0 11) (iL f0 12) (fL f0 13) (fL f1 0) (fL f1 1) (fL f1 2) (fL f1 3) (fL f1 4)) (fun i => mkN [Ck.i .i64, Ck.i .i64, Ck.f, Ck.f, Ck.f, Ck.f, Ck.f, Ck.f, Ck.f, Ck.f, Ck.f, Ck.f, Ck.i .i64, Ck.f] (f0 i) 0) (fun i => mkN [Ck.f, Ck.f, Ck.f, Ck.f, Ck.f] (f1 i) 0) by kernel_rfl) ?_
    rw [n0, n1]
    kernel_rfl
theorem ann_ref21_All : FnOk Try.prog false 0 Try.f13 (Ann.two Ann.no (Ann.two Ann.no (Ann.two Ann.no (Ann.two Ann.no (Ann.two Ann.no (Ann.two Ann.no (Ann.two Ann.no (Ann.two Ann.no (Ann.two (Ann.two Ann.no (Ann.one (Ann.loop F_ref21_All_L0))) (Ann.two (Ann.two Ann.no (Ann.one (Ann.loop F_ref21_All_L2))) Ann.no)))))))))) := (fnOk_of (c := codeOf Try.f13) (by kernel_rfl) (annSeq (a := (subC [0] (codeOf Try.f13))) (b := (subC [1] (codeOf Try.f13))) (by kernel_rfl) (annNo (subC [0] (codeOf Try.f13))) (annSeq (a := (subC [1, 0] (codeOf Try.f13))) (b := (subC [1, 1] (codeOf Try.f13))) (by kernel_rfl) (annNo (subC [1, 0] (codeOf Try.f13))) (annSeq (a := (subC [1, 1, 0] (codeOf Try.f13))) (b := (subC [1, 1, 1] (codeOf Try.f13))) (by kernel_rfl) (annNo (subC [1, 1, 0] (codeOf Try.f13))) (annSeq (a := (subC [1, 1, 1, 0] (codeOf Try.f13))) (b := (subC [1, 1, 1, 1] (codeOf Try.f13))) (by kernel_rfl) (annNo (subC [1, 1, 1, 0] (codeOf Try.f13))) (annSeq (a := (subC [1, 1, 1, 1, 0] (codeOf Try.f13))) (b := (subC [1, 1, 1, 1, 1] (codeOf Try.f13))) (by kernel_rfl) (annNo (subC [1, 1, 1, 1, 0] (codeOf Try.f13))) (annSeq (a := (subC [1, 1, 1, 1, 1, 0] (codeOf Try.f13))) (b := (subC [1, 1, 1, 1, 1, 1] (codeOf Try.f13))) (by kernel_rfl) (annNo (subC [1, 1, 1, 1, 1, 0] (codeOf Try.f13))) (annSeq (a := (subC [1, 1, 1, 1, 1, 1, 0] (codeOf Try.f13))) (b := (subC [1, 1, 1, 1, 1, 1, 1] (codeOf Try.f13))) (by kernel_rfl) (annNo (subC [1, 1, 1, 1, 1, 1, 0] (codeOf Try.f13))) (annSeq (a := (subC [1, 1, 1, 1, 1, 1, 1, 0] (codeOf Try.f13))) (b := (subC [1, 1, 1, 1, 1, 1, 1, 1] (codeOf Try.f13))) (by kernel_rfl) (annNo (subC [1, 1, 1, 1, 1, 1, 1, 0] (codeOf Try.f13))) (annSeq (a := (subC [1, 1, 1, 1, 1, 1, 1, 1, 0] (codeOf Try.f13))) (b := (subC [1, 1, 1, 1, 1, 1, 1, 1, 1] (codeOf Try.f13))) (by kernel_rfl) (annSeq (a := (subC [1, 1, 1, 1, 1, 1, 1, 1, 0, 0] (codeOf Try.f13))) (b := (subC [1, 1, 1, 1, 1, 1, 1, 1, 0, 1] (codeOf Try.f13))) (by kernel_rfl) (annNo (subC [1, 1, 1, 1, 1, 1, 1, 1, 0, 0] (codeOf Try.f13))) (annBlock (a := (subC [1, 1, 1, 1, 1, 1, 1, 1, 0, 1, 0] (codeOf Try.f13))) (i := 0) (by kernel_rfl) (annLoop (a := (subC [1, 1, 1, 1, 1, 1, 1, 1, 0, 1, 0, 0] (codeOf Try.f13))) (by kernel_rfl) F_ref21_All_L0_ok))) (annSeq (a := (subC [1, 1, 1, 1, 1, 1, 1, 1, 1, 0] (codeOf Try.f13))) (b := (subC [1, 1, 1, 1, 1, 1, 1, 1, 1, 1] (codeOf Try.f13))) (by kernel_rfl) (annSeq (a := (subC [1, 1, 1, 1, 1, 1, 1, 1, 1, 0, 0] (codeOf Try.f13))) (b := (subC [1, 1, 1, 1, 1, 1, 1, 1, 1, 0, 1] (codeOf Try.f13))) (by kernel_rfl) (annNo (subC [1, 1, 1, 1, 1, 1, 1, 1, 1, 0, 0] (codeOf Try.f13))) (annBlock (a := (subC [1, 1, 1, 1, 1, 1, 1, 1, 1, 0, 1, 0] (codeOf Try.f13))) (i := 2) (by kernel_rfl) (annLoop (a := (subC [1, 1, 1, 1, 1, 1, 1, 1, 1, 0, 1, 0, 0] (codeOf Try.f13))) (by kernel_rfl) F_ref21_All_L2_ok))) (annNo (subC [1, 1, 1, 1, 1, 1, 1, 1, 1, 1] (codeOf Try.f13))))))))))))))
def s_ref21_All_0 (l : Nat) (aa ad : Nat → Int) (ae af ag ah ai aj ak al am an : Nat → Nat) (ao : Nat → Int) (ap : Nat → Nat) (X : Nat) (au aw ax ay az : Nat → Nat) (k : Int) : Nat := (csame (!(ieq (s_ref21_Asked_0 l aa ad ae af ag ah ai aj ak al am an ao ap X au aw ax ay az) (0 : Int))) 0 (csame ((ilt k (0 : Int)) || (ilt (64 : Int) k)) 0 l))
def s_ref21_All_1 (l : Nat) (aa ad : Nat → Int) (ae af ag ah ai aj ak al am an : Nat → Nat) (ao : Nat → Int) (ap : Nat → Nat) (X : Nat) (au aw ax ay az : Nat → Nat) (k : Int) : Nat := (csame (!(ieq (s_ref21_Asked_0 l aa ad ae af ag ah ai aj ak al am an ao ap X au aw ax ay az) (0 : Int))) 0 (csame ((ilt k (0 : Int)) || (ilt (64 : Int) k)) 0 l))
def s_ref21_All_2 (l : Nat) (aa ad : Nat → Int) (ae af ag ah ai aj ak al am an : Nat → Nat) (ao : Nat → Int) (ap : Nat → Nat) (X : Nat) (au aw ax ay az : Nat → Nat) (k : Int) : Nat := (csame (!(ieq (s_ref21_Asked_0 l aa ad ae af ag ah ai aj ak al am an ao ap X au aw ax ay az) (0 : Int))) 0 (csame ((ilt k (0 : Int)) || (ilt (64 : Int) k)) 0 X))
def s_ref21_All_3 (l : Nat) (aa ad : Nat → Int) (ae af ag ah ai aj ak al am an : Nat → Nat) (ao : Nat → Int) (ap : Nat → Nat) (X : Nat) (au aw ax ay az : Nat → Nat) (k : Int) : Nat := (csame (!(ieq (s_ref21_Asked_0 l aa ad ae af ag ah ai aj ak al am an ao ap X au aw ax ay az) (0 : Int))) 0 (csame ((ilt k (0 : Int)) || (ilt (64 : Int) k)) 0 X))
def s_ref21_All_4 (l : Nat) (aa ad : Nat → Int) (ae af ag ah ai aj ak al am an : Nat → Nat) (ao : Nat → Int) (ap : Nat → Nat) (X : Nat) (au aw ax ay az : Nat → Nat) (k : Int) : Int := (bif (!(ieq (s_ref21_Asked_0 l aa ad ae af ag ah ai aj ak al am an ao ap X au aw ax ay az) (0 : Int))) then (s_ref21_Asked_0 l aa ad ae af ag ah ai aj ak al am an ao ap X au aw ax ay az) else (bif ((ilt k (0 : Int)) || (ilt (64 : Int) k)) then (210 : Int) else (0 : Int)))
def s_ref21_All_5 (l : Nat) (aa ad : Nat → Int) (ae af ag ah ai aj ak al am an : Nat → Nat) (ao : Nat → Int) (ap : Nat → Nat) (X : Nat) (au aw ax ay az : Nat → Nat) (k : Int) : Nat := l
def s_ref21_All_6 (l : Nat) (aa ad : Nat → Int) (ae af ag ah ai aj ak al am an : Nat → Nat) (ao : Nat → Int) (ap : Nat → Nat) (X : Nat) (au aw ax ay az : Nat → Nat) (k : Int) : (Nat → Int) := let x0 : V_ref21_All_L0 := (L_ref21_All_L0 l X aa ad ae af ag ah ai aj ak al am an ao ap (V_ref21_All_L0.mk (0 : Int) au aw ax ay az)); ((L_ref21_All_L2 k l X (V_ref21_All_L2.mk (0 : Int) aa ad ae af ag ah ai aj ak al am an ao ap (x0.v1) (x0.v2) (x0.v3) (x0.v4) (x0.v5))).v1)
def s_ref21_All_7 (l : Nat) (aa ad : Nat → Int) (ae af ag ah ai aj ak al am an : Nat → Nat) (ao : Nat → Int) (ap : Nat → Nat) (X : Nat) (au aw ax ay az : Nat → Nat) (k : Int) : (Nat → Int) := let x0 : V_ref21_All_L0 := (L_ref21_All_L0 l X aa ad ae af ag ah ai aj ak al am an ao ap (V_ref21_All_L0.mk (0 : Int) au aw ax ay az)); ((L_ref21_All_L2 k l X (V_ref21_All_L2.mk (0 : Int) aa ad ae af ag ah ai aj ak al am an ao ap (x0.v1) (x0.v2) (x0.v3) (x0.v4) (x0.v5))).v2)
def s_ref21_All_8 (l : Nat) (aa ad : Nat → Int) (ae af ag ah ai aj ak al am an : Nat → Nat) (ao : Nat → Int) (ap : Nat → Nat) (X : Nat) (au aw ax ay az : Nat → Nat) (k : Int) : (Nat → Nat) := let x0 : V_ref21_All_L0 := (L_ref21_All_L0 l X aa ad ae af ag ah ai aj ak al am an ao ap (V_ref21_All_L0.mk (0 : Int) au aw ax ay az)); ((L_ref21_All_L2 k l X (V_ref21_All_L2.mk (0 : Int) aa ad ae af ag ah ai aj ak al am an ao ap (x0.v1) (x0.v2) (x0.v3) (x0.v4) (x0.v5))).v3)
def s_ref21_All_9 (l : Nat) (aa ad : Nat → Int) (ae af ag ah ai aj ak al am an : Nat → Nat) (ao : Nat → Int) (ap : Nat → Nat) (X : Nat) (au aw ax ay az : Nat → Nat) (k : Int) : (Nat → Nat) := let x0 : V_ref21_All_L0 := (L_ref21_All_L0 l X aa ad ae af ag ah ai aj ak al am an ao ap (V_ref21_All_L0.mk (0 : Int) au aw ax ay az)); ((L_ref21_All_L2 k l X (V_ref21_All_L2.mk (0 : Int) aa ad ae af ag ah ai aj ak al am an ao ap (x0.v1) (x0.v2) (x0.v3) (x0.v4) (x0.v5))).v4)
def s_ref21_All_10 (l : Nat) (aa ad : Nat → Int) (ae af ag ah ai aj ak al am an : Nat → Nat) (ao : Nat → Int) (ap : Nat → Nat) (X : Nat) (au aw ax ay az : Nat → Nat) (k : Int) : (Nat → Nat) := let x0 : V_ref21_All_L0 := (L_ref21_All_L0 l X aa ad ae af ag ah ai aj ak al am an ao ap (V_ref21_All_L0.mk (0 : Int) au aw ax ay az)); ((L_ref21_All_L2 k l X (V_ref21_All_L2.mk (0 : Int) aa ad ae af ag ah ai aj ak al am an ao ap (x0.v1) (x0.v2) (x0.v3) (x0.v4) (x0.v5))).v5)
def s_ref21_All_11 (l : Nat) (aa ad : Nat → Int) (ae af ag ah ai aj ak al am an : Nat → Nat) (ao : Nat → Int) (ap : Nat → Nat) (X : Nat) (au aw ax ay az : Nat → Nat) (k : Int) : (Nat → Nat) := let x0 : V_ref21_All_L0 := (L_ref21_All_L0 l X aa ad ae af ag ah ai aj ak al am an ao ap (V_ref21_All_L0.mk (0 : Int) au aw ax ay az)); ((L_ref21_All_L2 k l X (V_ref21_All_L2.mk (0 : Int) aa ad ae af ag ah ai aj ak al am an ao ap (x0.v1) (x0.v2) (x0.v3) (x0.v4) (x0.v5))).v6)
def s_ref21_All_12 (l : Nat) (aa ad : Nat → Int) (ae af ag ah ai aj ak al am an : Nat → Nat) (ao : Nat → Int) (ap : Nat → Nat) (X : Nat) (au aw ax ay az : Nat → Nat) (k : Int) : (Nat → Nat) := let x0 : V_ref21_All_L0 := (L_ref21_All_L0 l X aa ad ae af ag ah ai aj ak al am an ao ap (V_ref21_All_L0.mk (0 : Int) au aw ax ay az)); ((L_ref21_All_L2 k l X (V_ref21_All_L2.mk (0 : Int) aa ad ae af ag ah ai aj ak al am an ao ap (x0.v1) (x0.v2) (x0.v3) (x0.v4) (x0.v5))).v7)
def s_ref21_All_13 (l : Nat) (aa ad : Nat → Int) (ae af ag ah ai aj ak al am an : Nat → Nat) (ao : Nat → Int) (ap : Nat → Nat) (X : Nat) (au aw ax ay az : Nat → Nat) (k : Int) : (Nat → Nat) := let x0 : V_ref21_All_L0 := (L_ref21_All_L0 l X aa ad ae af ag ah ai aj ak al am an ao ap (V_ref21_All_L0.mk (0 : Int) au aw ax ay az)); ((L_ref21_All_L2 k l X (V_ref21_All_L2.mk (0 : Int) aa ad ae af ag ah ai aj ak al am an ao ap (x0.v1) (x0.v2) (x0.v3) (x0.v4) (x0.v5))).v8)
def s_ref21_All_14 (l : Nat) (aa ad : Nat → Int) (ae af ag ah ai aj ak al am an : Nat → Nat) (ao : Nat → Int) (ap : Nat → Nat) (X : Nat) (au aw ax ay az : Nat → Nat) (k : Int) : (Nat → Nat) := let x0 : V_ref21_All_L0 := (L_ref21_All_L0 l X aa ad ae af ag ah ai aj ak al am an ao ap (V_ref21_All_L0.mk (0 : Int) au aw ax ay az)); ((L_ref21_All_L2 k l X (V_ref21_All_L2.mk (0 : Int) aa ad ae af ag ah ai aj ak al am an ao ap (x0.v1) (x0.v2) (x0.v3) (x0.v4) (x0.v5))).v9)
def s_ref21_All_15 (l : Nat) (aa ad : Nat → Int) (ae af ag ah ai aj ak al am an : Nat → Nat) (ao : Nat → Int) (ap : Nat → Nat) (X : Nat) (au aw ax ay az : Nat → Nat) (k : Int) : (Nat → Nat) := let x0 : V_ref21_All_L0 := (L_ref21_All_L0 l X aa ad ae af ag ah ai aj ak al am an ao ap (V_ref21_All_L0.mk (0 : Int) au aw ax ay az)); ((L_ref21_All_L2 k l X (V_ref21_All_L2.mk (0 : Int) aa ad ae af ag ah ai aj ak al am an ao ap (x0.v1) (x0.v2) (x0.v3) (x0.v4) (x0.v5))).v10)
def s_ref21_All_16 (l : Nat) (aa ad : Nat → Int) (ae af ag ah ai aj ak al am an : Nat → Nat) (ao : Nat → Int) (ap : Nat → Nat) (X : Nat) (au aw ax ay az : Nat → Nat) (k : Int) : (Nat → Nat) := let x0 : V_ref21_All_L0 := (L_ref21_All_L0 l X aa ad ae af ag ah ai aj ak al am an ao ap (V_ref21_All_L0.mk (0 : Int) au aw ax ay az)); ((L_ref21_All_L2 k l X (V_ref21_All_L2.mk (0 : Int) aa ad ae af ag ah ai aj ak al am an ao ap (x0.v1) (x0.v2) (x0.v3) (x0.v4) (x0.v5))).v11)
def s_ref21_All_17 (l : Nat) (aa ad : Nat → Int) (ae af ag ah ai aj ak al am an : Nat → Nat) (ao : Nat → Int) (ap : Nat → Nat) (X : Nat) (au aw ax ay az : Nat → Nat) (k : Int) : (Nat → Nat) := let x0 : V_ref21_All_L0 := (L_ref21_All_L0 l X aa ad ae af ag ah ai aj ak al am an ao ap (V_ref21_All_L0.mk (0 : Int) au aw ax ay az)); ((L_ref21_All_L2 k l X (V_ref21_All_L2.mk (0 : Int) aa ad ae af ag ah ai aj ak al am an ao ap (x0.v1) (x0.v2) (x0.v3) (x0.v4) (x0.v5))).v12)
def s_ref21_All_18 (l : Nat) (aa ad : Nat → Int) (ae af ag ah ai aj ak al am an : Nat → Nat) (ao : Nat → Int) (ap : Nat → Nat) (X : Nat) (au aw ax ay az : Nat → Nat) (k : Int) : (Nat → Int) := let x0 : V_ref21_All_L0 := (L_ref21_All_L0 l X aa ad ae af ag ah ai aj ak al am an ao ap (V_ref21_All_L0.mk (0 : Int) au aw ax ay az)); ((L_ref21_All_L2 k l X (V_ref21_All_L2.mk (0 : Int) aa ad ae af ag ah ai aj ak al am an ao ap (x0.v1) (x0.v2) (x0.v3) (x0.v4) (x0.v5))).v13)
def s_ref21_All_19 (l : Nat) (aa ad : Nat → Int) (ae af ag ah ai aj ak al am an : Nat → Nat) (ao : Nat → Int) (ap : Nat → Nat) (X : Nat) (au aw ax ay az : Nat → Nat) (k : Int) : (Nat → Nat) := let x0 : V_ref21_All_L0 := (L_ref21_All_L0 l X aa ad ae af ag ah ai aj ak al am an ao ap (V_ref21_All_L0.mk (0 : Int) au aw ax ay az)); ((L_ref21_All_L2 k l X (V_ref21_All_L2.mk (0 : Int) aa ad ae af ag ah ai aj ak al am an ao ap (x0.v1) (x0.v2) (x0.v3) (x0.v4) (x0.v5))).v14)
def s_ref21_All_20 (l : Nat) (aa ad : Nat → Int) (ae af ag ah ai aj ak al am an : Nat → Nat) (ao : Nat → Int) (ap : Nat → Nat) (X : Nat) (au aw ax ay az : Nat → Nat) (k : Int) : Nat := X
def s_ref21_All_21 (l : Nat) (aa ad : Nat → Int) (ae af ag ah ai aj ak al am an : Nat → Nat) (ao : Nat → Int) (ap : Nat → Nat) (X : Nat) (au aw ax ay az : Nat → Nat) (k : Int) : (Nat → Nat) := let x0 : V_ref21_All_L0 := (L_ref21_All_L0 l X aa ad ae af ag ah ai aj ak al am an ao ap (V_ref21_All_L0.mk (0 : Int) au aw ax ay az)); ((L_ref21_All_L2 k l X (V_ref21_All_L2.mk (0 : Int) aa ad ae af ag ah ai aj ak al am an ao ap (x0.v1) (x0.v2) (x0.v3) (x0.v4) (x0.v5))).v15)
def s_ref21_All_22 (l : Nat) (aa ad : Nat → Int) (ae af ag ah ai aj ak al am an : Nat → Nat) (ao : Nat → Int) (ap : Nat → Nat) (X : Nat) (au aw ax ay az : Nat → Nat) (k : Int) : (Nat → Nat) := let x0 : V_ref21_All_L0 := (L_ref21_All_L0 l X aa ad ae af ag ah ai aj ak al am an ao ap (V_ref21_All_L0.mk (0 : Int) au aw ax ay az)); ((L_ref21_All_L2 k l X (V_ref21_All_L2.mk (0 : Int) aa ad ae af ag ah ai aj ak al am an ao ap (x0.v1) (x0.v2) (x0.v3) (x0.v4) (x0.v5))).v16)
def s_ref21_All_23 (l : Nat) (aa ad : Nat → Int) (ae af ag ah ai aj ak al am an : Nat → Nat) (ao : Nat → Int) (ap : Nat → Nat) (X : Nat) (au aw ax ay az : Nat → Nat) (k : Int) : (Nat → Nat) := let x0 : V_ref21_All_L0 := (L_ref21_All_L0 l X aa ad ae af ag ah ai aj ak al am an ao ap (V_ref21_All_L0.mk (0 : Int) au aw ax ay az)); ((L_ref21_All_L2 k l X (V_ref21_All_L2.mk (0 : Int) aa ad ae af ag ah ai aj ak al am an ao ap (x0.v1) (x0.v2) (x0.v3) (x0.v4) (x0.v5))).v17)
def s_ref21_All_24 (l : Nat) (aa ad : Nat → Int) (ae af ag ah ai aj ak al am an : Nat → Nat) (ao : Nat → Int) (ap : Nat → Nat) (X : Nat) (au aw ax ay az : Nat → Nat) (k : Int) : (Nat → Nat) := let x0 : V_ref21_All_L0 := (L_ref21_All_L0 l X aa ad ae af ag ah ai aj ak al am an ao ap (V_ref21_All_L0.mk (0 : Int) au aw ax ay az)); ((L_ref21_All_L2 k l X (V_ref21_All_L2.mk (0 : Int) aa ad ae af ag ah ai aj ak al am an ao ap (x0.v1) (x0.v2) (x0.v3) (x0.v4) (x0.v5))).v18)
def s_ref21_All_25 (l : Nat) (aa ad : Nat → Int) (ae af ag ah ai aj ak al am an : Nat → Nat) (ao : Nat → Int) (ap : Nat → Nat) (X : Nat) (au aw ax ay az : Nat → Nat) (k : Int) : (Nat → Nat) := let x0 : V_ref21_All_L0 := (L_ref21_All_L0 l X aa ad ae af ag ah ai aj ak al am an ao ap (V_ref21_All_L0.mk (0 : Int) au aw ax ay az)); ((L_ref21_All_L2 k l X (V_ref21_All_L2.mk (0 : Int) aa ad ae af ag ah ai aj ak al am an ao ap (x0.v1) (x0.v2) (x0.v3) (x0.v4) (x0.v5))).v19)
def q_ref21_All (l : Nat) (aa ad : Nat → Int) (ae af ag ah ai aj ak al am an : Nat → Nat) (ao : Nat → Int) (ap : Nat → Nat) (X : Nat) (au aw ax ay az : Nat → Nat) (k : Int) : Bool := (let x0 : V_ref21_All_L0 := (L_ref21_All_L0 l X aa ad ae af ag ah ai aj ak al am an ao ap (V_ref21_All_L0.mk (0 : Int) au aw ax ay az)); let x1 := (((((allB fun _ => true) && (allB fun _ => true)) && (eqT l l)) && (eqT X X)) && (eqT l l)) && (eqT X X); let x2 := ((allB fun _ => true) && (allB fun _ => true)) && (o_ref21_Asked l aa ad ae af ag ah ai aj ak al am an ao ap X au aw ax ay az); let x3 := mrgB (ilt k (0 : Int)) x2 x2; (mrgB (!(ieq (s_ref21_Asked_0 l aa ad ae af ag ah ai aj ak al am an ao ap X au aw ax ay az) (0 : Int))) x2 (mrgB ((ilt k (0 : Int)) || (ilt (64 : Int) k)) x3 ((((Nat.ble (X * 40) 140737488355328) && ((Nat.ble (l * 112) 140737488355328) && x3)) && (x1 && (E_ref21_All_L0 l X aa ad ae af ag ah ai aj ak al am an ao ap (V_ref21_All_L0.mk (0 : Int) au aw ax ay az)))) && (x1 && (E_ref21_All_L2 k l X (V_ref21_All_L2.mk (0 : Int) aa ad ae af ag ah ai aj ak al am an ao ap (x0.v1) (x0.v2) (x0.v3) (x0.v4) (x0.v5))))))))
def r_ref21_All (l : Nat) (aa ad : Nat → Int) (ae af ag ah ai aj ak al am an : Nat → Nat) (ao : Nat → Int) (ap : Nat → Nat) (X : Nat) (au aw ax ay az : Nat → Nat) (k : Int) : AV × Heap := (AV.tup [AV.lst 0 0 14 (s_ref21_All_0 l aa ad ae af ag ah ai aj ak al am an ao ap X au aw ax ay az k) (s_ref21_All_1 l aa ad ae af ag ah ai aj ak al am an ao ap X au aw ax ay az k), AV.lst 1 0 5 (s_ref21_All_2 l aa ad ae af ag ah ai aj ak al am an ao ap X au aw ax ay az k) (s_ref21_All_3 l aa ad ae af ag ah ai aj ak al am an ao ap X au aw ax ay az k), AV.int .i64 (s_ref21_All_4 l aa ad ae af ag ah ai aj ak al am an ao ap X au aw ax ay az k)], [⟨.sym (s_ref21_All_5 l aa ad ae af ag ah ai aj ak al am an ao ap X au aw ax ay az k) 14 (fun j0 => [AV.int .i64 ((s_ref21_All_6 l aa ad ae af ag ah ai aj ak al am an ao ap X au aw ax ay az k) j0), AV.int .i64 ((s_ref21_All_7 l aa ad ae af ag ah ai aj ak al am an ao ap X au aw ax ay az k) j0), AV.float ((s_ref21_All_8 l aa ad ae af ag ah ai aj ak al am an ao ap X au aw ax ay az k) j0), AV.float ((s_ref21_All_9 l aa ad ae af ag ah ai aj ak al am an ao ap X au aw ax ay az k) j0), AV.float ((s_ref21_All_10 l aa ad ae af ag ah ai aj ak al am an ao ap X au aw ax ay az k) j0), AV.float ((s_ref21_All_11 l aa ad ae af ag ah ai aj ak al am an ao ap X au aw ax ay az k) j0), AV.float ((s_ref21_All_12 l aa ad ae af ag ah ai aj ak al am an ao ap X au aw ax ay az k) j0), AV.float ((s_ref21_All_13 l aa ad ae af ag ah ai aj ak al am an ao ap X au aw ax ay az k) j0), AV.float ((s_ref21_All_14 l aa ad ae af ag ah ai aj ak al am an ao ap X au aw ax ay az k) j0), AV.float ((s_ref21_All_15 l aa ad ae af ag ah ai aj ak al am an ao ap X au aw ax ay az k) j0), AV.float ((s_ref21_All_16 l aa ad ae af ag ah ai aj ak al am an ao ap X au aw ax ay az k) j0), AV.float ((s_ref21_All_17 l aa ad ae af ag ah ai aj ak al am an ao ap X au aw ax ay az k) j0), AV.int .i64 ((s_ref21_All_18 l aa ad ae af ag ah ai aj ak al am an ao ap X au aw ax ay az k) j0), AV.float ((s_ref21_All_19 l aa ad ae af ag ah ai aj ak al am an ao ap X au aw ax ay az k) j0)]), 56, 0⟩, ⟨.sym (s_ref21_All_20 l aa ad ae af ag ah ai aj ak al am an ao ap X au aw ax ay az k) 5 (fun j0 => [AV.float ((s_ref21_All_21 l aa ad ae af ag ah ai aj ak al am an ao ap X au aw ax ay az k) j0), AV.float ((s_ref21_All_22 l aa ad ae af ag ah ai aj ak al am an ao ap X au aw ax ay az k) j0), AV.float ((s_ref21_All_23 l aa ad ae af ag ah ai aj ak al am an ao ap X au aw ax ay az k) j0), AV.float ((s_ref21_All_24 l aa ad ae af ag ah ai aj ak al am an ao ap X au aw ax ay az k) j0), AV.float ((s_ref21_All_25 l aa ad ae af ag ah ai aj ak al am an ao ap X au aw ax ay az k) j0)]), 50, 0⟩])
theorem e_ref21_All (l : Nat) (aa ad : Nat → Int) (ae af ag ah ai aj ak al am an : Nat → Nat) (ao : Nat → Int) (ap : Nat → Nat) (X : Nat) (au aw ax ay az : Nat → Nat) (k : Int) : outS (evFnM Try.prog false menv97 [] [] 96 (Ann.two Ann.no (Ann.two Ann.no (Ann.two Ann.no (Ann.two Ann.no (Ann.two Ann.no (Ann.two Ann.no (Ann.two Ann.no (Ann.two Ann.no (Ann.two (Ann.two Ann.no (Ann.one (Ann.loop F_ref21_All_L0))) (Ann.two (Ann.two Ann.no (Ann.one (Ann.loop F_ref21_All_L2))) Ann.no)))))))))) Try.f13 [AV.view l 14 (fun i0 => [AV.int .i64 (aa i0), AV.int .i64 (ad i0), AV.float (ae i0), AV.float (af i0), AV.float (ag i0), AV.float (ah i0), AV.float (ai i0), AV.float (aj i0), AV.float (ak i0), AV.float (al i0), AV.float (am i0), AV.float (an i0), AV.int .i64 (ao i0), AV.float (ap i0)]), AV.view X 5 (fun i0 => [AV.float (au i0), AV.float (aw i0), AV.float (ax i0), AV.float (ay i0), AV.float (az i0)]), AV.int .i64 k] []) = some (q_ref21_All l aa ad ae af ag ah ai aj ak al am an ao ap X au aw ax ay az k, r_ref21_All l aa ad ae af ag ah ai aj ak al am an ao ap X au aw ax ay az k) := by kernel_rfl
def o_ref21_All (l : Nat) (aa ad : Nat → Int) (ae af ag ah ai aj ak al am an : Nat → Nat) (ao : Nat → Int) (ap : Nat → Nat) (X : Nat) (au aw ax ay az : Nat → Nat) (k : Int) : Bool := let x0 : V_ref21_All_L0 := (L_ref21_All_L0 l X aa ad ae af ag ah ai aj ak al am an ao ap (V_ref21_All_L0.mk (0 : Int) au aw ax ay az)); let x1 := o_ref21_Asked l aa ad ae af ag ah ai aj ak al am an ao ap X au aw ax ay az; let x2 := mrgB (ilt k (0 : Int)) x1 x1; (mrgB (!(ieq (s_ref21_Asked_0 l aa ad ae af ag ah ai aj ak al am an ao ap X au aw ax ay az) (0 : Int))) x1 (mrgB ((ilt k (0 : Int)) || (ilt (64 : Int) k)) x2 ((((Nat.ble (X * 40) 140737488355328) && ((Nat.ble (l * 112) 140737488355328) && x2)) && (E_ref21_All_L0 l X aa ad ae af ag ah ai aj ak al am an ao ap (V_ref21_All_L0.mk (0 : Int) au aw ax ay az))) && (E_ref21_All_L2 k l X (V_ref21_All_L2.mk (0 : Int) aa ad ae af ag ah ai aj ak al am an ao ap (x0.v1) (x0.v2) (x0.v3) (x0.v4) (x0.v5))))))
def S_ref21_All : List AV → Option (Ob × AV × Heap)
  | [AV.view l 14 W, AV.view X 5 aA, AV.int .i64 k] => some (Ob.both (Ob.bit ((allB fun i => isNrm [Ck.i .i64, Ck.i .i64, Ck.f, Ck.f, Ck.f, Ck.f, Ck.f, Ck.f, Ck.f, Ck.f, Ck.f, Ck.f, Ck.i .i64, Ck.f] (W i)) && (allB fun i => isNrm [Ck.f, Ck.f, Ck.f, Ck.f, Ck.f] (aA i)))) (Ob.bit (o_ref21_All l (iL W 0) (iL W 1) (fL W 2) (fL W 3) (fL W 4) (fL W 5) (fL W 6) (fL W 7) (fL W 8) (fL W 9) (fL W 10) (fL W 11) (iL W 12) (fL W 13) X (fL aA 0) (fL aA 1) (fL aA 2) (fL aA 3) (fL aA 4) k)), r_ref21_All l (iL W 0) (iL W 1) (fL W 2) (fL W 3) (fL W 4) (fL W 5) (fL W 6) (fL W 7) (fL W 8) (fL W 9) (fL W 10) (fL W 11) (iL W 12) (fL W 13) X (fL aA 0) (fL aA 1) (fL aA 2) (fL aA 3) (fL aA 4) k)
  | _ => none
theorem ob_ref21_All (l : Nat) (aa ad : Nat → Int) (ae af ag ah ai aj ak al am an : Nat → Nat) (ao : Nat → Int) (ap : Nat → Nat) (X : Nat) (au aw ax ay az : Nat → Nat) (k : Int) (ho : o_ref21_All l aa ad ae af ag ah ai aj ak al am an ao ap X au aw ax ay az k = true) : q_ref21_All l aa ad ae af ag ah ai aj ak al am an ao ap X au aw ax ay az k = true := by
  unfold q_ref21_All
  unfold o_ref21_All at ho
  simp only [allB_true, eqT_self, mrgB_self, Bool.true_and, Bool.and_true] at ho ⊢
  exact ho
theorem t_ref21_All : SOkM Try.prog false (13, S_ref21_All) := SOkM.full (N := 96) menv97_ok Try.func13 ann_ref21_All Try.call13 fun args o v G h ho => by
  unfold S_ref21_All at h
  split at h
  · rename_i l W X aA k
    unfold r_ref21_All at h
    cases h
    rw [Ob.both_ok, Bool.and_eq_true] at ho
    obtain ⟨hn, ho2⟩ := ho
    simp only [Ob.ok, Bool.and_eq_true] at hn
    obtain ⟨n0, n1⟩ := hn
    replace n0 := nrm_fun n0
    replace n1 := nrm_fun n1
    have this := show outS (evFnM Try.prog false menv97 [] [] 96 (Ann.two Ann.no (Ann.two Ann.no (Ann.two Ann.no (Ann.two Ann.no (Ann.two Ann.no (Ann.two Ann.no (Ann.two Ann.no (Ann.two Ann.no (Ann.two (Ann.two Ann.no (Ann.one (Ann.loop F_ref21_All_L0))) (Ann.two (Ann.two Ann.no (Ann.one (Ann.loop F_ref21_All_L2))) Ann.no)))))))))) Try.f13 [AV.view l 14 (fun i => mkN [Ck.i .i64, Ck.i .i64, Ck.f, Ck.f, Ck.f, Ck.f, Ck.f, Ck.f, Ck.f, Ck.f, Ck.f, Ck.f, Ck.i .i64, Ck.f] (W i) 0), AV.view X 5 (fun i => mkN [Ck.f, Ck.f, Ck.f, Ck.f, Ck.f] (aA i) 0), AV.int .i64 k] []) = _ from e_ref21_All l (iL W 0) (iL W 1) (fL W 2) (fL W 3) (fL W 4) (fL W 5) (fL W 6) (fL W 7) (fL W 8) (fL W 9) (fL W 10) (fL W 11) (iL W 12) (fL W 13) X (fL aA 0) (fL aA 1) (fL aA 2) (fL aA 3) (fL aA 4) k
    rw [(ob_ref21_All l (iL W 0) (iL W 1) (fL W 2) (fL W 3) (fL W 4) (fL W 5) (fL W 6) (fL W 7) (fL W 8) (fL W 9) (fL W 10) (fL W 11) (iL W 12) (fL W 13) X (fL aA 0) (fL aA 1) (fL aA 2) (fL aA 3) (fL aA 4) k ho2)] at this
    rw [n0, n1] at this
    exact this
  · cases h
def c_ref21_All : SFM := S_ref21_All
theorem c_ref21_All_ok : SOkM Try.prog false (13, c_ref21_All) := t_ref21_All
def mss97 : List (FuncId × SFM) := (13, c_ref21_All) :: mss96
def menv98 : EnvM := mkEnvM mxs mss97 mws2
theorem mss97_ok : All (SOkM Try.prog false) mss97 := All.cons c_ref21_All_ok mss96_ok
theorem menv98_ok : menv98.Ok Try.prog false := mkEnvM_ok mxs_ok mss97_ok mws2_ok
end Go.Proofs.Ytofpjfohijljgaa
end
