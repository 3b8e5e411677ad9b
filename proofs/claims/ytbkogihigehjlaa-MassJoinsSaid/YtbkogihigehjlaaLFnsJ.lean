/- The contracts of the functions that these laws reach, loops too, printed by a program of this work: each says what the Go function gives, up to which NaN. -/
import Derived.Test.YtbkogihigehjlaaLFnsJA
set_option linter.unusedVariables false
set_option linter.unusedSimpArgs false
set_option maxRecDepth 100000
set_option maxHeartbeats 4000000
namespace Go.Proofs.Ytbkogihigehjlaa
open Go.Lst
open Go.Sim (fadd fsub fmul fdiv fneg feq flt fle fsqrt cn nanb fabs fcps fsame feq_self cps_cn fabs_cn)
-- tumble/tumbleref02.Bits
theorem ann_ref02_Bits : FnOk Try.prog false 0 Try.f51 Ann.no := (fnNo _)
noncomputable def s_ref02_Bits_0 (a0 : Nat) : Int := (bif (!(feq a0 a0)) then (9221120237041090561 : Int) else (Int.ofNat a0))
theorem e_ref02_Bits (a0 : Nat) : outB (evFnM Try.prog false menv75 [] [] 96 Ann.no Try.f51 [AV.float a0] []) = some ((mrgB (!(feq a0 a0)) true (!(nanb a0))), AV.int .u64 (s_ref02_Bits_0 a0)) := by kernel_rfl
noncomputable def S_ref02_Bits : List AV → Option (Ob × AV)
  | [AV.float a0] => some (Ob.tt, AV.int .u64 (s_ref02_Bits_0 a0))
  | _ => none
theorem ob_ref02_Bits (a0 : Nat) : (mrgB (!(feq a0 a0)) true (!(nanb a0))) = true := by show ((mrgB (!(feq a0 a0)) true (!(nanb a0)))) = true; (try simp only [feq_self]) <;> (generalize (nanb a0) = q0; cases q0 <;> rfl)
theorem t_ref02_Bits : SOkM Try.prog false (51, fun args => match S_ref02_Bits args with | some (o, v) => some (o, v, []) | none => none) := SOkM.flat (N := 96) menv75_ok Try.func51 ann_ref02_Bits Try.call51 fun args o v h ho => by
  unfold S_ref02_Bits at h
  split at h
  · rename_i a0
    cases h
    have ho2 := ho
    have this : outB (evFnM Try.prog false menv75 [] [] 96 Ann.no Try.f51 [AV.float a0] []) = some (true, AV.int .u64 (s_ref02_Bits_0 a0)) := Eq.trans (show outB (evFnM Try.prog false menv75 [] [] 96 Ann.no Try.f51 [AV.float a0] []) = _ from e_ref02_Bits a0) (by rw [(ob_ref02_Bits a0)])
    exact ⟨this, rfl⟩
  · cases h
noncomputable def c_ref02_Bits : SFM := fun args => match S_ref02_Bits args with | some (o, v) => some (o, v, []) | none => none
theorem c_ref02_Bits_ok : SOkM Try.prog false (51, c_ref02_Bits) := t_ref02_Bits
noncomputable def mss75 : List (FuncId × SFM) := (51, c_ref02_Bits) :: mss74
noncomputable def menv76 : EnvM := mkEnvM mxs mss75 mws2
theorem mss75_ok : All (SOkM Try.prog false) mss75 := All.cons c_ref02_Bits_ok mss74_ok
theorem menv76_ok : menv76.Ok Try.prog false := mkEnvM_ok mxs_ok mss75_ok mws2_ok
-- tumble/tumbleref02.Is
theorem ann_ref02_Is : FnOk Try.prog false 0 Try.f19 Ann.no := (fnNo _)
noncomputable def s_ref02_Is_0 (a0 : Nat) (a1 : Nat) : Bool := (ieq (s_ref02_Bits_0 a0) (s_ref02_Bits_0 a1))
theorem e_ref02_Is (a0 : Nat) (a1 : Nat) : outB (evFnM Try.prog false menv76 [] [] 96 Ann.no Try.f19 [AV.float a0, AV.float a1] []) = some (true, AV.bool (s_ref02_Is_0 a0 a1)) := by kernel_rfl
noncomputable def S_ref02_Is : List AV → Option (Ob × AV)
  | [AV.float a0, AV.float a1] => some (Ob.tt, AV.bool (s_ref02_Is_0 a0 a1))
  | _ => none
theorem ob_ref02_Is (a0 : Nat) (a1 : Nat) : true = true := rfl
theorem t_ref02_Is : SOkM Try.prog false (19, fun args => match S_ref02_Is args with | some (o, v) => some (o, v, []) | none => none) := SOkM.flat (N := 96) menv76_ok Try.func19 ann_ref02_Is Try.call19 fun args o v h ho => by
  unfold S_ref02_Is at h
  split at h
  · rename_i a0 a1
    cases h
    have ho2 := ho
    have this : outB (evFnM Try.prog false menv76 [] [] 96 Ann.no Try.f19 [AV.float a0, AV.float a1] []) = some (true, AV.bool (s_ref02_Is_0 a0 a1)) := Eq.trans (show outB (evFnM Try.prog false menv76 [] [] 96 Ann.no Try.f19 [AV.float a0, AV.float a1] []) = _ from e_ref02_Is a0 a1) (by rw [(ob_ref02_Is a0 a1)])
    exact ⟨this, rfl⟩
  · cases h
noncomputable def c_ref02_Is : SFM := fun args => match S_ref02_Is args with | some (o, v) => some (o, v, []) | none => none
theorem c_ref02_Is_ok : SOkM Try.prog false (19, c_ref02_Is) := t_ref02_Is
noncomputable def mss76 : List (FuncId × SFM) := (19, c_ref02_Is) :: mss75
noncomputable def menv77 : EnvM := mkEnvM mxs mss76 mws2
theorem mss76_ok : All (SOkM Try.prog false) mss76 := All.cons c_ref02_Is_ok mss75_ok
theorem menv77_ok : menv77.Ok Try.prog false := mkEnvM_ok mxs_ok mss76_ok mws2_ok
-- tumble/tumbleref02.Same
theorem ann_ref02_Same : FnOk Try.prog false 0 Try.f45 Ann.no := (fnNo _)
noncomputable def s_ref02_Same_0 (a0 : Nat) (a1 : Nat) (a2 : Nat) (a3 : Nat) : Bool := ((s_ref02_Is_0 a0 a2) && (s_ref02_Is_0 a1 a3))
theorem e_ref02_Same (a0 : Nat) (a1 : Nat) (a2 : Nat) (a3 : Nat) : outB (evFnM Try.prog false menv77 [] [] 96 Ann.no Try.f45 [AV.agg [AV.float a0, AV.float a1], AV.agg [AV.float a2, AV.float a3]] []) = some (true, AV.bool (s_ref02_Same_0 a0 a1 a2 a3)) := by kernel_rfl
noncomputable def S_ref02_Same : List AV → Option (Ob × AV)
  | [AV.agg [AV.float a0, AV.float a1], AV.agg [AV.float a2, AV.float a3]] => some (Ob.tt, AV.bool (s_ref02_Same_0 a0 a1 a2 a3))
  | _ => none
theorem ob_ref02_Same (a0 : Nat) (a1 : Nat) (a2 : Nat) (a3 : Nat) : true = true := rfl
theorem t_ref02_Same : SOkM Try.prog false (45, fun args => match S_ref02_Same args with | some (o, v) => some (o, v, []) | none => none) := SOkM.flat (N := 96) menv77_ok Try.func45 ann_ref02_Same Try.call45 fun args o v h ho => by
  unfold S_ref02_Same at h
  split at h
  · rename_i a0 a1 a2 a3
    cases h
    have ho2 := ho
    have this : outB (evFnM Try.prog false menv77 [] [] 96 Ann.no Try.f45 [AV.agg [AV.float a0, AV.float a1], AV.agg [AV.float a2, AV.float a3]] []) = some (true, AV.bool (s_ref02_Same_0 a0 a1 a2 a3)) := Eq.trans (show outB (evFnM Try.prog false menv77 [] [] 96 Ann.no Try.f45 [AV.agg [AV.float a0, AV.float a1], AV.agg [AV.float a2, AV.float a3]] []) = _ from e_ref02_Same a0 a1 a2 a3) (by rw [(ob_ref02_Same a0 a1 a2 a3)])
    exact ⟨this, rfl⟩
  · cases h
noncomputable def c_ref02_Same : SFM := fun args => match S_ref02_Same args with | some (o, v) => some (o, v, []) | none => none
theorem c_ref02_Same_ok : SOkM Try.prog false (45, c_ref02_Same) := t_ref02_Same
noncomputable def mss77 : List (FuncId × SFM) := (45, c_ref02_Same) :: mss76
noncomputable def menv78 : EnvM := mkEnvM mxs mss77 mws2
theorem mss77_ok : All (SOkM Try.prog false) mss77 := All.cons c_ref02_Same_ok mss76_ok
theorem menv78_ok : menv78.Ok Try.prog false := mkEnvM_ok mxs_ok mss77_ok mws2_ok
-- tumble/tumbleref08.Same
theorem ann_ref08_Same : FnOk Try.prog false 0 Try.f12 Ann.no := (fnNo _)
noncomputable def s_ref08_Same_0 (a0 : Nat) (a1 : Nat) (a2 : Nat) (a3 : Nat) (a4 : Nat) (a5 : Nat) (a6 : Nat) (a7 : Nat) : Bool := (((s_ref02_Is_0 a0 a4) && (s_ref02_Is_0 a1 a5)) && (s_ref02_Same_0 a2 a3 a6 a7))
theorem e_ref08_Same (a0 : Nat) (a1 : Nat) (a2 : Nat) (a3 : Nat) (a4 : Nat) (a5 : Nat) (a6 : Nat) (a7 : Nat) : outB (evFnM Try.prog false menv78 [] [] 96 Ann.no Try.f12 [AV.agg [AV.float a0, AV.float a1, AV.float a2, AV.float a3], AV.agg [AV.float a4, AV.float a5, AV.float a6, AV.float a7]] []) = some (true, AV.bool (s_ref08_Same_0 a0 a1 a2 a3 a4 a5 a6 a7)) := by kernel_rfl
noncomputable def S_ref08_Same : List AV → Option (Ob × AV)
  | [AV.agg [AV.float a0, AV.float a1, AV.float a2, AV.float a3], AV.agg [AV.float a4, AV.float a5, AV.float a6, AV.float a7]] => some (Ob.tt, AV.bool (s_ref08_Same_0 a0 a1 a2 a3 a4 a5 a6 a7))
  | _ => none
theorem ob_ref08_Same (a0 : Nat) (a1 : Nat) (a2 : Nat) (a3 : Nat) (a4 : Nat) (a5 : Nat) (a6 : Nat) (a7 : Nat) : true = true := rfl
theorem t_ref08_Same : SOkM Try.prog false (12, fun args => match S_ref08_Same args with | some (o, v) => some (o, v, []) | none => none) := SOkM.flat (N := 96) menv78_ok Try.func12 ann_ref08_Same Try.call12 fun args o v h ho => by
  unfold S_ref08_Same at h
  split at h
  · rename_i a0 a1 a2 a3 a4 a5 a6 a7
    cases h
    have ho2 := ho
    have this : outB (evFnM Try.prog false menv78 [] [] 96 Ann.no Try.f12 [AV.agg [AV.float a0, AV.float a1, AV.float a2, AV.float a3], AV.agg [AV.float a4, AV.float a5, AV.float a6, AV.float a7]] []) = some (true, AV.bool (s_ref08_Same_0 a0 a1 a2 a3 a4 a5 a6 a7)) := Eq.trans (show outB (evFnM Try.prog false menv78 [] [] 96 Ann.no Try.f12 [AV.agg [AV.float a0, AV.float a1, AV.float a2, AV.float a3], AV.agg [AV.float a4, AV.float a5, AV.float a6, AV.float a7]] []) = _ from e_ref08_Same a0 a1 a2 a3 a4 a5 a6 a7) (by rw [(ob_ref08_Same a0 a1 a2 a3 a4 a5 a6 a7)])
    exact ⟨this, rfl⟩
  · cases h
noncomputable def c_ref08_Same : SFM := fun args => match S_ref08_Same args with | some (o, v) => some (o, v, []) | none => none
theorem c_ref08_Same_ok : SOkM Try.prog false (12, c_ref08_Same) := t_ref08_Same
noncomputable def mss78 : List (FuncId × SFM) := (12, c_ref08_Same) :: mss77
noncomputable def menv79 : EnvM := mkEnvM mxs mss78 mws2
theorem mss78_ok : All (SOkM Try.prog false) mss78 := All.cons c_ref08_Same_ok mss77_ok
theorem menv79_ok : menv79.Ok Try.prog false := mkEnvM_ok mxs_ok mss78_ok mws2_ok
-- tumble/tumblelaw08.MassJoins
-- a loop of tumble/tumblelaw08.MassJoins
structure V_law08_MassJoins_L0 where
  v0 : Int
def tpl_law08_MassJoins_L0 : List AV := [AV.nul, AV.top, AV.top, AV.nul, AV.nul, AV.top, AV.nul, AV.top, AV.nul, AV.nul, AV.nul, AV.top, AV.top, AV.top, AV.top, AV.top, AV.top, AV.top, AV.top, AV.top, AV.top, AV.top, AV.top, AV.top, AV.top, AV.top, AV.top, AV.top, AV.top, AV.top, AV.top, AV.top, AV.top, AV.top, AV.top, AV.top, AV.top, AV.top, AV.top, AV.top, AV.top, AV.top, AV.top, AV.top, AV.top, AV.top, AV.top, AV.top, AV.top, AV.top, AV.top, AV.top, AV.top, AV.top, AV.top, AV.top, AV.top, AV.top, AV.top, AV.top, AV.top, AV.top, AV.top, AV.top, AV.top, AV.top, AV.top, AV.top, AV.top, AV.top, AV.top, AV.top, AV.top, AV.top, AV.top, AV.top, AV.top, AV.top, AV.top, AV.top, AV.top, AV.top, AV.top, AV.top, AV.top, AV.top, AV.top, AV.top]
def cts_law08_MassJoins_L0 : List CT := [CT.keep, CT.keep, CT.keep, CT.keep]
def phs_law08_MassJoins_L0 : List Src := []
def T_law08_MassJoins_L0 (c0 : Nat) (c1 : (Nat → Nat)) (c2 : (Nat → Nat)) (c3 : (Nat → Nat)) (c4 : (Nat → Nat)) (c5 : Bool) (c6 : Nat) (c7 : Int) (c8 : Int) (c9 : Bool) (c10 : (Nat → Nat)) (c11 : (Nat → Nat)) (c12 : (Nat → Nat)) (c13 : (Nat → Nat)) (c14 : Nat) (c15 : Nat) (c16 : Nat) (c17 : Nat) (c18 : Nat) (c19 : Nat) (c20 : Nat) (c21 : Nat) (x : V_law08_MassJoins_L0) (F0 : Nat → List AV) (F1 : Nat → List AV) : List AV × Heap := ([AV.view c0 4 F0, AV.top, AV.top, AV.bool c5, AV.lst 0 2 4 c6 c6, AV.top, AV.int .i64 c7, AV.top, AV.int .i64 c8, AV.bool c9, AV.int .i64 x.v0, AV.top, AV.top, AV.top, AV.top, AV.top, AV.top, AV.top, AV.top, AV.top, AV.top, AV.top, AV.top, AV.top, AV.top, AV.top, AV.top, AV.top, AV.top, AV.top, AV.top, AV.top, AV.top, AV.top, AV.top, AV.top, AV.top, AV.top, AV.top, AV.top, AV.top, AV.top, AV.top, AV.top, AV.top, AV.top, AV.top, AV.top, AV.top, AV.top, AV.top, AV.top, AV.top, AV.top, AV.top, AV.top, AV.top, AV.top, AV.top, AV.top, AV.top, AV.top, AV.top, AV.top, AV.top, AV.top, AV.top, AV.top, AV.top, AV.top, AV.top, AV.top, AV.top, AV.top, AV.top, AV.top, AV.top, AV.top, AV.top, AV.top, AV.top, AV.top, AV.top, AV.top, AV.top, AV.top, AV.top, AV.top], [⟨.sym c6 4 F1, 28, 2⟩, ⟨.flat [AV.float 4635118810238550016, AV.float 0, AV.float 0, AV.float 0, AV.float 4635189178982727680, AV.float 0, AV.float 0, AV.float 0], 28, 0⟩, ⟨.flat [AV.float c14, AV.float c15, AV.float c16, AV.float c17], 28, 0⟩, ⟨.flat [AV.float c18, AV.float c19, AV.float c20, AV.float c21], 28, 0⟩])
def sh_law08_MassJoins_L0 (c0 : Nat) (c1 : (Nat → Nat)) (c2 : (Nat → Nat)) (c3 : (Nat → Nat)) (c4 : (Nat → Nat)) (c5 : Bool) (c6 : Nat) (c7 : Int) (c8 : Int) (c9 : Bool) (c10 : (Nat → Nat)) (c11 : (Nat → Nat)) (c12 : (Nat → Nat)) (c13 : (Nat → Nat)) (c14 : Nat) (c15 : Nat) (c16 : Nat) (c17 : Nat) (c18 : Nat) (c19 : Nat) (c20 : Nat) (c21 : Nat) (x : V_law08_MassJoins_L0) : List AV × Heap := T_law08_MassJoins_L0 c0 c1 c2 c3 c4 c5 c6 c7 c8 c9 c10 c11 c12 c13 c14 c15 c16 c17 c18 c19 c20 c21 x (fun (j0 : Nat) => [AV.float (c1 j0), AV.float (c2 j0), AV.float (c3 j0), AV.float (c4 j0)]) (fun (j0 : Nat) => [AV.float (c10 j0), AV.float (c11 j0), AV.float (c12 j0), AV.float (c13 j0)])
noncomputable def step_law08_MassJoins_L0 (c0 : Nat) (c1 : (Nat → Nat)) (c2 : (Nat → Nat)) (c3 : (Nat → Nat)) (c4 : (Nat → Nat)) (c6 : Nat) (c10 : (Nat → Nat)) (c11 : (Nat → Nat)) (c12 : (Nat → Nat)) (c13 : (Nat → Nat)) (x : V_law08_MassJoins_L0) : V_law08_MassJoins_L0 := V_law08_MassJoins_L0.mk (IntKind.wrap .i64 (x.v0 + (1 : Int)))
noncomputable def go_law08_MassJoins_L0 (c0 : Nat) (c1 : (Nat → Nat)) (c2 : (Nat → Nat)) (c3 : (Nat → Nat)) (c4 : (Nat → Nat)) (c6 : Nat) (c10 : (Nat → Nat)) (c11 : (Nat → Nat)) (c12 : (Nat → Nat)) (c13 : (Nat → Nat)) (x : V_law08_MassJoins_L0) : Bool := (bif (bif (!(ilt x.v0 (Int.ofNat c0))) then false else (!(s_ref08_Same_0 (c10 (Int.toNat x.v0)) (c11 (Int.toNat x.v0)) (c12 (Int.toNat x.v0)) (c13 (Int.toNat x.v0)) (c1 (Int.toNat x.v0)) (c2 (Int.toNat x.v0)) (c3 (Int.toNat x.v0)) (c4 (Int.toNat x.v0))))) then false else (bif (!(ilt x.v0 (Int.ofNat c0))) then false else true))
noncomputable def ok_law08_MassJoins_L0 (c0 : Nat) (c1 : (Nat → Nat)) (c2 : (Nat → Nat)) (c3 : (Nat → Nat)) (c4 : (Nat → Nat)) (c6 : Nat) (c10 : (Nat → Nat)) (c11 : (Nat → Nat)) (c12 : (Nat → Nat)) (c13 : (Nat → Nat)) (x : V_law08_MassJoins_L0) : Bool := let x0 : Bool := (Nat.blt (Int.toNat x.v0) c6); let x1 : Bool := (((ile (0 : Int) x.v0) && (Nat.blt (Int.toNat x.v0) c0)) && (x0 && ((ile (0 : Int) x.v0) && x0))); let x2 : Bool := (!(ilt x.v0 (Int.ofNat c0))); (mrgB (bif x2 then false else (!(s_ref08_Same_0 (c10 (Int.toNat x.v0)) (c11 (Int.toNat x.v0)) (c12 (Int.toNat x.v0)) (c13 (Int.toNat x.v0)) (c1 (Int.toNat x.v0)) (c2 (Int.toNat x.v0)) (c3 (Int.toNat x.v0)) (c4 (Int.toNat x.v0))))) x1 (mrgB x2 true x1))
noncomputable def L_law08_MassJoins_L0 (c0 : Nat) (c1 : (Nat → Nat)) (c2 : (Nat → Nat)) (c3 : (Nat → Nat)) (c4 : (Nat → Nat)) (c6 : Nat) (c10 : (Nat → Nat)) (c11 : (Nat → Nat)) (c12 : (Nat → Nat)) (c13 : (Nat → Nat)) (x : V_law08_MassJoins_L0) : V_law08_MassJoins_L0 := lastL (ok_law08_MassJoins_L0 c0 c1 c2 c3 c4 c6 c10 c11 c12 c13) (go_law08_MassJoins_L0 c0 c1 c2 c3 c4 c6 c10 c11 c12 c13) (step_law08_MassJoins_L0 c0 c1 c2 c3 c4 c6 c10 c11 c12 c13) x
noncomputable def E_law08_MassJoins_L0 (c0 : Nat) (c1 : (Nat → Nat)) (c2 : (Nat → Nat)) (c3 : (Nat → Nat)) (c4 : (Nat → Nat)) (c6 : Nat) (c10 : (Nat → Nat)) (c11 : (Nat → Nat)) (c12 : (Nat → Nat)) (c13 : (Nat → Nat)) (x : V_law08_MassJoins_L0) : Bool := endsL (ok_law08_MassJoins_L0 c0 c1 c2 c3 c4 c6 c10 c11 c12 c13) (go_law08_MassJoins_L0 c0 c1 c2 c3 c4 c6 c10 c11 c12 c13) (step_law08_MassJoins_L0 c0 c1 c2 c3 c4 c6 c10 c11 c12 c13) x
theorem all_law08_MassJoins_L0 (c0 : Nat) (c1 : (Nat → Nat)) (c2 : (Nat → Nat)) (c3 : (Nat → Nat)) (c4 : (Nat → Nat)) (c5 : Bool) (c6 : Nat) (c7 : Int) (c8 : Int) (c9 : Bool) (c10 : (Nat → Nat)) (c11 : (Nat → Nat)) (c12 : (Nat → Nat)) (c13 : (Nat → Nat)) (c14 : Nat) (c15 : Nat) (c16 : Nat) (c17 : Nat) (c18 : Nat) (c19 : Nat) (c20 : Nat) (c21 : Nat) (x : V_law08_MassJoins_L0) : rnd Try.prog false menv79 [] [] 96 Ann.no (subC [1, 1, 1, 1, 1, 1, 1, 1, 1, 0, 1, 0, 0] (codeOf Try.f3)) 0 [⟨some 0, 2, 0, []⟩, ⟨some 1, 0, 0, []⟩, ⟨some 2, 0, 0, []⟩, ⟨some 3, 0, 0, []⟩] tpl_law08_MassJoins_L0 cts_law08_MassJoins_L0 [false, true, true, false, false, true, false, true, false, false, true, true, true, true, true, true, true, true, true, true, true, true, true, true, true, true, true, true, true, true, true, true, true, true, true, true, true, true, true, true, true, true, true, true, true, true, true, true, true, true, true, true, true, true, true, true, true, true, true, true, true, true, true, true, true, true, true, true, true, true, true, true, true, true, true, true, true, true, true, true, true, true, true, true, true, true, true, true] [false, false, false, false] (sh_law08_MassJoins_L0 c0 c1 c2 c3 c4 c5 c6 c7 c8 c9 c10 c11 c12 c13 c14 c15 c16 c17 c18 c19 c20 c21 x) = (true, true, go_law08_MassJoins_L0 c0 c1 c2 c3 c4 c6 c10 c11 c12 c13 x, ok_law08_MassJoins_L0 c0 c1 c2 c3 c4 c6 c10 c11 c12 c13 x, true, sh_law08_MassJoins_L0 c0 c1 c2 c3 c4 c5 c6 c7 c8 c9 c10 c11 c12 c13 c14 c15 c16 c17 c18 c19 c20 c21 (step_law08_MassJoins_L0 c0 c1 c2 c3 c4 c6 c10 c11 c12 c13 x), true) := by kernel_rfl
noncomputable def fam_law08_MassJoins_L0 (c0 : Nat) (c1 : (Nat → Nat)) (c2 : (Nat → Nat)) (c3 : (Nat → Nat)) (c4 : (Nat → Nat)) (c5 : Bool) (c6 : Nat) (c7 : Int) (c8 : Int) (c9 : Bool) (c10 : (Nat → Nat)) (c11 : (Nat → Nat)) (c12 : (Nat → Nat)) (c13 : (Nat → Nat)) (c14 : Nat) (c15 : Nat) (c16 : Nat) (c17 : Nat) (c18 : Nat) (c19 : Nat) (c20 : Nat) (c21 : Nat) : Fam Try.prog false menv79 [] [] 96 0 Ann.no (subC [1, 1, 1, 1, 1, 1, 1, 1, 1, 0, 1, 0, 0] (codeOf Try.f3)) V_law08_MassJoins_L0 where
  sh := sh_law08_MassJoins_L0 c0 c1 c2 c3 c4 c5 c6 c7 c8 c9 c10 c11 c12 c13 c14 c15 c16 c17 c18 c19 c20 c21
  ok := ok_law08_MassJoins_L0 c0 c1 c2 c3 c4 c6 c10 c11 c12 c13
  go := go_law08_MassJoins_L0 c0 c1 c2 c3 c4 c6 c10 c11 c12 c13
  step := step_law08_MassJoins_L0 c0 c1 c2 c3 c4 c6 c10 c11 c12 c13
  chg := [false, true, true, false, false, true, false, true, false, false, true, true, true, true, true, true, true, true, true, true, true, true, true, true, true, true, true, true, true, true, true, true, true, true, true, true, true, true, true, true, true, true, true, true, true, true, true, true, true, true, true, true, true, true, true, true, true, true, true, true, true, true, true, true, true, true, true, true, true, true, true, true, true, true, true, true, true, true, true, true, true, true, true, true, true, true, true, true]
  chgH := [false, false, false, false]
  tpl := tpl_law08_MassJoins_L0
  cts := cts_law08_MassJoins_L0
  keep := 0
  srcs := [⟨some 0, 2, 0, []⟩, ⟨some 1, 0, 0, []⟩, ⟨some 2, 0, 0, []⟩, ⟨some 3, 0, 0, []⟩]
  ann := (annNo (subC [1, 1, 1, 1, 1, 1, 1, 1, 1, 0, 1, 0, 0] (codeOf Try.f3)))
  le := by kernel_rfl
  kept := by kernel_rfl
  keptB := by kernel_rfl
  all := all_law08_MassJoins_L0 c0 c1 c2 c3 c4 c5 c6 c7 c8 c9 c10 c11 c12 c13 c14 c15 c16 c17 c18 c19 c20 c21
  len := fun x => by kernel_rfl
  head := fun x y => by kernel_rfl
  con := fun x y => by kernel_rfl
  conH := fun x y => by kernel_rfl
noncomputable def F_law08_MassJoins_L0 : St → Option Ch := fun s => cond (Nat.beq s.tm.length 88 && Nat.beq s.H.length 4) (tkCons (alL tpl_law08_MassJoins_L0 s.tm) fun a0 t0 => tkView 4 a0 fun s0 f0 => tkTops 2 t0 fun t1 => tkCons t1 fun a2 t2 => tkB a2 fun s5 => tkCons t2 fun a3 t3 => tkLst 0 2 4 a3 fun s6 s7 => tkTops 1 t3 fun t4 => tkCons t4 fun a5 t5 => tkI .i64 a5 fun s8 => tkTops 1 t5 fun t6 => tkCons t6 fun a7 t7 => tkI .i64 a7 fun s9 => tkCons t7 fun a8 t8 => tkB a8 fun s10 => tkCons t8 fun a9 t9 => tkI .i64 a9 fun s11 => tkTops 77 t9 fun t10 => tkNil t10 <| tkCons (alH cts_law08_MassJoins_L0 (s.H ++ List.map phan phs_law08_MassJoins_L0)) fun b11 t11 => tkSym 28 2 4 b11 fun s12 f1 => tkCons t11 fun b12 t12 => tkFlat 28 0 b12 fun m12 => tkCons m12 fun a13 t13 => tkFL 4635118810238550016 a13 <| tkCons t13 fun a14 t14 => tkFL 0 a14 <| tkCons t14 fun a15 t15 => tkFL 0 a15 <| tkCons t15 fun a16 t16 => tkFL 0 a16 <| tkCons t16 fun a17 t17 => tkFL 4635189178982727680 a17 <| tkCons t17 fun a18 t18 => tkFL 0 a18 <| tkCons t18 fun a19 t19 => tkFL 0 a19 <| tkCons t19 fun a20 t20 => tkFL 0 a20 <| tkNil t20 <| tkCons t12 fun b21 t21 => tkFlat 28 0 b21 fun m21 => tkCons m21 fun a22 t22 => tkF a22 fun s25 => tkCons t22 fun a23 t23 => tkF a23 fun s26 => tkCons t23 fun a24 t24 => tkF a24 fun s27 => tkCons t24 fun a25 t25 => tkF a25 fun s28 => tkNil t25 <| tkCons t21 fun b26 t26 => tkFlat 28 0 b26 fun m26 => tkCons m26 fun a27 t27 => tkF a27 fun s29 => tkCons t27 fun a28 t28 => tkF a28 fun s30 => tkCons t28 fun a29 t29 => tkF a29 fun s31 => tkCons t29 fun a30 t30 => tkF a30 fun s32 => tkNil t30 <| tkNil t26 <| Fam.out (fam_law08_MassJoins_L0 s0 (fun (i : Nat) => flO (atL (f0 i) 0)) (fun (i : Nat) => flO (atL (f0 i) 1)) (fun (i : Nat) => flO (atL (f0 i) 2)) (fun (i : Nat) => flO (atL (f0 i) 3)) s5 s6 s8 s9 s10 (fun (i : Nat) => flO (atL (f1 i) 0)) (fun (i : Nat) => flO (atL (f1 i) 1)) (fun (i : Nat) => flO (atL (f1 i) 2)) (fun (i : Nat) => flO (atL (f1 i) 3)) s25 s26 s27 s28 s29 s30 s31 s32) s ((((allB fun (i : Nat) => isNrm [Ck.f, Ck.f, Ck.f, Ck.f] (f0 i)) && (allB fun (i : Nat) => isNrm [Ck.f, Ck.f, Ck.f, Ck.f] (f1 i))) && (eqT s7 s6)) && (eqT s12 s6)) (V_law08_MassJoins_L0.mk s11)) none
theorem F_law08_MassJoins_L0_ok : ∀ s ch, F_law08_MassJoins_L0 s = some ch → AllI s ch ∧ LoopSpec Try.prog false 0 (subC [1, 1, 1, 1, 1, 1, 1, 1, 1, 0, 1, 0, 0] (codeOf Try.f3)) s (sel ch) := by
  intro s ch h
  unfold F_law08_MassJoins_L0 at h
  obtain ⟨hl, h0⟩ := cond_some h rfl
  clear h
  obtain ⟨hl, hb⟩ := and_beq2 hl
  obtain ⟨a0, t0, e0, h1⟩ := tkCons_some h0
  obtain ⟨s0, f0, rfl, h2⟩ := tkView_some h1
  obtain ⟨t1, rfl, h3⟩ := tkTops_some h2
  obtain ⟨a2, t2, rfl, h4⟩ := tkCons_some h3
  obtain ⟨s5, rfl, h5⟩ := tkB_some h4
  obtain ⟨a3, t3, rfl, h6⟩ := tkCons_some h5
  obtain ⟨s6, s7, rfl, h7⟩ := tkLst_some h6
  obtain ⟨t4, rfl, h8⟩ := tkTops_some h7
  obtain ⟨a5, t5, rfl, h9⟩ := tkCons_some h8
  obtain ⟨s8, rfl, h10⟩ := tkI_some h9
  obtain ⟨t6, rfl, h11⟩ := tkTops_some h10
  obtain ⟨a7, t7, rfl, h12⟩ := tkCons_some h11
  obtain ⟨s9, rfl, h13⟩ := tkI_some h12
  obtain ⟨a8, t8, rfl, h14⟩ := tkCons_some h13
  obtain ⟨s10, rfl, h15⟩ := tkB_some h14
  obtain ⟨a9, t9, rfl, h16⟩ := tkCons_some h15
  obtain ⟨s11, rfl, h17⟩ := tkI_some h16
  obtain ⟨t10, rfl, h18⟩ := tkTops_some h17
  obtain ⟨rfl, h19⟩ := tkNil_some h18
  obtain ⟨b11, t11, eH, h20⟩ := tkCons_some h19
  obtain ⟨s12, f1, rfl, h21⟩ := tkSym_some h20
  obtain ⟨b12, t12, rfl, h22⟩ := tkCons_some h21
  obtain ⟨m12, rfl, h23⟩ := tkFlat_some h22
  obtain ⟨a13, t13, rfl, h24⟩ := tkCons_some h23
  obtain ⟨rfl, h25⟩ := tkFL_some h24
  obtain ⟨a14, t14, rfl, h26⟩ := tkCons_some h25
  obtain ⟨rfl, h27⟩ := tkFL_some h26
  obtain ⟨a15, t15, rfl, h28⟩ := tkCons_some h27
  obtain ⟨rfl, h29⟩ := tkFL_some h28
  obtain ⟨a16, t16, rfl, h30⟩ := tkCons_some h29
  obtain ⟨rfl, h31⟩ := tkFL_some h30
  obtain ⟨a17, t17, rfl, h32⟩ := tkCons_some h31
  obtain ⟨rfl, h33⟩ := tkFL_some h32
  obtain ⟨a18, t18, rfl, h34⟩ := tkCons_some h33
  obtain ⟨rfl, h35⟩ := tkFL_some h34
  obtain ⟨a19, t19, rfl, h36⟩ := tkCons_some h35
  obtain ⟨rfl, h37⟩ := tkFL_some h36
  obtain ⟨a20, t20, rfl, h38⟩ := tkCons_some h37
  obtain ⟨rfl, h39⟩ := tkFL_some h38
  obtain ⟨rfl, h40⟩ := tkNil_some h39
  obtain ⟨b21, t21, rfl, h41⟩ := tkCons_some h40
  obtain ⟨m21, rfl, h42⟩ := tkFlat_some h41
  obtain ⟨a22, t22, rfl, h43⟩ := tkCons_some h42
  obtain ⟨s25, rfl, h44⟩ := tkF_some h43
  obtain ⟨a23, t23, rfl, h45⟩ := tkCons_some h44
  obtain ⟨s26, rfl, h46⟩ := tkF_some h45
  obtain ⟨a24, t24, rfl, h47⟩ := tkCons_some h46
  obtain ⟨s27, rfl, h48⟩ := tkF_some h47
  obtain ⟨a25, t25, rfl, h49⟩ := tkCons_some h48
  obtain ⟨s28, rfl, h50⟩ := tkF_some h49
  obtain ⟨rfl, h51⟩ := tkNil_some h50
  obtain ⟨b26, t26, rfl, h52⟩ := tkCons_some h51
  obtain ⟨m26, rfl, h53⟩ := tkFlat_some h52
  obtain ⟨a27, t27, rfl, h54⟩ := tkCons_some h53
  obtain ⟨s29, rfl, h55⟩ := tkF_some h54
  obtain ⟨a28, t28, rfl, h56⟩ := tkCons_some h55
  obtain ⟨s30, rfl, h57⟩ := tkF_some h56
  obtain ⟨a29, t29, rfl, h58⟩ := tkCons_some h57
  obtain ⟨s31, rfl, h59⟩ := tkF_some h58
  obtain ⟨a30, t30, rfl, h60⟩ := tkCons_some h59
  obtain ⟨s32, rfl, h61⟩ := tkF_some h60
  obtain ⟨rfl, h62⟩ := tkNil_some h61
  obtain ⟨rfl, h63⟩ := tkNil_some h62
  refine Fam.spec menv79_ok (fam_law08_MassJoins_L0 s0 (fun (i : Nat) => flO (atL (f0 i) 0)) (fun (i : Nat) => flO (atL (f0 i) 1)) (fun (i : Nat) => flO (atL (f0 i) 2)) (fun (i : Nat) => flO (atL (f0 i) 3)) s5 s6 s8 s9 s10 (fun (i : Nat) => flO (atL (f1 i) 0)) (fun (i : Nat) => flO (atL (f1 i) 1)) (fun (i : Nat) => flO (atL (f1 i) 2)) (fun (i : Nat) => flO (atL (f1 i) 3)) s25 s26 s27 s28 s29 s30 s31 s32) (phs := phs_law08_MassJoins_L0) (hl.trans (by kernel_rfl)) (hb.trans (by kernel_rfl)) ?_ ?_ h63
  · rw [← hdr_alH cts_law08_MassJoins_L0 (s.H ++ List.map phan phs_law08_MassJoins_L0), eH]; kernel_rfl
  · intro hq
    simp only [Bool.and_eq_true] at hq
    obtain ⟨⟨⟨hq0, hq1⟩, hq2⟩, hq3⟩ := hq
    have n0 := nrm_fun hq0
    have n1 := nrm_fun hq1
    have hx := eqT_eq hq2; subst s7
    have hx := eqT_eq hq3; subst s12
    show sh_law08_MassJoins_L0 s0 (fun (i : Nat) => flO (atL (f0 i) 0)) (fun (i : Nat) => flO (atL (f0 i) 1)) (fun (i : Nat) => flO (atL (f0 i) 2)) (fun (i : Nat) => flO (atL (f0 i) 3)) s5 s6 s8 s9 s10 (fun (i : Nat) => flO (atL (f1 i) 0)) (fun (i : Nat) => flO (atL (f1 i) 1)) (fun (i : Nat) => flO (atL (f1 i) 2)) (fun (i : Nat) => flO (atL (f1 i) 3)) s25 s26 s27 s28 s29 s30 s31 s32 (V_law08_MassJoins_L0.mk s11) = (alL tpl_law08_MassJoins_L0 s.tm, alH cts_law08_MassJoins_L0 (s.H ++ List.map phan phs_law08_MassJoins_L0))
    rw [e0, eH]
    refine Eq.trans (show sh_law08_MassJoins_L0 s0 (fun (i : Nat) => flO (atL (f0 i) 0)) (fun (i : Nat) => flO (atL (f0 i) 1)) (fun (i : Nat) => flO (atL (f0 i) 2)) (fun (i : Nat) => flO (atL (f0 i) 3)) s5 s6 s8 s9 s10 (fun (i : Nat) => flO (atL (f1 i) 0)) (fun (i : Nat) => flO (atL (f1 i) 1)) (fun (i : Nat) => flO (atL (f1 i) 2)) (fun (i : Nat) => flO (atL (f1 i) 3)) s25 s26 s27 s28 s29 s30 s31 s32 (V_law08_MassJoins_L0.mk s11) = T_law08_MassJoins_L0 s0 (fun (i : Nat) => flO (atL (f0 i) 0)) (fun (i : Nat) => flO (atL (f0 i) 1)) (fun (i : Nat) => flO (atL (f0 i) 2)) (fun (i : Nat) => flO (atL (f0 i) 3)) s5 s6 s8 s9 s10 (fun (i : Nat) => flO (atL (f1 i) 0)) (fun (i : Nat) => flO (atL (f1 i) 1)) (fun (i : Nat) => flO (atL (f1 i) 2)) (fun (i : Nat) => flO (atL (f1 i) 3)) s25 s26 s27 s28 s29 s30 s31 s32 (V_law08_MassJoins_L0.mk s11) (fun (i : Nat) => mkN [Ck.f, Ck.f, Ck.f, Ck.f] (f0 i) 0) (fun (i : Nat) => mkN [Ck.f, Ck.f, Ck.f, Ck.f] (f1 i) 0) by kernel_rfl) ?_
    rw [n0, n1]
    kernel_rfl
theorem ann_law08_MassJoins : FnOk Try.prog false 0 Try.f3 (Ann.two Ann.no (Ann.two Ann.no (Ann.two Ann.no (Ann.two Ann.no (Ann.two Ann.no (Ann.two Ann.no (Ann.two Ann.no (Ann.two Ann.no (Ann.two Ann.no (Ann.two (Ann.two Ann.no (Ann.one (Ann.loop F_law08_MassJoins_L0))) Ann.no)))))))))) := (fnOk_of (c := codeOf Try.f3) (by kernel_rfl) (annSeq (a := (subC [0] (codeOf Try.f3))) (b := (subC [1] (codeOf Try.f3))) (by kernel_rfl) (annNo (subC [0] (codeOf Try.f3))) (annSeq (a := (subC [1, 0] (codeOf Try.f3))) (b := (subC [1, 1] (codeOf Try.f3))) (by kernel_rfl) (annNo (subC [1, 0] (codeOf Try.f3))) (annSeq (a := (subC [1, 1, 0] (codeOf Try.f3))) (b := (subC [1, 1, 1] (codeOf Try.f3))) (by kernel_rfl) (annNo (subC [1, 1, 0] (codeOf Try.f3))) (annSeq (a := (subC [1, 1, 1, 0] (codeOf Try.f3))) (b := (subC [1, 1, 1, 1] (codeOf Try.f3))) (by kernel_rfl) (annNo (subC [1, 1, 1, 0] (codeOf Try.f3))) (annSeq (a := (subC [1, 1, 1, 1, 0] (codeOf Try.f3))) (b := (subC [1, 1, 1, 1, 1] (codeOf Try.f3))) (by kernel_rfl) (annNo (subC [1, 1, 1, 1, 0] (codeOf Try.f3))) (annSeq (a := (subC [1, 1, 1, 1, 1, 0] (codeOf Try.f3))) (b := (subC [1, 1, 1, 1, 1, 1] (codeOf Try.f3))) (by kernel_rfl) (annNo (subC [1, 1, 1, 1, 1, 0] (codeOf Try.f3))) (annSeq (a := (subC [1, 1, 1, 1, 1, 1, 0] (codeOf Try.f3))) (b := (subC [1, 1, 1, 1, 1, 1, 1] (codeOf Try.f3))) (by kernel_rfl) (annNo (subC [1, 1, 1, 1, 1, 1, 0] (codeOf Try.f3))) (annSeq (a := (subC [1, 1, 1, 1, 1, 1, 1, 0] (codeOf Try.f3))) (b := (subC [1, 1, 1, 1, 1, 1, 1, 1] (codeOf Try.f3))) (by kernel_rfl) (annNo (subC [1, 1, 1, 1, 1, 1, 1, 0] (codeOf Try.f3))) (annSeq (a := (subC [1, 1, 1, 1, 1, 1, 1, 1, 0] (codeOf Try.f3))) (b := (subC [1, 1, 1, 1, 1, 1, 1, 1, 1] (codeOf Try.f3))) (by kernel_rfl) (annNo (subC [1, 1, 1, 1, 1, 1, 1, 1, 0] (codeOf Try.f3))) (annSeq (a := (subC [1, 1, 1, 1, 1, 1, 1, 1, 1, 0] (codeOf Try.f3))) (b := (subC [1, 1, 1, 1, 1, 1, 1, 1, 1, 1] (codeOf Try.f3))) (by kernel_rfl) (annSeq (a := (subC [1, 1, 1, 1, 1, 1, 1, 1, 1, 0, 0] (codeOf Try.f3))) (b := (subC [1, 1, 1, 1, 1, 1, 1, 1, 1, 0, 1] (codeOf Try.f3))) (by kernel_rfl) (annNo (subC [1, 1, 1, 1, 1, 1, 1, 1, 1, 0, 0] (codeOf Try.f3))) (annBlock (a := (subC [1, 1, 1, 1, 1, 1, 1, 1, 1, 0, 1, 0] (codeOf Try.f3))) (i := 0) (by kernel_rfl) (annLoop (a := (subC [1, 1, 1, 1, 1, 1, 1, 1, 1, 0, 1, 0, 0] (codeOf Try.f3))) (by kernel_rfl) F_law08_MassJoins_L0_ok))) (annNo (subC [1, 1, 1, 1, 1, 1, 1, 1, 1, 1] (codeOf Try.f3))))))))))))))
noncomputable def T_law08_MassJoins (a0_0n : Nat) (a0_0_0 : Nat → Nat) (a0_0_1 : Nat → Nat) (a0_0_2 : Nat → Nat) (a0_0_3 : Nat → Nat) : Bool := let x0 : Nat := (Int.toNat (IntKind.wrap .i64 ((Int.ofNat a0_0n) + (1 : Int)))); let x1 : Int := ((L_law08_MassJoins_L0 a0_0n a0_0_0 a0_0_1 a0_0_2 a0_0_3 ((0 + a0_0n) + 2) (fun (j0 : Nat) => (bif (Nat.blt j0 (0 + a0_0n)) then (a0_0_0 j0) else (bif (Nat.beq (j0 - (0 + a0_0n)) 0) then 4635118810238550016 else 4635189178982727680))) (fun (j0 : Nat) => (bif (Nat.blt j0 (0 + a0_0n)) then (a0_0_1 j0) else (bif (Nat.beq (j0 - (0 + a0_0n)) 0) then 0 else 0))) (fun (j0 : Nat) => (bif (Nat.blt j0 (0 + a0_0n)) then (a0_0_2 j0) else (bif (Nat.beq (j0 - (0 + a0_0n)) 0) then 0 else 0))) (fun (j0 : Nat) => (bif (Nat.blt j0 (0 + a0_0n)) then (a0_0_3 j0) else (bif (Nat.beq (j0 - (0 + a0_0n)) 0) then 0 else 0))) (V_law08_MassJoins_L0.mk (0 : Int))).v0); let x2 : Nat := (Int.toNat x1); let x3 : Nat := (a0_0_3 x2); let x4 : Nat := (a0_0_2 x2); let x5 : Nat := (a0_0_1 x2); let x6 : Nat := (a0_0_0 x2); let x7 : Bool := (Nat.beq (x2 - (0 + a0_0n)) 0); let x8 : Nat := (bif x7 then 0 else 0); let x9 : Bool := (Nat.blt x2 (0 + a0_0n)); (bif (!(s_law08_alive_0)) then false else (bif (ilt (300 : Int) (Int.ofNat a0_0n)) then (s_law08_alive_0) else (bif (bif (!(ilt x1 (Int.ofNat a0_0n))) then false else (!(s_ref08_Same_0 (bif x9 then x6 else (bif x7 then 4635118810238550016 else 4635189178982727680)) (bif x9 then x5 else x8) (bif x9 then x4 else x8) (bif x9 then x3 else x8) x6 x5 x4 x3))) then false else (((((s_law08_alive_0) && (s_ref08_Same_0 (s_mass_Join_0 a0_0n (fun (j0 : Nat) => (bif (Nat.blt j0 (0 + a0_0n)) then (a0_0_0 j0) else (bif (Nat.beq (j0 - (0 + a0_0n)) 0) then 4635118810238550016 else 4635189178982727680))) (fun (j0 : Nat) => (bif (Nat.blt j0 (0 + a0_0n)) then (a0_0_1 j0) else (bif (Nat.beq (j0 - (0 + a0_0n)) 0) then 0 else 0))) (fun (j0 : Nat) => (bif (Nat.blt j0 (0 + a0_0n)) then (a0_0_2 j0) else (bif (Nat.beq (j0 - (0 + a0_0n)) 0) then 0 else 0))) (fun (j0 : Nat) => (bif (Nat.blt j0 (0 + a0_0n)) then (a0_0_3 j0) else (bif (Nat.beq (j0 - (0 + a0_0n)) 0) then 0 else 0)))) (s_mass_Join_1 a0_0n (fun (j0 : Nat) => (bif (Nat.blt j0 (0 + a0_0n)) then (a0_0_0 j0) else (bif (Nat.beq (j0 - (0 + a0_0n)) 0) then 4635118810238550016 else 4635189178982727680))) (fun (j0 : Nat) => (bif (Nat.blt j0 (0 + a0_0n)) then (a0_0_1 j0) else (bif (Nat.beq (j0 - (0 + a0_0n)) 0) then 0 else 0))) (fun (j0 : Nat) => (bif (Nat.blt j0 (0 + a0_0n)) then (a0_0_2 j0) else (bif (Nat.beq (j0 - (0 + a0_0n)) 0) then 0 else 0))) (fun (j0 : Nat) => (bif (Nat.blt j0 (0 + a0_0n)) then (a0_0_3 j0) else (bif (Nat.beq (j0 - (0 + a0_0n)) 0) then 0 else 0)))) (s_mass_Join_2 a0_0n (fun (j0 : Nat) => (bif (Nat.blt j0 (0 + a0_0n)) then (a0_0_0 j0) else (bif (Nat.beq (j0 - (0 + a0_0n)) 0) then 4635118810238550016 else 4635189178982727680))) (fun (j0 : Nat) => (bif (Nat.blt j0 (0 + a0_0n)) then (a0_0_1 j0) else (bif (Nat.beq (j0 - (0 + a0_0n)) 0) then 0 else 0))) (fun (j0 : Nat) => (bif (Nat.blt j0 (0 + a0_0n)) then (a0_0_2 j0) else (bif (Nat.beq (j0 - (0 + a0_0n)) 0) then 0 else 0))) (fun (j0 : Nat) => (bif (Nat.blt j0 (0 + a0_0n)) then (a0_0_3 j0) else (bif (Nat.beq (j0 - (0 + a0_0n)) 0) then 0 else 0)))) (s_mass_Join_3 a0_0n (fun (j0 : Nat) => (bif (Nat.blt j0 (0 + a0_0n)) then (a0_0_0 j0) else (bif (Nat.beq (j0 - (0 + a0_0n)) 0) then 4635118810238550016 else 4635189178982727680))) (fun (j0 : Nat) => (bif (Nat.blt j0 (0 + a0_0n)) then (a0_0_1 j0) else (bif (Nat.beq (j0 - (0 + a0_0n)) 0) then 0 else 0))) (fun (j0 : Nat) => (bif (Nat.blt j0 (0 + a0_0n)) then (a0_0_2 j0) else (bif (Nat.beq (j0 - (0 + a0_0n)) 0) then 0 else 0))) (fun (j0 : Nat) => (bif (Nat.blt j0 (0 + a0_0n)) then (a0_0_3 j0) else (bif (Nat.beq (j0 - (0 + a0_0n)) 0) then 0 else 0)))) (s_ref08_Join_0 a0_0n a0_0_0 a0_0_1 a0_0_2 a0_0_3) (s_ref08_Join_1 a0_0n a0_0_0 a0_0_1 a0_0_2 a0_0_3) (s_ref08_Join_2 a0_0n a0_0_0 a0_0_1 a0_0_2 a0_0_3) (s_ref08_Join_3 a0_0n a0_0_0 a0_0_1 a0_0_2 a0_0_3))) && (ieq (s_mass_Join_4 a0_0n (fun (j0 : Nat) => (bif (Nat.blt j0 (0 + a0_0n)) then (a0_0_0 j0) else (bif (Nat.beq (j0 - (0 + a0_0n)) 0) then 4635118810238550016 else 4635189178982727680))) (fun (j0 : Nat) => (bif (Nat.blt j0 (0 + a0_0n)) then (a0_0_1 j0) else (bif (Nat.beq (j0 - (0 + a0_0n)) 0) then 0 else 0))) (fun (j0 : Nat) => (bif (Nat.blt j0 (0 + a0_0n)) then (a0_0_2 j0) else (bif (Nat.beq (j0 - (0 + a0_0n)) 0) then 0 else 0))) (fun (j0 : Nat) => (bif (Nat.blt j0 (0 + a0_0n)) then (a0_0_3 j0) else (bif (Nat.beq (j0 - (0 + a0_0n)) 0) then 0 else 0)))) (s_ref08_Join_4 a0_0n a0_0_0 a0_0_1 a0_0_2 a0_0_3))) && (feq (bif (Nat.blt a0_0n (0 + a0_0n)) then (a0_0_0 a0_0n) else (bif (Nat.beq (a0_0n - (0 + a0_0n)) 0) then 4635118810238550016 else 4635189178982727680)) 4635118810238550016)) && (feq (bif (Nat.blt x0 (0 + a0_0n)) then (a0_0_0 x0) else (bif (Nat.beq (x0 - (0 + a0_0n)) 0) then 4635118810238550016 else 4635189178982727680)) 4635189178982727680)))))
noncomputable def O_law08_MassJoins (a0_0n : Nat) (a0_0_0 : Nat → Nat) (a0_0_1 : Nat → Nat) (a0_0_2 : Nat → Nat) (a0_0_3 : Nat → Nat) : Bool := let x0 : Nat := ((0 + a0_0n) + 2); let x1 : Bool := (eqT x0 x0); let x2 : Bool := (Nat.ble a0_0n x0); let x3 : Bool := ((((allB fun _ => true) && (o_ref08_Join a0_0n a0_0_0 a0_0_1 a0_0_2 a0_0_3)) && ((x2 && ((allB fun _ => true) && (o_mass_Join a0_0n (fun (j0 : Nat) => (bif (Nat.blt j0 (0 + a0_0n)) then (a0_0_0 j0) else (bif (Nat.beq (j0 - (0 + a0_0n)) 0) then 4635118810238550016 else 4635189178982727680))) (fun (j0 : Nat) => (bif (Nat.blt j0 (0 + a0_0n)) then (a0_0_1 j0) else (bif (Nat.beq (j0 - (0 + a0_0n)) 0) then 0 else 0))) (fun (j0 : Nat) => (bif (Nat.blt j0 (0 + a0_0n)) then (a0_0_2 j0) else (bif (Nat.beq (j0 - (0 + a0_0n)) 0) then 0 else 0))) (fun (j0 : Nat) => (bif (Nat.blt j0 (0 + a0_0n)) then (a0_0_3 j0) else (bif (Nat.beq (j0 - (0 + a0_0n)) 0) then 0 else 0)))))) && ((x2 || x2) && (((Nat.ble (0 + a0_0n) (0 + a0_0n)) && (Nat.ble (x0 * 32) 140737488355328)) && (Nat.ble ((0 + a0_0n) * 32) 140737488355328))))) && (((((allB fun _ => true) && (allB fun _ => true)) && x1) && x1) && (E_law08_MassJoins_L0 a0_0n a0_0_0 a0_0_1 a0_0_2 a0_0_3 x0 (fun (j0 : Nat) => (bif (Nat.blt j0 (0 + a0_0n)) then (a0_0_0 j0) else (bif (Nat.beq (j0 - (0 + a0_0n)) 0) then 4635118810238550016 else 4635189178982727680))) (fun (j0 : Nat) => (bif (Nat.blt j0 (0 + a0_0n)) then (a0_0_1 j0) else (bif (Nat.beq (j0 - (0 + a0_0n)) 0) then 0 else 0))) (fun (j0 : Nat) => (bif (Nat.blt j0 (0 + a0_0n)) then (a0_0_2 j0) else (bif (Nat.beq (j0 - (0 + a0_0n)) 0) then 0 else 0))) (fun (j0 : Nat) => (bif (Nat.blt j0 (0 + a0_0n)) then (a0_0_3 j0) else (bif (Nat.beq (j0 - (0 + a0_0n)) 0) then 0 else 0))) (V_law08_MassJoins_L0.mk (0 : Int))))); let x4 : Bool := (mrgB (s_law08_alive_0) x3 x3); let x5 : Bool := ((s_law08_alive_0) && (s_ref08_Same_0 (s_mass_Join_0 a0_0n (fun (j0 : Nat) => (bif (Nat.blt j0 (0 + a0_0n)) then (a0_0_0 j0) else (bif (Nat.beq (j0 - (0 + a0_0n)) 0) then 4635118810238550016 else 4635189178982727680))) (fun (j0 : Nat) => (bif (Nat.blt j0 (0 + a0_0n)) then (a0_0_1 j0) else (bif (Nat.beq (j0 - (0 + a0_0n)) 0) then 0 else 0))) (fun (j0 : Nat) => (bif (Nat.blt j0 (0 + a0_0n)) then (a0_0_2 j0) else (bif (Nat.beq (j0 - (0 + a0_0n)) 0) then 0 else 0))) (fun (j0 : Nat) => (bif (Nat.blt j0 (0 + a0_0n)) then (a0_0_3 j0) else (bif (Nat.beq (j0 - (0 + a0_0n)) 0) then 0 else 0)))) (s_mass_Join_1 a0_0n (fun (j0 : Nat) => (bif (Nat.blt j0 (0 + a0_0n)) then (a0_0_0 j0) else (bif (Nat.beq (j0 - (0 + a0_0n)) 0) then 4635118810238550016 else 4635189178982727680))) (fun (j0 : Nat) => (bif (Nat.blt j0 (0 + a0_0n)) then (a0_0_1 j0) else (bif (Nat.beq (j0 - (0 + a0_0n)) 0) then 0 else 0))) (fun (j0 : Nat) => (bif (Nat.blt j0 (0 + a0_0n)) then (a0_0_2 j0) else (bif (Nat.beq (j0 - (0 + a0_0n)) 0) then 0 else 0))) (fun (j0 : Nat) => (bif (Nat.blt j0 (0 + a0_0n)) then (a0_0_3 j0) else (bif (Nat.beq (j0 - (0 + a0_0n)) 0) then 0 else 0)))) (s_mass_Join_2 a0_0n (fun (j0 : Nat) => (bif (Nat.blt j0 (0 + a0_0n)) then (a0_0_0 j0) else (bif (Nat.beq (j0 - (0 + a0_0n)) 0) then 4635118810238550016 else 4635189178982727680))) (fun (j0 : Nat) => (bif (Nat.blt j0 (0 + a0_0n)) then (a0_0_1 j0) else (bif (Nat.beq (j0 - (0 + a0_0n)) 0) then 0 else 0))) (fun (j0 : Nat) => (bif (Nat.blt j0 (0 + a0_0n)) then (a0_0_2 j0) else (bif (Nat.beq (j0 - (0 + a0_0n)) 0) then 0 else 0))) (fun (j0 : Nat) => (bif (Nat.blt j0 (0 + a0_0n)) then (a0_0_3 j0) else (bif (Nat.beq (j0 - (0 + a0_0n)) 0) then 0 else 0)))) (s_mass_Join_3 a0_0n (fun (j0 : Nat) => (bif (Nat.blt j0 (0 + a0_0n)) then (a0_0_0 j0) else (bif (Nat.beq (j0 - (0 + a0_0n)) 0) then 4635118810238550016 else 4635189178982727680))) (fun (j0 : Nat) => (bif (Nat.blt j0 (0 + a0_0n)) then (a0_0_1 j0) else (bif (Nat.beq (j0 - (0 + a0_0n)) 0) then 0 else 0))) (fun (j0 : Nat) => (bif (Nat.blt j0 (0 + a0_0n)) then (a0_0_2 j0) else (bif (Nat.beq (j0 - (0 + a0_0n)) 0) then 0 else 0))) (fun (j0 : Nat) => (bif (Nat.blt j0 (0 + a0_0n)) then (a0_0_3 j0) else (bif (Nat.beq (j0 - (0 + a0_0n)) 0) then 0 else 0)))) (s_ref08_Join_0 a0_0n a0_0_0 a0_0_1 a0_0_2 a0_0_3) (s_ref08_Join_1 a0_0n a0_0_0 a0_0_1 a0_0_2 a0_0_3) (s_ref08_Join_2 a0_0n a0_0_0 a0_0_1 a0_0_2 a0_0_3) (s_ref08_Join_3 a0_0n a0_0_0 a0_0_1 a0_0_2 a0_0_3))); let x6 : Bool := (mrgB x5 x4 x4); let x7 : Bool := (Nat.blt a0_0n x0); let x8 : Bool := (x5 && (ieq (s_mass_Join_4 a0_0n (fun (j0 : Nat) => (bif (Nat.blt j0 (0 + a0_0n)) then (a0_0_0 j0) else (bif (Nat.beq (j0 - (0 + a0_0n)) 0) then 4635118810238550016 else 4635189178982727680))) (fun (j0 : Nat) => (bif (Nat.blt j0 (0 + a0_0n)) then (a0_0_1 j0) else (bif (Nat.beq (j0 - (0 + a0_0n)) 0) then 0 else 0))) (fun (j0 : Nat) => (bif (Nat.blt j0 (0 + a0_0n)) then (a0_0_2 j0) else (bif (Nat.beq (j0 - (0 + a0_0n)) 0) then 0 else 0))) (fun (j0 : Nat) => (bif (Nat.blt j0 (0 + a0_0n)) then (a0_0_3 j0) else (bif (Nat.beq (j0 - (0 + a0_0n)) 0) then 0 else 0)))) (s_ref08_Join_4 a0_0n a0_0_0 a0_0_1 a0_0_2 a0_0_3))); let x9 : Bool := (mrgB x8 (x7 && (x7 && x6)) x6); let x10 : Int := (IntKind.wrap .i64 ((Int.ofNat a0_0n) + (1 : Int))); let x11 : Bool := (Nat.blt (Int.toNat x10) x0); let x12 : Int := ((L_law08_MassJoins_L0 a0_0n a0_0_0 a0_0_1 a0_0_2 a0_0_3 x0 (fun (j0 : Nat) => (bif (Nat.blt j0 (0 + a0_0n)) then (a0_0_0 j0) else (bif (Nat.beq (j0 - (0 + a0_0n)) 0) then 4635118810238550016 else 4635189178982727680))) (fun (j0 : Nat) => (bif (Nat.blt j0 (0 + a0_0n)) then (a0_0_1 j0) else (bif (Nat.beq (j0 - (0 + a0_0n)) 0) then 0 else 0))) (fun (j0 : Nat) => (bif (Nat.blt j0 (0 + a0_0n)) then (a0_0_2 j0) else (bif (Nat.beq (j0 - (0 + a0_0n)) 0) then 0 else 0))) (fun (j0 : Nat) => (bif (Nat.blt j0 (0 + a0_0n)) then (a0_0_3 j0) else (bif (Nat.beq (j0 - (0 + a0_0n)) 0) then 0 else 0))) (V_law08_MassJoins_L0.mk (0 : Int))).v0); let x13 : Nat := (Int.toNat x12); let x14 : Nat := (a0_0_3 x13); let x15 : Nat := (a0_0_2 x13); let x16 : Nat := (a0_0_1 x13); let x17 : Nat := (a0_0_0 x13); let x18 : Bool := (Nat.beq (x13 - (0 + a0_0n)) 0); let x19 : Nat := (bif x18 then 0 else 0); let x20 : Bool := (Nat.blt x13 (0 + a0_0n)); (mrgB (!(s_law08_alive_0)) true (mrgB (ilt (300 : Int) (Int.ofNat a0_0n)) true (mrgB (bif (!(ilt x12 (Int.ofNat a0_0n))) then false else (!(s_ref08_Same_0 (bif x20 then x17 else (bif x18 then 4635118810238550016 else 4635189178982727680)) (bif x20 then x16 else x19) (bif x20 then x15 else x19) (bif x20 then x14 else x19) x17 x16 x15 x14))) x3 (mrgB (x8 && (feq (bif (Nat.blt a0_0n (0 + a0_0n)) then (a0_0_0 a0_0n) else (bif (Nat.beq (a0_0n - (0 + a0_0n)) 0) then 4635118810238550016 else 4635189178982727680)) 4635118810238550016)) (x11 && (((ile (0 : Int) x10) && x11) && x9)) x9))))
theorem tree_law08_MassJoins (a0_0n : Nat) (a0_0_0 : Nat → Nat) (a0_0_1 : Nat → Nat) (a0_0_2 : Nat → Nat) (a0_0_3 : Nat → Nat) : outB (evFnM Try.prog false menv79 [] [] 96 (Ann.two Ann.no (Ann.two Ann.no (Ann.two Ann.no (Ann.two Ann.no (Ann.two Ann.no (Ann.two Ann.no (Ann.two Ann.no (Ann.two Ann.no (Ann.two Ann.no (Ann.two (Ann.two Ann.no (Ann.one (Ann.loop F_law08_MassJoins_L0))) Ann.no)))))))))) Try.f3 [AV.view a0_0n 4 (fun (i0 : Nat) => [AV.float (a0_0_0 i0), AV.float (a0_0_1 i0), AV.float (a0_0_2 i0), AV.float (a0_0_3 i0)])] []) = some (O_law08_MassJoins a0_0n a0_0_0 a0_0_1 a0_0_2 a0_0_3, AV.bool (T_law08_MassJoins a0_0n a0_0_0 a0_0_1 a0_0_2 a0_0_3)) := by kernel_rfl

end Go.Proofs.Ytbkogihigehjlaa
