/- The contracts of the functions that these laws reach, loops too, printed by a program of this work: each says what the Go function gives, up to which NaN. -/
import Derived.Test.YtbkogihigehjlaaLFnsMA
set_option linter.unusedVariables false
set_option linter.unusedSimpArgs false
set_option maxRecDepth 100000
set_option maxHeartbeats 4000000
noncomputable section
namespace Go.Proofs.Ytbkogihigehjlaa
open Go.Lst
open Go.Sim (fadd fsub fmul fdiv fneg feq flt fle fsqrt cn nanb fabs fcps fsame feq_self cps_cn fabs_cn)
-- tumble/mass.About
theorem ann_mass_About : FnOk Try.prog false 0 Try.f13 Ann.no := (fnNo _)
def s_mass_About_0 (e g m q E D : Nat) : Nat := (bif (!(ieq (s_mass_Check_0 e g m q) (0 : Int))) then 0 else (bif (!(s_vec_Within_0 E D 4787326403894837248)) then 0 else (s_mass_about_0 e g m q E D)))
def s_mass_About_1 (e g m q E D : Nat) : Int := (bif (!(ieq (s_mass_Check_0 e g m q) (0 : Int))) then (s_mass_Check_0 e g m q) else (bif (!(s_vec_Within_0 E D 4787326403894837248)) then (5 : Int) else (0 : Int)))
theorem e_mass_About (e g m q E D : Nat) : outB (evFnM Try.prog false menv66 [] [] 96 Ann.no Try.f13 [AV.agg [AV.float e, AV.float g, AV.float m, AV.float q], AV.agg [AV.float E, AV.float D]] []) = some (true, AV.tup [AV.float (s_mass_About_0 e g m q E D), AV.int .i64 (s_mass_About_1 e g m q E D)]) := by kernel_rfl
def S_mass_About : List AV → Option (Ob × AV)
  | [AV.agg [AV.float e, AV.float g, AV.float m, AV.float q], AV.agg [AV.float E, AV.float D]] => some (Ob.tt, AV.tup [AV.float (s_mass_About_0 e g m q E D), AV.int .i64 (s_mass_About_1 e g m q E D)])
  | _ => none
theorem t_mass_About : SOkM Try.prog false (13, fun args => match S_mass_About args with | some (o, v) => some (o, v, []) | none => none) := SOkM.flat (N := 96) menv66_ok Try.func13 ann_mass_About Try.call13 fun args o v h ho => by
  unfold S_mass_About at h
  split at h
  · rename_i e g m q E D
    cases h
    have ho2 := ho
    have this := show outB (evFnM Try.prog false menv66 [] [] 96 Ann.no Try.f13 [AV.agg [AV.float e, AV.float g, AV.float m, AV.float q], AV.agg [AV.float E, AV.float D]] []) = _ from e_mass_About e g m q E D
    exact ⟨this, rfl⟩
  · cases h
def c_mass_About : SFM := fun args => match S_mass_About args with | some (o, v) => some (o, v, []) | none => none
theorem c_mass_About_ok : SOkM Try.prog false (13, c_mass_About) := t_mass_About
def mss66 : List (FuncId × SFM) := (13, c_mass_About) :: mss65
def menv67 : EnvM := mkEnvM mxs mss66 mws2
theorem mss66_ok : All (SOkM Try.prog false) mss66 := All.cons c_mass_About_ok mss65_ok
theorem menv67_ok : menv67.Ok Try.prog false := mkEnvM_ok mxs_ok mss66_ok mws2_ok
-- tumble/tumbleref02.Bits
theorem ann_ref02_Bits : FnOk Try.prog false 0 Try.f51 Ann.no := (fnNo _)
def s_ref02_Bits_0 (e : Nat) : Int := (bif (!(feq e e)) then (9221120237041090561 : Int) else (Int.ofNat e))
theorem e_ref02_Bits (e : Nat) : outB (evFnM Try.prog false menv67 [] [] 96 Ann.no Try.f51 [AV.float e] []) = some ((mrgB (!(feq e e)) true (!(nanb e))), AV.int .u64 (s_ref02_Bits_0 e)) := by kernel_rfl
def S_ref02_Bits : List AV → Option (Ob × AV)
  | [AV.float e] => some (Ob.tt, AV.int .u64 (s_ref02_Bits_0 e))
  | _ => none
theorem ob_ref02_Bits (e : Nat) : (mrgB (!(feq e e)) true (!(nanb e))) = true := by show ((mrgB (!(feq e e)) true (!(nanb e)))) = true; (try simp only [feq_self]) <;> (generalize (nanb e) = q0; cases q0 <;> rfl)
theorem t_ref02_Bits : SOkM Try.prog false (51, fun args => match S_ref02_Bits args with | some (o, v) => some (o, v, []) | none => none) := SOkM.flat (N := 96) menv67_ok Try.func51 ann_ref02_Bits Try.call51 fun args o v h ho => by
  unfold S_ref02_Bits at h
  split at h
  · rename_i e
    cases h
    have ho2 := ho
    have this := show outB (evFnM Try.prog false menv67 [] [] 96 Ann.no Try.f51 [AV.float e] []) = _ from e_ref02_Bits e
    rw [(ob_ref02_Bits e)] at this
    exact ⟨this, rfl⟩
  · cases h
def c_ref02_Bits : SFM := fun args => match S_ref02_Bits args with | some (o, v) => some (o, v, []) | none => none
theorem c_ref02_Bits_ok : SOkM Try.prog false (51, c_ref02_Bits) := t_ref02_Bits
def mss67 : List (FuncId × SFM) := (51, c_ref02_Bits) :: mss66
def menv68 : EnvM := mkEnvM mxs mss67 mws2
theorem mss67_ok : All (SOkM Try.prog false) mss67 := All.cons c_ref02_Bits_ok mss66_ok
theorem menv68_ok : menv68.Ok Try.prog false := mkEnvM_ok mxs_ok mss67_ok mws2_ok
-- tumble/tumbleref02.Is
theorem ann_ref02_Is : FnOk Try.prog false 0 Try.f19 Ann.no := (fnNo _)
def s_ref02_Is_0 (e g : Nat) : Bool := (ieq (s_ref02_Bits_0 e) (s_ref02_Bits_0 g))
theorem e_ref02_Is (e g : Nat) : outB (evFnM Try.prog false menv68 [] [] 96 Ann.no Try.f19 [AV.float e, AV.float g] []) = some (true, AV.bool (s_ref02_Is_0 e g)) := by kernel_rfl
def S_ref02_Is : List AV → Option (Ob × AV)
  | [AV.float e, AV.float g] => some (Ob.tt, AV.bool (s_ref02_Is_0 e g))
  | _ => none
theorem t_ref02_Is : SOkM Try.prog false (19, fun args => match S_ref02_Is args with | some (o, v) => some (o, v, []) | none => none) := SOkM.flat (N := 96) menv68_ok Try.func19 ann_ref02_Is Try.call19 fun args o v h ho => by
  unfold S_ref02_Is at h
  split at h
  · rename_i e g
    cases h
    have ho2 := ho
    have this := show outB (evFnM Try.prog false menv68 [] [] 96 Ann.no Try.f19 [AV.float e, AV.float g] []) = _ from e_ref02_Is e g
    exact ⟨this, rfl⟩
  · cases h
def c_ref02_Is : SFM := fun args => match S_ref02_Is args with | some (o, v) => some (o, v, []) | none => none
theorem c_ref02_Is_ok : SOkM Try.prog false (19, c_ref02_Is) := t_ref02_Is
def mss68 : List (FuncId × SFM) := (19, c_ref02_Is) :: mss67
def menv69 : EnvM := mkEnvM mxs mss68 mws2
theorem mss68_ok : All (SOkM Try.prog false) mss68 := All.cons c_ref02_Is_ok mss67_ok
theorem menv69_ok : menv69.Ok Try.prog false := mkEnvM_ok mxs_ok mss68_ok mws2_ok
-- tumble/tumbleref02.Same
theorem ann_ref02_Same : FnOk Try.prog false 0 Try.f45 Ann.no := (fnNo _)
def s_ref02_Same_0 (e g m q : Nat) : Bool := ((s_ref02_Is_0 e m) && (s_ref02_Is_0 g q))
theorem e_ref02_Same (e g m q : Nat) : outB (evFnM Try.prog false menv69 [] [] 96 Ann.no Try.f45 [AV.agg [AV.float e, AV.float g], AV.agg [AV.float m, AV.float q]] []) = some (true, AV.bool (s_ref02_Same_0 e g m q)) := by kernel_rfl
def S_ref02_Same : List AV → Option (Ob × AV)
  | [AV.agg [AV.float e, AV.float g], AV.agg [AV.float m, AV.float q]] => some (Ob.tt, AV.bool (s_ref02_Same_0 e g m q))
  | _ => none
theorem t_ref02_Same : SOkM Try.prog false (45, fun args => match S_ref02_Same args with | some (o, v) => some (o, v, []) | none => none) := SOkM.flat (N := 96) menv69_ok Try.func45 ann_ref02_Same Try.call45 fun args o v h ho => by
  unfold S_ref02_Same at h
  split at h
  · rename_i e g m q
    cases h
    have ho2 := ho
    have this := show outB (evFnM Try.prog false menv69 [] [] 96 Ann.no Try.f45 [AV.agg [AV.float e, AV.float g], AV.agg [AV.float m, AV.float q]] []) = _ from e_ref02_Same e g m q
    exact ⟨this, rfl⟩
  · cases h
def c_ref02_Same : SFM := fun args => match S_ref02_Same args with | some (o, v) => some (o, v, []) | none => none
theorem c_ref02_Same_ok : SOkM Try.prog false (45, c_ref02_Same) := t_ref02_Same
def mss69 : List (FuncId × SFM) := (45, c_ref02_Same) :: mss68
def menv70 : EnvM := mkEnvM mxs mss69 mws2
theorem mss69_ok : All (SOkM Try.prog false) mss69 := All.cons c_ref02_Same_ok mss68_ok
theorem menv70_ok : menv70.Ok Try.prog false := mkEnvM_ok mxs_ok mss69_ok mws2_ok
-- tumble/tumbleref08.Same
theorem ann_ref08_Same : FnOk Try.prog false 0 Try.f12 Ann.no := (fnNo _)
def s_ref08_Same_0 (e g m q E D K J : Nat) : Bool := (((s_ref02_Is_0 e E) && (s_ref02_Is_0 g D)) && (s_ref02_Same_0 m q K J))
theorem e_ref08_Same (e g m q E D K J : Nat) : outB (evFnM Try.prog false menv70 [] [] 96 Ann.no Try.f12 [AV.agg [AV.float e, AV.float g, AV.float m, AV.float q], AV.agg [AV.float E, AV.float D, AV.float K, AV.float J]] []) = some (true, AV.bool (s_ref08_Same_0 e g m q E D K J)) := by kernel_rfl
def S_ref08_Same : List AV → Option (Ob × AV)
  | [AV.agg [AV.float e, AV.float g, AV.float m, AV.float q], AV.agg [AV.float E, AV.float D, AV.float K, AV.float J]] => some (Ob.tt, AV.bool (s_ref08_Same_0 e g m q E D K J))
  | _ => none
theorem t_ref08_Same : SOkM Try.prog false (12, fun args => match S_ref08_Same args with | some (o, v) => some (o, v, []) | none => none) := SOkM.flat (N := 96) menv70_ok Try.func12 ann_ref08_Same Try.call12 fun args o v h ho => by
  unfold S_ref08_Same at h
  split at h
  · rename_i e g m q E D K J
    cases h
    have ho2 := ho
    have this := show outB (evFnM Try.prog false menv70 [] [] 96 Ann.no Try.f12 [AV.agg [AV.float e, AV.float g, AV.float m, AV.float q], AV.agg [AV.float E, AV.float D, AV.float K, AV.float J]] []) = _ from e_ref08_Same e g m q E D K J
    exact ⟨this, rfl⟩
  · cases h
def c_ref08_Same : SFM := fun args => match S_ref08_Same args with | some (o, v) => some (o, v, []) | none => none
theorem c_ref08_Same_ok : SOkM Try.prog false (12, c_ref08_Same) := t_ref08_Same
def mss70 : List (FuncId × SFM) := (12, c_ref08_Same) :: mss69
def menv71 : EnvM := mkEnvM mxs mss70 mws2
theorem mss70_ok : All (SOkM Try.prog false) mss70 := All.cons c_ref08_Same_ok mss69_ok
theorem menv71_ok : menv71.Ok Try.prog false := mkEnvM_ok mxs_ok mss70_ok mws2_ok
-- tumble/tumblelaw08.nearly
theorem ann_law08_nearly : FnOk Try.prog false 0 Try.f26 Ann.no := (fnNo _)
def s_law08_nearly_0 (e g m q : Nat) : Bool := (fle (fabs (fsub e g)) (fmul q (fabs m)))
theorem e_law08_nearly (e g m q : Nat) : outB (evFnM Try.prog false menv71 [] [] 96 Ann.no Try.f26 [AV.float e, AV.float g, AV.float m, AV.float q] []) = some (true, AV.bool (s_law08_nearly_0 e g m q)) := by kernel_rfl
def S_law08_nearly : List AV → Option (Ob × AV)
  | [AV.float e, AV.float g, AV.float m, AV.float q] => some (Ob.tt, AV.bool (s_law08_nearly_0 e g m q))
  | _ => none
theorem t_law08_nearly : SOkM Try.prog false (26, fun args => match S_law08_nearly args with | some (o, v) => some (o, v, []) | none => none) := SOkM.flat (N := 96) menv71_ok Try.func26 ann_law08_nearly Try.call26 fun args o v h ho => by
  unfold S_law08_nearly at h
  split at h
  · rename_i e g m q
    cases h
    have ho2 := ho
    have this := show outB (evFnM Try.prog false menv71 [] [] 96 Ann.no Try.f26 [AV.float e, AV.float g, AV.float m, AV.float q] []) = _ from e_law08_nearly e g m q
    exact ⟨this, rfl⟩
  · cases h
def c_law08_nearly : SFM := fun args => match S_law08_nearly args with | some (o, v) => some (o, v, []) | none => none
theorem c_law08_nearly_ok : SOkM Try.prog false (26, c_law08_nearly) := t_law08_nearly
def mss71 : List (FuncId × SFM) := (26, c_law08_nearly) :: mss70
def menv72 : EnvM := mkEnvM mxs mss71 mws2
theorem mss71_ok : All (SOkM Try.prog false) mss71 := All.cons c_law08_nearly_ok mss70_ok
theorem menv72_ok : menv72.Ok Try.prog false := mkEnvM_ok mxs_ok mss71_ok mws2_ok
-- tumble/tumblelaw08.MassAbout
-- a loop of tumble/tumblelaw08.MassAbout
structure V_law08_MassAbout_L0 where
  v0 : Nat
  v1 : Nat
  v2 : Int
  v3 : (Nat → Nat)
  v4 : (Nat → Nat)
  v5 : (Nat → Nat)
  v6 : (Nat → Nat)
def tpl_law08_MassAbout_L0 : List AV := (AV.nul :: AV.top :: AV.top :: AV.nul :: AV.top :: AV.nul :: AV.nul :: AV.nul :: AV.lst 2 0 4 0 0 :: AV.nul :: AV.nul :: tpA 168 ([]))
def cts_law08_MassAbout_L0 : List CT := [CT.keep, CT.keep, CT.keep]
def phs_law08_MassAbout_L0 : List Src := [⟨none, 0, 28, [AV.float 0, AV.float 0, AV.float 0, AV.float 0]⟩]
def T_law08_MassAbout_L0 (j : Nat) (l k n p : Nat → Nat) (r : Bool) (G : Int) (F Q R S T U : Nat) (x : V_law08_MassAbout_L0) (F0 F1 : Nat → List AV) : List AV × Heap := ((AV.view j 4 F0 :: AV.top :: AV.top :: AV.ptr (some ⟨0, 0, .lit 0⟩) :: AV.top :: AV.bool r :: AV.ptr (some ⟨1, 0, .lit 0⟩) :: AV.int .i64 G :: AV.lst 2 0 4 x.v0 x.v0 :: AV.float x.v1 :: AV.int .i64 x.v2 :: tpA 168 ([])), [⟨.flat [AV.float F, AV.float Q], 26, 0⟩, ⟨.flat [AV.float R, AV.float S, AV.float T, AV.float U], 28, 0⟩, ⟨.sym x.v0 4 F1, 28, 0⟩])
def sh_law08_MassAbout_L0 (j : Nat) (l k n p : Nat → Nat) (r : Bool) (G : Int) (F Q R S T U : Nat) (x : V_law08_MassAbout_L0) : List AV × Heap := T_law08_MassAbout_L0 j l k n p r G F Q R S T U x (fun j0 => [AV.float (l j0), AV.float (k j0), AV.float (n j0), AV.float (p j0)]) (fun j0 => [AV.float (x.v3 j0), AV.float (x.v4 j0), AV.float (x.v5 j0), AV.float (x.v6 j0)])
def step_law08_MassAbout_L0 (j : Nat) (l k n p : Nat → Nat) (x : V_law08_MassAbout_L0) : V_law08_MassAbout_L0 := V_law08_MassAbout_L0.mk (x.v0 + 1) (fmax (fmax x.v1 (fabs (n (Int.toNat x.v2)))) (fabs (p (Int.toNat x.v2)))) (IntKind.wrap .i64 (x.v2 - (1 : Int))) (fun j0 => (bif (Nat.blt j0 x.v0) then (x.v3 j0) else (l (Int.toNat x.v2)))) (fun j0 => (bif (Nat.blt j0 x.v0) then (x.v4 j0) else (k (Int.toNat x.v2)))) (fun j0 => (bif (Nat.blt j0 x.v0) then (x.v5 j0) else (n (Int.toNat x.v2)))) (fun j0 => (bif (Nat.blt j0 x.v0) then (x.v6 j0) else (p (Int.toNat x.v2))))
def go_law08_MassAbout_L0 (j : Nat) (l k n p : Nat → Nat) (x : V_law08_MassAbout_L0) : Bool := (bif (!(ile (0 : Int) x.v2)) then false else true)
def ok_law08_MassAbout_L0 (j : Nat) (l k n p : Nat → Nat) (x : V_law08_MassAbout_L0) : Bool := (mrgB (!(ile (0 : Int) x.v2)) true (((ile (0 : Int) x.v2) && (Nat.blt (Int.toNat x.v2) j)) && (((ile (0 : Int) x.v2) && (Nat.blt (Int.toNat x.v2) j)) && (((Nat.ble x.v0 x.v0) && (Nat.ble ((x.v0 + 1) * 32) 140737488355328)) && ((ile (0 : Int) x.v2) && (Nat.blt (Int.toNat x.v2) j))))))
def L_law08_MassAbout_L0 (j : Nat) (l k n p : Nat → Nat) (x : V_law08_MassAbout_L0) : V_law08_MassAbout_L0 := lastL (ok_law08_MassAbout_L0 j l k n p) (go_law08_MassAbout_L0 j l k n p) (step_law08_MassAbout_L0 j l k n p) x
def E_law08_MassAbout_L0 (j : Nat) (l k n p : Nat → Nat) (x : V_law08_MassAbout_L0) : Bool := endsL (ok_law08_MassAbout_L0 j l k n p) (go_law08_MassAbout_L0 j l k n p) (step_law08_MassAbout_L0 j l k n p) x
theorem all_law08_MassAbout_L0 (j : Nat) (l k n p : Nat → Nat) (r : Bool) (G : Int) (F Q R S T U : Nat) (x : V_law08_MassAbout_L0) : rnd Try.prog false menv72 [] [] 96 Ann.no (subC [1, 1, 1, 1, 1, 1, 1, 0, 1, 0, 0] (codeOf Try.f6)) 0 [⟨some 0, 0, 0, []⟩, ⟨some 1, 0, 0, []⟩, ⟨some 2, 0, 0, []⟩] tpl_law08_MassAbout_L0 cts_law08_MassAbout_L0 (false :: true :: true :: false :: true :: false :: false :: false :: tpB 171 ([])) [false, false] (sh_law08_MassAbout_L0 j l k n p r G F Q R S T U x) = (true, true, go_law08_MassAbout_L0 j l k n p x, ok_law08_MassAbout_L0 j l k n p x, true, sh_law08_MassAbout_L0 j l k n p r G F Q R S T U (step_law08_MassAbout_L0 j l k n p x), true) := by kernel_rfl
def fam_law08_MassAbout_L0 (j : Nat) (l k n p : Nat → Nat) (r : Bool) (G : Int) (F Q R S T U : Nat) : Fam Try.prog false menv72 [] [] 96 0 Ann.no (subC [1, 1, 1, 1, 1, 1, 1, 0, 1, 0, 0] (codeOf Try.f6)) V_law08_MassAbout_L0 where
  sh := sh_law08_MassAbout_L0 j l k n p r G F Q R S T U
  ok := ok_law08_MassAbout_L0 j l k n p
  go := go_law08_MassAbout_L0 j l k n p
  step := step_law08_MassAbout_L0 j l k n p
  chg := (false :: true :: true :: false :: true :: false :: false :: false :: tpB 171 ([]))
  chgH := [false, false]
  tpl := tpl_law08_MassAbout_L0
  cts := cts_law08_MassAbout_L0
  keep := 0
  srcs := [⟨some 0, 0, 0, []⟩, ⟨some 1, 0, 0, []⟩, ⟨some 2, 0, 0, []⟩]
  ann := (annNo (subC [1, 1, 1, 1, 1, 1, 1, 0, 1, 0, 0] (codeOf Try.f6)))
  le := by kernel_rfl
  kept := by kernel_rfl
  keptB := by kernel_rfl
  all := all_law08_MassAbout_L0 j l k n p r G F Q R S T U
  len := fun x => by kernel_rfl
  head := fun x y => by kernel_rfl
  con := fun x y => by kernel_rfl
  conH := fun x y => by kernel_rfl
def F_law08_MassAbout_L0 : St → Option Ch := fun s => cond (Nat.beq s.tm.length 179 && Nat.beq s.H.length 2) (tkCons (alL tpl_law08_MassAbout_L0 s.tm) fun e t0 => tkView 4 e fun s0 f0 => tkTops 2 t0 fun t1 => tkCons t1 fun m t2 => tkPtr 0 0 0 m <| tkTops 1 t2 fun t3 => tkCons t3 fun E t4 => tkB E fun s5 => tkCons t4 fun D t5 => tkPtr 1 0 0 D <| tkCons t5 fun K t6 => tkI .i64 K fun s6 => tkCons t6 fun J t7 => tkLst 2 0 4 J fun s7 s8 => tkCons t7 fun M t8 => tkF M fun s9 => tkCons t8 fun L t9 => tkI .i64 L fun s10 => tkTops 168 t9 fun t10 => tkNil t10 <| tkCons (alH cts_law08_MassAbout_L0 (s.H ++ List.map phan phs_law08_MassAbout_L0)) fun b11 t11 => tkFlat 26 0 b11 fun m11 => tkCons m11 fun V t12 => tkF V fun s11 => tkCons t12 fun X t13 => tkF X fun s12 => tkNil t13 <| tkCons t11 fun b14 t14 => tkFlat 28 0 b14 fun m14 => tkCons m14 fun Z t15 => tkF Z fun s13 => tkCons t15 fun aa t16 => tkF aa fun s14 => tkCons t16 fun ab t17 => tkF ab fun s15 => tkCons t17 fun ac t18 => tkF ac fun s16 => tkNil t18 <| tkCons t14 fun b19 t19 => tkSym 28 0 4 b19 fun s17 f1 => tkNil t19 <| Fam.out (fam_law08_MassAbout_L0 s0 (fL f0 0) (fL f0 1) (fL f0 2) (fL f0 3) s5 s6 s11 s12 s13 s14 s15 s16) s ((((allB fun i => isNrm [Ck.f, Ck.f, Ck.f, Ck.f] (f0 i)) && (allB fun i => isNrm [Ck.f, Ck.f, Ck.f, Ck.f] (f1 i))) && (eqT s8 s7)) && (eqT s17 s7)) (V_law08_MassAbout_L0.mk s7 s9 s10 (fL f1 0) (fL f1 1) (fL f1 2) (fL f1 3))) none
theorem F_law08_MassAbout_L0_ok : ∀ s ch, F_law08_MassAbout_L0 s = some ch → AllI s ch ∧ LoopSpec Try.prog false 0 (subC [1, 1, 1, 1, 1, 1, 1, 0, 1, 0, 0] (codeOf Try.f6)) s (sel ch) := by
  intro s ch h
  unfold F_law08_MassAbout_L0 at h
  obtain ⟨hl, h0⟩ := cond_some h rfl
  clear h
  obtain ⟨hl, hb⟩ := and_beq2 hl
  obtain ⟨e, t0, e0, h1⟩ := tkCons_some h0
  obtain ⟨s0, f0, rfl, h2⟩ := tkView_some h1
  obtain ⟨t1, rfl, h3⟩ := tkTops_some h2
  obtain ⟨m, t2, rfl, h4⟩ := tkCons_some h3
  obtain ⟨rfl, h5⟩ := tkPtr_some h4
  obtain ⟨t3, rfl, h6⟩ := tkTops_some h5
  obtain ⟨E, t4, rfl, h7⟩ := tkCons_some h6
  obtain ⟨s5, rfl, h8⟩ := tkB_some h7
  obtain ⟨D, t5, rfl, h9⟩ := tkCons_some h8
  obtain ⟨rfl, h10⟩ := tkPtr_some h9
  obtain ⟨K, t6, rfl, h11⟩ := tkCons_some h10
  obtain ⟨s6, rfl, h12⟩ := tkI_some h11
  obtain ⟨J, t7, rfl, h13⟩ := tkCons_some h12
  obtain ⟨s7, s8, rfl, h14⟩ := tkLst_some h13
  obtain ⟨M, t8, rfl, h15⟩ := tkCons_some h14
  obtain ⟨s9, rfl, h16⟩ := tkF_some h15
  obtain ⟨L, t9, rfl, h17⟩ := tkCons_some h16
  obtain ⟨s10, rfl, h18⟩ := tkI_some h17
  obtain ⟨t10, rfl, h19⟩ := tkTops_some h18
  obtain ⟨rfl, h20⟩ := tkNil_some h19
  obtain ⟨b11, t11, eH, h21⟩ := tkCons_some h20
  obtain ⟨m11, rfl, h22⟩ := tkFlat_some h21
  obtain ⟨V, t12, rfl, h23⟩ := tkCons_some h22
  obtain ⟨s11, rfl, h24⟩ := tkF_some h23
  obtain ⟨X, t13, rfl, h25⟩ := tkCons_some h24
  obtain ⟨s12, rfl, h26⟩ := tkF_some h25
  obtain ⟨rfl, h27⟩ := tkNil_some h26
  obtain ⟨b14, t14, rfl, h28⟩ := tkCons_some h27
  obtain ⟨m14, rfl, h29⟩ := tkFlat_some h28
  obtain ⟨Z, t15, rfl, h30⟩ := tkCons_some h29
  obtain ⟨s13, rfl, h31⟩ := tkF_some h30
  obtain ⟨aa, t16, rfl, h32⟩ := tkCons_some h31
  obtain ⟨s14, rfl, h33⟩ := tkF_some h32
  obtain ⟨ab, t17, rfl, h34⟩ := tkCons_some h33
  obtain ⟨s15, rfl, h35⟩ := tkF_some h34
  obtain ⟨ac, t18, rfl, h36⟩ := tkCons_some h35
  obtain ⟨s16, rfl, h37⟩ := tkF_some h36
  obtain ⟨rfl, h38⟩ := tkNil_some h37
  obtain ⟨b19, t19, rfl, h39⟩ := tkCons_some h38
  obtain ⟨s17, f1, rfl, h40⟩ := tkSym_some h39
  obtain ⟨rfl, h41⟩ := tkNil_some h40
  refine Fam.spec menv72_ok (fam_law08_MassAbout_L0 s0 (fL f0 0) (fL f0 1) (fL f0 2) (fL f0 3) s5 s6 s11 s12 s13 s14 s15 s16) (phs := phs_law08_MassAbout_L0) (hl.trans (by kernel_rfl)) (hb.trans (by kernel_rfl)) ?_ ?_ h41
  · rw [← hdr_alH cts_law08_MassAbout_L0 (s.H ++ List.map phan phs_law08_MassAbout_L0), eH]; kernel_rfl
  · intro hq
    simp only [Bool.and_eq_true] at hq
    obtain ⟨⟨⟨hq0, hq1⟩, hq2⟩, hq3⟩ := hq
    have n0 := nrm_fun hq0
    have n1 := nrm_fun hq1
    have hx := eqT_eq hq2; subst s8
    have hx := eqT_eq hq3; subst s17
    show sh_law08_MassAbout_L0 s0 (fL f0 0) (fL f0 1) (fL f0 2) (fL f0 3) s5 s6 s11 s12 s13 s14 s15 s16 (V_law08_MassAbout_L0.mk s7 s9 s10 (fL f1 0) (fL f1 1) (fL f1 2) (fL f1 3)) = (alL tpl_law08_MassAbout_L0 s.tm, alH cts_law08_MassAbout_L0 (s.H ++ List.map phan phs_law08_MassAbout_L0))
    rw [e0, eH]
    refine Eq.trans (show sh_law08_MassAbout_L0 s0 (fL f0 0) (fL f0 1) (fL f0 2) (fL f0 3) s5 s6 s11 s12 s13 s14 s15 s16 (V_law08_MassAbout_L0.mk s7 s9 s10 (fL f1 0) (fL f1 1) (fL f1 2) (fL f1 3)) = T_law08_MassAbout_L0 s0 (fL f0 0) (fL f0 1) (fL f0 2) (fL f0 3) s5 s6 s11 s12 s13 s14 s15 s16 (V_law08_MassAbout_L0.mk s7 s9 s10 (fL f1 0) (fL f1 1) (fL f1 2) (fL f1 3)) (fun i => mkN [Ck.f, Ck.f, Ck.f, Ck.f] (f0 i) 0) (fun i => mkN [Ck.f, Ck.f, Ck.f, Ck.f] (f1 i) 0) by kernel_rfl) ?_
    rw [n0, n1]
    kernel_rfl
theorem ann_law08_MassAbout : FnOk Try.prog false 0 Try.f6 (Ann.two Ann.no (Ann.two Ann.no (Ann.two Ann.no (Ann.two Ann.no (Ann.two Ann.no (Ann.two Ann.no (Ann.two Ann.no (Ann.two (Ann.two Ann.no (Ann.one (Ann.loop F_law08_MassAbout_L0))) Ann.no)))))))) := (fnOk_of (c := codeOf Try.f6) (by kernel_rfl) (annSeq (a := (subC [0] (codeOf Try.f6))) (b := (subC [1] (codeOf Try.f6))) (by kernel_rfl) (annNo (subC [0] (codeOf Try.f6))) (annSeq (a := (subC [1, 0] (codeOf Try.f6))) (b := (subC [1, 1] (codeOf Try.f6))) (by kernel_rfl) (annNo (subC [1, 0] (codeOf Try.f6))) (annSeq (a := (subC [1, 1, 0] (codeOf Try.f6))) (b := (subC [1, 1, 1] (codeOf Try.f6))) (by kernel_rfl) (annNo (subC [1, 1, 0] (codeOf Try.f6))) (annSeq (a := (subC [1, 1, 1, 0] (codeOf Try.f6))) (b := (subC [1, 1, 1, 1] (codeOf Try.f6))) (by kernel_rfl) (annNo (subC [1, 1, 1, 0] (codeOf Try.f6))) (annSeq (a := (subC [1, 1, 1, 1, 0] (codeOf Try.f6))) (b := (subC [1, 1, 1, 1, 1] (codeOf Try.f6))) (by kernel_rfl) (annNo (subC [1, 1, 1, 1, 0] (codeOf Try.f6))) (annSeq (a := (subC [1, 1, 1, 1, 1, 0] (codeOf Try.f6))) (b := (subC [1, 1, 1, 1, 1, 1] (codeOf Try.f6))) (by kernel_rfl) (annNo (subC [1, 1, 1, 1, 1, 0] (codeOf Try.f6))) (annSeq (a := (subC [1, 1, 1, 1, 1, 1, 0] (codeOf Try.f6))) (b := (subC [1, 1, 1, 1, 1, 1, 1] (codeOf Try.f6))) (by kernel_rfl) (annNo (subC [1, 1, 1, 1, 1, 1, 0] (codeOf Try.f6))) (annSeq (a := (subC [1, 1, 1, 1, 1, 1, 1, 0] (codeOf Try.f6))) (b := (subC [1, 1, 1, 1, 1, 1, 1, 1] (codeOf Try.f6))) (by kernel_rfl) (annSeq (a := (subC [1, 1, 1, 1, 1, 1, 1, 0, 0] (codeOf Try.f6))) (b := (subC [1, 1, 1, 1, 1, 1, 1, 0, 1] (codeOf Try.f6))) (by kernel_rfl) (annNo (subC [1, 1, 1, 1, 1, 1, 1, 0, 0] (codeOf Try.f6))) (annBlock (a := (subC [1, 1, 1, 1, 1, 1, 1, 0, 1, 0] (codeOf Try.f6))) (i := 0) (by kernel_rfl) (annLoop (a := (subC [1, 1, 1, 1, 1, 1, 1, 0, 1, 0, 0] (codeOf Try.f6))) (by kernel_rfl) F_law08_MassAbout_L0_ok))) (annNo (subC [1, 1, 1, 1, 1, 1, 1, 1] (codeOf Try.f6))))))))))))
def T_law08_MassAbout (I : Nat) (a0_0_0 a0_0_1 a0_0_2 a0_0_3 : Nat → Nat) (O P : Nat) : Bool := let x0 : V_law08_MassAbout_L0 := (L_law08_MassAbout_L0 I a0_0_0 a0_0_1 a0_0_2 a0_0_3 (V_law08_MassAbout_L0.mk 0 0 (IntKind.wrap .i64 ((Int.ofNat I) - (1 : Int))) (fun j0 => 0) (fun j0 => 0) (fun j0 => 0) (fun j0 => 0))); let x1 := x0.v1; let x2 : (Nat → Nat) := (x0.v6); let x3 : (Nat → Nat) := (x0.v5); let x4 : (Nat → Nat) := (x0.v4); let x5 : (Nat → Nat) := (x0.v3); let x6 := x0.v0; let x7 := s_mass_Join_3 I a0_0_0 a0_0_1 a0_0_2 a0_0_3; let x8 := s_mass_Join_2 I a0_0_0 a0_0_1 a0_0_2 a0_0_3; let x9 := s_mass_Join_0 I a0_0_0 a0_0_1 a0_0_2 a0_0_3; let x10 := s_mass_Join_1 I a0_0_0 a0_0_1 a0_0_2 a0_0_3; let x11 := s_mass_About_0 x9 x10 x8 x7 x8 x7; let x12 := s_vec_Within_0 O P 4787326403894837248; let x13 := s_mass_Join_4 x6 x5 x4 x3 x2; let x14 := s_mass_Join_4 I a0_0_0 a0_0_1 a0_0_2 a0_0_3; (bif (!(s_law08_alive_0)) then false else (bif (ilt (64 : Int) (Int.ofNat I)) then (s_law08_alive_0) else (bif (((ieq x14 (80 : Int)) && (ilt (0 : Int) (Int.ofNat I))) && (!(ieq (s_mass_Check_0 (a0_0_0 0) (a0_0_1 0) (a0_0_2 0) (a0_0_3 0)) (0 : Int)))) then ((s_law08_alive_0) && (ieq x13 x14)) else (bif ((!(ieq x14 (0 : Int))) || (!(ieq x13 (0 : Int)))) then (s_law08_alive_0) else (bif (((((!(s_law08_alive_0)) || (!(ieq (s_mass_About_1 x9 x10 x8 x7 x8 x7) (0 : Int)))) || (!(feq x11 x10))) || (!((ieq (s_mass_About_1 x9 x10 x8 x7 O P) (0 : Int)) == x12))) || (x12 && (flt (s_mass_About_0 x9 x10 x8 x7 O P) x11))) then false else (bif (ieq (Int.ofNat I) (1 : Int)) then (s_ref08_Same_0 x9 x10 x8 x7 (a0_0_0 0) (a0_0_1 0) (a0_0_2 0) (a0_0_3 0)) else (((flt x9 4156822456062967808) || (flt x1 553942754166571008)) || (((s_law08_nearly_0 x9 (s_mass_Join_0 x6 x5 x4 x3 x2) x9 4427038433705197568) && (s_law08_nearly_0 x8 (s_mass_Join_2 x6 x5 x4 x3 x2) x1 4427038433705197568)) && (s_law08_nearly_0 x7 (s_mass_Join_3 x6 x5 x4 x3 x2) x1 4427038433705197568)))))))))
def O_law08_MassAbout (I : Nat) (a0_0_0 a0_0_1 a0_0_2 a0_0_3 : Nat → Nat) (O P : Nat) : Bool := let x0 := IntKind.wrap .i64 ((Int.ofNat I) - (1 : Int)); let x1 : V_law08_MassAbout_L0 := (L_law08_MassAbout_L0 I a0_0_0 a0_0_1 a0_0_2 a0_0_3 (V_law08_MassAbout_L0.mk 0 0 x0 (fun j0 => 0) (fun j0 => 0) (fun j0 => 0) (fun j0 => 0))); let x2 : (Nat → Nat) := (x1.v6); let x3 : (Nat → Nat) := (x1.v5); let x4 : (Nat → Nat) := (x1.v4); let x5 : (Nat → Nat) := (x1.v3); let x6 := x1.v0; let x7 := ((Nat.ble x6 x6) && ((allB fun _ => true) && (o_mass_Join x6 x5 x4 x3 x2))) && (((allB fun _ => true) && (o_mass_Join I a0_0_0 a0_0_1 a0_0_2 a0_0_3)) && (((((allB fun _ => true) && (allB fun _ => true)) && (eqT 0 0)) && (eqT 0 0)) && (E_law08_MassAbout_L0 I a0_0_0 a0_0_1 a0_0_2 a0_0_3 (V_law08_MassAbout_L0.mk 0 0 x0 (fun j0 => 0) (fun j0 => 0) (fun j0 => 0) (fun j0 => 0))))); let x8 := s_mass_Join_4 I a0_0_0 a0_0_1 a0_0_2 a0_0_3; let x9 := ieq x8 (80 : Int); let x10 := mrgB x9 x7 x7; let x11 := x9 && (ilt (0 : Int) (Int.ofNat I)); let x12 := mrgB x11 ((Nat.blt 0 I) && x10) x10; let x13 := !(ieq x8 (0 : Int)); let x14 := mrgB x13 x12 x12; let x15 := mrgB (!(s_law08_alive_0)) x14 x14; let x16 := s_mass_Join_3 I a0_0_0 a0_0_1 a0_0_2 a0_0_3; let x17 := s_mass_Join_2 I a0_0_0 a0_0_1 a0_0_2 a0_0_3; let x18 := s_mass_Join_1 I a0_0_0 a0_0_1 a0_0_2 a0_0_3; let x19 := s_mass_Join_0 I a0_0_0 a0_0_1 a0_0_2 a0_0_3; let x20 := (!(s_law08_alive_0)) || (!(ieq (s_mass_About_1 x19 x18 x17 x16 x17 x16) (0 : Int))); let x21 := mrgB x20 x15 x15; let x22 := s_mass_About_0 x19 x18 x17 x16 x17 x16; let x23 := x20 || (!(feq x22 x18)); let x24 := mrgB x23 x21 x21; let x25 := s_vec_Within_0 O P 4787326403894837248; let x26 := x23 || (!((ieq (s_mass_About_1 x19 x18 x17 x16 O P) (0 : Int)) == x25)); let x27 := mrgB x26 x24 (mrgB x25 x24 x24); let x28 := flt x19 4156822456062967808; let x29 := mrgB x28 x27 x27; let x30 := s_law08_nearly_0 x19 (s_mass_Join_0 x6 x5 x4 x3 x2) x19 4427038433705197568; let x31 := mrgB x30 x29 x29; let x32 := x1.v1; (mrgB (!(s_law08_alive_0)) true (mrgB (ilt (64 : Int) (Int.ofNat I)) true (mrgB (x11 && (!(ieq (s_mass_Check_0 (a0_0_0 0) (a0_0_1 0) (a0_0_2 0) (a0_0_3 0)) (0 : Int)))) (mrgB (s_law08_alive_0) x12 x12) (mrgB (x13 || (!(ieq (s_mass_Join_4 x6 x5 x4 x3 x2) (0 : Int)))) x14 (mrgB (x26 || (x25 && (flt (s_mass_About_0 x19 x18 x17 x16 O P) x22))) x27 (mrgB (ieq (Int.ofNat I) (1 : Int)) ((Nat.blt 0 I) && x27) (mrgB (x28 || (flt x32 553942754166571008)) x29 (mrgB (x30 && (s_law08_nearly_0 x17 (s_mass_Join_2 x6 x5 x4 x3 x2) x32 4427038433705197568)) x31 x31))))))))
theorem tree_law08_MassAbout (I : Nat) (a0_0_0 a0_0_1 a0_0_2 a0_0_3 : Nat → Nat) (O P : Nat) : outB (evFnM Try.prog false menv72 [] [] 96 (Ann.two Ann.no (Ann.two Ann.no (Ann.two Ann.no (Ann.two Ann.no (Ann.two Ann.no (Ann.two Ann.no (Ann.two Ann.no (Ann.two (Ann.two Ann.no (Ann.one (Ann.loop F_law08_MassAbout_L0))) Ann.no)))))))) Try.f6 [AV.view I 4 (fun i0 => [AV.float (a0_0_0 i0), AV.float (a0_0_1 i0), AV.float (a0_0_2 i0), AV.float (a0_0_3 i0)]), AV.agg [.float O, .float P]] []) = some (O_law08_MassAbout I a0_0_0 a0_0_1 a0_0_2 a0_0_3 O P, AV.bool (T_law08_MassAbout I a0_0_0 a0_0_1 a0_0_2 a0_0_3 O P)) := by kernel_rfl

end Go.Proofs.Ytbkogihigehjlaa
end
