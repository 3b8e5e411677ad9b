/- The contracts of the functions that these laws reach, loops too, printed by a program of this work: each says what the Go function gives, up to which NaN. -/
import Derived.Test.YtbkogihigehjlaaGreatLFnsCA
set_option linter.unusedVariables false
set_option linter.unusedSimpArgs false
set_option maxRecDepth 100000
set_option maxHeartbeats 4000000
noncomputable section
namespace Go.Proofs.YtbkogihigehjlaaGreat
open Go.Lst
open Go.Sim (fadd fsub fmul fdiv fneg feq flt fle fsqrt cn nanb fabs fcps fsame feq_self cps_cn fabs_cn)
-- tumble/mass.Of
theorem ann_mass_Of : FnOk Tryz.prog false 0 Tryz.f7 Ann.no := (fnNo _)
def s_mass_Of_0 (e : Int) (g k : Nat) (n p : Nat → Nat) (j : Nat) : Nat := (bif (!(ieq (s_shape_Check_0 e g k n p) (0 : Int))) then 0 else (bif ((!(s_num_Within_float64__0 j 4787326403894837248)) || (flt j 0)) then 0 else (bif (!(ieq (bif (ieq e (1 : Int)) then (0 : Int) else (bif (ieq e (2 : Int)) then (0 : Int) else (s_mass_polygon_4 e g k n p j))) (0 : Int))) then 0 else (s_mass_checked_0 (bif (ieq e (1 : Int)) then (s_mass_circle_0 e g k n p j) else (bif (ieq e (2 : Int)) then (s_mass_capsule_0 e g k n p j) else (s_mass_polygon_0 e g k n p j))) (bif (ieq e (1 : Int)) then (s_mass_circle_1 e g k n p j) else (bif (ieq e (2 : Int)) then (s_mass_capsule_1 e g k n p j) else (s_mass_polygon_1 e g k n p j))) (bif (ieq e (1 : Int)) then (s_mass_circle_2 e g k n p j) else (bif (ieq e (2 : Int)) then (s_mass_capsule_2 e g k n p j) else (s_mass_polygon_2 e g k n p j))) (bif (ieq e (1 : Int)) then (s_mass_circle_3 e g k n p j) else (bif (ieq e (2 : Int)) then (s_mass_capsule_3 e g k n p j) else (s_mass_polygon_3 e g k n p j)))))))
def s_mass_Of_1 (e : Int) (g k : Nat) (n p : Nat → Nat) (j : Nat) : Nat := (bif (!(ieq (s_shape_Check_0 e g k n p) (0 : Int))) then 0 else (bif ((!(s_num_Within_float64__0 j 4787326403894837248)) || (flt j 0)) then 0 else (bif (!(ieq (bif (ieq e (1 : Int)) then (0 : Int) else (bif (ieq e (2 : Int)) then (0 : Int) else (s_mass_polygon_4 e g k n p j))) (0 : Int))) then 0 else (s_mass_checked_1 (bif (ieq e (1 : Int)) then (s_mass_circle_0 e g k n p j) else (bif (ieq e (2 : Int)) then (s_mass_capsule_0 e g k n p j) else (s_mass_polygon_0 e g k n p j))) (bif (ieq e (1 : Int)) then (s_mass_circle_1 e g k n p j) else (bif (ieq e (2 : Int)) then (s_mass_capsule_1 e g k n p j) else (s_mass_polygon_1 e g k n p j))) (bif (ieq e (1 : Int)) then (s_mass_circle_2 e g k n p j) else (bif (ieq e (2 : Int)) then (s_mass_capsule_2 e g k n p j) else (s_mass_polygon_2 e g k n p j))) (bif (ieq e (1 : Int)) then (s_mass_circle_3 e g k n p j) else (bif (ieq e (2 : Int)) then (s_mass_capsule_3 e g k n p j) else (s_mass_polygon_3 e g k n p j)))))))
def s_mass_Of_2 (e : Int) (g k : Nat) (n p : Nat → Nat) (j : Nat) : Nat := (bif (!(ieq (s_shape_Check_0 e g k n p) (0 : Int))) then 0 else (bif ((!(s_num_Within_float64__0 j 4787326403894837248)) || (flt j 0)) then 0 else (bif (!(ieq (bif (ieq e (1 : Int)) then (0 : Int) else (bif (ieq e (2 : Int)) then (0 : Int) else (s_mass_polygon_4 e g k n p j))) (0 : Int))) then 0 else (s_mass_checked_2 (bif (ieq e (1 : Int)) then (s_mass_circle_0 e g k n p j) else (bif (ieq e (2 : Int)) then (s_mass_capsule_0 e g k n p j) else (s_mass_polygon_0 e g k n p j))) (bif (ieq e (1 : Int)) then (s_mass_circle_1 e g k n p j) else (bif (ieq e (2 : Int)) then (s_mass_capsule_1 e g k n p j) else (s_mass_polygon_1 e g k n p j))) (bif (ieq e (1 : Int)) then (s_mass_circle_2 e g k n p j) else (bif (ieq e (2 : Int)) then (s_mass_capsule_2 e g k n p j) else (s_mass_polygon_2 e g k n p j))) (bif (ieq e (1 : Int)) then (s_mass_circle_3 e g k n p j) else (bif (ieq e (2 : Int)) then (s_mass_capsule_3 e g k n p j) else (s_mass_polygon_3 e g k n p j)))))))
def s_mass_Of_3 (e : Int) (g k : Nat) (n p : Nat → Nat) (j : Nat) : Nat := (bif (!(ieq (s_shape_Check_0 e g k n p) (0 : Int))) then 0 else (bif ((!(s_num_Within_float64__0 j 4787326403894837248)) || (flt j 0)) then 0 else (bif (!(ieq (bif (ieq e (1 : Int)) then (0 : Int) else (bif (ieq e (2 : Int)) then (0 : Int) else (s_mass_polygon_4 e g k n p j))) (0 : Int))) then 0 else (s_mass_checked_3 (bif (ieq e (1 : Int)) then (s_mass_circle_0 e g k n p j) else (bif (ieq e (2 : Int)) then (s_mass_capsule_0 e g k n p j) else (s_mass_polygon_0 e g k n p j))) (bif (ieq e (1 : Int)) then (s_mass_circle_1 e g k n p j) else (bif (ieq e (2 : Int)) then (s_mass_capsule_1 e g k n p j) else (s_mass_polygon_1 e g k n p j))) (bif (ieq e (1 : Int)) then (s_mass_circle_2 e g k n p j) else (bif (ieq e (2 : Int)) then (s_mass_capsule_2 e g k n p j) else (s_mass_polygon_2 e g k n p j))) (bif (ieq e (1 : Int)) then (s_mass_circle_3 e g k n p j) else (bif (ieq e (2 : Int)) then (s_mass_capsule_3 e g k n p j) else (s_mass_polygon_3 e g k n p j)))))))
def s_mass_Of_4 (e : Int) (g k : Nat) (n p : Nat → Nat) (j : Nat) : Int := let x0 := bif (ieq e (1 : Int)) then (0 : Int) else (bif (ieq e (2 : Int)) then (0 : Int) else (s_mass_polygon_4 e g k n p j)); let x1 := s_shape_Check_0 e g k n p; (bif (!(ieq x1 (0 : Int))) then x1 else (bif ((!(s_num_Within_float64__0 j 4787326403894837248)) || (flt j 0)) then (5 : Int) else (bif (!(ieq x0 (0 : Int))) then x0 else (s_mass_checked_4 (bif (ieq e (1 : Int)) then (s_mass_circle_0 e g k n p j) else (bif (ieq e (2 : Int)) then (s_mass_capsule_0 e g k n p j) else (s_mass_polygon_0 e g k n p j))) (bif (ieq e (1 : Int)) then (s_mass_circle_1 e g k n p j) else (bif (ieq e (2 : Int)) then (s_mass_capsule_1 e g k n p j) else (s_mass_polygon_1 e g k n p j))) (bif (ieq e (1 : Int)) then (s_mass_circle_2 e g k n p j) else (bif (ieq e (2 : Int)) then (s_mass_capsule_2 e g k n p j) else (s_mass_polygon_2 e g k n p j))) (bif (ieq e (1 : Int)) then (s_mass_circle_3 e g k n p j) else (bif (ieq e (2 : Int)) then (s_mass_capsule_3 e g k n p j) else (s_mass_polygon_3 e g k n p j)))))))
def q_mass_Of (e : Int) (g k : Nat) (n p : Nat → Nat) (j : Nat) : Bool := (let x0 := (allB fun _ => true) && (o_shape_Check e g k n p); let x1 := !(s_num_Within_float64__0 j 4787326403894837248); let x2 := mrgB x1 x0 x0; let x3 := mrgB (ieq e (1 : Int)) (((allB fun _ => true) && (Nat.blt 0 k)) && x2) (mrgB (ieq e (2 : Int)) (((allB fun _ => true) && ((Nat.blt 1 k) && (Nat.blt 0 k))) && x2) (((allB fun _ => true) && (o_mass_polygon e g k n p j)) && x2)); (mrgB (!(ieq (s_shape_Check_0 e g k n p) (0 : Int))) x0 (mrgB (x1 || (flt j 0)) x2 (mrgB (!(ieq (bif (ieq e (1 : Int)) then (0 : Int) else (bif (ieq e (2 : Int)) then (0 : Int) else (s_mass_polygon_4 e g k n p j))) (0 : Int))) x3 x3))))
theorem e_mass_Of (e : Int) (g k : Nat) (n p : Nat → Nat) (j : Nat) : outB (evFnM Tryz.prog false menv81 [] [] 96 Ann.no Tryz.f7 [AV.agg [AV.int .u8 e, AV.float g, AV.view k 2 (fun i0 => [AV.float (n i0), AV.float (p i0)])], AV.float j] []) = some (q_mass_Of e g k n p j, AV.tup [AV.agg [AV.float (s_mass_Of_0 e g k n p j), AV.float (s_mass_Of_1 e g k n p j), AV.float (s_mass_Of_2 e g k n p j), AV.float (s_mass_Of_3 e g k n p j)], AV.int .i64 (s_mass_Of_4 e g k n p j)]) := by kernel_rfl
def o_mass_Of (e : Int) (g k : Nat) (n p : Nat → Nat) (j : Nat) : Bool := let x0 := o_shape_Check e g k n p; let x1 := !(s_num_Within_float64__0 j 4787326403894837248); let x2 := mrgB x1 x0 x0; let x3 := mrgB (ieq e (1 : Int)) ((Nat.blt 0 k) && x2) (mrgB (ieq e (2 : Int)) (((Nat.blt 1 k) && (Nat.blt 0 k)) && x2) ((o_mass_polygon e g k n p j) && x2)); (mrgB (!(ieq (s_shape_Check_0 e g k n p) (0 : Int))) x0 (mrgB (x1 || (flt j 0)) x2 (mrgB (!(ieq (bif (ieq e (1 : Int)) then (0 : Int) else (bif (ieq e (2 : Int)) then (0 : Int) else (s_mass_polygon_4 e g k n p j))) (0 : Int))) x3 x3)))
def S_mass_Of : List AV → Option (Ob × AV)
  | [AV.agg [AV.int .u8 e, AV.float g, AV.view k 2 D], AV.float j] => some (Ob.both (Ob.bit (allB fun i => isNrm [Ck.f, Ck.f] (D i))) (Ob.bit (o_mass_Of e g k (fL D 0) (fL D 1) j)), AV.tup [AV.agg [AV.float (s_mass_Of_0 e g k (fL D 0) (fL D 1) j), AV.float (s_mass_Of_1 e g k (fL D 0) (fL D 1) j), AV.float (s_mass_Of_2 e g k (fL D 0) (fL D 1) j), AV.float (s_mass_Of_3 e g k (fL D 0) (fL D 1) j)], AV.int .i64 (s_mass_Of_4 e g k (fL D 0) (fL D 1) j)])
  | _ => none
theorem ob_mass_Of (e : Int) (g k : Nat) (n p : Nat → Nat) (j : Nat) (ho : o_mass_Of e g k n p j = true) : q_mass_Of e g k n p j = true := by
  unfold q_mass_Of
  unfold o_mass_Of at ho
  simp only [allB_true, eqT_self, mrgB_self, Bool.true_and, Bool.and_true] at ho ⊢
  exact ho
theorem t_mass_Of : SOkM Tryz.prog false (7, fun args => match S_mass_Of args with | some (o, v) => some (o, v, []) | none => none) := SOkM.flat (N := 96) menv81_ok Tryz.func7 ann_mass_Of Tryz.call7 fun args o v h ho => by
  unfold S_mass_Of at h
  split at h
  · rename_i e g k D j
    cases h
    rw [Ob.both_ok, Bool.and_eq_true] at ho
    obtain ⟨hn, ho2⟩ := ho
    have n0 := hn
    simp only [Ob.ok] at n0
    replace n0 := nrm_fun n0
    have this := show outB (evFnM Tryz.prog false menv81 [] [] 96 Ann.no Tryz.f7 [AV.agg [AV.int .u8 e, AV.float g, AV.view k 2 (fun i => mkN [Ck.f, Ck.f] (D i) 0)], AV.float j] []) = _ from e_mass_Of e g k (fL D 0) (fL D 1) j
    rw [(ob_mass_Of e g k (fL D 0) (fL D 1) j ho2)] at this
    rw [n0] at this
    exact ⟨this, rfl⟩
  · cases h
def c_mass_Of : SFM := fun args => match S_mass_Of args with | some (o, v) => some (o, v, []) | none => none
theorem c_mass_Of_ok : SOkM Tryz.prog false (7, c_mass_Of) := t_mass_Of
def mss78 : List (FuncId × SFM) := (7, c_mass_Of) :: mss77
def menv82 : EnvM := mkEnvM mxs mss78 mws5
theorem mss78_ok : All (SOkM Tryz.prog false) mss78 := All.cons c_mass_Of_ok mss77_ok
theorem menv82_ok : menv82.Ok Tryz.prog false := mkEnvM_ok mxs_ok mss78_ok mws5_ok
-- tumble/tumbleref02.Within
theorem ann_ref02_Within : FnOk Tryz.prog false 0 Tryz.f85 Ann.no := (fnNo _)
def s_ref02_Within_0 (e g z : Nat) : Bool := ((fle (fabs e) z) && (fle (fabs g) z))
theorem e_ref02_Within (e g z : Nat) : outB (evFnM Tryz.prog false menv82 [] [] 96 Ann.no Tryz.f85 [AV.agg [AV.float e, AV.float g], AV.float z] []) = some (true, AV.bool (s_ref02_Within_0 e g z)) := by kernel_rfl
def S_ref02_Within : List AV → Option (Ob × AV)
  | [AV.agg [AV.float e, AV.float g], AV.float z] => some (Ob.tt, AV.bool (s_ref02_Within_0 e g z))
  | _ => none
theorem t_ref02_Within : SOkM Tryz.prog false (85, fun args => match S_ref02_Within args with | some (o, v) => some (o, v, []) | none => none) := SOkM.flat (N := 96) menv82_ok Tryz.func85 ann_ref02_Within Tryz.call85 fun args o v h ho => by
  unfold S_ref02_Within at h
  split at h
  · rename_i e g z
    cases h
    have ho2 := ho
    have this := show outB (evFnM Tryz.prog false menv82 [] [] 96 Ann.no Tryz.f85 [AV.agg [AV.float e, AV.float g], AV.float z] []) = _ from e_ref02_Within e g z
    exact ⟨this, rfl⟩
  · cases h
def c_ref02_Within : SFM := fun args => match S_ref02_Within args with | some (o, v) => some (o, v, []) | none => none
theorem c_ref02_Within_ok : SOkM Tryz.prog false (85, c_ref02_Within) := t_ref02_Within
def mss79 : List (FuncId × SFM) := (85, c_ref02_Within) :: mss78
def menv83 : EnvM := mkEnvM mxs mss79 mws5
theorem mss79_ok : All (SOkM Tryz.prog false) mss79 := All.cons c_ref02_Within_ok mss78_ok
theorem menv83_ok : menv83.Ok Tryz.prog false := mkEnvM_ok mxs_ok mss79_ok mws5_ok
-- tumble/tumbleref06.Reals
-- a loop of tumble/tumbleref06.Reals
structure V_ref06_Reals_L0 where
  v0 : Int
def tpl_ref06_Reals_L0 : List AV := (AV.nul :: AV.top :: AV.top :: AV.nul :: tpA 15 ([]))
def cts_ref06_Reals_L0 : List CT := []
def phs_ref06_Reals_L0 : List Src := []
def T_ref06_Reals_L0 (r : Nat) (u m : Nat → Nat) (x : V_ref06_Reals_L0) (F0 : Nat → List AV) : List AV × Heap := ((AV.view r 2 F0 :: AV.top :: AV.top :: AV.int .i64 x.v0 :: tpA 15 ([])), [])
def sh_ref06_Reals_L0 (r : Nat) (u m : Nat → Nat) (x : V_ref06_Reals_L0) : List AV × Heap := T_ref06_Reals_L0 r u m x (fun j0 => [AV.float (u j0), AV.float (m j0)])
def step_ref06_Reals_L0 (r : Nat) (u m : Nat → Nat) (x : V_ref06_Reals_L0) : V_ref06_Reals_L0 := V_ref06_Reals_L0.mk (IntKind.wrap .i64 (x.v0 + (1 : Int)))
def go_ref06_Reals_L0 (r : Nat) (u m : Nat → Nat) (x : V_ref06_Reals_L0) : Bool := (bif (bif (!(ilt x.v0 (Int.ofNat r))) then false else (!(s_ref02_Within_0 (u (Int.toNat x.v0)) (m (Int.toNat x.v0)) 4787326403894837248))) then false else (bif (!(ilt x.v0 (Int.ofNat r))) then false else true))
def ok_ref06_Reals_L0 (r : Nat) (u m : Nat → Nat) (x : V_ref06_Reals_L0) : Bool := (mrgB (bif (!(ilt x.v0 (Int.ofNat r))) then false else (!(s_ref02_Within_0 (u (Int.toNat x.v0)) (m (Int.toNat x.v0)) 4787326403894837248))) ((ile (0 : Int) x.v0) && (Nat.blt (Int.toNat x.v0) r)) (mrgB (!(ilt x.v0 (Int.ofNat r))) true ((ile (0 : Int) x.v0) && (Nat.blt (Int.toNat x.v0) r))))
def L_ref06_Reals_L0 (r : Nat) (u m : Nat → Nat) (x : V_ref06_Reals_L0) : V_ref06_Reals_L0 := lastL (ok_ref06_Reals_L0 r u m) (go_ref06_Reals_L0 r u m) (step_ref06_Reals_L0 r u m) x
def E_ref06_Reals_L0 (r : Nat) (u m : Nat → Nat) (x : V_ref06_Reals_L0) : Bool := endsL (ok_ref06_Reals_L0 r u m) (go_ref06_Reals_L0 r u m) (step_ref06_Reals_L0 r u m) x
theorem all_ref06_Reals_L0 (r : Nat) (u m : Nat → Nat) (x : V_ref06_Reals_L0) : rnd Tryz.prog false menv83 [] [] 96 Ann.no (subC [1, 1, 0, 1, 0, 0] (codeOf Tryz.f80)) 0 [] tpl_ref06_Reals_L0 cts_ref06_Reals_L0 (false :: tpB 18 ([])) [] (sh_ref06_Reals_L0 r u m x) = (true, true, go_ref06_Reals_L0 r u m x, ok_ref06_Reals_L0 r u m x, true, sh_ref06_Reals_L0 r u m (step_ref06_Reals_L0 r u m x), true) := by kernel_rfl
def fam_ref06_Reals_L0 (r : Nat) (u m : Nat → Nat) : Fam Tryz.prog false menv83 [] [] 96 0 Ann.no (subC [1, 1, 0, 1, 0, 0] (codeOf Tryz.f80)) V_ref06_Reals_L0 where
  sh := sh_ref06_Reals_L0 r u m
  ok := ok_ref06_Reals_L0 r u m
  go := go_ref06_Reals_L0 r u m
  step := step_ref06_Reals_L0 r u m
  chg := (false :: tpB 18 ([]))
  chgH := []
  tpl := tpl_ref06_Reals_L0
  cts := cts_ref06_Reals_L0
  keep := 0
  srcs := []
  ann := (annNo (subC [1, 1, 0, 1, 0, 0] (codeOf Tryz.f80)))
  le := by kernel_rfl
  kept := by kernel_rfl
  keptB := by kernel_rfl
  all := all_ref06_Reals_L0 r u m
  len := fun x => by kernel_rfl
  head := fun x y => by kernel_rfl
  con := fun x y => by kernel_rfl
  conH := fun x y => by kernel_rfl
def F_ref06_Reals_L0 : St → Option Ch := fun s => cond (Nat.beq s.tm.length 19 && Nat.beq s.H.length 0) (tkCons (alL tpl_ref06_Reals_L0 s.tm) fun e t0 => tkView 2 e fun s0 f0 => tkTops 2 t0 fun t1 => tkCons t1 fun z t2 => tkI .i64 z fun s3 => tkTops 15 t2 fun t3 => tkNil t3 <| tkNil (alH cts_ref06_Reals_L0 (s.H ++ List.map phan phs_ref06_Reals_L0)) <| Fam.out (fam_ref06_Reals_L0 s0 (fL f0 0) (fL f0 1)) s (allB fun i => isNrm [Ck.f, Ck.f] (f0 i)) (V_ref06_Reals_L0.mk s3)) none
theorem F_ref06_Reals_L0_ok : ∀ s ch, F_ref06_Reals_L0 s = some ch → AllI s ch ∧ LoopSpec Tryz.prog false 0 (subC [1, 1, 0, 1, 0, 0] (codeOf Tryz.f80)) s (sel ch) := by
  intro s ch h
  unfold F_ref06_Reals_L0 at h
  obtain ⟨hl, h0⟩ := cond_some h rfl
  clear h
  obtain ⟨hl, hb⟩ := and_beq2 hl
  obtain ⟨e, t0, e0, h1⟩ := tkCons_some h0
  obtain ⟨s0, f0, rfl, h2⟩ := tkView_some h1
  obtain ⟨t1, rfl, h3⟩ := tkTops_some h2
  obtain ⟨z, t2, rfl, h4⟩ := tkCons_some h3
  obtain ⟨s3, rfl, h5⟩ := tkI_some h4
  obtain ⟨t3, rfl, h6⟩ := tkTops_some h5
  obtain ⟨rfl, h7⟩ := tkNil_some h6
  obtain ⟨eH, h8⟩ := tkNil_some h7
  refine Fam.spec menv83_ok (fam_ref06_Reals_L0 s0 (fL f0 0) (fL f0 1)) (phs := phs_ref06_Reals_L0) (hl.trans (by kernel_rfl)) (hb.trans (by kernel_rfl)) ?_ ?_ h8
  · rw [← hdr_alH cts_ref06_Reals_L0 (s.H ++ List.map phan phs_ref06_Reals_L0), eH]; kernel_rfl
  · intro hq
    have hq0 := hq
    have n0 := nrm_fun hq0
    show sh_ref06_Reals_L0 s0 (fL f0 0) (fL f0 1) (V_ref06_Reals_L0.mk s3) = (alL tpl_ref06_Reals_L0 s.tm, alH cts_ref06_Reals_L0 (s.H ++ List.map phan phs_ref06_Reals_L0))
    rw [e0, eH]
    refine Eq.trans (show sh_ref06_Reals_L0 s0 (fL f0 0) (fL f0 1) (V_ref06_Reals_L0.mk s3) = T_ref06_Reals_L0 s0 (fL f0 0) (fL f0 1) (V_ref06_Reals_L0.mk s3) (fun i => mkN [Ck.f, Ck.f] (f0 i) 0) by kernel_rfl) ?_
    rw [n0]
    kernel_rfl
theorem ann_ref06_Reals : FnOk Tryz.prog false 0 Tryz.f80 (Ann.two Ann.no (Ann.two Ann.no (Ann.two (Ann.two Ann.no (Ann.one (Ann.loop F_ref06_Reals_L0))) Ann.no))) := (fnOk_of (c := codeOf Tryz.f80) (by kernel_rfl) (annSeq (a := (subC [0] (codeOf Tryz.f80))) (b := (subC [1] (codeOf Tryz.f80))) (by kernel_rfl) (annNo (subC [0] (codeOf Tryz.f80))) (annSeq (a := (subC [1, 0] (codeOf Tryz.f80))) (b := (subC [1, 1] (codeOf Tryz.f80))) (by kernel_rfl) (annNo (subC [1, 0] (codeOf Tryz.f80))) (annSeq (a := (subC [1, 1, 0] (codeOf Tryz.f80))) (b := (subC [1, 1, 1] (codeOf Tryz.f80))) (by kernel_rfl) (annSeq (a := (subC [1, 1, 0, 0] (codeOf Tryz.f80))) (b := (subC [1, 1, 0, 1] (codeOf Tryz.f80))) (by kernel_rfl) (annNo (subC [1, 1, 0, 0] (codeOf Tryz.f80))) (annBlock (a := (subC [1, 1, 0, 1, 0] (codeOf Tryz.f80))) (i := 0) (by kernel_rfl) (annLoop (a := (subC [1, 1, 0, 1, 0, 0] (codeOf Tryz.f80))) (by kernel_rfl) F_ref06_Reals_L0_ok))) (annNo (subC [1, 1, 1] (codeOf Tryz.f80)))))))
def s_ref06_Reals_0 (l : Nat) (q t : Nat → Nat) : Int := (bif (ilt (64 : Int) (Int.ofNat l)) then (4 : Int) else (bif (bif (!(ilt ((L_ref06_Reals_L0 l q t (V_ref06_Reals_L0.mk (0 : Int))).v0) (Int.ofNat l))) then false else (!(s_ref02_Within_0 (q (Int.toNat ((L_ref06_Reals_L0 l q t (V_ref06_Reals_L0.mk (0 : Int))).v0))) (t (Int.toNat ((L_ref06_Reals_L0 l q t (V_ref06_Reals_L0.mk (0 : Int))).v0))) 4787326403894837248))) then (5 : Int) else (0 : Int)))
def q_ref06_Reals (l : Nat) (q t : Nat → Nat) : Bool := (mrgB (ilt (64 : Int) (Int.ofNat l)) true (mrgB (bif (!(ilt ((L_ref06_Reals_L0 l q t (V_ref06_Reals_L0.mk (0 : Int))).v0) (Int.ofNat l))) then false else (!(s_ref02_Within_0 (q (Int.toNat ((L_ref06_Reals_L0 l q t (V_ref06_Reals_L0.mk (0 : Int))).v0))) (t (Int.toNat ((L_ref06_Reals_L0 l q t (V_ref06_Reals_L0.mk (0 : Int))).v0))) 4787326403894837248))) ((allB fun _ => true) && (E_ref06_Reals_L0 l q t (V_ref06_Reals_L0.mk (0 : Int)))) ((allB fun _ => true) && (E_ref06_Reals_L0 l q t (V_ref06_Reals_L0.mk (0 : Int))))))
theorem e_ref06_Reals (l : Nat) (q t : Nat → Nat) : outB (evFnM Tryz.prog false menv83 [] [] 96 (Ann.two Ann.no (Ann.two Ann.no (Ann.two (Ann.two Ann.no (Ann.one (Ann.loop F_ref06_Reals_L0))) Ann.no))) Tryz.f80 [AV.view l 2 (fun i0 => [AV.float (q i0), AV.float (t i0)])] []) = some (q_ref06_Reals l q t, AV.int .i64 (s_ref06_Reals_0 l q t)) := by kernel_rfl
def o_ref06_Reals (l : Nat) (q t : Nat → Nat) : Bool := (mrgB (ilt (64 : Int) (Int.ofNat l)) true (mrgB (bif (!(ilt ((L_ref06_Reals_L0 l q t (V_ref06_Reals_L0.mk (0 : Int))).v0) (Int.ofNat l))) then false else (!(s_ref02_Within_0 (q (Int.toNat ((L_ref06_Reals_L0 l q t (V_ref06_Reals_L0.mk (0 : Int))).v0))) (t (Int.toNat ((L_ref06_Reals_L0 l q t (V_ref06_Reals_L0.mk (0 : Int))).v0))) 4787326403894837248))) (E_ref06_Reals_L0 l q t (V_ref06_Reals_L0.mk (0 : Int))) (E_ref06_Reals_L0 l q t (V_ref06_Reals_L0.mk (0 : Int)))))
def S_ref06_Reals : List AV → Option (Ob × AV)
  | [AV.view l 2 C] => some (Ob.both (Ob.bit (allB fun i => isNrm [Ck.f, Ck.f] (C i))) (Ob.bit (o_ref06_Reals l (fL C 0) (fL C 1))), AV.int .i64 (s_ref06_Reals_0 l (fL C 0) (fL C 1)))
  | _ => none
theorem ob_ref06_Reals (l : Nat) (q t : Nat → Nat) (ho : o_ref06_Reals l q t = true) : q_ref06_Reals l q t = true := by
  unfold q_ref06_Reals
  unfold o_ref06_Reals at ho
  simp only [allB_true, eqT_self, mrgB_self, Bool.true_and, Bool.and_true] at ho ⊢
  exact ho
theorem t_ref06_Reals : SOkM Tryz.prog false (80, fun args => match S_ref06_Reals args with | some (o, v) => some (o, v, []) | none => none) := SOkM.flat (N := 96) menv83_ok Tryz.func80 ann_ref06_Reals Tryz.call80 fun args o v h ho => by
  unfold S_ref06_Reals at h
  split at h
  · rename_i l C
    cases h
    rw [Ob.both_ok, Bool.and_eq_true] at ho
    obtain ⟨hn, ho2⟩ := ho
    have n0 := hn
    simp only [Ob.ok] at n0
    replace n0 := nrm_fun n0
    have this := show outB (evFnM Tryz.prog false menv83 [] [] 96 (Ann.two Ann.no (Ann.two Ann.no (Ann.two (Ann.two Ann.no (Ann.one (Ann.loop F_ref06_Reals_L0))) Ann.no))) Tryz.f80 [AV.view l 2 (fun i => mkN [Ck.f, Ck.f] (C i) 0)] []) = _ from e_ref06_Reals l (fL C 0) (fL C 1)
    rw [(ob_ref06_Reals l (fL C 0) (fL C 1) ho2)] at this
    rw [n0] at this
    exact ⟨this, rfl⟩
  · cases h
def c_ref06_Reals : SFM := fun args => match S_ref06_Reals args with | some (o, v) => some (o, v, []) | none => none
theorem c_ref06_Reals_ok : SOkM Tryz.prog false (80, c_ref06_Reals) := t_ref06_Reals
def mss80 : List (FuncId × SFM) := (80, c_ref06_Reals) :: mss79
def menv84 : EnvM := mkEnvM mxs mss80 mws5
theorem mss80_ok : All (SOkM Tryz.prog false) mss80 := All.cons c_ref06_Reals_ok mss79_ok
theorem menv84_ok : menv84.Ok Tryz.prog false := mkEnvM_ok mxs_ok mss80_ok mws5_ok
-- tumble/tumbleref06.next
theorem ann_ref06_next : FnOk Tryz.prog false 0 Tryz.f82 Ann.no := (fnNo _)
def s_ref06_next_0 (l : Nat) (q t : Nat → Nat) (g : Int) : Int := (Int.tmod (IntKind.wrap .i64 (g + (1 : Int))) (Int.ofNat l))
def o_ref06_next (l : Nat) (q t : Nat → Nat) (g : Int) : Bool := (!(ieq (Int.ofNat l) (0 : Int)))
theorem e_ref06_next (l : Nat) (q t : Nat → Nat) (g : Int) : outB (evFnM Tryz.prog false menv84 [] [] 96 Ann.no Tryz.f82 [AV.view l 2 (fun i0 => [AV.float (q i0), AV.float (t i0)]), AV.int .i64 g] []) = some (o_ref06_next l q t g, AV.int .i64 (s_ref06_next_0 l q t g)) := by kernel_rfl
def S_ref06_next : List AV → Option (Ob × AV)
  | [AV.view l 2 C, AV.int .i64 g] => some (Ob.both (Ob.bit (allB fun i => isNrm [Ck.f, Ck.f] (C i))) (Ob.bit (o_ref06_next l (fL C 0) (fL C 1) g)), AV.int .i64 (s_ref06_next_0 l (fL C 0) (fL C 1) g))
  | _ => none
theorem t_ref06_next : SOkM Tryz.prog false (82, fun args => match S_ref06_next args with | some (o, v) => some (o, v, []) | none => none) := SOkM.flat (N := 96) menv84_ok Tryz.func82 ann_ref06_next Tryz.call82 fun args o v h ho => by
  unfold S_ref06_next at h
  split at h
  · rename_i l C g
    cases h
    rw [Ob.both_ok, Bool.and_eq_true] at ho
    obtain ⟨hn, ho2⟩ := ho
    have n0 := hn
    simp only [Ob.ok] at n0
    replace n0 := nrm_fun n0
    have this := show outB (evFnM Tryz.prog false menv84 [] [] 96 Ann.no Tryz.f82 [AV.view l 2 (fun i => mkN [Ck.f, Ck.f] (C i) 0), AV.int .i64 g] []) = _ from e_ref06_next l (fL C 0) (fL C 1) g
    rw [show o_ref06_next l (fL C 0) (fL C 1) g = true from ho2] at this
    rw [n0] at this
    exact ⟨this, rfl⟩
  · cases h
def c_ref06_next : SFM := fun args => match S_ref06_next args with | some (o, v) => some (o, v, []) | none => none
theorem c_ref06_next_ok : SOkM Tryz.prog false (82, c_ref06_next) := t_ref06_next
def mss81 : List (FuncId × SFM) := (82, c_ref06_next) :: mss80
def menv85 : EnvM := mkEnvM mxs mss81 mws5
theorem mss81_ok : All (SOkM Tryz.prog false) mss81 := All.cons c_ref06_next_ok mss80_ok
theorem menv85_ok : menv85.Ok Tryz.prog false := mkEnvM_ok mxs_ok mss81_ok mws5_ok
-- tumble/tumbleref02.Vec
theorem ann_ref02_Vec : FnOk Tryz.prog false 0 Tryz.f68 Ann.no := (fnNo _)
def s_ref02_Vec_0 (e g : Nat) : Nat := e
def s_ref02_Vec_1 (e g : Nat) : Nat := g
theorem e_ref02_Vec (e g : Nat) : outB (evFnM Tryz.prog false menv85 [] [] 96 Ann.no Tryz.f68 [AV.float e, AV.float g] []) = some (true, AV.agg [AV.float (s_ref02_Vec_0 e g), AV.float (s_ref02_Vec_1 e g)]) := by kernel_rfl
def S_ref02_Vec : List AV → Option (Ob × AV)
  | [AV.float e, AV.float g] => some (Ob.tt, AV.agg [AV.float (s_ref02_Vec_0 e g), AV.float (s_ref02_Vec_1 e g)])
  | _ => none
theorem t_ref02_Vec : SOkM Tryz.prog false (68, fun args => match S_ref02_Vec args with | some (o, v) => some (o, v, []) | none => none) := SOkM.flat (N := 96) menv85_ok Tryz.func68 ann_ref02_Vec Tryz.call68 fun args o v h ho => by
  unfold S_ref02_Vec at h
  split at h
  · rename_i e g
    cases h
    have ho2 := ho
    have this := show outB (evFnM Tryz.prog false menv85 [] [] 96 Ann.no Tryz.f68 [AV.float e, AV.float g] []) = _ from e_ref02_Vec e g
    exact ⟨this, rfl⟩
  · cases h
def c_ref02_Vec : SFM := fun args => match S_ref02_Vec args with | some (o, v) => some (o, v, []) | none => none
theorem c_ref02_Vec_ok : SOkM Tryz.prog false (68, c_ref02_Vec) := t_ref02_Vec
def mss82 : List (FuncId × SFM) := (68, c_ref02_Vec) :: mss81
def menv86 : EnvM := mkEnvM mxs mss82 mws5
theorem mss82_ok : All (SOkM Tryz.prog false) mss82 := All.cons c_ref02_Vec_ok mss81_ok
theorem menv86_ok : menv86.Ok Tryz.prog false := mkEnvM_ok mxs_ok mss82_ok mws5_ok
-- tumble/tumbleref02.Sub
theorem ann_ref02_Sub : FnOk Tryz.prog false 0 Tryz.f60 Ann.no := (fnNo _)
def s_ref02_Sub_0 (e g z j : Nat) : Nat := (s_ref02_Vec_0 (fsub e z) (fsub g j))
def s_ref02_Sub_1 (e g z j : Nat) : Nat := (s_ref02_Vec_1 (fsub e z) (fsub g j))
theorem e_ref02_Sub (e g z j : Nat) : outB (evFnM Tryz.prog false menv86 [] [] 96 Ann.no Tryz.f60 [AV.agg [AV.float e, AV.float g], AV.agg [AV.float z, AV.float j]] []) = some (true, AV.agg [AV.float (s_ref02_Sub_0 e g z j), AV.float (s_ref02_Sub_1 e g z j)]) := by kernel_rfl
def S_ref02_Sub : List AV → Option (Ob × AV)
  | [AV.agg [AV.float e, AV.float g], AV.agg [AV.float z, AV.float j]] => some (Ob.tt, AV.agg [AV.float (s_ref02_Sub_0 e g z j), AV.float (s_ref02_Sub_1 e g z j)])
  | _ => none
theorem t_ref02_Sub : SOkM Tryz.prog false (60, fun args => match S_ref02_Sub args with | some (o, v) => some (o, v, []) | none => none) := SOkM.flat (N := 96) menv86_ok Tryz.func60 ann_ref02_Sub Tryz.call60 fun args o v h ho => by
  unfold S_ref02_Sub at h
  split at h
  · rename_i e g z j
    cases h
    have ho2 := ho
    have this := show outB (evFnM Tryz.prog false menv86 [] [] 96 Ann.no Tryz.f60 [AV.agg [AV.float e, AV.float g], AV.agg [AV.float z, AV.float j]] []) = _ from e_ref02_Sub e g z j
    exact ⟨this, rfl⟩
  · cases h
def c_ref02_Sub : SFM := fun args => match S_ref02_Sub args with | some (o, v) => some (o, v, []) | none => none
theorem c_ref02_Sub_ok : SOkM Tryz.prog false (60, c_ref02_Sub) := t_ref02_Sub
def mss83 : List (FuncId × SFM) := (60, c_ref02_Sub) :: mss82
def menv87 : EnvM := mkEnvM mxs mss83 mws5
theorem mss83_ok : All (SOkM Tryz.prog false) mss83 := All.cons c_ref02_Sub_ok mss82_ok
theorem menv87_ok : menv87.Ok Tryz.prog false := mkEnvM_ok mxs_ok mss83_ok mws5_ok
-- tumble/tumbleref06.lead
theorem ann_ref06_lead : FnOk Tryz.prog false 0 Tryz.f87 Ann.no := (fnNo _)
def s_ref06_lead_0 (e g z j : Nat) : Nat := (s_ref02_Sub_0 z j e g)
def s_ref06_lead_1 (e g z j : Nat) : Nat := (s_ref02_Sub_1 z j e g)
theorem e_ref06_lead (e g z j : Nat) : outB (evFnM Tryz.prog false menv87 [] [] 96 Ann.no Tryz.f87 [AV.agg [AV.float e, AV.float g], AV.agg [AV.float z, AV.float j]] []) = some (true, AV.agg [AV.float (s_ref06_lead_0 e g z j), AV.float (s_ref06_lead_1 e g z j)]) := by kernel_rfl
def S_ref06_lead : List AV → Option (Ob × AV)
  | [AV.agg [AV.float e, AV.float g], AV.agg [AV.float z, AV.float j]] => some (Ob.tt, AV.agg [AV.float (s_ref06_lead_0 e g z j), AV.float (s_ref06_lead_1 e g z j)])
  | _ => none
theorem t_ref06_lead : SOkM Tryz.prog false (87, fun args => match S_ref06_lead args with | some (o, v) => some (o, v, []) | none => none) := SOkM.flat (N := 96) menv87_ok Tryz.func87 ann_ref06_lead Tryz.call87 fun args o v h ho => by
  unfold S_ref06_lead at h
  split at h
  · rename_i e g z j
    cases h
    have ho2 := ho
    have this := show outB (evFnM Tryz.prog false menv87 [] [] 96 Ann.no Tryz.f87 [AV.agg [AV.float e, AV.float g], AV.agg [AV.float z, AV.float j]] []) = _ from e_ref06_lead e g z j
    exact ⟨this, rfl⟩
  · cases h
def c_ref06_lead : SFM := fun args => match S_ref06_lead args with | some (o, v) => some (o, v, []) | none => none
theorem c_ref06_lead_ok : SOkM Tryz.prog false (87, c_ref06_lead) := t_ref06_lead
def mss84 : List (FuncId × SFM) := (87, c_ref06_lead) :: mss83
def menv88 : EnvM := mkEnvM mxs mss84 mws5
theorem mss84_ok : All (SOkM Tryz.prog false) mss84 := All.cons c_ref06_lead_ok mss83_ok
theorem menv88_ok : menv88.Ok Tryz.prog false := mkEnvM_ok mxs_ok mss84_ok mws5_ok
-- tumble/tumbleref06.way
theorem ann_ref06_way : FnOk Tryz.prog false 0 Tryz.f81 Ann.no := (fnNo _)
def s_ref06_way_0 (l : Nat) (q t : Nat → Nat) (g : Int) : Nat := (s_ref06_lead_0 (q (Int.toNat g)) (t (Int.toNat g)) (q (Int.toNat (s_ref06_next_0 l q t g))) (t (Int.toNat (s_ref06_next_0 l q t g))))
def s_ref06_way_1 (l : Nat) (q t : Nat → Nat) (g : Int) : Nat := (s_ref06_lead_1 (q (Int.toNat g)) (t (Int.toNat g)) (q (Int.toNat (s_ref06_next_0 l q t g))) (t (Int.toNat (s_ref06_next_0 l q t g))))
theorem e_ref06_way (l : Nat) (q t : Nat → Nat) (g : Int) : outB (evFnM Tryz.prog false menv88 [] [] 96 Ann.no Tryz.f81 [AV.view l 2 (fun i0 => [AV.float (q i0), AV.float (t i0)]), AV.int .i64 g] []) = some ((((ile (0 : Int) (s_ref06_next_0 l q t g)) && (Nat.blt (Int.toNat (s_ref06_next_0 l q t g)) l)) && (((allB fun _ => true) && (!(ieq (Int.ofNat l) (0 : Int)))) && ((ile (0 : Int) g) && (Nat.blt (Int.toNat g) l)))), AV.agg [AV.float (s_ref06_way_0 l q t g), AV.float (s_ref06_way_1 l q t g)]) := by kernel_rfl
def o_ref06_way (l : Nat) (q t : Nat → Nat) (g : Int) : Bool := (((ile (0 : Int) (s_ref06_next_0 l q t g)) && (Nat.blt (Int.toNat (s_ref06_next_0 l q t g)) l)) && ((!(ieq (Int.ofNat l) (0 : Int))) && ((ile (0 : Int) g) && (Nat.blt (Int.toNat g) l))))
def S_ref06_way : List AV → Option (Ob × AV)
  | [AV.view l 2 C, AV.int .i64 g] => some (Ob.both (Ob.bit (allB fun i => isNrm [Ck.f, Ck.f] (C i))) (Ob.bit (o_ref06_way l (fL C 0) (fL C 1) g)), AV.agg [AV.float (s_ref06_way_0 l (fL C 0) (fL C 1) g), AV.float (s_ref06_way_1 l (fL C 0) (fL C 1) g)])
  | _ => none
theorem ob_ref06_way (l : Nat) (q t : Nat → Nat) (g : Int) (ho : o_ref06_way l q t g = true) : (((ile (0 : Int) (s_ref06_next_0 l q t g)) && (Nat.blt (Int.toNat (s_ref06_next_0 l q t g)) l)) && (((allB fun _ => true) && (!(ieq (Int.ofNat l) (0 : Int)))) && ((ile (0 : Int) g) && (Nat.blt (Int.toNat g) l)))) = true := by
  unfold o_ref06_way at ho
  simp only [allB_true, eqT_self, mrgB_self, Bool.true_and, Bool.and_true] at ho ⊢
  exact ho
theorem t_ref06_way : SOkM Tryz.prog false (81, fun args => match S_ref06_way args with | some (o, v) => some (o, v, []) | none => none) := SOkM.flat (N := 96) menv88_ok Tryz.func81 ann_ref06_way Tryz.call81 fun args o v h ho => by
  unfold S_ref06_way at h
  split at h
  · rename_i l C g
    cases h
    rw [Ob.both_ok, Bool.and_eq_true] at ho
    obtain ⟨hn, ho2⟩ := ho
    have n0 := hn
    simp only [Ob.ok] at n0
    replace n0 := nrm_fun n0
    have this := show outB (evFnM Tryz.prog false menv88 [] [] 96 Ann.no Tryz.f81 [AV.view l 2 (fun i => mkN [Ck.f, Ck.f] (C i) 0), AV.int .i64 g] []) = _ from e_ref06_way l (fL C 0) (fL C 1) g
    rw [(ob_ref06_way l (fL C 0) (fL C 1) g ho2)] at this
    rw [n0] at this
    exact ⟨this, rfl⟩
  · cases h
def c_ref06_way : SFM := fun args => match S_ref06_way args with | some (o, v) => some (o, v, []) | none => none
theorem c_ref06_way_ok : SOkM Tryz.prog false (81, c_ref06_way) := t_ref06_way
def mss85 : List (FuncId × SFM) := (81, c_ref06_way) :: mss84
def menv89 : EnvM := mkEnvM mxs mss85 mws5
theorem mss85_ok : All (SOkM Tryz.prog false) mss85 := All.cons c_ref06_way_ok mss84_ok
theorem menv89_ok : menv89.Ok Tryz.prog false := mkEnvM_ok mxs_ok mss85_ok mws5_ok
-- tumble/tumbleref02.Dot
theorem ann_ref02_Dot : FnOk Tryz.prog false 0 Tryz.f66 Ann.no := (fnNo _)
def s_ref02_Dot_0 (e g z j : Nat) : Nat := (fadd (fmul e z) (fmul g j))
theorem e_ref02_Dot (e g z j : Nat) : outB (evFnM Tryz.prog false menv89 [] [] 96 Ann.no Tryz.f66 [AV.agg [AV.float e, AV.float g], AV.agg [AV.float z, AV.float j]] []) = some (true, AV.float (s_ref02_Dot_0 e g z j)) := by kernel_rfl
def S_ref02_Dot : List AV → Option (Ob × AV)
  | [AV.agg [AV.float e, AV.float g], AV.agg [AV.float z, AV.float j]] => some (Ob.tt, AV.float (s_ref02_Dot_0 e g z j))
  | _ => none
theorem t_ref02_Dot : SOkM Tryz.prog false (66, fun args => match S_ref02_Dot args with | some (o, v) => some (o, v, []) | none => none) := SOkM.flat (N := 96) menv89_ok Tryz.func66 ann_ref02_Dot Tryz.call66 fun args o v h ho => by
  unfold S_ref02_Dot at h
  split at h
  · rename_i e g z j
    cases h
    have ho2 := ho
    have this := show outB (evFnM Tryz.prog false menv89 [] [] 96 Ann.no Tryz.f66 [AV.agg [AV.float e, AV.float g], AV.agg [AV.float z, AV.float j]] []) = _ from e_ref02_Dot e g z j
    exact ⟨this, rfl⟩
  · cases h
def c_ref02_Dot : SFM := fun args => match S_ref02_Dot args with | some (o, v) => some (o, v, []) | none => none
theorem c_ref02_Dot_ok : SOkM Tryz.prog false (66, c_ref02_Dot) := t_ref02_Dot
def mss86 : List (FuncId × SFM) := (66, c_ref02_Dot) :: mss85
def menv90 : EnvM := mkEnvM mxs mss86 mws5
theorem mss86_ok : All (SOkM Tryz.prog false) mss86 := All.cons c_ref02_Dot_ok mss85_ok
theorem menv90_ok : menv90.Ok Tryz.prog false := mkEnvM_ok mxs_ok mss86_ok mws5_ok
-- tumble/tumbleref02.Square
theorem ann_ref02_Square : FnOk Tryz.prog false 0 Tryz.f69 Ann.no := (fnNo _)
def s_ref02_Square_0 (e g : Nat) : Nat := (s_ref02_Dot_0 e g e g)
theorem e_ref02_Square (e g : Nat) : outB (evFnM Tryz.prog false menv90 [] [] 96 Ann.no Tryz.f69 [AV.agg [AV.float e, AV.float g]] []) = some (true, AV.float (s_ref02_Square_0 e g)) := by kernel_rfl
def S_ref02_Square : List AV → Option (Ob × AV)
  | [AV.agg [AV.float e, AV.float g]] => some (Ob.tt, AV.float (s_ref02_Square_0 e g))
  | _ => none
theorem t_ref02_Square : SOkM Tryz.prog false (69, fun args => match S_ref02_Square args with | some (o, v) => some (o, v, []) | none => none) := SOkM.flat (N := 96) menv90_ok Tryz.func69 ann_ref02_Square Tryz.call69 fun args o v h ho => by
  unfold S_ref02_Square at h
  split at h
  · rename_i e g
    cases h
    have ho2 := ho
    have this := show outB (evFnM Tryz.prog false menv90 [] [] 96 Ann.no Tryz.f69 [AV.agg [AV.float e, AV.float g]] []) = _ from e_ref02_Square e g
    exact ⟨this, rfl⟩
  · cases h
def c_ref02_Square : SFM := fun args => match S_ref02_Square args with | some (o, v) => some (o, v, []) | none => none
theorem c_ref02_Square_ok : SOkM Tryz.prog false (69, c_ref02_Square) := t_ref02_Square
def mss87 : List (FuncId × SFM) := (69, c_ref02_Square) :: mss86
def menv91 : EnvM := mkEnvM mxs mss87 mws5
theorem mss87_ok : All (SOkM Tryz.prog false) mss87 := All.cons c_ref02_Square_ok mss86_ok
theorem menv91_ok : menv91.Ok Tryz.prog false := mkEnvM_ok mxs_ok mss87_ok mws5_ok
-- tumble/tumbleref02.Length
theorem ann_ref02_Length : FnOk Tryz.prog false 0 Tryz.f59 Ann.no := (fnNo _)
def s_ref02_Length_0 (e g : Nat) : Nat := (s_math_Sqrt_0 (s_ref02_Square_0 e g))
theorem e_ref02_Length (e g : Nat) : outB (evFnM Tryz.prog false menv91 [] [] 96 Ann.no Tryz.f59 [AV.agg [AV.float e, AV.float g]] []) = some (true, AV.float (s_ref02_Length_0 e g)) := by kernel_rfl
def S_ref02_Length : List AV → Option (Ob × AV)
  | [AV.agg [AV.float e, AV.float g]] => some (Ob.tt, AV.float (s_ref02_Length_0 e g))
  | _ => none
theorem t_ref02_Length : SOkM Tryz.prog false (59, fun args => match S_ref02_Length args with | some (o, v) => some (o, v, []) | none => none) := SOkM.flat (N := 96) menv91_ok Tryz.func59 ann_ref02_Length Tryz.call59 fun args o v h ho => by
  unfold S_ref02_Length at h
  split at h
  · rename_i e g
    cases h
    have ho2 := ho
    have this := show outB (evFnM Tryz.prog false menv91 [] [] 96 Ann.no Tryz.f59 [AV.agg [AV.float e, AV.float g]] []) = _ from e_ref02_Length e g
    exact ⟨this, rfl⟩
  · cases h
def c_ref02_Length : SFM := fun args => match S_ref02_Length args with | some (o, v) => some (o, v, []) | none => none
theorem c_ref02_Length_ok : SOkM Tryz.prog false (59, c_ref02_Length) := t_ref02_Length
def mss88 : List (FuncId × SFM) := (59, c_ref02_Length) :: mss87
def menv92 : EnvM := mkEnvM mxs mss88 mws5
theorem mss88_ok : All (SOkM Tryz.prog false) mss88 := All.cons c_ref02_Length_ok mss87_ok
theorem menv92_ok : menv92.Ok Tryz.prog false := mkEnvM_ok mxs_ok mss88_ok mws5_ok
-- tumble/tumbleref02.Cross
theorem ann_ref02_Cross : FnOk Tryz.prog false 0 Tryz.f65 Ann.no := (fnNo _)
def s_ref02_Cross_0 (e g z j : Nat) : Nat := (fsub (fmul e j) (fmul g z))
theorem e_ref02_Cross (e g z j : Nat) : outB (evFnM Tryz.prog false menv92 [] [] 96 Ann.no Tryz.f65 [AV.agg [AV.float e, AV.float g], AV.agg [AV.float z, AV.float j]] []) = some (true, AV.float (s_ref02_Cross_0 e g z j)) := by kernel_rfl
def S_ref02_Cross : List AV → Option (Ob × AV)
  | [AV.agg [AV.float e, AV.float g], AV.agg [AV.float z, AV.float j]] => some (Ob.tt, AV.float (s_ref02_Cross_0 e g z j))
  | _ => none
theorem t_ref02_Cross : SOkM Tryz.prog false (65, fun args => match S_ref02_Cross args with | some (o, v) => some (o, v, []) | none => none) := SOkM.flat (N := 96) menv92_ok Tryz.func65 ann_ref02_Cross Tryz.call65 fun args o v h ho => by
  unfold S_ref02_Cross at h
  split at h
  · rename_i e g z j
    cases h
    have ho2 := ho
    have this := show outB (evFnM Tryz.prog false menv92 [] [] 96 Ann.no Tryz.f65 [AV.agg [AV.float e, AV.float g], AV.agg [AV.float z, AV.float j]] []) = _ from e_ref02_Cross e g z j
    exact ⟨this, rfl⟩
  · cases h
def c_ref02_Cross : SFM := fun args => match S_ref02_Cross args with | some (o, v) => some (o, v, []) | none => none
theorem c_ref02_Cross_ok : SOkM Tryz.prog false (65, c_ref02_Cross) := t_ref02_Cross
def mss89 : List (FuncId × SFM) := (65, c_ref02_Cross) :: mss88
def menv93 : EnvM := mkEnvM mxs mss89 mws5
theorem mss89_ok : All (SOkM Tryz.prog false) mss89 := All.cons c_ref02_Cross_ok mss88_ok
theorem menv93_ok : menv93.Ok Tryz.prog false := mkEnvM_ok mxs_ok mss89_ok mws5_ok
-- tumble/tumbleref06.left
theorem ann_ref06_left : FnOk Tryz.prog false 0 Tryz.f83 Ann.no := (fnNo _)
def s_ref06_left_0 (l : Nat) (q t : Nat → Nat) (g : Int) (z j : Nat) : Nat := (s_ref02_Cross_0 (s_ref06_way_0 l q t g) (s_ref06_way_1 l q t g) (s_ref06_lead_0 (q (Int.toNat g)) (t (Int.toNat g)) z j) (s_ref06_lead_1 (q (Int.toNat g)) (t (Int.toNat g)) z j))
def q_ref06_left (l : Nat) (q t : Nat → Nat) (g : Int) (z j : Nat) : Bool := (((ile (0 : Int) g) && (Nat.blt (Int.toNat g) l)) && ((allB fun _ => true) && (((ile (0 : Int) (s_ref06_next_0 l q t g)) && (Nat.blt (Int.toNat (s_ref06_next_0 l q t g)) l)) && ((!(ieq (Int.ofNat l) (0 : Int))) && ((ile (0 : Int) g) && (Nat.blt (Int.toNat g) l))))))
theorem e_ref06_left (l : Nat) (q t : Nat → Nat) (g : Int) (z j : Nat) : outB (evFnM Tryz.prog false menv93 [] [] 96 Ann.no Tryz.f83 [AV.view l 2 (fun i0 => [AV.float (q i0), AV.float (t i0)]), AV.int .i64 g, AV.agg [AV.float z, AV.float j]] []) = some (q_ref06_left l q t g z j, AV.float (s_ref06_left_0 l q t g z j)) := by kernel_rfl
def o_ref06_left (l : Nat) (q t : Nat → Nat) (g : Int) (z j : Nat) : Bool := (((ile (0 : Int) g) && (Nat.blt (Int.toNat g) l)) && (((ile (0 : Int) (s_ref06_next_0 l q t g)) && (Nat.blt (Int.toNat (s_ref06_next_0 l q t g)) l)) && ((!(ieq (Int.ofNat l) (0 : Int))) && ((ile (0 : Int) g) && (Nat.blt (Int.toNat g) l)))))
def S_ref06_left : List AV → Option (Ob × AV)
  | [AV.view l 2 C, AV.int .i64 g, AV.agg [AV.float z, AV.float j]] => some (Ob.both (Ob.bit (allB fun i => isNrm [Ck.f, Ck.f] (C i))) (Ob.bit (o_ref06_left l (fL C 0) (fL C 1) g z j)), AV.float (s_ref06_left_0 l (fL C 0) (fL C 1) g z j))
  | _ => none
theorem ob_ref06_left (l : Nat) (q t : Nat → Nat) (g : Int) (z j : Nat) (ho : o_ref06_left l q t g z j = true) : q_ref06_left l q t g z j = true := by
  unfold q_ref06_left
  unfold o_ref06_left at ho
  simp only [allB_true, eqT_self, mrgB_self, Bool.true_and, Bool.and_true] at ho ⊢
  exact ho
theorem t_ref06_left : SOkM Tryz.prog false (83, fun args => match S_ref06_left args with | some (o, v) => some (o, v, []) | none => none) := SOkM.flat (N := 96) menv93_ok Tryz.func83 ann_ref06_left Tryz.call83 fun args o v h ho => by
  unfold S_ref06_left at h
  split at h
  · rename_i l C g z j
    cases h
    rw [Ob.both_ok, Bool.and_eq_true] at ho
    obtain ⟨hn, ho2⟩ := ho
    have n0 := hn
    simp only [Ob.ok] at n0
    replace n0 := nrm_fun n0
    have this := show outB (evFnM Tryz.prog false menv93 [] [] 96 Ann.no Tryz.f83 [AV.view l 2 (fun i => mkN [Ck.f, Ck.f] (C i) 0), AV.int .i64 g, AV.agg [AV.float z, AV.float j]] []) = _ from e_ref06_left l (fL C 0) (fL C 1) g z j
    rw [(ob_ref06_left l (fL C 0) (fL C 1) g z j ho2)] at this
    rw [n0] at this
    exact ⟨this, rfl⟩
  · cases h
def c_ref06_left : SFM := fun args => match S_ref06_left args with | some (o, v) => some (o, v, []) | none => none
theorem c_ref06_left_ok : SOkM Tryz.prog false (83, c_ref06_left) := t_ref06_left
def mss90 : List (FuncId × SFM) := (83, c_ref06_left) :: mss89
def menv94 : EnvM := mkEnvM mxs mss90 mws5
theorem mss90_ok : All (SOkM Tryz.prog false) mss90 := All.cons c_ref06_left_ok mss89_ok
theorem menv94_ok : menv94.Ok Tryz.prog false := mkEnvM_ok mxs_ok mss90_ok mws5_ok
-- tumble/tumbleref06.Check
-- a loop of tumble/tumbleref06.Check
structure V_ref06_Check_L0 where
  v0 : Int
def tpl_ref06_Check_L0 : List AV := (AV.nul :: AV.top :: AV.top :: AV.top :: AV.nul :: AV.nul :: tpA 47 ([]))
def cts_ref06_Check_L0 : List CT := []
def phs_ref06_Check_L0 : List Src := []
def T_ref06_Check_L0 (r : Nat) (u m : Nat → Nat) (B : Int) (x : V_ref06_Check_L0) (F0 : Nat → List AV) : List AV × Heap := ((AV.view r 2 F0 :: AV.top :: AV.top :: AV.top :: AV.int .i64 B :: AV.int .i64 x.v0 :: tpA 47 ([])), [])
def sh_ref06_Check_L0 (r : Nat) (u m : Nat → Nat) (B : Int) (x : V_ref06_Check_L0) : List AV × Heap := T_ref06_Check_L0 r u m B x (fun j0 => [AV.float (u j0), AV.float (m j0)])
def step_ref06_Check_L0 (r : Nat) (u m : Nat → Nat) (B : Int) (x : V_ref06_Check_L0) : V_ref06_Check_L0 := V_ref06_Check_L0.mk (IntKind.wrap .i64 (x.v0 + (1 : Int)))
def go_ref06_Check_L0 (r : Nat) (u m : Nat → Nat) (B : Int) (x : V_ref06_Check_L0) : Bool := (bif (bif (!(ilt x.v0 (Int.ofNat r))) then false else (((!(ieq x.v0 B)) && (!(ieq x.v0 (s_ref06_next_0 r u m B)))) && (!(flt 0 (s_ref06_left_0 r u m B (u (Int.toNat x.v0)) (m (Int.toNat x.v0))))))) then false else (bif (!(ilt x.v0 (Int.ofNat r))) then false else true))
def ok_ref06_Check_L0 (r : Nat) (u m : Nat → Nat) (B : Int) (x : V_ref06_Check_L0) : Bool := let x0 := !(ieq (Int.ofNat r) (0 : Int)); let x1 := !(ieq x.v0 B); let x2 := mrgB x1 ((allB fun _ => true) && x0) true; let x3 := (ile (0 : Int) B) && (Nat.blt (Int.toNat B) r); let x4 := s_ref06_next_0 r u m B; let x5 := x1 && (!(ieq x.v0 x4)); let x6 := mrgB x5 (((allB fun _ => true) && (x3 && (((ile (0 : Int) x4) && (Nat.blt (Int.toNat x4) r)) && (x0 && x3)))) && (((ile (0 : Int) x.v0) && (Nat.blt (Int.toNat x.v0) r)) && x2)) x2; let x7 := !(ilt x.v0 (Int.ofNat r)); (mrgB (bif x7 then false else (x5 && (!(flt 0 (s_ref06_left_0 r u m B (u (Int.toNat x.v0)) (m (Int.toNat x.v0))))))) x6 (mrgB x7 true x6))
def L_ref06_Check_L0 (r : Nat) (u m : Nat → Nat) (B : Int) (x : V_ref06_Check_L0) : V_ref06_Check_L0 := lastL (ok_ref06_Check_L0 r u m B) (go_ref06_Check_L0 r u m B) (step_ref06_Check_L0 r u m B) x
def E_ref06_Check_L0 (r : Nat) (u m : Nat → Nat) (B : Int) (x : V_ref06_Check_L0) : Bool := endsL (ok_ref06_Check_L0 r u m B) (go_ref06_Check_L0 r u m B) (step_ref06_Check_L0 r u m B) x
theorem all_ref06_Check_L0 (r : Nat) (u m : Nat → Nat) (B : Int) (x : V_ref06_Check_L0) : rnd Tryz.prog false menv94 [] [] 96 Ann.no (subC [1, 1, 1, 1, 0, 1, 0, 0, 1, 0, 0, 1, 1, 0, 0] (codeOf Tryz.f57)) 0 [] tpl_ref06_Check_L0 cts_ref06_Check_L0 (false :: true :: true :: true :: false :: tpB 48 ([])) [] (sh_ref06_Check_L0 r u m B x) = (true, true, go_ref06_Check_L0 r u m B x, ok_ref06_Check_L0 r u m B x, true, sh_ref06_Check_L0 r u m B (step_ref06_Check_L0 r u m B x), true) := by kernel_rfl
def fam_ref06_Check_L0 (r : Nat) (u m : Nat → Nat) (B : Int) : Fam Tryz.prog false menv94 [] [] 96 0 Ann.no (subC [1, 1, 1, 1, 0, 1, 0, 0, 1, 0, 0, 1, 1, 0, 0] (codeOf Tryz.f57)) V_ref06_Check_L0 where
  sh := sh_ref06_Check_L0 r u m B
  ok := ok_ref06_Check_L0 r u m B
  go := go_ref06_Check_L0 r u m B
  step := step_ref06_Check_L0 r u m B
  chg := (false :: true :: true :: true :: false :: tpB 48 ([]))
  chgH := []
  tpl := tpl_ref06_Check_L0
  cts := cts_ref06_Check_L0
  keep := 0
  srcs := []
  ann := (annNo (subC [1, 1, 1, 1, 0, 1, 0, 0, 1, 0, 0, 1, 1, 0, 0] (codeOf Tryz.f57)))
  le := by kernel_rfl
  kept := by kernel_rfl
  keptB := by kernel_rfl
  all := all_ref06_Check_L0 r u m B
  len := fun x => by kernel_rfl
  head := fun x y => by kernel_rfl
  con := fun x y => by kernel_rfl
  conH := fun x y => by kernel_rfl
def F_ref06_Check_L0 : St → Option Ch := fun s => cond (Nat.beq s.tm.length 53 && Nat.beq s.H.length 0) (tkCons (alL tpl_ref06_Check_L0 s.tm) fun e t0 => tkView 2 e fun s0 f0 => tkTops 3 t0 fun t1 => tkCons t1 fun z t2 => tkI .i64 z fun s3 => tkCons t2 fun j t3 => tkI .i64 j fun s4 => tkTops 47 t3 fun t4 => tkNil t4 <| tkNil (alH cts_ref06_Check_L0 (s.H ++ List.map phan phs_ref06_Check_L0)) <| Fam.out (fam_ref06_Check_L0 s0 (fL f0 0) (fL f0 1) s3) s (allB fun i => isNrm [Ck.f, Ck.f] (f0 i)) (V_ref06_Check_L0.mk s4)) none
theorem F_ref06_Check_L0_ok : ∀ s ch, F_ref06_Check_L0 s = some ch → AllI s ch ∧ LoopSpec Tryz.prog false 0 (subC [1, 1, 1, 1, 0, 1, 0, 0, 1, 0, 0, 1, 1, 0, 0] (codeOf Tryz.f57)) s (sel ch) := by
  intro s ch h
  unfold F_ref06_Check_L0 at h
  obtain ⟨hl, h0⟩ := cond_some h rfl
  clear h
  obtain ⟨hl, hb⟩ := and_beq2 hl
  obtain ⟨e, t0, e0, h1⟩ := tkCons_some h0
  obtain ⟨s0, f0, rfl, h2⟩ := tkView_some h1
  obtain ⟨t1, rfl, h3⟩ := tkTops_some h2
  obtain ⟨z, t2, rfl, h4⟩ := tkCons_some h3
  obtain ⟨s3, rfl, h5⟩ := tkI_some h4
  obtain ⟨j, t3, rfl, h6⟩ := tkCons_some h5
  obtain ⟨s4, rfl, h7⟩ := tkI_some h6
  obtain ⟨t4, rfl, h8⟩ := tkTops_some h7
  obtain ⟨rfl, h9⟩ := tkNil_some h8
  obtain ⟨eH, h10⟩ := tkNil_some h9
  refine Fam.spec menv94_ok (fam_ref06_Check_L0 s0 (fL f0 0) (fL f0 1) s3) (phs := phs_ref06_Check_L0) (hl.trans (by kernel_rfl)) (hb.trans (by kernel_rfl)) ?_ ?_ h10
  · rw [← hdr_alH cts_ref06_Check_L0 (s.H ++ List.map phan phs_ref06_Check_L0), eH]; kernel_rfl
  · intro hq
    have hq0 := hq
    have n0 := nrm_fun hq0
    show sh_ref06_Check_L0 s0 (fL f0 0) (fL f0 1) s3 (V_ref06_Check_L0.mk s4) = (alL tpl_ref06_Check_L0 s.tm, alH cts_ref06_Check_L0 (s.H ++ List.map phan phs_ref06_Check_L0))
    rw [e0, eH]
    refine Eq.trans (show sh_ref06_Check_L0 s0 (fL f0 0) (fL f0 1) s3 (V_ref06_Check_L0.mk s4) = T_ref06_Check_L0 s0 (fL f0 0) (fL f0 1) s3 (V_ref06_Check_L0.mk s4) (fun i => mkN [Ck.f, Ck.f] (f0 i) 0) by kernel_rfl) ?_
    rw [n0]
    kernel_rfl
-- a loop of tumble/tumbleref06.Check
structure V_ref06_Check_L1 where
  v0 : Int
def tpl_ref06_Check_L1 : List AV := (AV.nul :: AV.top :: AV.top :: AV.top :: AV.nul :: tpA 48 ([]))
def cts_ref06_Check_L1 : List CT := []
def phs_ref06_Check_L1 : List Src := []
def T_ref06_Check_L1 (r : Nat) (u m : Nat → Nat) (x : V_ref06_Check_L1) (F0 : Nat → List AV) : List AV × Heap := ((AV.view r 2 F0 :: AV.top :: AV.top :: AV.top :: AV.int .i64 x.v0 :: tpA 48 ([])), [])
def sh_ref06_Check_L1 (r : Nat) (u m : Nat → Nat) (x : V_ref06_Check_L1) : List AV × Heap := T_ref06_Check_L1 r u m x (fun j0 => [AV.float (u j0), AV.float (m j0)])
def step_ref06_Check_L1 (r : Nat) (u m : Nat → Nat) (x : V_ref06_Check_L1) : V_ref06_Check_L1 := V_ref06_Check_L1.mk (IntKind.wrap .i64 (x.v0 + (1 : Int)))
def go_ref06_Check_L1 (r : Nat) (u m : Nat → Nat) (x : V_ref06_Check_L1) : Bool := let x0 := !(ilt x.v0 (Int.ofNat r)); let x1 := (L_ref06_Check_L0 r u m x.v0 (V_ref06_Check_L0.mk (0 : Int))).v0; let x2 := Int.toNat x1; (bif (bif x0 then false else ((!(fle 4472074429978902528 (s_ref02_Length_0 (s_ref06_way_0 r u m x.v0) (s_ref06_way_1 r u m x.v0)))) || (bif (!(ilt x1 (Int.ofNat r))) then false else (((!(ieq x1 x.v0)) && (!(ieq x1 (s_ref06_next_0 r u m x.v0)))) && (!(flt 0 (s_ref06_left_0 r u m x.v0 (u x2) (m x2)))))))) then false else (bif x0 then false else true))
def ok_ref06_Check_L1 (r : Nat) (u m : Nat → Nat) (x : V_ref06_Check_L1) : Bool := let x0 := s_ref06_next_0 r u m x.v0; let x1 := (allB fun _ => true) && (((ile (0 : Int) x0) && (Nat.blt (Int.toNat x0) r)) && ((!(ieq (Int.ofNat r) (0 : Int))) && ((ile (0 : Int) x.v0) && (Nat.blt (Int.toNat x.v0) r)))); let x2 := x1 && ((allB fun _ => true) && (E_ref06_Check_L0 r u m x.v0 (V_ref06_Check_L0.mk (0 : Int)))); let x3 := !(ilt x.v0 (Int.ofNat r)); let x4 := !(fle 4472074429978902528 (s_ref02_Length_0 (s_ref06_way_0 r u m x.v0) (s_ref06_way_1 r u m x.v0))); let x5 := (L_ref06_Check_L0 r u m x.v0 (V_ref06_Check_L0.mk (0 : Int))).v0; let x6 := Int.toNat x5; (mrgB (bif x3 then false else (x4 || (bif (!(ilt x5 (Int.ofNat r))) then false else (((!(ieq x5 x.v0)) && (!(ieq x5 x0))) && (!(flt 0 (s_ref06_left_0 r u m x.v0 (u x6) (m x6)))))))) (mrgB x4 x1 x2) (mrgB x3 true x2))
def L_ref06_Check_L1 (r : Nat) (u m : Nat → Nat) (x : V_ref06_Check_L1) : V_ref06_Check_L1 := lastL (ok_ref06_Check_L1 r u m) (go_ref06_Check_L1 r u m) (step_ref06_Check_L1 r u m) x
def E_ref06_Check_L1 (r : Nat) (u m : Nat → Nat) (x : V_ref06_Check_L1) : Bool := endsL (ok_ref06_Check_L1 r u m) (go_ref06_Check_L1 r u m) (step_ref06_Check_L1 r u m) x
theorem all_ref06_Check_L1 (r : Nat) (u m : Nat → Nat) (x : V_ref06_Check_L1) : rnd Tryz.prog false menv94 [] [] 96 (Ann.two Ann.no (Ann.two (Ann.one (Ann.two Ann.no (Ann.two Ann.no (Ann.one (Ann.loop F_ref06_Check_L0))))) Ann.no)) (subC [1, 1, 1, 1, 0, 1, 0, 0] (codeOf Tryz.f57)) 0 [] tpl_ref06_Check_L1 cts_ref06_Check_L1 (false :: tpB 52 ([])) [] (sh_ref06_Check_L1 r u m x) = (true, true, go_ref06_Check_L1 r u m x, ok_ref06_Check_L1 r u m x, true, sh_ref06_Check_L1 r u m (step_ref06_Check_L1 r u m x), true) := by kernel_rfl
def fam_ref06_Check_L1 (r : Nat) (u m : Nat → Nat) : Fam Tryz.prog false menv94 [] [] 96 0 (Ann.two Ann.no (Ann.two (Ann.one (Ann.two Ann.no (Ann.two Ann.no (Ann.one (Ann.loop F_ref06_Check_L0))))) Ann.no)) (subC [1, 1, 1, 1, 0, 1, 0, 0] (codeOf Tryz.f57)) V_ref06_Check_L1 where
  sh := sh_ref06_Check_L1 r u m
  ok := ok_ref06_Check_L1 r u m
  go := go_ref06_Check_L1 r u m
  step := step_ref06_Check_L1 r u m
  chg := (false :: tpB 52 ([]))
  chgH := []
  tpl := tpl_ref06_Check_L1
  cts := cts_ref06_Check_L1
  keep := 0
  srcs := []
  ann := (annSeq (a := (subC [1, 1, 1, 1, 0, 1, 0, 0, 0] (codeOf Tryz.f57))) (b := (subC [1, 1, 1, 1, 0, 1, 0, 0, 1] (codeOf Tryz.f57))) (by kernel_rfl) (annNo (subC [1, 1, 1, 1, 0, 1, 0, 0, 0] (codeOf Tryz.f57))) (annSeq (a := (subC [1, 1, 1, 1, 0, 1, 0, 0, 1, 0] (codeOf Tryz.f57))) (b := (subC [1, 1, 1, 1, 0, 1, 0, 0, 1, 1] (codeOf Tryz.f57))) (by kernel_rfl) (annBlock (a := (subC [1, 1, 1, 1, 0, 1, 0, 0, 1, 0, 0] (codeOf Tryz.f57))) (i := 1) (by kernel_rfl) (annSeq (a := (subC [1, 1, 1, 1, 0, 1, 0, 0, 1, 0, 0, 0] (codeOf Tryz.f57))) (b := (subC [1, 1, 1, 1, 0, 1, 0, 0, 1, 0, 0, 1] (codeOf Tryz.f57))) (by kernel_rfl) (annNo (subC [1, 1, 1, 1, 0, 1, 0, 0, 1, 0, 0, 0] (codeOf Tryz.f57))) (annSeq (a := (subC [1, 1, 1, 1, 0, 1, 0, 0, 1, 0, 0, 1, 0] (codeOf Tryz.f57))) (b := (subC [1, 1, 1, 1, 0, 1, 0, 0, 1, 0, 0, 1, 1] (codeOf Tryz.f57))) (by kernel_rfl) (annNo (subC [1, 1, 1, 1, 0, 1, 0, 0, 1, 0, 0, 1, 0] (codeOf Tryz.f57))) (annBlock (a := (subC [1, 1, 1, 1, 0, 1, 0, 0, 1, 0, 0, 1, 1, 0] (codeOf Tryz.f57))) (i := 2) (by kernel_rfl) (annLoop (a := (subC [1, 1, 1, 1, 0, 1, 0, 0, 1, 0, 0, 1, 1, 0, 0] (codeOf Tryz.f57))) (by kernel_rfl) F_ref06_Check_L0_ok))))) (annNo (subC [1, 1, 1, 1, 0, 1, 0, 0, 1, 1] (codeOf Tryz.f57)))))
  le := by kernel_rfl
  kept := by kernel_rfl
  keptB := by kernel_rfl
  all := all_ref06_Check_L1 r u m
  len := fun x => by kernel_rfl
  head := fun x y => by kernel_rfl
  con := fun x y => by kernel_rfl
  conH := fun x y => by kernel_rfl
def F_ref06_Check_L1 : St → Option Ch := fun s => cond (Nat.beq s.tm.length 53 && Nat.beq s.H.length 0) (tkCons (alL tpl_ref06_Check_L1 s.tm) fun e t0 => tkView 2 e fun s0 f0 => tkTops 3 t0 fun t1 => tkCons t1 fun z t2 => tkI .i64 z fun s3 => tkTops 48 t2 fun t3 => tkNil t3 <| tkNil (alH cts_ref06_Check_L1 (s.H ++ List.map phan phs_ref06_Check_L1)) <| Fam.out (fam_ref06_Check_L1 s0 (fL f0 0) (fL f0 1)) s (allB fun i => isNrm [Ck.f, Ck.f] (f0 i)) (V_ref06_Check_L1.mk s3)) none
theorem F_ref06_Check_L1_ok : ∀ s ch, F_ref06_Check_L1 s = some ch → AllI s ch ∧ LoopSpec Tryz.prog false 0 (subC [1, 1, 1, 1, 0, 1, 0, 0] (codeOf Tryz.f57)) s (sel ch) := by
  intro s ch h
  unfold F_ref06_Check_L1 at h
  obtain ⟨hl, h0⟩ := cond_some h rfl
  clear h
  obtain ⟨hl, hb⟩ := and_beq2 hl
  obtain ⟨e, t0, e0, h1⟩ := tkCons_some h0
  obtain ⟨s0, f0, rfl, h2⟩ := tkView_some h1
  obtain ⟨t1, rfl, h3⟩ := tkTops_some h2
  obtain ⟨z, t2, rfl, h4⟩ := tkCons_some h3
  obtain ⟨s3, rfl, h5⟩ := tkI_some h4
  obtain ⟨t3, rfl, h6⟩ := tkTops_some h5
  obtain ⟨rfl, h7⟩ := tkNil_some h6
  obtain ⟨eH, h8⟩ := tkNil_some h7
  refine Fam.spec menv94_ok (fam_ref06_Check_L1 s0 (fL f0 0) (fL f0 1)) (phs := phs_ref06_Check_L1) (hl.trans (by kernel_rfl)) (hb.trans (by kernel_rfl)) ?_ ?_ h8
  · rw [← hdr_alH cts_ref06_Check_L1 (s.H ++ List.map phan phs_ref06_Check_L1), eH]; kernel_rfl
  · intro hq
    have hq0 := hq
    have n0 := nrm_fun hq0
    show sh_ref06_Check_L1 s0 (fL f0 0) (fL f0 1) (V_ref06_Check_L1.mk s3) = (alL tpl_ref06_Check_L1 s.tm, alH cts_ref06_Check_L1 (s.H ++ List.map phan phs_ref06_Check_L1))
    rw [e0, eH]
    refine Eq.trans (show sh_ref06_Check_L1 s0 (fL f0 0) (fL f0 1) (V_ref06_Check_L1.mk s3) = T_ref06_Check_L1 s0 (fL f0 0) (fL f0 1) (V_ref06_Check_L1.mk s3) (fun i => mkN [Ck.f, Ck.f] (f0 i) 0) by kernel_rfl) ?_
    rw [n0]
    kernel_rfl
theorem ann_ref06_Check : FnOk Tryz.prog false 0 Tryz.f57 (Ann.two Ann.no (Ann.two Ann.no (Ann.two Ann.no (Ann.two Ann.no (Ann.two (Ann.two Ann.no (Ann.one (Ann.loop F_ref06_Check_L1))) Ann.no))))) := (fnOk_of (c := codeOf Tryz.f57) (by kernel_rfl) (annSeq (a := (subC [0] (codeOf Tryz.f57))) (b := (subC [1] (codeOf Tryz.f57))) (by kernel_rfl) (annNo (subC [0] (codeOf Tryz.f57))) (annSeq (a := (subC [1, 0] (codeOf Tryz.f57))) (b := (subC [1, 1] (codeOf Tryz.f57))) (by kernel_rfl) (annNo (subC [1, 0] (codeOf Tryz.f57))) (annSeq (a := (subC [1, 1, 0] (codeOf Tryz.f57))) (b := (subC [1, 1, 1] (codeOf Tryz.f57))) (by kernel_rfl) (annNo (subC [1, 1, 0] (codeOf Tryz.f57))) (annSeq (a := (subC [1, 1, 1, 0] (codeOf Tryz.f57))) (b := (subC [1, 1, 1, 1] (codeOf Tryz.f57))) (by kernel_rfl) (annNo (subC [1, 1, 1, 0] (codeOf Tryz.f57))) (annSeq (a := (subC [1, 1, 1, 1, 0] (codeOf Tryz.f57))) (b := (subC [1, 1, 1, 1, 1] (codeOf Tryz.f57))) (by kernel_rfl) (annSeq (a := (subC [1, 1, 1, 1, 0, 0] (codeOf Tryz.f57))) (b := (subC [1, 1, 1, 1, 0, 1] (codeOf Tryz.f57))) (by kernel_rfl) (annNo (subC [1, 1, 1, 1, 0, 0] (codeOf Tryz.f57))) (annBlock (a := (subC [1, 1, 1, 1, 0, 1, 0] (codeOf Tryz.f57))) (i := 0) (by kernel_rfl) (annLoop (a := (subC [1, 1, 1, 1, 0, 1, 0, 0] (codeOf Tryz.f57))) (by kernel_rfl) F_ref06_Check_L1_ok))) (annNo (subC [1, 1, 1, 1, 1] (codeOf Tryz.f57)))))))))
def s_ref06_Check_0 (l : Nat) (q t : Nat → Nat) : Int := let x0 := (L_ref06_Check_L1 l q t (V_ref06_Check_L1.mk (0 : Int))).v0; let x1 := !(fle 4472074429978902528 (s_ref02_Length_0 (s_ref06_way_0 l q t x0) (s_ref06_way_1 l q t x0))); let x2 := (L_ref06_Check_L0 l q t x0 (V_ref06_Check_L0.mk (0 : Int))).v0; let x3 := Int.toNat x2; let x4 := s_ref06_Reals_0 l q t; (bif (!(ieq x4 (0 : Int))) then x4 else (bif (ilt (Int.ofNat l) (3 : Int)) then (60 : Int) else (bif (bif (!(ilt x0 (Int.ofNat l))) then false else (x1 || (bif (!(ilt x2 (Int.ofNat l))) then false else (((!(ieq x2 x0)) && (!(ieq x2 (s_ref06_next_0 l q t x0)))) && (!(flt 0 (s_ref06_left_0 l q t x0 (q x3) (t x3)))))))) then (bif x1 then (60 : Int) else (60 : Int)) else (0 : Int))))
def q_ref06_Check (l : Nat) (q t : Nat → Nat) : Bool := (let x0 := (allB fun _ => true) && (o_ref06_Reals l q t); let x1 := x0 && ((allB fun _ => true) && (E_ref06_Check_L1 l q t (V_ref06_Check_L1.mk (0 : Int)))); let x2 := (L_ref06_Check_L1 l q t (V_ref06_Check_L1.mk (0 : Int))).v0; let x3 := (L_ref06_Check_L0 l q t x2 (V_ref06_Check_L0.mk (0 : Int))).v0; let x4 := Int.toNat x3; (mrgB (!(ieq (s_ref06_Reals_0 l q t) (0 : Int))) x0 (mrgB (ilt (Int.ofNat l) (3 : Int)) x0 (mrgB (bif (!(ilt x2 (Int.ofNat l))) then false else ((!(fle 4472074429978902528 (s_ref02_Length_0 (s_ref06_way_0 l q t x2) (s_ref06_way_1 l q t x2)))) || (bif (!(ilt x3 (Int.ofNat l))) then false else (((!(ieq x3 x2)) && (!(ieq x3 (s_ref06_next_0 l q t x2)))) && (!(flt 0 (s_ref06_left_0 l q t x2 (q x4) (t x4)))))))) x1 x1))))
theorem e_ref06_Check (l : Nat) (q t : Nat → Nat) : outB (evFnM Tryz.prog false menv94 [] [] 96 (Ann.two Ann.no (Ann.two Ann.no (Ann.two Ann.no (Ann.two Ann.no (Ann.two (Ann.two Ann.no (Ann.one (Ann.loop F_ref06_Check_L1))) Ann.no))))) Tryz.f57 [AV.view l 2 (fun i0 => [AV.float (q i0), AV.float (t i0)])] []) = some (q_ref06_Check l q t, AV.int .i64 (s_ref06_Check_0 l q t)) := by kernel_rfl
def o_ref06_Check (l : Nat) (q t : Nat → Nat) : Bool := let x0 := o_ref06_Reals l q t; let x1 := x0 && (E_ref06_Check_L1 l q t (V_ref06_Check_L1.mk (0 : Int))); let x2 := (L_ref06_Check_L1 l q t (V_ref06_Check_L1.mk (0 : Int))).v0; let x3 := (L_ref06_Check_L0 l q t x2 (V_ref06_Check_L0.mk (0 : Int))).v0; let x4 := Int.toNat x3; (mrgB (!(ieq (s_ref06_Reals_0 l q t) (0 : Int))) x0 (mrgB (ilt (Int.ofNat l) (3 : Int)) x0 (mrgB (bif (!(ilt x2 (Int.ofNat l))) then false else ((!(fle 4472074429978902528 (s_ref02_Length_0 (s_ref06_way_0 l q t x2) (s_ref06_way_1 l q t x2)))) || (bif (!(ilt x3 (Int.ofNat l))) then false else (((!(ieq x3 x2)) && (!(ieq x3 (s_ref06_next_0 l q t x2)))) && (!(flt 0 (s_ref06_left_0 l q t x2 (q x4) (t x4)))))))) x1 x1)))
def S_ref06_Check : List AV → Option (Ob × AV)
  | [AV.view l 2 C] => some (Ob.both (Ob.bit (allB fun i => isNrm [Ck.f, Ck.f] (C i))) (Ob.bit (o_ref06_Check l (fL C 0) (fL C 1))), AV.int .i64 (s_ref06_Check_0 l (fL C 0) (fL C 1)))
  | _ => none
theorem ob_ref06_Check (l : Nat) (q t : Nat → Nat) (ho : o_ref06_Check l q t = true) : q_ref06_Check l q t = true := by
  unfold q_ref06_Check
  unfold o_ref06_Check at ho
  simp only [allB_true, eqT_self, mrgB_self, Bool.true_and, Bool.and_true] at ho ⊢
  exact ho
theorem t_ref06_Check : SOkM Tryz.prog false (57, fun args => match S_ref06_Check args with | some (o, v) => some (o, v, []) | none => none) := SOkM.flat (N := 96) menv94_ok Tryz.func57 ann_ref06_Check Tryz.call57 fun args o v h ho => by
  unfold S_ref06_Check at h
  split at h
  · rename_i l C
    cases h
    rw [Ob.both_ok, Bool.and_eq_true] at ho
    obtain ⟨hn, ho2⟩ := ho
    have n0 := hn
    simp only [Ob.ok] at n0
    replace n0 := nrm_fun n0
    have this := show outB (evFnM Tryz.prog false menv94 [] [] 96 (Ann.two Ann.no (Ann.two Ann.no (Ann.two Ann.no (Ann.two Ann.no (Ann.two (Ann.two Ann.no (Ann.one (Ann.loop F_ref06_Check_L1))) Ann.no))))) Tryz.f57 [AV.view l 2 (fun i => mkN [Ck.f, Ck.f] (C i) 0)] []) = _ from e_ref06_Check l (fL C 0) (fL C 1)
    rw [(ob_ref06_Check l (fL C 0) (fL C 1) ho2)] at this
    rw [n0] at this
    exact ⟨this, rfl⟩
  · cases h
def c_ref06_Check : SFM := fun args => match S_ref06_Check args with | some (o, v) => some (o, v, []) | none => none
theorem c_ref06_Check_ok : SOkM Tryz.prog false (57, c_ref06_Check) := t_ref06_Check
def mss91 : List (FuncId × SFM) := (57, c_ref06_Check) :: mss90
def menv95 : EnvM := mkEnvM mxs mss91 mws5
theorem mss91_ok : All (SOkM Tryz.prog false) mss91 := All.cons c_ref06_Check_ok mss90_ok
theorem menv95_ok : menv95.Ok Tryz.prog false := mkEnvM_ok mxs_ok mss91_ok mws5_ok
-- tumble/tumbleref01.place
theorem ann_ref01_place : FnOk Tryz.prog false 0 Tryz.f97 Ann.no := (fnNo _)
def s_ref01_place_0 (e : Nat) : Int := (bif (ieq (Int.fdiv (Int.ofNat e) (9223372036854775808 : Int)) (1 : Int)) then (IntKind.wrap .i64 ((IntKind.wrap .i64 ((0 : Int) - (IntKind.wrap .i64 (Int.fdiv (IntKind.wrap .u64 ((Int.ofNat e) * (2 : Int))) (2 : Int))))) - (1 : Int))) else (IntKind.wrap .i64 (Int.fdiv (IntKind.wrap .u64 ((Int.ofNat e) * (2 : Int))) (2 : Int))))
def o_ref01_place (e : Nat) : Bool := (mrgB (ieq (Int.fdiv (Int.ofNat e) (9223372036854775808 : Int)) (1 : Int)) ((!(nanb e)) && (!(nanb e))) ((!(nanb e)) && (!(nanb e))))
theorem e_ref01_place (e : Nat) : outB (evFnM Tryz.prog false menv95 [] [] 96 Ann.no Tryz.f97 [AV.float e] []) = some (o_ref01_place e, AV.int .i64 (s_ref01_place_0 e)) := by kernel_rfl
def S_ref01_place : List AV → Option (Ob × AV)
  | [AV.float e] => some (Ob.bit (o_ref01_place e), AV.int .i64 (s_ref01_place_0 e))
  | _ => none
theorem t_ref01_place : SOkM Tryz.prog false (97, fun args => match S_ref01_place args with | some (o, v) => some (o, v, []) | none => none) := SOkM.flat (N := 96) menv95_ok Tryz.func97 ann_ref01_place Tryz.call97 fun args o v h ho => by
  unfold S_ref01_place at h
  split at h
  · rename_i e
    cases h
    have ho2 := ho
    have this := show outB (evFnM Tryz.prog false menv95 [] [] 96 Ann.no Tryz.f97 [AV.float e] []) = _ from e_ref01_place e
    rw [show o_ref01_place e = true from ho2] at this
    exact ⟨this, rfl⟩
  · cases h
def c_ref01_place : SFM := fun args => match S_ref01_place args with | some (o, v) => some (o, v, []) | none => none
theorem c_ref01_place_ok : SOkM Tryz.prog false (97, c_ref01_place) := t_ref01_place
def mss92 : List (FuncId × SFM) := (97, c_ref01_place) :: mss91
def menv96 : EnvM := mkEnvM mxs mss92 mws5
theorem mss92_ok : All (SOkM Tryz.prog false) mss92 := All.cons c_ref01_place_ok mss91_ok
theorem menv96_ok : menv96.Ok Tryz.prog false := mkEnvM_ok mxs_ok mss92_ok mws5_ok
-- tumble/tumbleref01.worth
theorem ann_ref01_worth : FnOk Tryz.prog false 0 Tryz.f96 Ann.no := (fnNo _)
def s_ref01_worth_0 (e : Nat) : Int := (bif (ieq (s_ref01_place_0 e) (-1 : Int)) then (0 : Int) else (s_ref01_place_0 e))
def o_ref01_worth (e : Nat) : Bool := (mrgB (ieq (s_ref01_place_0 e) (-1 : Int)) (mrgB (ieq (Int.fdiv (Int.ofNat e) (9223372036854775808 : Int)) (1 : Int)) ((!(nanb e)) && (!(nanb e))) ((!(nanb e)) && (!(nanb e)))) (mrgB (ieq (Int.fdiv (Int.ofNat e) (9223372036854775808 : Int)) (1 : Int)) ((!(nanb e)) && (!(nanb e))) ((!(nanb e)) && (!(nanb e)))))
theorem e_ref01_worth (e : Nat) : outB (evFnM Tryz.prog false menv96 [] [] 96 Ann.no Tryz.f96 [AV.float e] []) = some (o_ref01_worth e, AV.int .i64 (s_ref01_worth_0 e)) := by kernel_rfl
def S_ref01_worth : List AV → Option (Ob × AV)
  | [AV.float e] => some (Ob.bit (o_ref01_worth e), AV.int .i64 (s_ref01_worth_0 e))
  | _ => none
theorem t_ref01_worth : SOkM Tryz.prog false (96, fun args => match S_ref01_worth args with | some (o, v) => some (o, v, []) | none => none) := SOkM.flat (N := 96) menv96_ok Tryz.func96 ann_ref01_worth Tryz.call96 fun args o v h ho => by
  unfold S_ref01_worth at h
  split at h
  · rename_i e
    cases h
    have ho2 := ho
    have this := show outB (evFnM Tryz.prog false menv96 [] [] 96 Ann.no Tryz.f96 [AV.float e] []) = _ from e_ref01_worth e
    rw [show o_ref01_worth e = true from ho2] at this
    exact ⟨this, rfl⟩
  · cases h
def c_ref01_worth : SFM := fun args => match S_ref01_worth args with | some (o, v) => some (o, v, []) | none => none
theorem c_ref01_worth_ok : SOkM Tryz.prog false (96, c_ref01_worth) := t_ref01_worth
def mss93 : List (FuncId × SFM) := (96, c_ref01_worth) :: mss92
def menv97 : EnvM := mkEnvM mxs mss93 mws5
theorem mss93_ok : All (SOkM Tryz.prog false) mss93 := All.cons c_ref01_worth_ok mss92_ok
theorem menv97_ok : menv97.Ok Tryz.prog false := mkEnvM_ok mxs_ok mss93_ok mws5_ok
-- tumble/tumbleref01.above
theorem ann_ref01_above : FnOk Tryz.prog false 0 Tryz.f95 Ann.no := (fnNo _)
def s_ref01_above_0 (e g : Nat) : Bool := (((!(nanb e)) && (!(nanb g))) && (ilt (s_ref01_worth_0 g) (s_ref01_worth_0 e)))
theorem e_ref01_above (e g : Nat) : outB (evFnM Tryz.prog false menv97 [] [] 96 Ann.no Tryz.f95 [AV.float e, AV.float g] []) = some ((let x0 := (!(nanb e)) && (!(nanb e)); let x1 := mrgB (ieq (Int.fdiv (Int.ofNat e) (9223372036854775808 : Int)) (1 : Int)) x0 x0; let x2 := (!(nanb g)) && (!(nanb g)); let x3 := mrgB (ieq (Int.fdiv (Int.ofNat g) (9223372036854775808 : Int)) (1 : Int)) x2 x2; (mrgB ((!(nanb e)) && (!(nanb g))) ((mrgB (ieq (s_ref01_place_0 g) (-1 : Int)) x3 x3) && (mrgB (ieq (s_ref01_place_0 e) (-1 : Int)) x1 x1)) true)), AV.bool (s_ref01_above_0 e g)) := by kernel_rfl
def S_ref01_above : List AV → Option (Ob × AV)
  | [AV.float e, AV.float g] => some (Ob.tt, AV.bool (s_ref01_above_0 e g))
  | _ => none
theorem ob_ref01_above (e g : Nat) : (let x0 := (!(nanb e)) && (!(nanb e)); let x1 := mrgB (ieq (Int.fdiv (Int.ofNat e) (9223372036854775808 : Int)) (1 : Int)) x0 x0; let x2 := (!(nanb g)) && (!(nanb g)); let x3 := mrgB (ieq (Int.fdiv (Int.ofNat g) (9223372036854775808 : Int)) (1 : Int)) x2 x2; (mrgB ((!(nanb e)) && (!(nanb g))) ((mrgB (ieq (s_ref01_place_0 g) (-1 : Int)) x3 x3) && (mrgB (ieq (s_ref01_place_0 e) (-1 : Int)) x1 x1)) true)) = true := by show ((mrgB ((!(nanb e)) && (!(nanb g))) ((mrgB (ieq (s_ref01_place_0 g) (-1 : Int)) (mrgB (ieq (Int.fdiv (Int.ofNat g) (9223372036854775808 : Int)) (1 : Int)) ((!(nanb g)) && (!(nanb g))) ((!(nanb g)) && (!(nanb g)))) (mrgB (ieq (Int.fdiv (Int.ofNat g) (9223372036854775808 : Int)) (1 : Int)) ((!(nanb g)) && (!(nanb g))) ((!(nanb g)) && (!(nanb g))))) && (mrgB (ieq (s_ref01_place_0 e) (-1 : Int)) (mrgB (ieq (Int.fdiv (Int.ofNat e) (9223372036854775808 : Int)) (1 : Int)) ((!(nanb e)) && (!(nanb e))) ((!(nanb e)) && (!(nanb e)))) (mrgB (ieq (Int.fdiv (Int.ofNat e) (9223372036854775808 : Int)) (1 : Int)) ((!(nanb e)) && (!(nanb e))) ((!(nanb e)) && (!(nanb e)))))) true)) = true; (generalize (ieq (Int.fdiv (Int.ofNat g) (9223372036854775808 : Int)) (1 : Int)) = q0; generalize (ieq (Int.fdiv (Int.ofNat e) (9223372036854775808 : Int)) (1 : Int)) = q1; generalize (ieq (s_ref01_place_0 g) (-1 : Int)) = q2; generalize (ieq (s_ref01_place_0 e) (-1 : Int)) = q3; generalize (nanb e) = q4; generalize (nanb g) = q5; cases q0 <;> cases q1 <;> cases q2 <;> cases q3 <;> cases q4 <;> cases q5 <;> rfl)
theorem t_ref01_above : SOkM Tryz.prog false (95, fun args => match S_ref01_above args with | some (o, v) => some (o, v, []) | none => none) := SOkM.flat (N := 96) menv97_ok Tryz.func95 ann_ref01_above Tryz.call95 fun args o v h ho => by
  unfold S_ref01_above at h
  split at h
  · rename_i e g
    cases h
    have ho2 := ho
    have this := show outB (evFnM Tryz.prog false menv97 [] [] 96 Ann.no Tryz.f95 [AV.float e, AV.float g] []) = _ from e_ref01_above e g
    rw [(ob_ref01_above e g)] at this
    exact ⟨this, rfl⟩
  · cases h
def c_ref01_above : SFM := fun args => match S_ref01_above args with | some (o, v) => some (o, v, []) | none => none
theorem c_ref01_above_ok : SOkM Tryz.prog false (95, c_ref01_above) := t_ref01_above
def mss94 : List (FuncId × SFM) := (95, c_ref01_above) :: mss93
def menv98 : EnvM := mkEnvM mxs mss94 mws5
theorem mss94_ok : All (SOkM Tryz.prog false) mss94 := All.cons c_ref01_above_ok mss93_ok
theorem menv98_ok : menv98.Ok Tryz.prog false := mkEnvM_ok mxs_ok mss94_ok mws5_ok
-- tumble/tumbleref01.Within
theorem ann_ref01_Within : FnOk Tryz.prog false 0 Tryz.f92 Ann.no := (fnNo _)
def s_ref01_Within_0 (e g : Nat) : Bool := ((((!(nanb e)) && (!(nanb g))) && (!(s_ref01_above_0 e g))) && (!(s_ref01_above_0 (fneg g) e)))
theorem e_ref01_Within (e g : Nat) : outB (evFnM Tryz.prog false menv98 [] [] 96 Ann.no Tryz.f92 [AV.float e, AV.float g] []) = some (true, AV.bool (s_ref01_Within_0 e g)) := by kernel_rfl
def S_ref01_Within : List AV → Option (Ob × AV)
  | [AV.float e, AV.float g] => some (Ob.tt, AV.bool (s_ref01_Within_0 e g))
  | _ => none
theorem t_ref01_Within : SOkM Tryz.prog false (92, fun args => match S_ref01_Within args with | some (o, v) => some (o, v, []) | none => none) := SOkM.flat (N := 96) menv98_ok Tryz.func92 ann_ref01_Within Tryz.call92 fun args o v h ho => by
  unfold S_ref01_Within at h
  split at h
  · rename_i e g
    cases h
    have ho2 := ho
    have this := show outB (evFnM Tryz.prog false menv98 [] [] 96 Ann.no Tryz.f92 [AV.float e, AV.float g] []) = _ from e_ref01_Within e g
    exact ⟨this, rfl⟩
  · cases h
def c_ref01_Within : SFM := fun args => match S_ref01_Within args with | some (o, v) => some (o, v, []) | none => none
theorem c_ref01_Within_ok : SOkM Tryz.prog false (92, c_ref01_Within) := t_ref01_Within
def mss95 : List (FuncId × SFM) := (92, c_ref01_Within) :: mss94
def menv99 : EnvM := mkEnvM mxs mss95 mws5
theorem mss95_ok : All (SOkM Tryz.prog false) mss95 := All.cons c_ref01_Within_ok mss94_ok
theorem menv99_ok : menv99.Ok Tryz.prog false := mkEnvM_ok mxs_ok mss95_ok mws5_ok
-- tumble/tumbleref04.Real
theorem ann_ref04_Real : FnOk Tryz.prog false 0 Tryz.f78 Ann.no := (fnNo _)
def s_ref04_Real_0 (e : Nat) : Bool := (s_ref01_Within_0 e 4787326403894837248)
theorem e_ref04_Real (e : Nat) : outB (evFnM Tryz.prog false menv99 [] [] 96 Ann.no Tryz.f78 [AV.float e] []) = some (true, AV.bool (s_ref04_Real_0 e)) := by kernel_rfl
def S_ref04_Real : List AV → Option (Ob × AV)
  | [AV.float e] => some (Ob.tt, AV.bool (s_ref04_Real_0 e))
  | _ => none
theorem t_ref04_Real : SOkM Tryz.prog false (78, fun args => match S_ref04_Real args with | some (o, v) => some (o, v, []) | none => none) := SOkM.flat (N := 96) menv99_ok Tryz.func78 ann_ref04_Real Tryz.call78 fun args o v h ho => by
  unfold S_ref04_Real at h
  split at h
  · rename_i e
    cases h
    have ho2 := ho
    have this := show outB (evFnM Tryz.prog false menv99 [] [] 96 Ann.no Tryz.f78 [AV.float e] []) = _ from e_ref04_Real e
    exact ⟨this, rfl⟩
  · cases h
def c_ref04_Real : SFM := fun args => match S_ref04_Real args with | some (o, v) => some (o, v, []) | none => none
theorem c_ref04_Real_ok : SOkM Tryz.prog false (78, c_ref04_Real) := t_ref04_Real
def mss96 : List (FuncId × SFM) := (78, c_ref04_Real) :: mss95
def menv100 : EnvM := mkEnvM mxs mss96 mws5
theorem mss96_ok : All (SOkM Tryz.prog false) mss96 := All.cons c_ref04_Real_ok mss95_ok
theorem menv100_ok : menv100.Ok Tryz.prog false := mkEnvM_ok mxs_ok mss96_ok mws5_ok
-- tumble/tumbleref07.Real
theorem ann_ref07_Real : FnOk Tryz.prog false 0 Tryz.f54 Ann.no := (fnNo _)
def s_ref07_Real_0 (e g : Nat) : Bool := ((s_ref04_Real_0 e) && (s_ref04_Real_0 g))
theorem e_ref07_Real (e g : Nat) : outB (evFnM Tryz.prog false menv100 [] [] 96 Ann.no Tryz.f54 [AV.agg [AV.float e, AV.float g]] []) = some (true, AV.bool (s_ref07_Real_0 e g)) := by kernel_rfl
def S_ref07_Real : List AV → Option (Ob × AV)
  | [AV.agg [AV.float e, AV.float g]] => some (Ob.tt, AV.bool (s_ref07_Real_0 e g))
  | _ => none
theorem t_ref07_Real : SOkM Tryz.prog false (54, fun args => match S_ref07_Real args with | some (o, v) => some (o, v, []) | none => none) := SOkM.flat (N := 96) menv100_ok Tryz.func54 ann_ref07_Real Tryz.call54 fun args o v h ho => by
  unfold S_ref07_Real at h
  split at h
  · rename_i e g
    cases h
    have ho2 := ho
    have this := show outB (evFnM Tryz.prog false menv100 [] [] 96 Ann.no Tryz.f54 [AV.agg [AV.float e, AV.float g]] []) = _ from e_ref07_Real e g
    exact ⟨this, rfl⟩
  · cases h
def c_ref07_Real : SFM := fun args => match S_ref07_Real args with | some (o, v) => some (o, v, []) | none => none
theorem c_ref07_Real_ok : SOkM Tryz.prog false (54, c_ref07_Real) := t_ref07_Real
def mss97 : List (FuncId × SFM) := (54, c_ref07_Real) :: mss96
def menv101 : EnvM := mkEnvM mxs mss97 mws5
theorem mss97_ok : All (SOkM Tryz.prog false) mss97 := All.cons c_ref07_Real_ok mss96_ok
theorem menv101_ok : menv101.Ok Tryz.prog false := mkEnvM_ok mxs_ok mss97_ok mws5_ok
-- tumble/tumbleref07.minus
theorem ann_ref07_minus : FnOk Tryz.prog false 0 Tryz.f56 Ann.no := (fnNo _)
def s_ref07_minus_0 (e g z j : Nat) : Nat := (fsub e z)
def s_ref07_minus_1 (e g z j : Nat) : Nat := (fsub g j)
theorem e_ref07_minus (e g z j : Nat) : outB (evFnM Tryz.prog false menv101 [] [] 96 Ann.no Tryz.f56 [AV.agg [AV.float e, AV.float g], AV.agg [AV.float z, AV.float j]] []) = some (true, AV.agg [AV.float (s_ref07_minus_0 e g z j), AV.float (s_ref07_minus_1 e g z j)]) := by kernel_rfl
def S_ref07_minus : List AV → Option (Ob × AV)
  | [AV.agg [AV.float e, AV.float g], AV.agg [AV.float z, AV.float j]] => some (Ob.tt, AV.agg [AV.float (s_ref07_minus_0 e g z j), AV.float (s_ref07_minus_1 e g z j)])
  | _ => none
theorem t_ref07_minus : SOkM Tryz.prog false (56, fun args => match S_ref07_minus args with | some (o, v) => some (o, v, []) | none => none) := SOkM.flat (N := 96) menv101_ok Tryz.func56 ann_ref07_minus Tryz.call56 fun args o v h ho => by
  unfold S_ref07_minus at h
  split at h
  · rename_i e g z j
    cases h
    have ho2 := ho
    have this := show outB (evFnM Tryz.prog false menv101 [] [] 96 Ann.no Tryz.f56 [AV.agg [AV.float e, AV.float g], AV.agg [AV.float z, AV.float j]] []) = _ from e_ref07_minus e g z j
    exact ⟨this, rfl⟩
  · cases h
def c_ref07_minus : SFM := fun args => match S_ref07_minus args with | some (o, v) => some (o, v, []) | none => none
theorem c_ref07_minus_ok : SOkM Tryz.prog false (56, c_ref07_minus) := t_ref07_minus
def mss98 : List (FuncId × SFM) := (56, c_ref07_minus) :: mss97
def menv102 : EnvM := mkEnvM mxs mss98 mws5
theorem mss98_ok : All (SOkM Tryz.prog false) mss98 := All.cons c_ref07_minus_ok mss97_ok
theorem menv102_ok : menv102.Ok Tryz.prog false := mkEnvM_ok mxs_ok mss98_ok mws5_ok
-- tumble/tumbleref07.dot
theorem ann_ref07_dot : FnOk Tryz.prog false 0 Tryz.f79 Ann.no := (fnNo _)
def s_ref07_dot_0 (e g z j : Nat) : Nat := (fadd (fmul e z) (fmul g j))
theorem e_ref07_dot (e g z j : Nat) : outB (evFnM Tryz.prog false menv102 [] [] 96 Ann.no Tryz.f79 [AV.agg [AV.float e, AV.float g], AV.agg [AV.float z, AV.float j]] []) = some (true, AV.float (s_ref07_dot_0 e g z j)) := by kernel_rfl
def S_ref07_dot : List AV → Option (Ob × AV)
  | [AV.agg [AV.float e, AV.float g], AV.agg [AV.float z, AV.float j]] => some (Ob.tt, AV.float (s_ref07_dot_0 e g z j))
  | _ => none
theorem t_ref07_dot : SOkM Tryz.prog false (79, fun args => match S_ref07_dot args with | some (o, v) => some (o, v, []) | none => none) := SOkM.flat (N := 96) menv102_ok Tryz.func79 ann_ref07_dot Tryz.call79 fun args o v h ho => by
  unfold S_ref07_dot at h
  split at h
  · rename_i e g z j
    cases h
    have ho2 := ho
    have this := show outB (evFnM Tryz.prog false menv102 [] [] 96 Ann.no Tryz.f79 [AV.agg [AV.float e, AV.float g], AV.agg [AV.float z, AV.float j]] []) = _ from e_ref07_dot e g z j
    exact ⟨this, rfl⟩
  · cases h
def c_ref07_dot : SFM := fun args => match S_ref07_dot args with | some (o, v) => some (o, v, []) | none => none
theorem c_ref07_dot_ok : SOkM Tryz.prog false (79, c_ref07_dot) := t_ref07_dot
def mss99 : List (FuncId × SFM) := (79, c_ref07_dot) :: mss98
def menv103 : EnvM := mkEnvM mxs mss99 mws5
theorem mss99_ok : All (SOkM Tryz.prog false) mss99 := All.cons c_ref07_dot_ok mss98_ok
theorem menv103_ok : menv103.Ok Tryz.prog false := mkEnvM_ok mxs_ok mss99_ok mws5_ok
-- tumble/tumbleref07.length
theorem ann_ref07_length : FnOk Tryz.prog false 0 Tryz.f55 Ann.no := (fnNo _)
def s_ref07_length_0 (e g : Nat) : Nat := (s_math_Sqrt_0 (s_ref07_dot_0 e g e g))
theorem e_ref07_length (e g : Nat) : outB (evFnM Tryz.prog false menv103 [] [] 96 Ann.no Tryz.f55 [AV.agg [AV.float e, AV.float g]] []) = some (true, AV.float (s_ref07_length_0 e g)) := by kernel_rfl
def S_ref07_length : List AV → Option (Ob × AV)
  | [AV.agg [AV.float e, AV.float g]] => some (Ob.tt, AV.float (s_ref07_length_0 e g))
  | _ => none
theorem t_ref07_length : SOkM Tryz.prog false (55, fun args => match S_ref07_length args with | some (o, v) => some (o, v, []) | none => none) := SOkM.flat (N := 96) menv103_ok Tryz.func55 ann_ref07_length Tryz.call55 fun args o v h ho => by
  unfold S_ref07_length at h
  split at h
  · rename_i e g
    cases h
    have ho2 := ho
    have this := show outB (evFnM Tryz.prog false menv103 [] [] 96 Ann.no Tryz.f55 [AV.agg [AV.float e, AV.float g]] []) = _ from e_ref07_length e g
    exact ⟨this, rfl⟩
  · cases h
def c_ref07_length : SFM := fun args => match S_ref07_length args with | some (o, v) => some (o, v, []) | none => none
theorem c_ref07_length_ok : SOkM Tryz.prog false (55, c_ref07_length) := t_ref07_length
def mss100 : List (FuncId × SFM) := (55, c_ref07_length) :: mss99
def menv104 : EnvM := mkEnvM mxs mss100 mws5
theorem mss100_ok : All (SOkM Tryz.prog false) mss100 := All.cons c_ref07_length_ok mss99_ok
theorem menv104_ok : menv104.Ok Tryz.prog false := mkEnvM_ok mxs_ok mss100_ok mws5_ok
-- tumble/tumbleref07.Check
-- a loop of tumble/tumbleref07.Check
structure V_ref07_Check_L0 where
  v0 : Int
def tpl_ref07_Check_L0 : List AV := (AV.top :: AV.nul :: AV.top :: AV.nul :: AV.nul :: tpA 65 ([]))
def cts_ref07_Check_L0 : List CT := [CT.keep]
def phs_ref07_Check_L0 : List Src := []
def T_ref07_Check_L0 (r u : Int) (m B : Nat) (K F : Nat → Nat) (x : V_ref07_Check_L0) (F0 : Nat → List AV) : List AV × Heap := ((AV.top :: AV.ptr (some ⟨0, 0, .lit 0⟩) :: AV.top :: AV.int .i64 r :: AV.int .i64 x.v0 :: tpA 65 ([])), [⟨.flat [AV.int .u8 u, AV.float m, AV.view B 2 F0], 25, 0⟩])
def sh_ref07_Check_L0 (r u : Int) (m B : Nat) (K F : Nat → Nat) (x : V_ref07_Check_L0) : List AV × Heap := T_ref07_Check_L0 r u m B K F x (fun j0 => [AV.float (K j0), AV.float (F j0)])
def step_ref07_Check_L0 (r : Int) (B : Nat) (K F : Nat → Nat) (x : V_ref07_Check_L0) : V_ref07_Check_L0 := V_ref07_Check_L0.mk (IntKind.wrap .i64 (x.v0 + (1 : Int)))
def go_ref07_Check_L0 (r : Int) (B : Nat) (K F : Nat → Nat) (x : V_ref07_Check_L0) : Bool := (bif (bif (!(ilt x.v0 r)) then false else (!(s_ref07_Real_0 (K (Int.toNat x.v0)) (F (Int.toNat x.v0))))) then false else (bif (!(ilt x.v0 r)) then false else true))
def ok_ref07_Check_L0 (r : Int) (B : Nat) (K F : Nat → Nat) (x : V_ref07_Check_L0) : Bool := (mrgB (bif (!(ilt x.v0 r)) then false else (!(s_ref07_Real_0 (K (Int.toNat x.v0)) (F (Int.toNat x.v0))))) ((ile (0 : Int) x.v0) && (Nat.blt (Int.toNat x.v0) B)) (mrgB (!(ilt x.v0 r)) true ((ile (0 : Int) x.v0) && (Nat.blt (Int.toNat x.v0) B))))
def L_ref07_Check_L0 (r : Int) (B : Nat) (K F : Nat → Nat) (x : V_ref07_Check_L0) : V_ref07_Check_L0 := lastL (ok_ref07_Check_L0 r B K F) (go_ref07_Check_L0 r B K F) (step_ref07_Check_L0 r B K F) x
def E_ref07_Check_L0 (r : Int) (B : Nat) (K F : Nat → Nat) (x : V_ref07_Check_L0) : Bool := endsL (ok_ref07_Check_L0 r B K F) (go_ref07_Check_L0 r B K F) (step_ref07_Check_L0 r B K F) x
theorem all_ref07_Check_L0 (r u : Int) (m B : Nat) (K F : Nat → Nat) (x : V_ref07_Check_L0) : rnd Tryz.prog false menv104 [] [] 96 Ann.no (subC [1, 1, 0, 1, 0, 1, 0, 1, 0, 1, 0, 0] (codeOf Tryz.f26)) 0 [⟨some 0, 0, 0, []⟩] tpl_ref07_Check_L0 cts_ref07_Check_L0 (true :: false :: true :: false :: tpB 66 ([])) [false] (sh_ref07_Check_L0 r u m B K F x) = (true, true, go_ref07_Check_L0 r B K F x, ok_ref07_Check_L0 r B K F x, true, sh_ref07_Check_L0 r u m B K F (step_ref07_Check_L0 r B K F x), true) := by kernel_rfl
def fam_ref07_Check_L0 (r u : Int) (m B : Nat) (K F : Nat → Nat) : Fam Tryz.prog false menv104 [] [] 96 0 Ann.no (subC [1, 1, 0, 1, 0, 1, 0, 1, 0, 1, 0, 0] (codeOf Tryz.f26)) V_ref07_Check_L0 where
  sh := sh_ref07_Check_L0 r u m B K F
  ok := ok_ref07_Check_L0 r B K F
  go := go_ref07_Check_L0 r B K F
  step := step_ref07_Check_L0 r B K F
  chg := (true :: false :: true :: false :: tpB 66 ([]))
  chgH := [false]
  tpl := tpl_ref07_Check_L0
  cts := cts_ref07_Check_L0
  keep := 0
  srcs := [⟨some 0, 0, 0, []⟩]
  ann := (annNo (subC [1, 1, 0, 1, 0, 1, 0, 1, 0, 1, 0, 0] (codeOf Tryz.f26)))
  le := by kernel_rfl
  kept := by kernel_rfl
  keptB := by kernel_rfl
  all := all_ref07_Check_L0 r u m B K F
  len := fun x => by kernel_rfl
  head := fun x y => by kernel_rfl
  con := fun x y => by kernel_rfl
  conH := fun x y => by kernel_rfl
def F_ref07_Check_L0 : St → Option Ch := fun s => cond (Nat.beq s.tm.length 70 && Nat.beq s.H.length 1) (tkTops 1 (alL tpl_ref07_Check_L0 s.tm) fun t0 => tkCons t0 fun g t1 => tkPtr 0 0 0 g <| tkTops 1 t1 fun t2 => tkCons t2 fun j t3 => tkI .i64 j fun s0 => tkCons t3 fun M t4 => tkI .i64 M fun s1 => tkTops 65 t4 fun t5 => tkNil t5 <| tkCons (alH cts_ref07_Check_L0 (s.H ++ List.map phan phs_ref07_Check_L0)) fun b6 t6 => tkFlat 25 0 b6 fun m6 => tkCons m6 fun Z t7 => tkI .u8 Z fun s2 => tkCons t7 fun af t8 => tkF af fun s3 => tkCons t8 fun ab t9 => tkView 2 ab fun s4 f0 => tkNil t9 <| tkNil t6 <| Fam.out (fam_ref07_Check_L0 s0 s2 s3 s4 (fL f0 0) (fL f0 1)) s (allB fun i => isNrm [Ck.f, Ck.f] (f0 i)) (V_ref07_Check_L0.mk s1)) none
theorem F_ref07_Check_L0_ok : ∀ s ch, F_ref07_Check_L0 s = some ch → AllI s ch ∧ LoopSpec Tryz.prog false 0 (subC [1, 1, 0, 1, 0, 1, 0, 1, 0, 1, 0, 0] (codeOf Tryz.f26)) s (sel ch) := by
  intro s ch h
  unfold F_ref07_Check_L0 at h
  obtain ⟨hl, h0⟩ := cond_some h rfl
  clear h
  obtain ⟨hl, hb⟩ := and_beq2 hl
  obtain ⟨t0, e0, h1⟩ := tkTops_some h0
  obtain ⟨g, t1, rfl, h2⟩ := tkCons_some h1
  obtain ⟨rfl, h3⟩ := tkPtr_some h2
  obtain ⟨t2, rfl, h4⟩ := tkTops_some h3
  obtain ⟨j, t3, rfl, h5⟩ := tkCons_some h4
  obtain ⟨s0, rfl, h6⟩ := tkI_some h5
  obtain ⟨M, t4, rfl, h7⟩ := tkCons_some h6
  obtain ⟨s1, rfl, h8⟩ := tkI_some h7
  obtain ⟨t5, rfl, h9⟩ := tkTops_some h8
  obtain ⟨rfl, h10⟩ := tkNil_some h9
  obtain ⟨b6, t6, eH, h11⟩ := tkCons_some h10
  obtain ⟨m6, rfl, h12⟩ := tkFlat_some h11
  obtain ⟨Z, t7, rfl, h13⟩ := tkCons_some h12
  obtain ⟨s2, rfl, h14⟩ := tkI_some h13
  obtain ⟨af, t8, rfl, h15⟩ := tkCons_some h14
  obtain ⟨s3, rfl, h16⟩ := tkF_some h15
  obtain ⟨ab, t9, rfl, h17⟩ := tkCons_some h16
  obtain ⟨s4, f0, rfl, h18⟩ := tkView_some h17
  obtain ⟨rfl, h19⟩ := tkNil_some h18
  obtain ⟨rfl, h20⟩ := tkNil_some h19
  refine Fam.spec menv104_ok (fam_ref07_Check_L0 s0 s2 s3 s4 (fL f0 0) (fL f0 1)) (phs := phs_ref07_Check_L0) (hl.trans (by kernel_rfl)) (hb.trans (by kernel_rfl)) ?_ ?_ h20
  · rw [← hdr_alH cts_ref07_Check_L0 (s.H ++ List.map phan phs_ref07_Check_L0), eH]; kernel_rfl
  · intro hq
    have hq0 := hq
    have n0 := nrm_fun hq0
    show sh_ref07_Check_L0 s0 s2 s3 s4 (fL f0 0) (fL f0 1) (V_ref07_Check_L0.mk s1) = (alL tpl_ref07_Check_L0 s.tm, alH cts_ref07_Check_L0 (s.H ++ List.map phan phs_ref07_Check_L0))
    rw [e0, eH]
    refine Eq.trans (show sh_ref07_Check_L0 s0 s2 s3 s4 (fL f0 0) (fL f0 1) (V_ref07_Check_L0.mk s1) = T_ref07_Check_L0 s0 s2 s3 s4 (fL f0 0) (fL f0 1) (V_ref07_Check_L0.mk s1) (fun i => mkN [Ck.f, Ck.f] (f0 i) 0) by kernel_rfl) ?_
    rw [n0]
    kernel_rfl
theorem ann_ref07_Check : FnOk Tryz.prog false 0 Tryz.f26 (Ann.two Ann.no (Ann.two Ann.no (Ann.two (Ann.two Ann.no (Ann.one (Ann.two Ann.no (Ann.two (Ann.two Ann.no (Ann.two (Ann.two Ann.no (Ann.one (Ann.loop F_ref07_Check_L0))) Ann.no)) Ann.no)))) Ann.no))) := (fnOk_of (c := codeOf Tryz.f26) (by kernel_rfl) (annSeq (a := (subC [0] (codeOf Tryz.f26))) (b := (subC [1] (codeOf Tryz.f26))) (by kernel_rfl) (annNo (subC [0] (codeOf Tryz.f26))) (annSeq (a := (subC [1, 0] (codeOf Tryz.f26))) (b := (subC [1, 1] (codeOf Tryz.f26))) (by kernel_rfl) (annNo (subC [1, 0] (codeOf Tryz.f26))) (annSeq (a := (subC [1, 1, 0] (codeOf Tryz.f26))) (b := (subC [1, 1, 1] (codeOf Tryz.f26))) (by kernel_rfl) (annSeq (a := (subC [1, 1, 0, 0] (codeOf Tryz.f26))) (b := (subC [1, 1, 0, 1] (codeOf Tryz.f26))) (by kernel_rfl) (annNo (subC [1, 1, 0, 0] (codeOf Tryz.f26))) (annBlock (a := (subC [1, 1, 0, 1, 0] (codeOf Tryz.f26))) (i := 0) (by kernel_rfl) (annSeq (a := (subC [1, 1, 0, 1, 0, 0] (codeOf Tryz.f26))) (b := (subC [1, 1, 0, 1, 0, 1] (codeOf Tryz.f26))) (by kernel_rfl) (annNo (subC [1, 1, 0, 1, 0, 0] (codeOf Tryz.f26))) (annCond (a := (subC [1, 1, 0, 1, 0, 1, 0] (codeOf Tryz.f26))) (b := (subC [1, 1, 0, 1, 0, 1, 1] (codeOf Tryz.f26))) (x := (.tmp 10)) (by kernel_rfl) (annSeq (a := (subC [1, 1, 0, 1, 0, 1, 0, 0] (codeOf Tryz.f26))) (b := (subC [1, 1, 0, 1, 0, 1, 0, 1] (codeOf Tryz.f26))) (by kernel_rfl) (annNo (subC [1, 1, 0, 1, 0, 1, 0, 0] (codeOf Tryz.f26))) (annSeq (a := (subC [1, 1, 0, 1, 0, 1, 0, 1, 0] (codeOf Tryz.f26))) (b := (subC [1, 1, 0, 1, 0, 1, 0, 1, 1] (codeOf Tryz.f26))) (by kernel_rfl) (annSeq (a := (subC [1, 1, 0, 1, 0, 1, 0, 1, 0, 0] (codeOf Tryz.f26))) (b := (subC [1, 1, 0, 1, 0, 1, 0, 1, 0, 1] (codeOf Tryz.f26))) (by kernel_rfl) (annNo (subC [1, 1, 0, 1, 0, 1, 0, 1, 0, 0] (codeOf Tryz.f26))) (annBlock (a := (subC [1, 1, 0, 1, 0, 1, 0, 1, 0, 1, 0] (codeOf Tryz.f26))) (i := 1) (by kernel_rfl) (annLoop (a := (subC [1, 1, 0, 1, 0, 1, 0, 1, 0, 1, 0, 0] (codeOf Tryz.f26))) (by kernel_rfl) F_ref07_Check_L0_ok))) (annNo (subC [1, 1, 0, 1, 0, 1, 0, 1, 1] (codeOf Tryz.f26))))) (annNo (subC [1, 1, 0, 1, 0, 1, 1] (codeOf Tryz.f26))))))) (annNo (subC [1, 1, 1] (codeOf Tryz.f26)))))))
def s_ref07_Check_0 (e : Int) (g k : Nat) (n p : Nat → Nat) : Int := let x0 := (L_ref07_Check_L0 (Int.ofNat k) k n p (V_ref07_Check_L0.mk (0 : Int))).v0; let x1 := Int.toNat x0; let x2 := (ieq e (1 : Int)) || (ieq e (2 : Int)); (bif (x2 || (ieq e (3 : Int))) then (bif x2 then (bif (!(ieq (Int.ofNat k) (IntKind.wrap .i64 e))) then (6 : Int) else (bif (bif (!(ilt x0 (Int.ofNat k))) then false else (!(s_ref07_Real_0 (n x1) (p x1)))) then (5 : Int) else (bif (!((fle 4472074429978902528 g) && (fle g 4787326403894837248))) then (5 : Int) else (bif ((ieq (Int.ofNat k) (2 : Int)) && (flt (s_ref07_length_0 (s_ref07_minus_0 (n 1) (p 1) (n 0) (p 0)) (s_ref07_minus_1 (n 1) (p 1) (n 0) (p 0))) 4472074429978902528)) then (6 : Int) else (0 : Int))))) else (bif (((ilt (Int.ofNat k) (3 : Int)) || (ilt (8 : Int) (Int.ofNat k))) || (!(feq g 0))) then (6 : Int) else (s_ref06_Check_0 k n p))) else (70 : Int))
def q_ref07_Check (e : Int) (g k : Nat) (n p : Nat → Nat) : Bool := (let x0 := (allB fun _ => true) && (E_ref07_Check_L0 (Int.ofNat k) k n p (V_ref07_Check_L0.mk (0 : Int))); let x1 := mrgB (fle 4472074429978902528 g) x0 x0; let x2 := ieq (Int.ofNat k) (2 : Int); let x3 := mrgB x2 ((Nat.blt 0 k) && ((Nat.blt 1 k) && x1)) x1; let x4 := (L_ref07_Check_L0 (Int.ofNat k) k n p (V_ref07_Check_L0.mk (0 : Int))).v0; let x5 := Int.toNat x4; let x6 := (ieq e (1 : Int)) || (ieq e (2 : Int)); (mrgB (x6 || (ieq e (3 : Int))) (mrgB x6 (mrgB (!(ieq (Int.ofNat k) (IntKind.wrap .i64 e))) true (mrgB (bif (!(ilt x4 (Int.ofNat k))) then false else (!(s_ref07_Real_0 (n x5) (p x5)))) x0 (mrgB (!((fle 4472074429978902528 g) && (fle g 4787326403894837248))) x1 (mrgB (x2 && (flt (s_ref07_length_0 (s_ref07_minus_0 (n 1) (p 1) (n 0) (p 0)) (s_ref07_minus_1 (n 1) (p 1) (n 0) (p 0))) 4472074429978902528)) x3 x3)))) (mrgB (((ilt (Int.ofNat k) (3 : Int)) || (ilt (8 : Int) (Int.ofNat k))) || (!(feq g 0))) true ((allB fun _ => true) && (o_ref06_Check k n p)))) true))
theorem e_ref07_Check (e : Int) (g k : Nat) (n p : Nat → Nat) : outB (evFnM Tryz.prog false menv104 [] [] 96 (Ann.two Ann.no (Ann.two Ann.no (Ann.two (Ann.two Ann.no (Ann.one (Ann.two Ann.no (Ann.two (Ann.two Ann.no (Ann.two (Ann.two Ann.no (Ann.one (Ann.loop F_ref07_Check_L0))) Ann.no)) Ann.no)))) Ann.no))) Tryz.f26 [AV.agg [AV.int .u8 e, AV.float g, AV.view k 2 (fun i0 => [AV.float (n i0), AV.float (p i0)])]] []) = some (q_ref07_Check e g k n p, AV.int .i64 (s_ref07_Check_0 e g k n p)) := by kernel_rfl
def o_ref07_Check (e : Int) (g k : Nat) (n p : Nat → Nat) : Bool := let x0 := E_ref07_Check_L0 (Int.ofNat k) k n p (V_ref07_Check_L0.mk (0 : Int)); let x1 := mrgB (fle 4472074429978902528 g) x0 x0; let x2 := ieq (Int.ofNat k) (2 : Int); let x3 := mrgB x2 ((Nat.blt 0 k) && ((Nat.blt 1 k) && x1)) x1; let x4 := (L_ref07_Check_L0 (Int.ofNat k) k n p (V_ref07_Check_L0.mk (0 : Int))).v0; let x5 := Int.toNat x4; let x6 := (ieq e (1 : Int)) || (ieq e (2 : Int)); (mrgB (x6 || (ieq e (3 : Int))) (mrgB x6 (mrgB (!(ieq (Int.ofNat k) (IntKind.wrap .i64 e))) true (mrgB (bif (!(ilt x4 (Int.ofNat k))) then false else (!(s_ref07_Real_0 (n x5) (p x5)))) x0 (mrgB (!((fle 4472074429978902528 g) && (fle g 4787326403894837248))) x1 (mrgB (x2 && (flt (s_ref07_length_0 (s_ref07_minus_0 (n 1) (p 1) (n 0) (p 0)) (s_ref07_minus_1 (n 1) (p 1) (n 0) (p 0))) 4472074429978902528)) x3 x3)))) (mrgB (((ilt (Int.ofNat k) (3 : Int)) || (ilt (8 : Int) (Int.ofNat k))) || (!(feq g 0))) true (o_ref06_Check k n p))) true)
def S_ref07_Check : List AV → Option (Ob × AV)
  | [AV.agg [AV.int .u8 e, AV.float g, AV.view k 2 D]] => some (Ob.both (Ob.bit (allB fun i => isNrm [Ck.f, Ck.f] (D i))) (Ob.bit (o_ref07_Check e g k (fL D 0) (fL D 1))), AV.int .i64 (s_ref07_Check_0 e g k (fL D 0) (fL D 1)))
  | _ => none
theorem ob_ref07_Check (e : Int) (g k : Nat) (n p : Nat → Nat) (ho : o_ref07_Check e g k n p = true) : q_ref07_Check e g k n p = true := by
  unfold q_ref07_Check
  unfold o_ref07_Check at ho
  simp only [allB_true, eqT_self, mrgB_self, Bool.true_and, Bool.and_true] at ho ⊢
  exact ho
theorem t_ref07_Check : SOkM Tryz.prog false (26, fun args => match S_ref07_Check args with | some (o, v) => some (o, v, []) | none => none) := SOkM.flat (N := 96) menv104_ok Tryz.func26 ann_ref07_Check Tryz.call26 fun args o v h ho => by
  unfold S_ref07_Check at h
  split at h
  · rename_i e g k D
    cases h
    rw [Ob.both_ok, Bool.and_eq_true] at ho
    obtain ⟨hn, ho2⟩ := ho
    have n0 := hn
    simp only [Ob.ok] at n0
    replace n0 := nrm_fun n0
    have this := show outB (evFnM Tryz.prog false menv104 [] [] 96 (Ann.two Ann.no (Ann.two Ann.no (Ann.two (Ann.two Ann.no (Ann.one (Ann.two Ann.no (Ann.two (Ann.two Ann.no (Ann.two (Ann.two Ann.no (Ann.one (Ann.loop F_ref07_Check_L0))) Ann.no)) Ann.no)))) Ann.no))) Tryz.f26 [AV.agg [AV.int .u8 e, AV.float g, AV.view k 2 (fun i => mkN [Ck.f, Ck.f] (D i) 0)]] []) = _ from e_ref07_Check e g k (fL D 0) (fL D 1)
    rw [(ob_ref07_Check e g k (fL D 0) (fL D 1) ho2)] at this
    rw [n0] at this
    exact ⟨this, rfl⟩
  · cases h
def c_ref07_Check : SFM := fun args => match S_ref07_Check args with | some (o, v) => some (o, v, []) | none => none
theorem c_ref07_Check_ok : SOkM Tryz.prog false (26, c_ref07_Check) := t_ref07_Check
def mss101 : List (FuncId × SFM) := (26, c_ref07_Check) :: mss100
def menv105 : EnvM := mkEnvM mxs mss101 mws5
theorem mss101_ok : All (SOkM Tryz.prog false) mss101 := All.cons c_ref07_Check_ok mss100_ok
theorem menv105_ok : menv105.Ok Tryz.prog false := mkEnvM_ok mxs_ok mss101_ok mws5_ok
-- tumble/tumbleref08.circle
theorem ann_ref08_circle : FnOk Tryz.prog false 0 Tryz.f28 Ann.no := (fnNo _)
def s_ref08_circle_0 (e : Int) (g k : Nat) (n p : Nat → Nat) (j : Nat) : Nat := (fmul j (fmul 4614256656552045848 (fmul g g)))
def s_ref08_circle_1 (e : Int) (g k : Nat) (n p : Nat → Nat) (j : Nat) : Nat := (fmul (fmul (fmul j (fmul 4614256656552045848 (fmul g g))) (fmul g g)) 4602678819172646912)
def s_ref08_circle_2 (e : Int) (g k : Nat) (n p : Nat → Nat) (j : Nat) : Nat := (n 0)
def s_ref08_circle_3 (e : Int) (g k : Nat) (n p : Nat → Nat) (j : Nat) : Nat := (p 0)
def o_ref08_circle (e : Int) (g k : Nat) (n p : Nat → Nat) (j : Nat) : Bool := (Nat.blt 0 k)
theorem e_ref08_circle (e : Int) (g k : Nat) (n p : Nat → Nat) (j : Nat) : outB (evFnM Tryz.prog false menv105 [] [] 96 Ann.no Tryz.f28 [AV.agg [AV.int .u8 e, AV.float g, AV.view k 2 (fun i0 => [AV.float (n i0), AV.float (p i0)])], AV.float j] []) = some (o_ref08_circle e g k n p j, AV.agg [AV.float (s_ref08_circle_0 e g k n p j), AV.float (s_ref08_circle_1 e g k n p j), AV.float (s_ref08_circle_2 e g k n p j), AV.float (s_ref08_circle_3 e g k n p j)]) := by kernel_rfl
def S_ref08_circle : List AV → Option (Ob × AV)
  | [AV.agg [AV.int .u8 e, AV.float g, AV.view k 2 D], AV.float j] => some (Ob.both (Ob.bit (allB fun i => isNrm [Ck.f, Ck.f] (D i))) (Ob.bit (o_ref08_circle e g k (fL D 0) (fL D 1) j)), AV.agg [AV.float (s_ref08_circle_0 e g k (fL D 0) (fL D 1) j), AV.float (s_ref08_circle_1 e g k (fL D 0) (fL D 1) j), AV.float (s_ref08_circle_2 e g k (fL D 0) (fL D 1) j), AV.float (s_ref08_circle_3 e g k (fL D 0) (fL D 1) j)])
  | _ => none
theorem t_ref08_circle : SOkM Tryz.prog false (28, fun args => match S_ref08_circle args with | some (o, v) => some (o, v, []) | none => none) := SOkM.flat (N := 96) menv105_ok Tryz.func28 ann_ref08_circle Tryz.call28 fun args o v h ho => by
  unfold S_ref08_circle at h
  split at h
  · rename_i e g k D j
    cases h
    rw [Ob.both_ok, Bool.and_eq_true] at ho
    obtain ⟨hn, ho2⟩ := ho
    have n0 := hn
    simp only [Ob.ok] at n0
    replace n0 := nrm_fun n0
    have this := show outB (evFnM Tryz.prog false menv105 [] [] 96 Ann.no Tryz.f28 [AV.agg [AV.int .u8 e, AV.float g, AV.view k 2 (fun i => mkN [Ck.f, Ck.f] (D i) 0)], AV.float j] []) = _ from e_ref08_circle e g k (fL D 0) (fL D 1) j
    rw [show o_ref08_circle e g k (fL D 0) (fL D 1) j = true from ho2] at this
    rw [n0] at this
    exact ⟨this, rfl⟩
  · cases h
def c_ref08_circle : SFM := fun args => match S_ref08_circle args with | some (o, v) => some (o, v, []) | none => none
theorem c_ref08_circle_ok : SOkM Tryz.prog false (28, c_ref08_circle) := t_ref08_circle
def mss102 : List (FuncId × SFM) := (28, c_ref08_circle) :: mss101
def menv106 : EnvM := mkEnvM mxs mss102 mws5
theorem mss102_ok : All (SOkM Tryz.prog false) mss102 := All.cons c_ref08_circle_ok mss101_ok
theorem menv106_ok : menv106.Ok Tryz.prog false := mkEnvM_ok mxs_ok mss102_ok mws5_ok
-- tumble/tumbleref08.End
theorem ann_ref08_End : FnOk Tryz.prog false 0 Tryz.f84 Ann.no := (fnNo _)
def s_ref08_End_0 (e : Nat) : Bool := ((fle 0 e) && (feq (fsub e e) 0))
theorem e_ref08_End (e : Nat) : outB (evFnM Tryz.prog false menv106 [] [] 96 Ann.no Tryz.f84 [AV.float e] []) = some (true, AV.bool (s_ref08_End_0 e)) := by kernel_rfl
def S_ref08_End : List AV → Option (Ob × AV)
  | [AV.float e] => some (Ob.tt, AV.bool (s_ref08_End_0 e))
  | _ => none
theorem t_ref08_End : SOkM Tryz.prog false (84, fun args => match S_ref08_End args with | some (o, v) => some (o, v, []) | none => none) := SOkM.flat (N := 96) menv106_ok Tryz.func84 ann_ref08_End Tryz.call84 fun args o v h ho => by
  unfold S_ref08_End at h
  split at h
  · rename_i e
    cases h
    have ho2 := ho
    have this := show outB (evFnM Tryz.prog false menv106 [] [] 96 Ann.no Tryz.f84 [AV.float e] []) = _ from e_ref08_End e
    exact ⟨this, rfl⟩
  · cases h
def c_ref08_End : SFM := fun args => match S_ref08_End args with | some (o, v) => some (o, v, []) | none => none
theorem c_ref08_End_ok : SOkM Tryz.prog false (84, c_ref08_End) := t_ref08_End
def mss103 : List (FuncId × SFM) := (84, c_ref08_End) :: mss102
def menv107 : EnvM := mkEnvM mxs mss103 mws5
theorem mss103_ok : All (SOkM Tryz.prog false) mss103 := All.cons c_ref08_End_ok mss102_ok
theorem menv107_ok : menv107.Ok Tryz.prog false := mkEnvM_ok mxs_ok mss103_ok mws5_ok
-- tumble/tumbleref08.Check
theorem ann_ref08_Check : FnOk Tryz.prog false 0 Tryz.f58 Ann.no := (fnNo _)
def s_ref08_Check_0 (e g z j : Nat) : Int := (bif (((!(s_ref08_End_0 e)) || (!(s_ref08_End_0 g))) || (!(s_ref02_Within_0 z j 4787326403894837248))) then (80 : Int) else (0 : Int))
theorem e_ref08_Check (e g z j : Nat) : outB (evFnM Tryz.prog false menv107 [] [] 96 Ann.no Tryz.f58 [AV.agg [AV.float e, AV.float g, AV.float z, AV.float j]] []) = some (true, AV.int .i64 (s_ref08_Check_0 e g z j)) := by kernel_rfl
def S_ref08_Check : List AV → Option (Ob × AV)
  | [AV.agg [AV.float e, AV.float g, AV.float z, AV.float j]] => some (Ob.tt, AV.int .i64 (s_ref08_Check_0 e g z j))
  | _ => none
theorem t_ref08_Check : SOkM Tryz.prog false (58, fun args => match S_ref08_Check args with | some (o, v) => some (o, v, []) | none => none) := SOkM.flat (N := 96) menv107_ok Tryz.func58 ann_ref08_Check Tryz.call58 fun args o v h ho => by
  unfold S_ref08_Check at h
  split at h
  · rename_i e g z j
    cases h
    have ho2 := ho
    have this := show outB (evFnM Tryz.prog false menv107 [] [] 96 Ann.no Tryz.f58 [AV.agg [AV.float e, AV.float g, AV.float z, AV.float j]] []) = _ from e_ref08_Check e g z j
    exact ⟨this, rfl⟩
  · cases h
def c_ref08_Check : SFM := fun args => match S_ref08_Check args with | some (o, v) => some (o, v, []) | none => none
theorem c_ref08_Check_ok : SOkM Tryz.prog false (58, c_ref08_Check) := t_ref08_Check
def mss104 : List (FuncId × SFM) := (58, c_ref08_Check) :: mss103
def menv108 : EnvM := mkEnvM mxs mss104 mws5
theorem mss104_ok : All (SOkM Tryz.prog false) mss104 := All.cons c_ref08_Check_ok mss103_ok
theorem menv108_ok : menv108.Ok Tryz.prog false := mkEnvM_ok mxs_ok mss104_ok mws5_ok
-- tumble/tumbleref08.told
theorem ann_ref08_told : FnOk Tryz.prog false 0 Tryz.f27 Ann.no := (fnNo _)
def s_ref08_told_0 (e g z j : Nat) : Nat := (bif (!(ieq (s_ref08_Check_0 e g z j) (0 : Int))) then 0 else e)
def s_ref08_told_1 (e g z j : Nat) : Nat := (bif (!(ieq (s_ref08_Check_0 e g z j) (0 : Int))) then 0 else g)
def s_ref08_told_2 (e g z j : Nat) : Nat := (bif (!(ieq (s_ref08_Check_0 e g z j) (0 : Int))) then 0 else z)
def s_ref08_told_3 (e g z j : Nat) : Nat := (bif (!(ieq (s_ref08_Check_0 e g z j) (0 : Int))) then 0 else j)
def s_ref08_told_4 (e g z j : Nat) : Int := (bif (!(ieq (s_ref08_Check_0 e g z j) (0 : Int))) then (s_ref08_Check_0 e g z j) else (0 : Int))
theorem e_ref08_told (e g z j : Nat) : outB (evFnM Tryz.prog false menv108 [] [] 96 Ann.no Tryz.f27 [AV.agg [AV.float e, AV.float g, AV.float z, AV.float j]] []) = some (true, AV.tup [AV.agg [AV.float (s_ref08_told_0 e g z j), AV.float (s_ref08_told_1 e g z j), AV.float (s_ref08_told_2 e g z j), AV.float (s_ref08_told_3 e g z j)], AV.int .i64 (s_ref08_told_4 e g z j)]) := by kernel_rfl
def S_ref08_told : List AV → Option (Ob × AV)
  | [AV.agg [AV.float e, AV.float g, AV.float z, AV.float j]] => some (Ob.tt, AV.tup [AV.agg [AV.float (s_ref08_told_0 e g z j), AV.float (s_ref08_told_1 e g z j), AV.float (s_ref08_told_2 e g z j), AV.float (s_ref08_told_3 e g z j)], AV.int .i64 (s_ref08_told_4 e g z j)])
  | _ => none
theorem t_ref08_told : SOkM Tryz.prog false (27, fun args => match S_ref08_told args with | some (o, v) => some (o, v, []) | none => none) := SOkM.flat (N := 96) menv108_ok Tryz.func27 ann_ref08_told Tryz.call27 fun args o v h ho => by
  unfold S_ref08_told at h
  split at h
  · rename_i e g z j
    cases h
    have ho2 := ho
    have this := show outB (evFnM Tryz.prog false menv108 [] [] 96 Ann.no Tryz.f27 [AV.agg [AV.float e, AV.float g, AV.float z, AV.float j]] []) = _ from e_ref08_told e g z j
    exact ⟨this, rfl⟩
  · cases h
def c_ref08_told : SFM := fun args => match S_ref08_told args with | some (o, v) => some (o, v, []) | none => none
theorem c_ref08_told_ok : SOkM Tryz.prog false (27, c_ref08_told) := t_ref08_told
def mss105 : List (FuncId × SFM) := (27, c_ref08_told) :: mss104
def menv109 : EnvM := mkEnvM mxs mss105 mws5
theorem mss105_ok : All (SOkM Tryz.prog false) mss105 := All.cons c_ref08_told_ok mss104_ok
theorem menv109_ok : menv109.Ok Tryz.prog false := mkEnvM_ok mxs_ok mss105_ok mws5_ok
-- tumble/tumbleref08.three
theorem ann_ref08_three : FnOk Tryz.prog false 0 Tryz.f61 Ann.no := (fnNo _)
def s_ref08_three_0 (e : Nat) : Nat := (fmul e 4614256656552045848)
theorem e_ref08_three (e : Nat) : outB (evFnM Tryz.prog false menv109 [] [] 96 Ann.no Tryz.f61 [AV.float e] []) = some (true, AV.float (s_ref08_three_0 e)) := by kernel_rfl
def S_ref08_three : List AV → Option (Ob × AV)
  | [AV.float e] => some (Ob.tt, AV.float (s_ref08_three_0 e))
  | _ => none
theorem t_ref08_three : SOkM Tryz.prog false (61, fun args => match S_ref08_three args with | some (o, v) => some (o, v, []) | none => none) := SOkM.flat (N := 96) menv109_ok Tryz.func61 ann_ref08_three Tryz.call61 fun args o v h ho => by
  unfold S_ref08_three at h
  split at h
  · rename_i e
    cases h
    have ho2 := ho
    have this := show outB (evFnM Tryz.prog false menv109 [] [] 96 Ann.no Tryz.f61 [AV.float e] []) = _ from e_ref08_three e
    exact ⟨this, rfl⟩
  · cases h
def c_ref08_three : SFM := fun args => match S_ref08_three args with | some (o, v) => some (o, v, []) | none => none
theorem c_ref08_three_ok : SOkM Tryz.prog false (61, c_ref08_three) := t_ref08_three
def mss106 : List (FuncId × SFM) := (61, c_ref08_three) :: mss105
def menv110 : EnvM := mkEnvM mxs mss106 mws5
theorem mss106_ok : All (SOkM Tryz.prog false) mss106 := All.cons c_ref08_three_ok mss105_ok
theorem menv110_ok : menv110.Ok Tryz.prog false := mkEnvM_ok mxs_ok mss106_ok mws5_ok
-- tumble/tumbleref02.Middle
theorem ann_ref02_Middle : FnOk Tryz.prog false 0 Tryz.f62 Ann.no := (fnNo _)
def s_ref02_Middle_0 (e g z j : Nat) : Nat := (s_ref02_Vec_0 (fdiv (fadd e z) 4611686018427387904) (fdiv (fadd g j) 4611686018427387904))
def s_ref02_Middle_1 (e g z j : Nat) : Nat := (s_ref02_Vec_1 (fdiv (fadd e z) 4611686018427387904) (fdiv (fadd g j) 4611686018427387904))
theorem e_ref02_Middle (e g z j : Nat) : outB (evFnM Tryz.prog false menv110 [] [] 96 Ann.no Tryz.f62 [AV.agg [AV.float e, AV.float g], AV.agg [AV.float z, AV.float j]] []) = some (true, AV.agg [AV.float (s_ref02_Middle_0 e g z j), AV.float (s_ref02_Middle_1 e g z j)]) := by kernel_rfl
def S_ref02_Middle : List AV → Option (Ob × AV)
  | [AV.agg [AV.float e, AV.float g], AV.agg [AV.float z, AV.float j]] => some (Ob.tt, AV.agg [AV.float (s_ref02_Middle_0 e g z j), AV.float (s_ref02_Middle_1 e g z j)])
  | _ => none
theorem t_ref02_Middle : SOkM Tryz.prog false (62, fun args => match S_ref02_Middle args with | some (o, v) => some (o, v, []) | none => none) := SOkM.flat (N := 96) menv110_ok Tryz.func62 ann_ref02_Middle Tryz.call62 fun args o v h ho => by
  unfold S_ref02_Middle at h
  split at h
  · rename_i e g z j
    cases h
    have ho2 := ho
    have this := show outB (evFnM Tryz.prog false menv110 [] [] 96 Ann.no Tryz.f62 [AV.agg [AV.float e, AV.float g], AV.agg [AV.float z, AV.float j]] []) = _ from e_ref02_Middle e g z j
    exact ⟨this, rfl⟩
  · cases h
def c_ref02_Middle : SFM := fun args => match S_ref02_Middle args with | some (o, v) => some (o, v, []) | none => none
theorem c_ref02_Middle_ok : SOkM Tryz.prog false (62, c_ref02_Middle) := t_ref02_Middle
def mss107 : List (FuncId × SFM) := (62, c_ref02_Middle) :: mss106
def menv111 : EnvM := mkEnvM mxs mss107 mws5
theorem mss107_ok : All (SOkM Tryz.prog false) mss107 := All.cons c_ref02_Middle_ok mss106_ok
theorem menv111_ok : menv111.Ok Tryz.prog false := mkEnvM_ok mxs_ok mss107_ok mws5_ok
-- tumble/tumbleref08.capsule
theorem ann_ref08_capsule : FnOk Tryz.prog false 0 Tryz.f29 Ann.no := (fnNo _)
def s_ref08_capsule_0 (e : Int) (g k : Nat) (n p : Nat → Nat) (j : Nat) : Nat := (fadd (fmul j (fmul (fmul 4611686018427387904 g) (s_ref02_Length_0 (s_ref02_Sub_0 (n 1) (p 1) (n 0) (p 0)) (s_ref02_Sub_1 (n 1) (p 1) (n 0) (p 0))))) (fmul j (fmul 4614256656552045848 (fmul g g))))
def s_ref08_capsule_1 (e : Int) (g k : Nat) (n p : Nat → Nat) (j : Nat) : Nat := let x0 := s_ref02_Length_0 (s_ref02_Sub_0 (n 1) (p 1) (n 0) (p 0)) (s_ref02_Sub_1 (n 1) (p 1) (n 0) (p 0)); let x1 := fmul x0 x0; (fadd (fdiv (fmul (fmul j (fmul (fmul 4611686018427387904 g) x0)) (fadd x1 (fmul (fmul 4616189618054758400 g) g))) 4622945017495814144) (fmul (fmul j (fmul 4614256656552045848 (fmul g g))) (fadd (fadd (fmul (fmul g g) 4602678819172646912) (fmul x1 4598175219545276416)) (fmul x0 (fdiv (fmul 4616189618054758400 g) 4621495296368779730)))))
def s_ref08_capsule_2 (e : Int) (g k : Nat) (n p : Nat → Nat) (j : Nat) : Nat := (s_ref02_Middle_0 (n 0) (p 0) (n 1) (p 1))
def s_ref08_capsule_3 (e : Int) (g k : Nat) (n p : Nat → Nat) (j : Nat) : Nat := (s_ref02_Middle_1 (n 0) (p 0) (n 1) (p 1))
def o_ref08_capsule (e : Int) (g k : Nat) (n p : Nat → Nat) (j : Nat) : Bool := ((Nat.blt 1 k) && (Nat.blt 0 k))
theorem e_ref08_capsule (e : Int) (g k : Nat) (n p : Nat → Nat) (j : Nat) : outB (evFnM Tryz.prog false menv111 [] [] 96 Ann.no Tryz.f29 [AV.agg [AV.int .u8 e, AV.float g, AV.view k 2 (fun i0 => [AV.float (n i0), AV.float (p i0)])], AV.float j] []) = some (o_ref08_capsule e g k n p j, AV.agg [AV.float (s_ref08_capsule_0 e g k n p j), AV.float (s_ref08_capsule_1 e g k n p j), AV.float (s_ref08_capsule_2 e g k n p j), AV.float (s_ref08_capsule_3 e g k n p j)]) := by kernel_rfl
def S_ref08_capsule : List AV → Option (Ob × AV)
  | [AV.agg [AV.int .u8 e, AV.float g, AV.view k 2 D], AV.float j] => some (Ob.both (Ob.bit (allB fun i => isNrm [Ck.f, Ck.f] (D i))) (Ob.bit (o_ref08_capsule e g k (fL D 0) (fL D 1) j)), AV.agg [AV.float (s_ref08_capsule_0 e g k (fL D 0) (fL D 1) j), AV.float (s_ref08_capsule_1 e g k (fL D 0) (fL D 1) j), AV.float (s_ref08_capsule_2 e g k (fL D 0) (fL D 1) j), AV.float (s_ref08_capsule_3 e g k (fL D 0) (fL D 1) j)])
  | _ => none
theorem t_ref08_capsule : SOkM Tryz.prog false (29, fun args => match S_ref08_capsule args with | some (o, v) => some (o, v, []) | none => none) := SOkM.flat (N := 96) menv111_ok Tryz.func29 ann_ref08_capsule Tryz.call29 fun args o v h ho => by
  unfold S_ref08_capsule at h
  split at h
  · rename_i e g k D j
    cases h
    rw [Ob.both_ok, Bool.and_eq_true] at ho
    obtain ⟨hn, ho2⟩ := ho
    have n0 := hn
    simp only [Ob.ok] at n0
    replace n0 := nrm_fun n0
    have this := show outB (evFnM Tryz.prog false menv111 [] [] 96 Ann.no Tryz.f29 [AV.agg [AV.int .u8 e, AV.float g, AV.view k 2 (fun i => mkN [Ck.f, Ck.f] (D i) 0)], AV.float j] []) = _ from e_ref08_capsule e g k (fL D 0) (fL D 1) j
    rw [show o_ref08_capsule e g k (fL D 0) (fL D 1) j = true from ho2] at this
    rw [n0] at this
    exact ⟨this, rfl⟩
  · cases h
def c_ref08_capsule : SFM := fun args => match S_ref08_capsule args with | some (o, v) => some (o, v, []) | none => none
theorem c_ref08_capsule_ok : SOkM Tryz.prog false (29, c_ref08_capsule) := t_ref08_capsule
def mss108 : List (FuncId × SFM) := (29, c_ref08_capsule) :: mss107
def menv112 : EnvM := mkEnvM mxs mss108 mws5
theorem mss108_ok : All (SOkM Tryz.prog false) mss108 := All.cons c_ref08_capsule_ok mss107_ok
theorem menv112_ok : menv112.Ok Tryz.prog false := mkEnvM_ok mxs_ok mss108_ok mws5_ok
-- tumble/tumbleref06.sum
-- a loop of tumble/tumbleref06.sum
structure V_ref06_sum_L0 where
  v0 : Nat
  v1 : Int
def tpl_ref06_sum_L0 : List AV := (AV.nul :: AV.top :: AV.top :: AV.nul :: AV.nul :: tpA 33 ([]))
def cts_ref06_sum_L0 : List CT := []
def phs_ref06_sum_L0 : List Src := []
def T_ref06_sum_L0 (r : Nat) (u m : Nat → Nat) (x : V_ref06_sum_L0) (F0 : Nat → List AV) : List AV × Heap := ((AV.view r 2 F0 :: AV.top :: AV.top :: AV.float x.v0 :: AV.int .i64 x.v1 :: tpA 33 ([])), [])
def sh_ref06_sum_L0 (r : Nat) (u m : Nat → Nat) (x : V_ref06_sum_L0) : List AV × Heap := T_ref06_sum_L0 r u m x (fun j0 => [AV.float (u j0), AV.float (m j0)])
def step_ref06_sum_L0 (r : Nat) (u m : Nat → Nat) (x : V_ref06_sum_L0) : V_ref06_sum_L0 := V_ref06_sum_L0.mk (let x0 := Int.toNat (IntKind.wrap .i64 (x.v1 + (1 : Int))); let x1 := m x0; let x2 := u x0; let x3 := m (Int.toNat x.v1); let x4 := u (Int.toNat x.v1); let x5 := s_ref02_Cross_0 (s_ref06_lead_0 (u 0) (m 0) x4 x3) (s_ref06_lead_1 (u 0) (m 0) x4 x3) (s_ref06_lead_0 (u 0) (m 0) x2 x1) (s_ref06_lead_1 (u 0) (m 0) x2 x1); (bif (ieq x.v1 (1 : Int)) then x5 else (fadd x.v0 x5))) (IntKind.wrap .i64 (x.v1 + (1 : Int)))
def go_ref06_sum_L0 (r : Nat) (u m : Nat → Nat) (x : V_ref06_sum_L0) : Bool := (bif (!(ilt x.v1 (IntKind.wrap .i64 ((Int.ofNat r) - (1 : Int))))) then false else true)
def ok_ref06_sum_L0 (r : Nat) (u m : Nat → Nat) (x : V_ref06_sum_L0) : Bool := let x0 := ((ile (0 : Int) (IntKind.wrap .i64 (x.v1 + (1 : Int)))) && (Nat.blt (Int.toNat (IntKind.wrap .i64 (x.v1 + (1 : Int)))) r)) && ((Nat.blt 0 r) && (((ile (0 : Int) x.v1) && (Nat.blt (Int.toNat x.v1) r)) && (Nat.blt 0 r))); (mrgB (!(ilt x.v1 (IntKind.wrap .i64 ((Int.ofNat r) - (1 : Int))))) true (mrgB (ieq x.v1 (1 : Int)) x0 x0))
def L_ref06_sum_L0 (r : Nat) (u m : Nat → Nat) (x : V_ref06_sum_L0) : V_ref06_sum_L0 := lastL (ok_ref06_sum_L0 r u m) (go_ref06_sum_L0 r u m) (step_ref06_sum_L0 r u m) x
def E_ref06_sum_L0 (r : Nat) (u m : Nat → Nat) (x : V_ref06_sum_L0) : Bool := endsL (ok_ref06_sum_L0 r u m) (go_ref06_sum_L0 r u m) (step_ref06_sum_L0 r u m) x
theorem all_ref06_sum_L0 (r : Nat) (u m : Nat → Nat) (x : V_ref06_sum_L0) : rnd Tryz.prog false menv112 [] [] 96 Ann.no (subC [1, 1, 0, 1, 0, 0] (codeOf Tryz.f86)) 0 [] tpl_ref06_sum_L0 cts_ref06_sum_L0 (false :: tpB 37 ([])) [] (sh_ref06_sum_L0 r u m x) = (true, true, go_ref06_sum_L0 r u m x, ok_ref06_sum_L0 r u m x, true, sh_ref06_sum_L0 r u m (step_ref06_sum_L0 r u m x), true) := by kernel_rfl
def fam_ref06_sum_L0 (r : Nat) (u m : Nat → Nat) : Fam Tryz.prog false menv112 [] [] 96 0 Ann.no (subC [1, 1, 0, 1, 0, 0] (codeOf Tryz.f86)) V_ref06_sum_L0 where
  sh := sh_ref06_sum_L0 r u m
  ok := ok_ref06_sum_L0 r u m
  go := go_ref06_sum_L0 r u m
  step := step_ref06_sum_L0 r u m
  chg := (false :: tpB 37 ([]))
  chgH := []
  tpl := tpl_ref06_sum_L0
  cts := cts_ref06_sum_L0
  keep := 0
  srcs := []
  ann := (annNo (subC [1, 1, 0, 1, 0, 0] (codeOf Tryz.f86)))
  le := by kernel_rfl
  kept := by kernel_rfl
  keptB := by kernel_rfl
  all := all_ref06_sum_L0 r u m
  len := fun x => by kernel_rfl
  head := fun x y => by kernel_rfl
  con := fun x y => by kernel_rfl
  conH := fun x y => by kernel_rfl
def F_ref06_sum_L0 : St → Option Ch := fun s => cond (Nat.beq s.tm.length 38 && Nat.beq s.H.length 0) (tkCons (alL tpl_ref06_sum_L0 s.tm) fun e t0 => tkView 2 e fun s0 f0 => tkTops 2 t0 fun t1 => tkCons t1 fun z t2 => tkF z fun s3 => tkCons t2 fun j t3 => tkI .i64 j fun s4 => tkTops 33 t3 fun t4 => tkNil t4 <| tkNil (alH cts_ref06_sum_L0 (s.H ++ List.map phan phs_ref06_sum_L0)) <| Fam.out (fam_ref06_sum_L0 s0 (fL f0 0) (fL f0 1)) s (allB fun i => isNrm [Ck.f, Ck.f] (f0 i)) (V_ref06_sum_L0.mk s3 s4)) none
theorem F_ref06_sum_L0_ok : ∀ s ch, F_ref06_sum_L0 s = some ch → AllI s ch ∧ LoopSpec Tryz.prog false 0 (subC [1, 1, 0, 1, 0, 0] (codeOf Tryz.f86)) s (sel ch) := by
  intro s ch h
  unfold F_ref06_sum_L0 at h
  obtain ⟨hl, h0⟩ := cond_some h rfl
  clear h
  obtain ⟨hl, hb⟩ := and_beq2 hl
  obtain ⟨e, t0, e0, h1⟩ := tkCons_some h0
  obtain ⟨s0, f0, rfl, h2⟩ := tkView_some h1
  obtain ⟨t1, rfl, h3⟩ := tkTops_some h2
  obtain ⟨z, t2, rfl, h4⟩ := tkCons_some h3
  obtain ⟨s3, rfl, h5⟩ := tkF_some h4
  obtain ⟨j, t3, rfl, h6⟩ := tkCons_some h5
  obtain ⟨s4, rfl, h7⟩ := tkI_some h6
  obtain ⟨t4, rfl, h8⟩ := tkTops_some h7
  obtain ⟨rfl, h9⟩ := tkNil_some h8
  obtain ⟨eH, h10⟩ := tkNil_some h9
  refine Fam.spec menv112_ok (fam_ref06_sum_L0 s0 (fL f0 0) (fL f0 1)) (phs := phs_ref06_sum_L0) (hl.trans (by kernel_rfl)) (hb.trans (by kernel_rfl)) ?_ ?_ h10
  · rw [← hdr_alH cts_ref06_sum_L0 (s.H ++ List.map phan phs_ref06_sum_L0), eH]; kernel_rfl
  · intro hq
    have hq0 := hq
    have n0 := nrm_fun hq0
    show sh_ref06_sum_L0 s0 (fL f0 0) (fL f0 1) (V_ref06_sum_L0.mk s3 s4) = (alL tpl_ref06_sum_L0 s.tm, alH cts_ref06_sum_L0 (s.H ++ List.map phan phs_ref06_sum_L0))
    rw [e0, eH]
    refine Eq.trans (show sh_ref06_sum_L0 s0 (fL f0 0) (fL f0 1) (V_ref06_sum_L0.mk s3 s4) = T_ref06_sum_L0 s0 (fL f0 0) (fL f0 1) (V_ref06_sum_L0.mk s3 s4) (fun i => mkN [Ck.f, Ck.f] (f0 i) 0) by kernel_rfl) ?_
    rw [n0]
    kernel_rfl
theorem ann_ref06_sum : FnOk Tryz.prog false 0 Tryz.f86 (Ann.two Ann.no (Ann.two Ann.no (Ann.two (Ann.two Ann.no (Ann.one (Ann.loop F_ref06_sum_L0))) Ann.no))) := (fnOk_of (c := codeOf Tryz.f86) (by kernel_rfl) (annSeq (a := (subC [0] (codeOf Tryz.f86))) (b := (subC [1] (codeOf Tryz.f86))) (by kernel_rfl) (annNo (subC [0] (codeOf Tryz.f86))) (annSeq (a := (subC [1, 0] (codeOf Tryz.f86))) (b := (subC [1, 1] (codeOf Tryz.f86))) (by kernel_rfl) (annNo (subC [1, 0] (codeOf Tryz.f86))) (annSeq (a := (subC [1, 1, 0] (codeOf Tryz.f86))) (b := (subC [1, 1, 1] (codeOf Tryz.f86))) (by kernel_rfl) (annSeq (a := (subC [1, 1, 0, 0] (codeOf Tryz.f86))) (b := (subC [1, 1, 0, 1] (codeOf Tryz.f86))) (by kernel_rfl) (annNo (subC [1, 1, 0, 0] (codeOf Tryz.f86))) (annBlock (a := (subC [1, 1, 0, 1, 0] (codeOf Tryz.f86))) (i := 0) (by kernel_rfl) (annLoop (a := (subC [1, 1, 0, 1, 0, 0] (codeOf Tryz.f86))) (by kernel_rfl) F_ref06_sum_L0_ok))) (annNo (subC [1, 1, 1] (codeOf Tryz.f86)))))))
def s_ref06_sum_0 (l : Nat) (q t : Nat → Nat) : Nat := ((L_ref06_sum_L0 l q t (V_ref06_sum_L0.mk 0 (1 : Int))).v0)
theorem e_ref06_sum (l : Nat) (q t : Nat → Nat) : outB (evFnM Tryz.prog false menv112 [] [] 96 (Ann.two Ann.no (Ann.two Ann.no (Ann.two (Ann.two Ann.no (Ann.one (Ann.loop F_ref06_sum_L0))) Ann.no))) Tryz.f86 [AV.view l 2 (fun i0 => [AV.float (q i0), AV.float (t i0)])] []) = some (((allB fun _ => true) && (E_ref06_sum_L0 l q t (V_ref06_sum_L0.mk 0 (1 : Int)))), AV.float (s_ref06_sum_0 l q t)) := by kernel_rfl
def o_ref06_sum (l : Nat) (q t : Nat → Nat) : Bool := (E_ref06_sum_L0 l q t (V_ref06_sum_L0.mk 0 (1 : Int)))
def S_ref06_sum : List AV → Option (Ob × AV)
  | [AV.view l 2 C] => some (Ob.both (Ob.bit (allB fun i => isNrm [Ck.f, Ck.f] (C i))) (Ob.bit (o_ref06_sum l (fL C 0) (fL C 1))), AV.float (s_ref06_sum_0 l (fL C 0) (fL C 1)))
  | _ => none
theorem ob_ref06_sum (l : Nat) (q t : Nat → Nat) (ho : o_ref06_sum l q t = true) : ((allB fun _ => true) && (E_ref06_sum_L0 l q t (V_ref06_sum_L0.mk 0 (1 : Int)))) = true := by
  unfold o_ref06_sum at ho
  simp only [allB_true, eqT_self, mrgB_self, Bool.true_and, Bool.and_true] at ho ⊢
  exact ho
theorem t_ref06_sum : SOkM Tryz.prog false (86, fun args => match S_ref06_sum args with | some (o, v) => some (o, v, []) | none => none) := SOkM.flat (N := 96) menv112_ok Tryz.func86 ann_ref06_sum Tryz.call86 fun args o v h ho => by
  unfold S_ref06_sum at h
  split at h
  · rename_i l C
    cases h
    rw [Ob.both_ok, Bool.and_eq_true] at ho
    obtain ⟨hn, ho2⟩ := ho
    have n0 := hn
    simp only [Ob.ok] at n0
    replace n0 := nrm_fun n0
    have this := show outB (evFnM Tryz.prog false menv112 [] [] 96 (Ann.two Ann.no (Ann.two Ann.no (Ann.two (Ann.two Ann.no (Ann.one (Ann.loop F_ref06_sum_L0))) Ann.no))) Tryz.f86 [AV.view l 2 (fun i => mkN [Ck.f, Ck.f] (C i) 0)] []) = _ from e_ref06_sum l (fL C 0) (fL C 1)
    rw [(ob_ref06_sum l (fL C 0) (fL C 1) ho2)] at this
    rw [n0] at this
    exact ⟨this, rfl⟩
  · cases h
def c_ref06_sum : SFM := fun args => match S_ref06_sum args with | some (o, v) => some (o, v, []) | none => none
theorem c_ref06_sum_ok : SOkM Tryz.prog false (86, c_ref06_sum) := t_ref06_sum
def mss109 : List (FuncId × SFM) := (86, c_ref06_sum) :: mss108
def menv113 : EnvM := mkEnvM mxs mss109 mws5
theorem mss109_ok : All (SOkM Tryz.prog false) mss109 := All.cons c_ref06_sum_ok mss108_ok
theorem menv113_ok : menv113.Ok Tryz.prog false := mkEnvM_ok mxs_ok mss109_ok mws5_ok
-- tumble/tumbleref06.Area
theorem ann_ref06_Area : FnOk Tryz.prog false 0 Tryz.f63 Ann.no := (fnNo _)
def s_ref06_Area_0 (l : Nat) (q t : Nat → Nat) : Nat := (bif (!(ieq (s_ref06_Check_0 l q t) (0 : Int))) then 0 else (bif (!(flt 0 (s_ref06_sum_0 l q t))) then 0 else (fmul (s_ref06_sum_0 l q t) 4602678819172646912)))
def s_ref06_Area_1 (l : Nat) (q t : Nat → Nat) : Int := (bif (!(ieq (s_ref06_Check_0 l q t) (0 : Int))) then (s_ref06_Check_0 l q t) else (bif (!(flt 0 (s_ref06_sum_0 l q t))) then (61 : Int) else (0 : Int)))
def q_ref06_Area (l : Nat) (q t : Nat → Nat) : Bool := (mrgB (!(ieq (s_ref06_Check_0 l q t) (0 : Int))) ((allB fun _ => true) && (o_ref06_Check l q t)) (mrgB (!(flt 0 (s_ref06_sum_0 l q t))) (((allB fun _ => true) && (o_ref06_sum l q t)) && ((allB fun _ => true) && (o_ref06_Check l q t))) (((allB fun _ => true) && (o_ref06_sum l q t)) && ((allB fun _ => true) && (o_ref06_Check l q t)))))
theorem e_ref06_Area (l : Nat) (q t : Nat → Nat) : outB (evFnM Tryz.prog false menv113 [] [] 96 Ann.no Tryz.f63 [AV.view l 2 (fun i0 => [AV.float (q i0), AV.float (t i0)])] []) = some (q_ref06_Area l q t, AV.tup [AV.float (s_ref06_Area_0 l q t), AV.int .i64 (s_ref06_Area_1 l q t)]) := by kernel_rfl
def o_ref06_Area (l : Nat) (q t : Nat → Nat) : Bool := (mrgB (!(ieq (s_ref06_Check_0 l q t) (0 : Int))) (o_ref06_Check l q t) (mrgB (!(flt 0 (s_ref06_sum_0 l q t))) ((o_ref06_sum l q t) && (o_ref06_Check l q t)) ((o_ref06_sum l q t) && (o_ref06_Check l q t))))
def S_ref06_Area : List AV → Option (Ob × AV)
  | [AV.view l 2 C] => some (Ob.both (Ob.bit (allB fun i => isNrm [Ck.f, Ck.f] (C i))) (Ob.bit (o_ref06_Area l (fL C 0) (fL C 1))), AV.tup [AV.float (s_ref06_Area_0 l (fL C 0) (fL C 1)), AV.int .i64 (s_ref06_Area_1 l (fL C 0) (fL C 1))])
  | _ => none
theorem ob_ref06_Area (l : Nat) (q t : Nat → Nat) (ho : o_ref06_Area l q t = true) : q_ref06_Area l q t = true := by
  unfold q_ref06_Area
  unfold o_ref06_Area at ho
  simp only [allB_true, eqT_self, mrgB_self, Bool.true_and, Bool.and_true] at ho ⊢
  exact ho
theorem t_ref06_Area : SOkM Tryz.prog false (63, fun args => match S_ref06_Area args with | some (o, v) => some (o, v, []) | none => none) := SOkM.flat (N := 96) menv113_ok Tryz.func63 ann_ref06_Area Tryz.call63 fun args o v h ho => by
  unfold S_ref06_Area at h
  split at h
  · rename_i l C
    cases h
    rw [Ob.both_ok, Bool.and_eq_true] at ho
    obtain ⟨hn, ho2⟩ := ho
    have n0 := hn
    simp only [Ob.ok] at n0
    replace n0 := nrm_fun n0
    have this := show outB (evFnM Tryz.prog false menv113 [] [] 96 Ann.no Tryz.f63 [AV.view l 2 (fun i => mkN [Ck.f, Ck.f] (C i) 0)] []) = _ from e_ref06_Area l (fL C 0) (fL C 1)
    rw [(ob_ref06_Area l (fL C 0) (fL C 1) ho2)] at this
    rw [n0] at this
    exact ⟨this, rfl⟩
  · cases h
def c_ref06_Area : SFM := fun args => match S_ref06_Area args with | some (o, v) => some (o, v, []) | none => none
theorem c_ref06_Area_ok : SOkM Tryz.prog false (63, c_ref06_Area) := t_ref06_Area
def mss110 : List (FuncId × SFM) := (63, c_ref06_Area) :: mss109
def menv114 : EnvM := mkEnvM mxs mss110 mws5
theorem mss110_ok : All (SOkM Tryz.prog false) mss110 := All.cons c_ref06_Area_ok mss109_ok
theorem menv114_ok : menv114.Ok Tryz.prog false := mkEnvM_ok mxs_ok mss110_ok mws5_ok
-- tumble/tumbleref06.Centre
-- a loop of tumble/tumbleref06.Centre
structure V_ref06_Centre_L0 where
  v0 : Nat
  v1 : Nat
  v2 : Int
def tpl_ref06_Centre_L0 : List AV := (AV.nul :: AV.top :: AV.nul :: AV.top :: AV.top :: AV.top :: AV.nul :: AV.nul :: AV.nul :: tpA 86 ([]))
def cts_ref06_Centre_L0 : List CT := [CT.keep]
def phs_ref06_Centre_L0 : List Src := []
def T_ref06_Centre_L0 (r : Nat) (u m : Nat → Nat) (x : V_ref06_Centre_L0) (F0 : Nat → List AV) : List AV × Heap := ((AV.view r 2 F0 :: AV.top :: AV.ptr (some ⟨0, 0, .lit 0⟩) :: AV.top :: AV.top :: AV.top :: AV.float x.v0 :: AV.float x.v1 :: AV.int .i64 x.v2 :: tpA 86 ([])), [⟨.flat [AV.float 0, AV.float 0], 29, 0⟩])
def sh_ref06_Centre_L0 (r : Nat) (u m : Nat → Nat) (x : V_ref06_Centre_L0) : List AV × Heap := T_ref06_Centre_L0 r u m x (fun j0 => [AV.float (u j0), AV.float (m j0)])
def step_ref06_Centre_L0 (r : Nat) (u m : Nat → Nat) (x : V_ref06_Centre_L0) : V_ref06_Centre_L0 := V_ref06_Centre_L0.mk (let x0 := Int.toNat (IntKind.wrap .i64 (x.v2 + (1 : Int))); let x1 := m x0; let x2 := u x0; let x3 := s_ref06_lead_0 (u 0) (m 0) x2 x1; let x4 := m (Int.toNat x.v2); let x5 := u (Int.toNat x.v2); let x6 := s_ref06_lead_0 (u 0) (m 0) x5 x4; let x7 := fmul (fadd x6 x3) (s_ref02_Cross_0 x6 (s_ref06_lead_1 (u 0) (m 0) x5 x4) x3 (s_ref06_lead_1 (u 0) (m 0) x2 x1)); (bif (ieq x.v2 (1 : Int)) then x7 else (fadd x.v0 x7))) (let x0 := Int.toNat (IntKind.wrap .i64 (x.v2 + (1 : Int))); let x1 := m x0; let x2 := u x0; let x3 := s_ref06_lead_1 (u 0) (m 0) x2 x1; let x4 := m (Int.toNat x.v2); let x5 := u (Int.toNat x.v2); let x6 := s_ref06_lead_1 (u 0) (m 0) x5 x4; let x7 := fmul (fadd x6 x3) (s_ref02_Cross_0 (s_ref06_lead_0 (u 0) (m 0) x5 x4) x6 (s_ref06_lead_0 (u 0) (m 0) x2 x1) x3); (bif (ieq x.v2 (1 : Int)) then x7 else (fadd x.v1 x7))) (IntKind.wrap .i64 (x.v2 + (1 : Int)))
def go_ref06_Centre_L0 (r : Nat) (u m : Nat → Nat) (x : V_ref06_Centre_L0) : Bool := (bif (!(ilt x.v2 (IntKind.wrap .i64 ((Int.ofNat r) - (1 : Int))))) then false else true)
def ok_ref06_Centre_L0 (r : Nat) (u m : Nat → Nat) (x : V_ref06_Centre_L0) : Bool := let x0 := ((ile (0 : Int) (IntKind.wrap .i64 (x.v2 + (1 : Int)))) && (Nat.blt (Int.toNat (IntKind.wrap .i64 (x.v2 + (1 : Int)))) r)) && ((Nat.blt 0 r) && (((ile (0 : Int) x.v2) && (Nat.blt (Int.toNat x.v2) r)) && (Nat.blt 0 r))); (mrgB (!(ilt x.v2 (IntKind.wrap .i64 ((Int.ofNat r) - (1 : Int))))) true (mrgB (ieq x.v2 (1 : Int)) x0 x0))
def L_ref06_Centre_L0 (r : Nat) (u m : Nat → Nat) (x : V_ref06_Centre_L0) : V_ref06_Centre_L0 := lastL (ok_ref06_Centre_L0 r u m) (go_ref06_Centre_L0 r u m) (step_ref06_Centre_L0 r u m) x
def E_ref06_Centre_L0 (r : Nat) (u m : Nat → Nat) (x : V_ref06_Centre_L0) : Bool := endsL (ok_ref06_Centre_L0 r u m) (go_ref06_Centre_L0 r u m) (step_ref06_Centre_L0 r u m) x
theorem all_ref06_Centre_L0 (r : Nat) (u m : Nat → Nat) (x : V_ref06_Centre_L0) : rnd Tryz.prog false menv114 [] [] 96 Ann.no (subC [1, 1, 1, 1, 1, 0, 1, 0, 0] (codeOf Tryz.f64)) 0 [⟨some 0, 0, 0, []⟩] tpl_ref06_Centre_L0 cts_ref06_Centre_L0 (false :: true :: false :: tpB 92 ([])) [false] (sh_ref06_Centre_L0 r u m x) = (true, true, go_ref06_Centre_L0 r u m x, ok_ref06_Centre_L0 r u m x, true, sh_ref06_Centre_L0 r u m (step_ref06_Centre_L0 r u m x), true) := by kernel_rfl
def fam_ref06_Centre_L0 (r : Nat) (u m : Nat → Nat) : Fam Tryz.prog false menv114 [] [] 96 0 Ann.no (subC [1, 1, 1, 1, 1, 0, 1, 0, 0] (codeOf Tryz.f64)) V_ref06_Centre_L0 where
  sh := sh_ref06_Centre_L0 r u m
  ok := ok_ref06_Centre_L0 r u m
  go := go_ref06_Centre_L0 r u m
  step := step_ref06_Centre_L0 r u m
  chg := (false :: true :: false :: tpB 92 ([]))
  chgH := [false]
  tpl := tpl_ref06_Centre_L0
  cts := cts_ref06_Centre_L0
  keep := 0
  srcs := [⟨some 0, 0, 0, []⟩]
  ann := (annNo (subC [1, 1, 1, 1, 1, 0, 1, 0, 0] (codeOf Tryz.f64)))
  le := by kernel_rfl
  kept := by kernel_rfl
  keptB := by kernel_rfl
  all := all_ref06_Centre_L0 r u m
  len := fun x => by kernel_rfl
  head := fun x y => by kernel_rfl
  con := fun x y => by kernel_rfl
  conH := fun x y => by kernel_rfl
def F_ref06_Centre_L0 : St → Option Ch := fun s => cond (Nat.beq s.tm.length 95 && Nat.beq s.H.length 1) (tkCons (alL tpl_ref06_Centre_L0 s.tm) fun e t0 => tkView 2 e fun s0 f0 => tkTops 1 t0 fun t1 => tkCons t1 fun z t2 => tkPtr 0 0 0 z <| tkTops 3 t2 fun t3 => tkCons t3 fun M t4 => tkF M fun s3 => tkCons t4 fun Y t5 => tkF Y fun s4 => tkCons t5 fun aa t6 => tkI .i64 aa fun s5 => tkTops 86 t6 fun t7 => tkNil t7 <| tkCons (alH cts_ref06_Centre_L0 (s.H ++ List.map phan phs_ref06_Centre_L0)) fun b8 t8 => tkFlat 29 0 b8 fun m8 => tkCons m8 fun ab t9 => tkFL 0 ab <| tkCons t9 fun ak t10 => tkFL 0 ak <| tkNil t10 <| tkNil t8 <| Fam.out (fam_ref06_Centre_L0 s0 (fL f0 0) (fL f0 1)) s (allB fun i => isNrm [Ck.f, Ck.f] (f0 i)) (V_ref06_Centre_L0.mk s3 s4 s5)) none
theorem F_ref06_Centre_L0_ok : ∀ s ch, F_ref06_Centre_L0 s = some ch → AllI s ch ∧ LoopSpec Tryz.prog false 0 (subC [1, 1, 1, 1, 1, 0, 1, 0, 0] (codeOf Tryz.f64)) s (sel ch) := by
  intro s ch h
  unfold F_ref06_Centre_L0 at h
  obtain ⟨hl, h0⟩ := cond_some h rfl
  clear h
  obtain ⟨hl, hb⟩ := and_beq2 hl
  obtain ⟨e, t0, e0, h1⟩ := tkCons_some h0
  obtain ⟨s0, f0, rfl, h2⟩ := tkView_some h1
  obtain ⟨t1, rfl, h3⟩ := tkTops_some h2
  obtain ⟨z, t2, rfl, h4⟩ := tkCons_some h3
  obtain ⟨rfl, h5⟩ := tkPtr_some h4
  obtain ⟨t3, rfl, h6⟩ := tkTops_some h5
  obtain ⟨M, t4, rfl, h7⟩ := tkCons_some h6
  obtain ⟨s3, rfl, h8⟩ := tkF_some h7
  obtain ⟨Y, t5, rfl, h9⟩ := tkCons_some h8
  obtain ⟨s4, rfl, h10⟩ := tkF_some h9
  obtain ⟨aa, t6, rfl, h11⟩ := tkCons_some h10
  obtain ⟨s5, rfl, h12⟩ := tkI_some h11
  obtain ⟨t7, rfl, h13⟩ := tkTops_some h12
  obtain ⟨rfl, h14⟩ := tkNil_some h13
  obtain ⟨b8, t8, eH, h15⟩ := tkCons_some h14
  obtain ⟨m8, rfl, h16⟩ := tkFlat_some h15
  obtain ⟨ab, t9, rfl, h17⟩ := tkCons_some h16
  obtain ⟨rfl, h18⟩ := tkFL_some h17
  obtain ⟨ak, t10, rfl, h19⟩ := tkCons_some h18
  obtain ⟨rfl, h20⟩ := tkFL_some h19
  obtain ⟨rfl, h21⟩ := tkNil_some h20
  obtain ⟨rfl, h22⟩ := tkNil_some h21
  refine Fam.spec menv114_ok (fam_ref06_Centre_L0 s0 (fL f0 0) (fL f0 1)) (phs := phs_ref06_Centre_L0) (hl.trans (by kernel_rfl)) (hb.trans (by kernel_rfl)) ?_ ?_ h22
  · rw [← hdr_alH cts_ref06_Centre_L0 (s.H ++ List.map phan phs_ref06_Centre_L0), eH]; kernel_rfl
  · intro hq
    have hq0 := hq
    have n0 := nrm_fun hq0
    show sh_ref06_Centre_L0 s0 (fL f0 0) (fL f0 1) (V_ref06_Centre_L0.mk s3 s4 s5) = (alL tpl_ref06_Centre_L0 s.tm, alH cts_ref06_Centre_L0 (s.H ++ List.map phan phs_ref06_Centre_L0))
    rw [e0, eH]
    refine Eq.trans (show sh_ref06_Centre_L0 s0 (fL f0 0) (fL f0 1) (V_ref06_Centre_L0.mk s3 s4 s5) = T_ref06_Centre_L0 s0 (fL f0 0) (fL f0 1) (V_ref06_Centre_L0.mk s3 s4 s5) (fun i => mkN [Ck.f, Ck.f] (f0 i) 0) by kernel_rfl) ?_
    rw [n0]
    kernel_rfl
theorem ann_ref06_Centre : FnOk Tryz.prog false 0 Tryz.f64 (Ann.two Ann.no (Ann.two Ann.no (Ann.two Ann.no (Ann.two Ann.no (Ann.two Ann.no (Ann.two (Ann.two Ann.no (Ann.one (Ann.loop F_ref06_Centre_L0))) Ann.no)))))) := (fnOk_of (c := codeOf Tryz.f64) (by kernel_rfl) (annSeq (a := (subC [0] (codeOf Tryz.f64))) (b := (subC [1] (codeOf Tryz.f64))) (by kernel_rfl) (annNo (subC [0] (codeOf Tryz.f64))) (annSeq (a := (subC [1, 0] (codeOf Tryz.f64))) (b := (subC [1, 1] (codeOf Tryz.f64))) (by kernel_rfl) (annNo (subC [1, 0] (codeOf Tryz.f64))) (annSeq (a := (subC [1, 1, 0] (codeOf Tryz.f64))) (b := (subC [1, 1, 1] (codeOf Tryz.f64))) (by kernel_rfl) (annNo (subC [1, 1, 0] (codeOf Tryz.f64))) (annSeq (a := (subC [1, 1, 1, 0] (codeOf Tryz.f64))) (b := (subC [1, 1, 1, 1] (codeOf Tryz.f64))) (by kernel_rfl) (annNo (subC [1, 1, 1, 0] (codeOf Tryz.f64))) (annSeq (a := (subC [1, 1, 1, 1, 0] (codeOf Tryz.f64))) (b := (subC [1, 1, 1, 1, 1] (codeOf Tryz.f64))) (by kernel_rfl) (annNo (subC [1, 1, 1, 1, 0] (codeOf Tryz.f64))) (annSeq (a := (subC [1, 1, 1, 1, 1, 0] (codeOf Tryz.f64))) (b := (subC [1, 1, 1, 1, 1, 1] (codeOf Tryz.f64))) (by kernel_rfl) (annSeq (a := (subC [1, 1, 1, 1, 1, 0, 0] (codeOf Tryz.f64))) (b := (subC [1, 1, 1, 1, 1, 0, 1] (codeOf Tryz.f64))) (by kernel_rfl) (annNo (subC [1, 1, 1, 1, 1, 0, 0] (codeOf Tryz.f64))) (annBlock (a := (subC [1, 1, 1, 1, 1, 0, 1, 0] (codeOf Tryz.f64))) (i := 0) (by kernel_rfl) (annLoop (a := (subC [1, 1, 1, 1, 1, 0, 1, 0, 0] (codeOf Tryz.f64))) (by kernel_rfl) F_ref06_Centre_L0_ok))) (annNo (subC [1, 1, 1, 1, 1, 1] (codeOf Tryz.f64))))))))))
def s_ref06_Centre_0 (l : Nat) (q t : Nat → Nat) : Nat := (bif (!(ieq (s_ref06_Area_1 l q t) (0 : Int))) then 0 else (fadd (q 0) (fdiv ((L_ref06_Centre_L0 l q t (V_ref06_Centre_L0.mk 0 0 (1 : Int))).v0) (fmul 4613937818241073152 (s_ref06_sum_0 l q t)))))
def s_ref06_Centre_1 (l : Nat) (q t : Nat → Nat) : Nat := (bif (!(ieq (s_ref06_Area_1 l q t) (0 : Int))) then 0 else (fadd (t 0) (fdiv ((L_ref06_Centre_L0 l q t (V_ref06_Centre_L0.mk 0 0 (1 : Int))).v1) (fmul 4613937818241073152 (s_ref06_sum_0 l q t)))))
def s_ref06_Centre_2 (l : Nat) (q t : Nat → Nat) : Int := (bif (!(ieq (s_ref06_Area_1 l q t) (0 : Int))) then (s_ref06_Area_1 l q t) else (0 : Int))
def q_ref06_Centre (l : Nat) (q t : Nat → Nat) : Bool := (mrgB (!(ieq (s_ref06_Area_1 l q t) (0 : Int))) ((allB fun _ => true) && (o_ref06_Area l q t)) ((Nat.blt 0 l) && ((Nat.blt 0 l) && (((allB fun _ => true) && (o_ref06_sum l q t)) && (((allB fun _ => true) && (o_ref06_Area l q t)) && ((allB fun _ => true) && (E_ref06_Centre_L0 l q t (V_ref06_Centre_L0.mk 0 0 (1 : Int)))))))))
theorem e_ref06_Centre (l : Nat) (q t : Nat → Nat) : outB (evFnM Tryz.prog false menv114 [] [] 96 (Ann.two Ann.no (Ann.two Ann.no (Ann.two Ann.no (Ann.two Ann.no (Ann.two Ann.no (Ann.two (Ann.two Ann.no (Ann.one (Ann.loop F_ref06_Centre_L0))) Ann.no)))))) Tryz.f64 [AV.view l 2 (fun i0 => [AV.float (q i0), AV.float (t i0)])] []) = some (q_ref06_Centre l q t, AV.tup [AV.agg [AV.float (s_ref06_Centre_0 l q t), AV.float (s_ref06_Centre_1 l q t)], AV.int .i64 (s_ref06_Centre_2 l q t)]) := by kernel_rfl
def o_ref06_Centre (l : Nat) (q t : Nat → Nat) : Bool := (mrgB (!(ieq (s_ref06_Area_1 l q t) (0 : Int))) (o_ref06_Area l q t) ((Nat.blt 0 l) && ((Nat.blt 0 l) && ((o_ref06_sum l q t) && ((o_ref06_Area l q t) && (E_ref06_Centre_L0 l q t (V_ref06_Centre_L0.mk 0 0 (1 : Int))))))))
def S_ref06_Centre : List AV → Option (Ob × AV)
  | [AV.view l 2 C] => some (Ob.both (Ob.bit (allB fun i => isNrm [Ck.f, Ck.f] (C i))) (Ob.bit (o_ref06_Centre l (fL C 0) (fL C 1))), AV.tup [AV.agg [AV.float (s_ref06_Centre_0 l (fL C 0) (fL C 1)), AV.float (s_ref06_Centre_1 l (fL C 0) (fL C 1))], AV.int .i64 (s_ref06_Centre_2 l (fL C 0) (fL C 1))])
  | _ => none
theorem ob_ref06_Centre (l : Nat) (q t : Nat → Nat) (ho : o_ref06_Centre l q t = true) : q_ref06_Centre l q t = true := by
  unfold q_ref06_Centre
  unfold o_ref06_Centre at ho
  simp only [allB_true, eqT_self, mrgB_self, Bool.true_and, Bool.and_true] at ho ⊢
  exact ho
theorem t_ref06_Centre : SOkM Tryz.prog false (64, fun args => match S_ref06_Centre args with | some (o, v) => some (o, v, []) | none => none) := SOkM.flat (N := 96) menv114_ok Tryz.func64 ann_ref06_Centre Tryz.call64 fun args o v h ho => by
  unfold S_ref06_Centre at h
  split at h
  · rename_i l C
    cases h
    rw [Ob.both_ok, Bool.and_eq_true] at ho
    obtain ⟨hn, ho2⟩ := ho
    have n0 := hn
    simp only [Ob.ok] at n0
    replace n0 := nrm_fun n0
    have this := show outB (evFnM Tryz.prog false menv114 [] [] 96 (Ann.two Ann.no (Ann.two Ann.no (Ann.two Ann.no (Ann.two Ann.no (Ann.two Ann.no (Ann.two (Ann.two Ann.no (Ann.one (Ann.loop F_ref06_Centre_L0))) Ann.no)))))) Tryz.f64 [AV.view l 2 (fun i => mkN [Ck.f, Ck.f] (C i) 0)] []) = _ from e_ref06_Centre l (fL C 0) (fL C 1)
    rw [(ob_ref06_Centre l (fL C 0) (fL C 1) ho2)] at this
    rw [n0] at this
    exact ⟨this, rfl⟩
  · cases h
def c_ref06_Centre : SFM := fun args => match S_ref06_Centre args with | some (o, v) => some (o, v, []) | none => none
theorem c_ref06_Centre_ok : SOkM Tryz.prog false (64, c_ref06_Centre) := t_ref06_Centre
def mss111 : List (FuncId × SFM) := (64, c_ref06_Centre) :: mss110
def menv115 : EnvM := mkEnvM mxs mss111 mws5
theorem mss111_ok : All (SOkM Tryz.prog false) mss111 := All.cons c_ref06_Centre_ok mss110_ok
theorem menv115_ok : menv115.Ok Tryz.prog false := mkEnvM_ok mxs_ok mss111_ok mws5_ok
-- tumble/tumbleref08.polygon
-- a loop of tumble/tumbleref08.polygon
structure V_ref08_polygon_L0 where
  v0 : Nat
  v1 : Int
def tpl_ref08_polygon_L0 : List AV := (AV.top :: AV.nul :: AV.nul :: AV.top :: AV.nul :: AV.top :: AV.nul :: AV.top :: AV.nul :: AV.nul :: AV.nul :: AV.nul :: tpA 78 ([]))
def cts_ref08_polygon_L0 : List CT := [CT.keep, CT.keep, CT.keep]
def phs_ref08_polygon_L0 : List Src := []
def T_ref08_polygon_L0 (r u : Nat) (m B : Int) (K F : Nat) (J E : Nat → Nat) (I L : Nat) (x : V_ref08_polygon_L0) (F0 : Nat → List AV) : List AV × Heap := ((AV.top :: AV.float r :: AV.ptr (some ⟨0, 0, .lit 0⟩) :: AV.top :: AV.ptr (some ⟨1, 0, .lit 0⟩) :: AV.top :: AV.float u :: AV.top :: AV.ptr (some ⟨2, 0, .lit 0⟩) :: AV.float x.v0 :: AV.int .i64 m :: AV.int .i64 x.v1 :: tpA 78 ([])), [⟨.flat [AV.int .u8 B, AV.float K, AV.view F 2 F0], 25, 0⟩, ⟨.flat [AV.float 0, AV.float 0, AV.float 0, AV.float 0], 31, 0⟩, ⟨.flat [AV.float I, AV.float L], 29, 0⟩])
def sh_ref08_polygon_L0 (r u : Nat) (m B : Int) (K F : Nat) (J E : Nat → Nat) (I L : Nat) (x : V_ref08_polygon_L0) : List AV × Heap := T_ref08_polygon_L0 r u m B K F J E I L x (fun j0 => [AV.float (J j0), AV.float (E j0)])
def step_ref08_polygon_L0 (m : Int) (F : Nat) (J E : Nat → Nat) (I L : Nat) (x : V_ref08_polygon_L0) : V_ref08_polygon_L0 := V_ref08_polygon_L0.mk (let x0 := Int.toNat (Int.tmod (IntKind.wrap .i64 (x.v1 + (1 : Int))) m); let x1 := E x0; let x2 := J x0; let x3 := s_ref02_Sub_1 x2 x1 I L; let x4 := s_ref02_Sub_0 x2 x1 I L; let x5 := E (Int.toNat x.v1); let x6 := J (Int.toNat x.v1); let x7 := s_ref02_Sub_1 x6 x5 I L; let x8 := s_ref02_Sub_0 x6 x5 I L; let x9 := fmul (s_ref02_Cross_0 x8 x7 x4 x3) (fadd (fadd (s_ref02_Dot_0 x8 x7 x8 x7) (s_ref02_Dot_0 x8 x7 x4 x3)) (s_ref02_Dot_0 x4 x3 x4 x3)); (bif (ieq x.v1 (0 : Int)) then x9 else (fadd x.v0 x9))) (IntKind.wrap .i64 (x.v1 + (1 : Int)))
def go_ref08_polygon_L0 (m : Int) (F : Nat) (J E : Nat → Nat) (I L : Nat) (x : V_ref08_polygon_L0) : Bool := (bif (!(ilt x.v1 m)) then false else true)
def ok_ref08_polygon_L0 (m : Int) (F : Nat) (J E : Nat → Nat) (I L : Nat) (x : V_ref08_polygon_L0) : Bool := let x0 := Int.tmod (IntKind.wrap .i64 (x.v1 + (1 : Int))) m; let x1 := ((ile (0 : Int) x0) && (Nat.blt (Int.toNat x0) F)) && ((!(ieq m (0 : Int))) && ((ile (0 : Int) x.v1) && (Nat.blt (Int.toNat x.v1) F))); (mrgB (!(ilt x.v1 m)) true (mrgB (ieq x.v1 (0 : Int)) x1 x1))
def L_ref08_polygon_L0 (m : Int) (F : Nat) (J E : Nat → Nat) (I L : Nat) (x : V_ref08_polygon_L0) : V_ref08_polygon_L0 := lastL (ok_ref08_polygon_L0 m F J E I L) (go_ref08_polygon_L0 m F J E I L) (step_ref08_polygon_L0 m F J E I L) x
def E_ref08_polygon_L0 (m : Int) (F : Nat) (J E : Nat → Nat) (I L : Nat) (x : V_ref08_polygon_L0) : Bool := endsL (ok_ref08_polygon_L0 m F J E I L) (go_ref08_polygon_L0 m F J E I L) (step_ref08_polygon_L0 m F J E I L) x
theorem all_ref08_polygon_L0 (r u : Nat) (m B : Int) (K F : Nat) (J E : Nat → Nat) (I L : Nat) (x : V_ref08_polygon_L0) : rnd Tryz.prog false menv115 [] [] 96 Ann.no (subC [1, 1, 1, 1, 1, 1, 1, 0, 1, 0, 0] (codeOf Tryz.f30)) 0 [⟨some 0, 0, 0, []⟩, ⟨some 1, 0, 0, []⟩, ⟨some 2, 0, 0, []⟩] tpl_ref08_polygon_L0 cts_ref08_polygon_L0 (true :: false :: false :: true :: false :: true :: false :: true :: false :: true :: false :: tpB 79 ([])) [false, false, false] (sh_ref08_polygon_L0 r u m B K F J E I L x) = (true, true, go_ref08_polygon_L0 m F J E I L x, ok_ref08_polygon_L0 m F J E I L x, true, sh_ref08_polygon_L0 r u m B K F J E I L (step_ref08_polygon_L0 m F J E I L x), true) := by kernel_rfl
def fam_ref08_polygon_L0 (r u : Nat) (m B : Int) (K F : Nat) (J E : Nat → Nat) (I L : Nat) : Fam Tryz.prog false menv115 [] [] 96 0 Ann.no (subC [1, 1, 1, 1, 1, 1, 1, 0, 1, 0, 0] (codeOf Tryz.f30)) V_ref08_polygon_L0 where
  sh := sh_ref08_polygon_L0 r u m B K F J E I L
  ok := ok_ref08_polygon_L0 m F J E I L
  go := go_ref08_polygon_L0 m F J E I L
  step := step_ref08_polygon_L0 m F J E I L
  chg := (true :: false :: false :: true :: false :: true :: false :: true :: false :: true :: false :: tpB 79 ([]))
  chgH := [false, false, false]
  tpl := tpl_ref08_polygon_L0
  cts := cts_ref08_polygon_L0
  keep := 0
  srcs := [⟨some 0, 0, 0, []⟩, ⟨some 1, 0, 0, []⟩, ⟨some 2, 0, 0, []⟩]
  ann := (annNo (subC [1, 1, 1, 1, 1, 1, 1, 0, 1, 0, 0] (codeOf Tryz.f30)))
  le := by kernel_rfl
  kept := by kernel_rfl
  keptB := by kernel_rfl
  all := all_ref08_polygon_L0 r u m B K F J E I L
  len := fun x => by kernel_rfl
  head := fun x y => by kernel_rfl
  con := fun x y => by kernel_rfl
  conH := fun x y => by kernel_rfl
def F_ref08_polygon_L0 : St → Option Ch := fun s => cond (Nat.beq s.tm.length 90 && Nat.beq s.H.length 3) (tkTops 1 (alL tpl_ref08_polygon_L0 s.tm) fun t0 => tkCons t0 fun g t1 => tkF g fun s0 => tkCons t1 fun z t2 => tkPtr 0 0 0 z <| tkTops 1 t2 fun t3 => tkCons t3 fun M t4 => tkPtr 1 0 0 M <| tkTops 1 t4 fun t5 => tkCons t5 fun aa t6 => tkF aa fun s1 => tkTops 1 t6 fun t7 => tkCons t7 fun af t8 => tkPtr 2 0 0 af <| tkCons t8 fun ab t9 => tkF ab fun s2 => tkCons t9 fun ak t10 => tkI .i64 ak fun s3 => tkCons t10 fun aj t11 => tkI .i64 aj fun s4 => tkTops 78 t11 fun t12 => tkNil t12 <| tkCons (alH cts_ref08_polygon_L0 (s.H ++ List.map phan phs_ref08_polygon_L0)) fun b13 t13 => tkFlat 25 0 b13 fun m13 => tkCons m13 fun ar t14 => tkI .u8 ar fun s5 => tkCons t14 fun ah t15 => tkF ah fun s6 => tkCons t15 fun ai t16 => tkView 2 ai fun s7 f0 => tkNil t16 <| tkCons t13 fun b17 t17 => tkFlat 31 0 b17 fun m17 => tkCons m17 fun ax t18 => tkFL 0 ax <| tkCons t18 fun an t19 => tkFL 0 an <| tkCons t19 fun ao t20 => tkFL 0 ao <| tkCons t20 fun ap t21 => tkFL 0 ap <| tkNil t21 <| tkCons t17 fun b22 t22 => tkFlat 29 0 b22 fun m22 => tkCons m22 fun ay t23 => tkF ay fun s14 => tkCons t23 fun aq t24 => tkF aq fun s15 => tkNil t24 <| tkNil t22 <| Fam.out (fam_ref08_polygon_L0 s0 s1 s3 s5 s6 s7 (fL f0 0) (fL f0 1) s14 s15) s (allB fun i => isNrm [Ck.f, Ck.f] (f0 i)) (V_ref08_polygon_L0.mk s2 s4)) none
theorem F_ref08_polygon_L0_ok : ∀ s ch, F_ref08_polygon_L0 s = some ch → AllI s ch ∧ LoopSpec Tryz.prog false 0 (subC [1, 1, 1, 1, 1, 1, 1, 0, 1, 0, 0] (codeOf Tryz.f30)) s (sel ch) := by
  intro s ch h
  unfold F_ref08_polygon_L0 at h
  obtain ⟨hl, h0⟩ := cond_some h rfl
  clear h
  obtain ⟨hl, hb⟩ := and_beq2 hl
  obtain ⟨t0, e0, h1⟩ := tkTops_some h0
  obtain ⟨g, t1, rfl, h2⟩ := tkCons_some h1
  obtain ⟨s0, rfl, h3⟩ := tkF_some h2
  obtain ⟨z, t2, rfl, h4⟩ := tkCons_some h3
  obtain ⟨rfl, h5⟩ := tkPtr_some h4
  obtain ⟨t3, rfl, h6⟩ := tkTops_some h5
  obtain ⟨M, t4, rfl, h7⟩ := tkCons_some h6
  obtain ⟨rfl, h8⟩ := tkPtr_some h7
  obtain ⟨t5, rfl, h9⟩ := tkTops_some h8
  obtain ⟨aa, t6, rfl, h10⟩ := tkCons_some h9
  obtain ⟨s1, rfl, h11⟩ := tkF_some h10
  obtain ⟨t7, rfl, h12⟩ := tkTops_some h11
  obtain ⟨af, t8, rfl, h13⟩ := tkCons_some h12
  obtain ⟨rfl, h14⟩ := tkPtr_some h13
  obtain ⟨ab, t9, rfl, h15⟩ := tkCons_some h14
  obtain ⟨s2, rfl, h16⟩ := tkF_some h15
  obtain ⟨ak, t10, rfl, h17⟩ := tkCons_some h16
  obtain ⟨s3, rfl, h18⟩ := tkI_some h17
  obtain ⟨aj, t11, rfl, h19⟩ := tkCons_some h18
  obtain ⟨s4, rfl, h20⟩ := tkI_some h19
  obtain ⟨t12, rfl, h21⟩ := tkTops_some h20
  obtain ⟨rfl, h22⟩ := tkNil_some h21
  obtain ⟨b13, t13, eH, h23⟩ := tkCons_some h22
  obtain ⟨m13, rfl, h24⟩ := tkFlat_some h23
  obtain ⟨ar, t14, rfl, h25⟩ := tkCons_some h24
  obtain ⟨s5, rfl, h26⟩ := tkI_some h25
  obtain ⟨ah, t15, rfl, h27⟩ := tkCons_some h26
  obtain ⟨s6, rfl, h28⟩ := tkF_some h27
  obtain ⟨ai, t16, rfl, h29⟩ := tkCons_some h28
  obtain ⟨s7, f0, rfl, h30⟩ := tkView_some h29
  obtain ⟨rfl, h31⟩ := tkNil_some h30
  obtain ⟨b17, t17, rfl, h32⟩ := tkCons_some h31
  obtain ⟨m17, rfl, h33⟩ := tkFlat_some h32
  obtain ⟨ax, t18, rfl, h34⟩ := tkCons_some h33
  obtain ⟨rfl, h35⟩ := tkFL_some h34
  obtain ⟨an, t19, rfl, h36⟩ := tkCons_some h35
  obtain ⟨rfl, h37⟩ := tkFL_some h36
  obtain ⟨ao, t20, rfl, h38⟩ := tkCons_some h37
  obtain ⟨rfl, h39⟩ := tkFL_some h38
  obtain ⟨ap, t21, rfl, h40⟩ := tkCons_some h39
  obtain ⟨rfl, h41⟩ := tkFL_some h40
  obtain ⟨rfl, h42⟩ := tkNil_some h41
  obtain ⟨b22, t22, rfl, h43⟩ := tkCons_some h42
  obtain ⟨m22, rfl, h44⟩ := tkFlat_some h43
  obtain ⟨ay, t23, rfl, h45⟩ := tkCons_some h44
  obtain ⟨s14, rfl, h46⟩ := tkF_some h45
  obtain ⟨aq, t24, rfl, h47⟩ := tkCons_some h46
  obtain ⟨s15, rfl, h48⟩ := tkF_some h47
  obtain ⟨rfl, h49⟩ := tkNil_some h48
  obtain ⟨rfl, h50⟩ := tkNil_some h49
  refine Fam.spec menv115_ok (fam_ref08_polygon_L0 s0 s1 s3 s5 s6 s7 (fL f0 0) (fL f0 1) s14 s15) (phs := phs_ref08_polygon_L0) (hl.trans (by kernel_rfl)) (hb.trans (by kernel_rfl)) ?_ ?_ h50
  · rw [← hdr_alH cts_ref08_polygon_L0 (s.H ++ List.map phan phs_ref08_polygon_L0), eH]; kernel_rfl
  · intro hq
    have hq0 := hq
    have n0 := nrm_fun hq0
    show sh_ref08_polygon_L0 s0 s1 s3 s5 s6 s7 (fL f0 0) (fL f0 1) s14 s15 (V_ref08_polygon_L0.mk s2 s4) = (alL tpl_ref08_polygon_L0 s.tm, alH cts_ref08_polygon_L0 (s.H ++ List.map phan phs_ref08_polygon_L0))
    rw [e0, eH]
    refine Eq.trans (show sh_ref08_polygon_L0 s0 s1 s3 s5 s6 s7 (fL f0 0) (fL f0 1) s14 s15 (V_ref08_polygon_L0.mk s2 s4) = T_ref08_polygon_L0 s0 s1 s3 s5 s6 s7 (fL f0 0) (fL f0 1) s14 s15 (V_ref08_polygon_L0.mk s2 s4) (fun i => mkN [Ck.f, Ck.f] (f0 i) 0) by kernel_rfl) ?_
    rw [n0]
    kernel_rfl
theorem ann_ref08_polygon : FnOk Tryz.prog false 0 Tryz.f30 (Ann.two Ann.no (Ann.two Ann.no (Ann.two Ann.no (Ann.two Ann.no (Ann.two Ann.no (Ann.two Ann.no (Ann.two Ann.no (Ann.two (Ann.two Ann.no (Ann.one (Ann.loop F_ref08_polygon_L0))) Ann.no)))))))) := (fnOk_of (c := codeOf Tryz.f30) (by kernel_rfl) (annSeq (a := (subC [0] (codeOf Tryz.f30))) (b := (subC [1] (codeOf Tryz.f30))) (by kernel_rfl) (annNo (subC [0] (codeOf Tryz.f30))) (annSeq (a := (subC [1, 0] (codeOf Tryz.f30))) (b := (subC [1, 1] (codeOf Tryz.f30))) (by kernel_rfl) (annNo (subC [1, 0] (codeOf Tryz.f30))) (annSeq (a := (subC [1, 1, 0] (codeOf Tryz.f30))) (b := (subC [1, 1, 1] (codeOf Tryz.f30))) (by kernel_rfl) (annNo (subC [1, 1, 0] (codeOf Tryz.f30))) (annSeq (a := (subC [1, 1, 1, 0] (codeOf Tryz.f30))) (b := (subC [1, 1, 1, 1] (codeOf Tryz.f30))) (by kernel_rfl) (annNo (subC [1, 1, 1, 0] (codeOf Tryz.f30))) (annSeq (a := (subC [1, 1, 1, 1, 0] (codeOf Tryz.f30))) (b := (subC [1, 1, 1, 1, 1] (codeOf Tryz.f30))) (by kernel_rfl) (annNo (subC [1, 1, 1, 1, 0] (codeOf Tryz.f30))) (annSeq (a := (subC [1, 1, 1, 1, 1, 0] (codeOf Tryz.f30))) (b := (subC [1, 1, 1, 1, 1, 1] (codeOf Tryz.f30))) (by kernel_rfl) (annNo (subC [1, 1, 1, 1, 1, 0] (codeOf Tryz.f30))) (annSeq (a := (subC [1, 1, 1, 1, 1, 1, 0] (codeOf Tryz.f30))) (b := (subC [1, 1, 1, 1, 1, 1, 1] (codeOf Tryz.f30))) (by kernel_rfl) (annNo (subC [1, 1, 1, 1, 1, 1, 0] (codeOf Tryz.f30))) (annSeq (a := (subC [1, 1, 1, 1, 1, 1, 1, 0] (codeOf Tryz.f30))) (b := (subC [1, 1, 1, 1, 1, 1, 1, 1] (codeOf Tryz.f30))) (by kernel_rfl) (annSeq (a := (subC [1, 1, 1, 1, 1, 1, 1, 0, 0] (codeOf Tryz.f30))) (b := (subC [1, 1, 1, 1, 1, 1, 1, 0, 1] (codeOf Tryz.f30))) (by kernel_rfl) (annNo (subC [1, 1, 1, 1, 1, 1, 1, 0, 0] (codeOf Tryz.f30))) (annBlock (a := (subC [1, 1, 1, 1, 1, 1, 1, 0, 1, 0] (codeOf Tryz.f30))) (i := 0) (by kernel_rfl) (annLoop (a := (subC [1, 1, 1, 1, 1, 1, 1, 0, 1, 0, 0] (codeOf Tryz.f30))) (by kernel_rfl) F_ref08_polygon_L0_ok))) (annNo (subC [1, 1, 1, 1, 1, 1, 1, 1] (codeOf Tryz.f30))))))))))))
def s_ref08_polygon_0 (e : Int) (g k : Nat) (n p : Nat → Nat) (j : Nat) : Nat := (bif (!(ieq (s_ref06_Area_1 k n p) (0 : Int))) then 0 else (bif (!(ieq (s_ref06_Centre_2 k n p) (0 : Int))) then 0 else (fmul j (s_ref06_Area_0 k n p))))
def s_ref08_polygon_1 (e : Int) (g k : Nat) (n p : Nat → Nat) (j : Nat) : Nat := (bif (!(ieq (s_ref06_Area_1 k n p) (0 : Int))) then 0 else (bif (!(ieq (s_ref06_Centre_2 k n p) (0 : Int))) then 0 else (fmul j (fdiv ((L_ref08_polygon_L0 (Int.ofNat k) k n p (s_ref06_Centre_0 k n p) (s_ref06_Centre_1 k n p) (V_ref08_polygon_L0.mk 0 (0 : Int))).v0) 4622945017495814144))))
def s_ref08_polygon_2 (e : Int) (g k : Nat) (n p : Nat → Nat) (j : Nat) : Nat := (bif (!(ieq (s_ref06_Area_1 k n p) (0 : Int))) then 0 else (bif (!(ieq (s_ref06_Centre_2 k n p) (0 : Int))) then 0 else (s_ref06_Centre_0 k n p)))
def s_ref08_polygon_3 (e : Int) (g k : Nat) (n p : Nat → Nat) (j : Nat) : Nat := (bif (!(ieq (s_ref06_Area_1 k n p) (0 : Int))) then 0 else (bif (!(ieq (s_ref06_Centre_2 k n p) (0 : Int))) then 0 else (s_ref06_Centre_1 k n p)))
def s_ref08_polygon_4 (e : Int) (g k : Nat) (n p : Nat → Nat) (j : Nat) : Int := (bif (!(ieq (s_ref06_Area_1 k n p) (0 : Int))) then (s_ref06_Area_1 k n p) else (bif (!(ieq (s_ref06_Centre_2 k n p) (0 : Int))) then (s_ref06_Centre_2 k n p) else (0 : Int)))
def q_ref08_polygon (e : Int) (g k : Nat) (n p : Nat → Nat) (j : Nat) : Bool := (let x0 := (allB fun _ => true) && (o_ref06_Area k n p); let x1 := ((allB fun _ => true) && (o_ref06_Centre k n p)) && x0; (mrgB (!(ieq (s_ref06_Area_1 k n p) (0 : Int))) x0 (mrgB (!(ieq (s_ref06_Centre_2 k n p) (0 : Int))) x1 (x1 && ((allB fun _ => true) && (E_ref08_polygon_L0 (Int.ofNat k) k n p (s_ref06_Centre_0 k n p) (s_ref06_Centre_1 k n p) (V_ref08_polygon_L0.mk 0 (0 : Int))))))))
theorem e_ref08_polygon (e : Int) (g k : Nat) (n p : Nat → Nat) (j : Nat) : outB (evFnM Tryz.prog false menv115 [] [] 96 (Ann.two Ann.no (Ann.two Ann.no (Ann.two Ann.no (Ann.two Ann.no (Ann.two Ann.no (Ann.two Ann.no (Ann.two Ann.no (Ann.two (Ann.two Ann.no (Ann.one (Ann.loop F_ref08_polygon_L0))) Ann.no)))))))) Tryz.f30 [AV.agg [AV.int .u8 e, AV.float g, AV.view k 2 (fun i0 => [AV.float (n i0), AV.float (p i0)])], AV.float j] []) = some (q_ref08_polygon e g k n p j, AV.tup [AV.agg [AV.float (s_ref08_polygon_0 e g k n p j), AV.float (s_ref08_polygon_1 e g k n p j), AV.float (s_ref08_polygon_2 e g k n p j), AV.float (s_ref08_polygon_3 e g k n p j)], AV.int .i64 (s_ref08_polygon_4 e g k n p j)]) := by kernel_rfl
def o_ref08_polygon (e : Int) (g k : Nat) (n p : Nat → Nat) (j : Nat) : Bool := (mrgB (!(ieq (s_ref06_Area_1 k n p) (0 : Int))) (o_ref06_Area k n p) (mrgB (!(ieq (s_ref06_Centre_2 k n p) (0 : Int))) ((o_ref06_Centre k n p) && (o_ref06_Area k n p)) (((o_ref06_Centre k n p) && (o_ref06_Area k n p)) && (E_ref08_polygon_L0 (Int.ofNat k) k n p (s_ref06_Centre_0 k n p) (s_ref06_Centre_1 k n p) (V_ref08_polygon_L0.mk 0 (0 : Int))))))
def S_ref08_polygon : List AV → Option (Ob × AV)
  | [AV.agg [AV.int .u8 e, AV.float g, AV.view k 2 D], AV.float j] => some (Ob.both (Ob.bit (allB fun i => isNrm [Ck.f, Ck.f] (D i))) (Ob.bit (o_ref08_polygon e g k (fL D 0) (fL D 1) j)), AV.tup [AV.agg [AV.float (s_ref08_polygon_0 e g k (fL D 0) (fL D 1) j), AV.float (s_ref08_polygon_1 e g k (fL D 0) (fL D 1) j), AV.float (s_ref08_polygon_2 e g k (fL D 0) (fL D 1) j), AV.float (s_ref08_polygon_3 e g k (fL D 0) (fL D 1) j)], AV.int .i64 (s_ref08_polygon_4 e g k (fL D 0) (fL D 1) j)])
  | _ => none
theorem ob_ref08_polygon (e : Int) (g k : Nat) (n p : Nat → Nat) (j : Nat) (ho : o_ref08_polygon e g k n p j = true) : q_ref08_polygon e g k n p j = true := by
  unfold q_ref08_polygon
  unfold o_ref08_polygon at ho
  simp only [allB_true, eqT_self, mrgB_self, Bool.true_and, Bool.and_true] at ho ⊢
  exact ho
theorem t_ref08_polygon : SOkM Tryz.prog false (30, fun args => match S_ref08_polygon args with | some (o, v) => some (o, v, []) | none => none) := SOkM.flat (N := 96) menv115_ok Tryz.func30 ann_ref08_polygon Tryz.call30 fun args o v h ho => by
  unfold S_ref08_polygon at h
  split at h
  · rename_i e g k D j
    cases h
    rw [Ob.both_ok, Bool.and_eq_true] at ho
    obtain ⟨hn, ho2⟩ := ho
    have n0 := hn
    simp only [Ob.ok] at n0
    replace n0 := nrm_fun n0
    have this := show outB (evFnM Tryz.prog false menv115 [] [] 96 (Ann.two Ann.no (Ann.two Ann.no (Ann.two Ann.no (Ann.two Ann.no (Ann.two Ann.no (Ann.two Ann.no (Ann.two Ann.no (Ann.two (Ann.two Ann.no (Ann.one (Ann.loop F_ref08_polygon_L0))) Ann.no)))))))) Tryz.f30 [AV.agg [AV.int .u8 e, AV.float g, AV.view k 2 (fun i => mkN [Ck.f, Ck.f] (D i) 0)], AV.float j] []) = _ from e_ref08_polygon e g k (fL D 0) (fL D 1) j
    rw [(ob_ref08_polygon e g k (fL D 0) (fL D 1) j ho2)] at this
    rw [n0] at this
    exact ⟨this, rfl⟩
  · cases h
def c_ref08_polygon : SFM := fun args => match S_ref08_polygon args with | some (o, v) => some (o, v, []) | none => none
theorem c_ref08_polygon_ok : SOkM Tryz.prog false (30, c_ref08_polygon) := t_ref08_polygon
def mss112 : List (FuncId × SFM) := (30, c_ref08_polygon) :: mss111
def menv116 : EnvM := mkEnvM mxs mss112 mws5
theorem mss112_ok : All (SOkM Tryz.prog false) mss112 := All.cons c_ref08_polygon_ok mss111_ok
theorem menv116_ok : menv116.Ok Tryz.prog false := mkEnvM_ok mxs_ok mss112_ok mws5_ok
-- tumble/tumbleref08.Of
theorem ann_ref08_Of : FnOk Tryz.prog false 0 Tryz.f8 Ann.no := (fnNo _)
def s_ref08_Of_0 (e : Int) (g k : Nat) (n p : Nat → Nat) (j : Nat) : Nat := (bif (!(ieq (s_ref07_Check_0 e g k n p) (0 : Int))) then 0 else (bif (!((fle 0 j) && (fle j 4787326403894837248))) then 0 else (bif (ieq e (1 : Int)) then (s_ref08_told_0 (s_ref08_circle_0 e g k n p j) (s_ref08_circle_1 e g k n p j) (s_ref08_circle_2 e g k n p j) (s_ref08_circle_3 e g k n p j)) else (bif (ieq e (2 : Int)) then (s_ref08_told_0 (s_ref08_capsule_0 e g k n p j) (s_ref08_capsule_1 e g k n p j) (s_ref08_capsule_2 e g k n p j) (s_ref08_capsule_3 e g k n p j)) else (bif (!(ieq (s_ref08_polygon_4 e g k n p j) (0 : Int))) then 0 else (s_ref08_told_0 (s_ref08_polygon_0 e g k n p j) (s_ref08_polygon_1 e g k n p j) (s_ref08_polygon_2 e g k n p j) (s_ref08_polygon_3 e g k n p j)))))))
def s_ref08_Of_1 (e : Int) (g k : Nat) (n p : Nat → Nat) (j : Nat) : Nat := (bif (!(ieq (s_ref07_Check_0 e g k n p) (0 : Int))) then 0 else (bif (!((fle 0 j) && (fle j 4787326403894837248))) then 0 else (bif (ieq e (1 : Int)) then (s_ref08_told_1 (s_ref08_circle_0 e g k n p j) (s_ref08_circle_1 e g k n p j) (s_ref08_circle_2 e g k n p j) (s_ref08_circle_3 e g k n p j)) else (bif (ieq e (2 : Int)) then (s_ref08_told_1 (s_ref08_capsule_0 e g k n p j) (s_ref08_capsule_1 e g k n p j) (s_ref08_capsule_2 e g k n p j) (s_ref08_capsule_3 e g k n p j)) else (bif (!(ieq (s_ref08_polygon_4 e g k n p j) (0 : Int))) then 0 else (s_ref08_told_1 (s_ref08_polygon_0 e g k n p j) (s_ref08_polygon_1 e g k n p j) (s_ref08_polygon_2 e g k n p j) (s_ref08_polygon_3 e g k n p j)))))))
def s_ref08_Of_2 (e : Int) (g k : Nat) (n p : Nat → Nat) (j : Nat) : Nat := (bif (!(ieq (s_ref07_Check_0 e g k n p) (0 : Int))) then 0 else (bif (!((fle 0 j) && (fle j 4787326403894837248))) then 0 else (bif (ieq e (1 : Int)) then (s_ref08_told_2 (s_ref08_circle_0 e g k n p j) (s_ref08_circle_1 e g k n p j) (s_ref08_circle_2 e g k n p j) (s_ref08_circle_3 e g k n p j)) else (bif (ieq e (2 : Int)) then (s_ref08_told_2 (s_ref08_capsule_0 e g k n p j) (s_ref08_capsule_1 e g k n p j) (s_ref08_capsule_2 e g k n p j) (s_ref08_capsule_3 e g k n p j)) else (bif (!(ieq (s_ref08_polygon_4 e g k n p j) (0 : Int))) then 0 else (s_ref08_told_2 (s_ref08_polygon_0 e g k n p j) (s_ref08_polygon_1 e g k n p j) (s_ref08_polygon_2 e g k n p j) (s_ref08_polygon_3 e g k n p j)))))))
def s_ref08_Of_3 (e : Int) (g k : Nat) (n p : Nat → Nat) (j : Nat) : Nat := (bif (!(ieq (s_ref07_Check_0 e g k n p) (0 : Int))) then 0 else (bif (!((fle 0 j) && (fle j 4787326403894837248))) then 0 else (bif (ieq e (1 : Int)) then (s_ref08_told_3 (s_ref08_circle_0 e g k n p j) (s_ref08_circle_1 e g k n p j) (s_ref08_circle_2 e g k n p j) (s_ref08_circle_3 e g k n p j)) else (bif (ieq e (2 : Int)) then (s_ref08_told_3 (s_ref08_capsule_0 e g k n p j) (s_ref08_capsule_1 e g k n p j) (s_ref08_capsule_2 e g k n p j) (s_ref08_capsule_3 e g k n p j)) else (bif (!(ieq (s_ref08_polygon_4 e g k n p j) (0 : Int))) then 0 else (s_ref08_told_3 (s_ref08_polygon_0 e g k n p j) (s_ref08_polygon_1 e g k n p j) (s_ref08_polygon_2 e g k n p j) (s_ref08_polygon_3 e g k n p j)))))))
def s_ref08_Of_4 (e : Int) (g k : Nat) (n p : Nat → Nat) (j : Nat) : Int := let x0 := s_ref08_polygon_4 e g k n p j; let x1 := s_ref07_Check_0 e g k n p; (bif (!(ieq x1 (0 : Int))) then x1 else (bif (!((fle 0 j) && (fle j 4787326403894837248))) then (5 : Int) else (bif (ieq e (1 : Int)) then (s_ref08_told_4 (s_ref08_circle_0 e g k n p j) (s_ref08_circle_1 e g k n p j) (s_ref08_circle_2 e g k n p j) (s_ref08_circle_3 e g k n p j)) else (bif (ieq e (2 : Int)) then (s_ref08_told_4 (s_ref08_capsule_0 e g k n p j) (s_ref08_capsule_1 e g k n p j) (s_ref08_capsule_2 e g k n p j) (s_ref08_capsule_3 e g k n p j)) else (bif (!(ieq x0 (0 : Int))) then x0 else (s_ref08_told_4 (s_ref08_polygon_0 e g k n p j) (s_ref08_polygon_1 e g k n p j) (s_ref08_polygon_2 e g k n p j) (s_ref08_polygon_3 e g k n p j)))))))
def q_ref08_Of (e : Int) (g k : Nat) (n p : Nat → Nat) (j : Nat) : Bool := (let x0 := (allB fun _ => true) && (o_ref07_Check e g k n p); let x1 := mrgB (fle 0 j) x0 x0; let x2 := ((allB fun _ => true) && (o_ref08_polygon e g k n p j)) && x1; (mrgB (!(ieq (s_ref07_Check_0 e g k n p) (0 : Int))) x0 (mrgB (!((fle 0 j) && (fle j 4787326403894837248))) x1 (mrgB (ieq e (1 : Int)) (((allB fun _ => true) && (Nat.blt 0 k)) && x1) (mrgB (ieq e (2 : Int)) (((allB fun _ => true) && ((Nat.blt 1 k) && (Nat.blt 0 k))) && x1) (mrgB (!(ieq (s_ref08_polygon_4 e g k n p j) (0 : Int))) x2 x2))))))
theorem e_ref08_Of (e : Int) (g k : Nat) (n p : Nat → Nat) (j : Nat) : outB (evFnM Tryz.prog false menv116 [] [] 96 Ann.no Tryz.f8 [AV.agg [AV.int .u8 e, AV.float g, AV.view k 2 (fun i0 => [AV.float (n i0), AV.float (p i0)])], AV.float j] []) = some (q_ref08_Of e g k n p j, AV.tup [AV.agg [AV.float (s_ref08_Of_0 e g k n p j), AV.float (s_ref08_Of_1 e g k n p j), AV.float (s_ref08_Of_2 e g k n p j), AV.float (s_ref08_Of_3 e g k n p j)], AV.int .i64 (s_ref08_Of_4 e g k n p j)]) := by kernel_rfl
def o_ref08_Of (e : Int) (g k : Nat) (n p : Nat → Nat) (j : Nat) : Bool := let x0 := o_ref07_Check e g k n p; let x1 := mrgB (fle 0 j) x0 x0; let x2 := (o_ref08_polygon e g k n p j) && x1; (mrgB (!(ieq (s_ref07_Check_0 e g k n p) (0 : Int))) x0 (mrgB (!((fle 0 j) && (fle j 4787326403894837248))) x1 (mrgB (ieq e (1 : Int)) ((Nat.blt 0 k) && x1) (mrgB (ieq e (2 : Int)) (((Nat.blt 1 k) && (Nat.blt 0 k)) && x1) (mrgB (!(ieq (s_ref08_polygon_4 e g k n p j) (0 : Int))) x2 x2)))))
def S_ref08_Of : List AV → Option (Ob × AV)
  | [AV.agg [AV.int .u8 e, AV.float g, AV.view k 2 D], AV.float j] => some (Ob.both (Ob.bit (allB fun i => isNrm [Ck.f, Ck.f] (D i))) (Ob.bit (o_ref08_Of e g k (fL D 0) (fL D 1) j)), AV.tup [AV.agg [AV.float (s_ref08_Of_0 e g k (fL D 0) (fL D 1) j), AV.float (s_ref08_Of_1 e g k (fL D 0) (fL D 1) j), AV.float (s_ref08_Of_2 e g k (fL D 0) (fL D 1) j), AV.float (s_ref08_Of_3 e g k (fL D 0) (fL D 1) j)], AV.int .i64 (s_ref08_Of_4 e g k (fL D 0) (fL D 1) j)])
  | _ => none
theorem ob_ref08_Of (e : Int) (g k : Nat) (n p : Nat → Nat) (j : Nat) (ho : o_ref08_Of e g k n p j = true) : q_ref08_Of e g k n p j = true := by
  unfold q_ref08_Of
  unfold o_ref08_Of at ho
  simp only [allB_true, eqT_self, mrgB_self, Bool.true_and, Bool.and_true] at ho ⊢
  exact ho
theorem t_ref08_Of : SOkM Tryz.prog false (8, fun args => match S_ref08_Of args with | some (o, v) => some (o, v, []) | none => none) := SOkM.flat (N := 96) menv116_ok Tryz.func8 ann_ref08_Of Tryz.call8 fun args o v h ho => by
  unfold S_ref08_Of at h
  split at h
  · rename_i e g k D j
    cases h
    rw [Ob.both_ok, Bool.and_eq_true] at ho
    obtain ⟨hn, ho2⟩ := ho
    have n0 := hn
    simp only [Ob.ok] at n0
    replace n0 := nrm_fun n0
    have this := show outB (evFnM Tryz.prog false menv116 [] [] 96 Ann.no Tryz.f8 [AV.agg [AV.int .u8 e, AV.float g, AV.view k 2 (fun i => mkN [Ck.f, Ck.f] (D i) 0)], AV.float j] []) = _ from e_ref08_Of e g k (fL D 0) (fL D 1) j
    rw [(ob_ref08_Of e g k (fL D 0) (fL D 1) j ho2)] at this
    rw [n0] at this
    exact ⟨this, rfl⟩
  · cases h
def c_ref08_Of : SFM := fun args => match S_ref08_Of args with | some (o, v) => some (o, v, []) | none => none
theorem c_ref08_Of_ok : SOkM Tryz.prog false (8, c_ref08_Of) := t_ref08_Of
def mss113 : List (FuncId × SFM) := (8, c_ref08_Of) :: mss112
def menv117 : EnvM := mkEnvM mxs mss113 mws5
theorem mss113_ok : All (SOkM Tryz.prog false) mss113 := All.cons c_ref08_Of_ok mss112_ok
theorem menv117_ok : menv117.Ok Tryz.prog false := mkEnvM_ok mxs_ok mss113_ok mws5_ok
end Go.Proofs.YtbkogihigehjlaaGreat
end
