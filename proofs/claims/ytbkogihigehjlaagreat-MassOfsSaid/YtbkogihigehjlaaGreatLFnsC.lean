/- The contracts of the functions that these laws reach, loops too, printed by a program of this work: each says what the Go function gives, up to which NaN. -/
import Derived.Test.YtbkogihigehjlaaGreatLFnsCB
set_option linter.unusedVariables false
set_option linter.unusedSimpArgs false
set_option maxRecDepth 100000
set_option maxHeartbeats 4000000
noncomputable section
namespace Go.Proofs.YtbkogihigehjlaaGreat
open Go.Lst
open Go.Sim (fadd fsub fmul fdiv fneg feq flt fle fsqrt cn nanb fabs fcps fsame feq_self cps_cn fabs_cn)
-- tumble/tumbleref02.Bits
theorem ann_ref02_Bits : FnOk Tryz.prog false 0 Tryz.f67 Ann.no := (fnNo _)
def s_ref02_Bits_0 (e : Nat) : Int := (bif (!(feq e e)) then (9221120237041090561 : Int) else (Int.ofNat e))
theorem e_ref02_Bits (e : Nat) : outB (evFnM Tryz.prog false menv117 [] [] 96 Ann.no Tryz.f67 [AV.float e] []) = some ((mrgB (!(feq e e)) true (!(nanb e))), AV.int .u64 (s_ref02_Bits_0 e)) := by kernel_rfl
def S_ref02_Bits : List AV → Option (Ob × AV)
  | [AV.float e] => some (Ob.tt, AV.int .u64 (s_ref02_Bits_0 e))
  | _ => none
theorem ob_ref02_Bits (e : Nat) : (mrgB (!(feq e e)) true (!(nanb e))) = true := by show ((mrgB (!(feq e e)) true (!(nanb e)))) = true; (try simp only [feq_self]) <;> (generalize (nanb e) = q0; cases q0 <;> rfl)
theorem t_ref02_Bits : SOkM Tryz.prog false (67, fun args => match S_ref02_Bits args with | some (o, v) => some (o, v, []) | none => none) := SOkM.flat (N := 96) menv117_ok Tryz.func67 ann_ref02_Bits Tryz.call67 fun args o v h ho => by
  unfold S_ref02_Bits at h
  split at h
  · rename_i e
    cases h
    have ho2 := ho
    have this := show outB (evFnM Tryz.prog false menv117 [] [] 96 Ann.no Tryz.f67 [AV.float e] []) = _ from e_ref02_Bits e
    rw [(ob_ref02_Bits e)] at this
    exact ⟨this, rfl⟩
  · cases h
def c_ref02_Bits : SFM := fun args => match S_ref02_Bits args with | some (o, v) => some (o, v, []) | none => none
theorem c_ref02_Bits_ok : SOkM Tryz.prog false (67, c_ref02_Bits) := t_ref02_Bits
def mss114 : List (FuncId × SFM) := (67, c_ref02_Bits) :: mss113
def menv118 : EnvM := mkEnvM mxs mss114 mws5
theorem mss114_ok : All (SOkM Tryz.prog false) mss114 := All.cons c_ref02_Bits_ok mss113_ok
theorem menv118_ok : menv118.Ok Tryz.prog false := mkEnvM_ok mxs_ok mss114_ok mws5_ok
-- tumble/tumbleref02.Is
theorem ann_ref02_Is : FnOk Tryz.prog false 0 Tryz.f31 Ann.no := (fnNo _)
def s_ref02_Is_0 (e g : Nat) : Bool := (ieq (s_ref02_Bits_0 e) (s_ref02_Bits_0 g))
theorem e_ref02_Is (e g : Nat) : outB (evFnM Tryz.prog false menv118 [] [] 96 Ann.no Tryz.f31 [AV.float e, AV.float g] []) = some (true, AV.bool (s_ref02_Is_0 e g)) := by kernel_rfl
def S_ref02_Is : List AV → Option (Ob × AV)
  | [AV.float e, AV.float g] => some (Ob.tt, AV.bool (s_ref02_Is_0 e g))
  | _ => none
theorem t_ref02_Is : SOkM Tryz.prog false (31, fun args => match S_ref02_Is args with | some (o, v) => some (o, v, []) | none => none) := SOkM.flat (N := 96) menv118_ok Tryz.func31 ann_ref02_Is Tryz.call31 fun args o v h ho => by
  unfold S_ref02_Is at h
  split at h
  · rename_i e g
    cases h
    have ho2 := ho
    have this := show outB (evFnM Tryz.prog false menv118 [] [] 96 Ann.no Tryz.f31 [AV.float e, AV.float g] []) = _ from e_ref02_Is e g
    exact ⟨this, rfl⟩
  · cases h
def c_ref02_Is : SFM := fun args => match S_ref02_Is args with | some (o, v) => some (o, v, []) | none => none
theorem c_ref02_Is_ok : SOkM Tryz.prog false (31, c_ref02_Is) := t_ref02_Is
def mss115 : List (FuncId × SFM) := (31, c_ref02_Is) :: mss114
def menv119 : EnvM := mkEnvM mxs mss115 mws5
theorem mss115_ok : All (SOkM Tryz.prog false) mss115 := All.cons c_ref02_Is_ok mss114_ok
theorem menv119_ok : menv119.Ok Tryz.prog false := mkEnvM_ok mxs_ok mss115_ok mws5_ok
-- tumble/tumbleref02.Same
theorem ann_ref02_Same : FnOk Tryz.prog false 0 Tryz.f32 Ann.no := (fnNo _)
def s_ref02_Same_0 (e g z j : Nat) : Bool := ((s_ref02_Is_0 e z) && (s_ref02_Is_0 g j))
theorem e_ref02_Same (e g z j : Nat) : outB (evFnM Tryz.prog false menv119 [] [] 96 Ann.no Tryz.f32 [AV.agg [AV.float e, AV.float g], AV.agg [AV.float z, AV.float j]] []) = some (true, AV.bool (s_ref02_Same_0 e g z j)) := by kernel_rfl
def S_ref02_Same : List AV → Option (Ob × AV)
  | [AV.agg [AV.float e, AV.float g], AV.agg [AV.float z, AV.float j]] => some (Ob.tt, AV.bool (s_ref02_Same_0 e g z j))
  | _ => none
theorem t_ref02_Same : SOkM Tryz.prog false (32, fun args => match S_ref02_Same args with | some (o, v) => some (o, v, []) | none => none) := SOkM.flat (N := 96) menv119_ok Tryz.func32 ann_ref02_Same Tryz.call32 fun args o v h ho => by
  unfold S_ref02_Same at h
  split at h
  · rename_i e g z j
    cases h
    have ho2 := ho
    have this := show outB (evFnM Tryz.prog false menv119 [] [] 96 Ann.no Tryz.f32 [AV.agg [AV.float e, AV.float g], AV.agg [AV.float z, AV.float j]] []) = _ from e_ref02_Same e g z j
    exact ⟨this, rfl⟩
  · cases h
def c_ref02_Same : SFM := fun args => match S_ref02_Same args with | some (o, v) => some (o, v, []) | none => none
theorem c_ref02_Same_ok : SOkM Tryz.prog false (32, c_ref02_Same) := t_ref02_Same
def mss116 : List (FuncId × SFM) := (32, c_ref02_Same) :: mss115
def menv120 : EnvM := mkEnvM mxs mss116 mws5
theorem mss116_ok : All (SOkM Tryz.prog false) mss116 := All.cons c_ref02_Same_ok mss115_ok
theorem menv120_ok : menv120.Ok Tryz.prog false := mkEnvM_ok mxs_ok mss116_ok mws5_ok
-- tumble/tumbleref08.Same
theorem ann_ref08_Same : FnOk Tryz.prog false 0 Tryz.f9 Ann.no := (fnNo _)
def s_ref08_Same_0 (e g z j M Y aa Z : Nat) : Bool := (((s_ref02_Is_0 e M) && (s_ref02_Is_0 g Y)) && (s_ref02_Same_0 z j aa Z))
theorem e_ref08_Same (e g z j M Y aa Z : Nat) : outB (evFnM Tryz.prog false menv120 [] [] 96 Ann.no Tryz.f9 [AV.agg [AV.float e, AV.float g, AV.float z, AV.float j], AV.agg [AV.float M, AV.float Y, AV.float aa, AV.float Z]] []) = some (true, AV.bool (s_ref08_Same_0 e g z j M Y aa Z)) := by kernel_rfl
def S_ref08_Same : List AV → Option (Ob × AV)
  | [AV.agg [AV.float e, AV.float g, AV.float z, AV.float j], AV.agg [AV.float M, AV.float Y, AV.float aa, AV.float Z]] => some (Ob.tt, AV.bool (s_ref08_Same_0 e g z j M Y aa Z))
  | _ => none
theorem t_ref08_Same : SOkM Tryz.prog false (9, fun args => match S_ref08_Same args with | some (o, v) => some (o, v, []) | none => none) := SOkM.flat (N := 96) menv120_ok Tryz.func9 ann_ref08_Same Tryz.call9 fun args o v h ho => by
  unfold S_ref08_Same at h
  split at h
  · rename_i e g z j M Y aa Z
    cases h
    have ho2 := ho
    have this := show outB (evFnM Tryz.prog false menv120 [] [] 96 Ann.no Tryz.f9 [AV.agg [AV.float e, AV.float g, AV.float z, AV.float j], AV.agg [AV.float M, AV.float Y, AV.float aa, AV.float Z]] []) = _ from e_ref08_Same e g z j M Y aa Z
    exact ⟨this, rfl⟩
  · cases h
def c_ref08_Same : SFM := fun args => match S_ref08_Same args with | some (o, v) => some (o, v, []) | none => none
theorem c_ref08_Same_ok : SOkM Tryz.prog false (9, c_ref08_Same) := t_ref08_Same
def mss117 : List (FuncId × SFM) := (9, c_ref08_Same) :: mss116
def menv121 : EnvM := mkEnvM mxs mss117 mws5
theorem mss117_ok : All (SOkM Tryz.prog false) mss117 := All.cons c_ref08_Same_ok mss116_ok
theorem menv121_ok : menv121.Ok Tryz.prog false := mkEnvM_ok mxs_ok mss117_ok mws5_ok
-- tumble/tumblelaw08.kept
-- a loop of tumble/tumblelaw08.kept
structure V_law08_kept_L0 where
  v0 : Int
def tpl_law08_kept_L0 : List AV := (AV.top :: AV.top :: AV.nul :: AV.nul :: AV.top :: AV.nul :: AV.nul :: tpA 47 ([]))
def cts_law08_kept_L0 : List CT := [CT.keep, CT.keep, CT.keep]
def phs_law08_kept_L0 : List Src := []
def T_law08_kept_L0 (r u m : Nat) (B K : Nat → Nat) (F : Int) (J E : Nat) (I : Int) (L Q : Nat) (S T : Nat → Nat) (x : V_law08_kept_L0) (F0 F1 : Nat → List AV) : List AV × Heap := ((AV.top :: AV.top :: AV.ptr (some ⟨1, 0, .lit 0⟩) :: AV.ptr (some ⟨2, 0, .lit 0⟩) :: AV.top :: AV.lst 0 0 2 r u :: AV.int .i64 x.v0 :: tpA 47 ([])), [⟨.sym m 2 F0, 29, 0⟩, ⟨.flat [AV.int .u8 F, AV.float J, AV.lst 0 0 2 E u], 25, 0⟩, ⟨.flat [AV.int .u8 I, AV.float L, AV.view Q 2 F1], 25, 0⟩])
def sh_law08_kept_L0 (r u m : Nat) (B K : Nat → Nat) (F : Int) (J E : Nat) (I : Int) (L Q : Nat) (S T : Nat → Nat) (x : V_law08_kept_L0) : List AV × Heap := T_law08_kept_L0 r u m B K F J E I L Q S T x (fun j0 => [AV.float (B j0), AV.float (K j0)]) (fun j0 => [AV.float (S j0), AV.float (T j0)])
def step_law08_kept_L0 (m : Nat) (B K : Nat → Nat) (E Q : Nat) (S T : Nat → Nat) (x : V_law08_kept_L0) : V_law08_kept_L0 := V_law08_kept_L0.mk (IntKind.wrap .i64 (x.v0 + (1 : Int)))
def go_law08_kept_L0 (m : Nat) (B K : Nat → Nat) (E Q : Nat) (S T : Nat → Nat) (x : V_law08_kept_L0) : Bool := (bif (bif (!(ilt x.v0 (Int.ofNat Q))) then false else (!(s_ref02_Same_0 (B (Int.toNat x.v0)) (K (Int.toNat x.v0)) (S (Int.toNat x.v0)) (T (Int.toNat x.v0))))) then false else (bif (!(ilt x.v0 (Int.ofNat Q))) then false else true))
def ok_law08_kept_L0 (m : Nat) (B K : Nat → Nat) (E Q : Nat) (S T : Nat → Nat) (x : V_law08_kept_L0) : Bool := let x0 := ((ile (0 : Int) x.v0) && (Nat.blt (Int.toNat x.v0) Q)) && ((Nat.blt (Int.toNat x.v0) m) && ((ile (0 : Int) x.v0) && (Nat.blt (Int.toNat x.v0) E))); let x1 := !(ilt x.v0 (Int.ofNat Q)); (mrgB (bif x1 then false else (!(s_ref02_Same_0 (B (Int.toNat x.v0)) (K (Int.toNat x.v0)) (S (Int.toNat x.v0)) (T (Int.toNat x.v0))))) x0 (mrgB x1 true x0))
def L_law08_kept_L0 (m : Nat) (B K : Nat → Nat) (E Q : Nat) (S T : Nat → Nat) (x : V_law08_kept_L0) : V_law08_kept_L0 := lastL (ok_law08_kept_L0 m B K E Q S T) (go_law08_kept_L0 m B K E Q S T) (step_law08_kept_L0 m B K E Q S T) x
def E_law08_kept_L0 (m : Nat) (B K : Nat → Nat) (E Q : Nat) (S T : Nat → Nat) (x : V_law08_kept_L0) : Bool := endsL (ok_law08_kept_L0 m B K E Q S T) (go_law08_kept_L0 m B K E Q S T) (step_law08_kept_L0 m B K E Q S T) x
theorem all_law08_kept_L0 (r u m : Nat) (B K : Nat → Nat) (F : Int) (J E : Nat) (I : Int) (L Q : Nat) (S T : Nat → Nat) (x : V_law08_kept_L0) : rnd Tryz.prog false menv121 [] [] 96 Ann.no (subC [1, 1, 0, 1, 0, 0] (codeOf Tryz.f10)) 1 [⟨some 1, 0, 0, []⟩, ⟨some 2, 0, 0, []⟩] tpl_law08_kept_L0 cts_law08_kept_L0 (true :: true :: false :: false :: true :: false :: tpB 48 ([])) [false, false, false] (sh_law08_kept_L0 r u m B K F J E I L Q S T x) = (true, true, go_law08_kept_L0 m B K E Q S T x, ok_law08_kept_L0 m B K E Q S T x, true, sh_law08_kept_L0 r u m B K F J E I L Q S T (step_law08_kept_L0 m B K E Q S T x), true) := by kernel_rfl
def fam_law08_kept_L0 (r u m : Nat) (B K : Nat → Nat) (F : Int) (J E : Nat) (I : Int) (L Q : Nat) (S T : Nat → Nat) : Fam Tryz.prog false menv121 [] [] 96 1 Ann.no (subC [1, 1, 0, 1, 0, 0] (codeOf Tryz.f10)) V_law08_kept_L0 where
  sh := sh_law08_kept_L0 r u m B K F J E I L Q S T
  ok := ok_law08_kept_L0 m B K E Q S T
  go := go_law08_kept_L0 m B K E Q S T
  step := step_law08_kept_L0 m B K E Q S T
  chg := (true :: true :: false :: false :: true :: false :: tpB 48 ([]))
  chgH := [false, false, false]
  tpl := tpl_law08_kept_L0
  cts := cts_law08_kept_L0
  keep := 1
  srcs := [⟨some 1, 0, 0, []⟩, ⟨some 2, 0, 0, []⟩]
  ann := (annNo (subC [1, 1, 0, 1, 0, 0] (codeOf Tryz.f10)))
  le := by kernel_rfl
  kept := by kernel_rfl
  keptB := by kernel_rfl
  all := all_law08_kept_L0 r u m B K F J E I L Q S T
  len := fun x => by kernel_rfl
  head := fun x y => by kernel_rfl
  con := fun x y => by kernel_rfl
  conH := fun x y => by kernel_rfl
def F_law08_kept_L0 : St → Option Ch := fun s => cond (Nat.beq s.tm.length 54 && Nat.beq s.H.length 3) (tkTops 2 (alL tpl_law08_kept_L0 s.tm) fun t0 => tkCons t0 fun g t1 => tkPtr 1 0 0 g <| tkCons t1 fun z t2 => tkPtr 2 0 0 z <| tkTops 1 t2 fun t3 => tkCons t3 fun M t4 => tkLst 0 0 2 M fun s0 s1 => tkCons t4 fun Y t5 => tkI .i64 Y fun s2 => tkTops 47 t5 fun t6 => tkNil t6 <| tkCons (alH cts_law08_kept_L0 (s.H ++ List.map phan phs_law08_kept_L0)) fun b7 t7 => tkSym 29 0 2 b7 fun s3 f0 => tkCons t7 fun b8 t8 => tkFlat 25 0 b8 fun m8 => tkCons m8 fun ab t9 => tkI .u8 ab fun s6 => tkCons t9 fun ak t10 => tkF ak fun s7 => tkCons t10 fun aj t11 => tkLst 0 0 2 aj fun s8 s9 => tkNil t11 <| tkCons t8 fun b12 t12 => tkFlat 25 0 b12 fun m12 => tkCons m12 fun am t13 => tkI .u8 am fun s10 => tkCons t13 fun ar t14 => tkF ar fun s11 => tkCons t14 fun ah t15 => tkView 2 ah fun s12 f1 => tkNil t15 <| tkNil t12 <| Fam.out (fam_law08_kept_L0 s0 s1 s3 (fL f0 0) (fL f0 1) s6 s7 s8 s10 s11 s12 (fL f1 0) (fL f1 1)) s (((allB fun i => isNrm [Ck.f, Ck.f] (f0 i)) && (allB fun i => isNrm [Ck.f, Ck.f] (f1 i))) && (eqT s9 s1)) (V_law08_kept_L0.mk s2)) none
theorem F_law08_kept_L0_ok : ∀ s ch, F_law08_kept_L0 s = some ch → AllI s ch ∧ LoopSpec Tryz.prog false 1 (subC [1, 1, 0, 1, 0, 0] (codeOf Tryz.f10)) s (sel ch) := by
  intro s ch h
  unfold F_law08_kept_L0 at h
  obtain ⟨hl, h0⟩ := cond_some h rfl
  clear h
  obtain ⟨hl, hb⟩ := and_beq2 hl
  obtain ⟨t0, e0, h1⟩ := tkTops_some h0
  obtain ⟨g, t1, rfl, h2⟩ := tkCons_some h1
  obtain ⟨rfl, h3⟩ := tkPtr_some h2
  obtain ⟨z, t2, rfl, h4⟩ := tkCons_some h3
  obtain ⟨rfl, h5⟩ := tkPtr_some h4
  obtain ⟨t3, rfl, h6⟩ := tkTops_some h5
  obtain ⟨M, t4, rfl, h7⟩ := tkCons_some h6
  obtain ⟨s0, s1, rfl, h8⟩ := tkLst_some h7
  obtain ⟨Y, t5, rfl, h9⟩ := tkCons_some h8
  obtain ⟨s2, rfl, h10⟩ := tkI_some h9
  obtain ⟨t6, rfl, h11⟩ := tkTops_some h10
  obtain ⟨rfl, h12⟩ := tkNil_some h11
  obtain ⟨b7, t7, eH, h13⟩ := tkCons_some h12
  obtain ⟨s3, f0, rfl, h14⟩ := tkSym_some h13
  obtain ⟨b8, t8, rfl, h15⟩ := tkCons_some h14
  obtain ⟨m8, rfl, h16⟩ := tkFlat_some h15
  obtain ⟨ab, t9, rfl, h17⟩ := tkCons_some h16
  obtain ⟨s6, rfl, h18⟩ := tkI_some h17
  obtain ⟨ak, t10, rfl, h19⟩ := tkCons_some h18
  obtain ⟨s7, rfl, h20⟩ := tkF_some h19
  obtain ⟨aj, t11, rfl, h21⟩ := tkCons_some h20
  obtain ⟨s8, s9, rfl, h22⟩ := tkLst_some h21
  obtain ⟨rfl, h23⟩ := tkNil_some h22
  obtain ⟨b12, t12, rfl, h24⟩ := tkCons_some h23
  obtain ⟨m12, rfl, h25⟩ := tkFlat_some h24
  obtain ⟨am, t13, rfl, h26⟩ := tkCons_some h25
  obtain ⟨s10, rfl, h27⟩ := tkI_some h26
  obtain ⟨ar, t14, rfl, h28⟩ := tkCons_some h27
  obtain ⟨s11, rfl, h29⟩ := tkF_some h28
  obtain ⟨ah, t15, rfl, h30⟩ := tkCons_some h29
  obtain ⟨s12, f1, rfl, h31⟩ := tkView_some h30
  obtain ⟨rfl, h32⟩ := tkNil_some h31
  obtain ⟨rfl, h33⟩ := tkNil_some h32
  refine Fam.spec menv121_ok (fam_law08_kept_L0 s0 s1 s3 (fL f0 0) (fL f0 1) s6 s7 s8 s10 s11 s12 (fL f1 0) (fL f1 1)) (phs := phs_law08_kept_L0) (hl.trans (by kernel_rfl)) (hb.trans (by kernel_rfl)) ?_ ?_ h33
  · rw [← hdr_alH cts_law08_kept_L0 (s.H ++ List.map phan phs_law08_kept_L0), eH]; kernel_rfl
  · intro hq
    simp only [Bool.and_eq_true] at hq
    obtain ⟨⟨hq0, hq1⟩, hq2⟩ := hq
    have n0 := nrm_fun hq0
    have n1 := nrm_fun hq1
    have hx := eqT_eq hq2; subst s9
    show sh_law08_kept_L0 s0 s1 s3 (fL f0 0) (fL f0 1) s6 s7 s8 s10 s11 s12 (fL f1 0) (fL f1 1) (V_law08_kept_L0.mk s2) = (alL tpl_law08_kept_L0 s.tm, alH cts_law08_kept_L0 (s.H ++ List.map phan phs_law08_kept_L0))
    rw [e0, eH]
    refine Eq.trans (show sh_law08_kept_L0 s0 s1 s3 (fL f0 0) (fL f0 1) s6 s7 s8 s10 s11 s12 (fL f1 0) (fL f1 1) (V_law08_kept_L0.mk s2) = T_law08_kept_L0 s0 s1 s3 (fL f0 0) (fL f0 1) s6 s7 s8 s10 s11 s12 (fL f1 0) (fL f1 1) (V_law08_kept_L0.mk s2) (fun i => mkN [Ck.f, Ck.f] (f0 i) 0) (fun i => mkN [Ck.f, Ck.f] (f1 i) 0) by kernel_rfl) ?_
    rw [n0, n1]
    kernel_rfl
theorem ann_law08_kept : FnOk Tryz.prog false 1 Tryz.f10 (Ann.two Ann.no (Ann.two Ann.no (Ann.two (Ann.two Ann.no (Ann.one (Ann.loop F_law08_kept_L0))) Ann.no))) := (fnOk_of (c := codeOf Tryz.f10) (by kernel_rfl) (annSeq (a := (subC [0] (codeOf Tryz.f10))) (b := (subC [1] (codeOf Tryz.f10))) (by kernel_rfl) (annNo (subC [0] (codeOf Tryz.f10))) (annSeq (a := (subC [1, 0] (codeOf Tryz.f10))) (b := (subC [1, 1] (codeOf Tryz.f10))) (by kernel_rfl) (annNo (subC [1, 0] (codeOf Tryz.f10))) (annSeq (a := (subC [1, 1, 0] (codeOf Tryz.f10))) (b := (subC [1, 1, 1] (codeOf Tryz.f10))) (by kernel_rfl) (annSeq (a := (subC [1, 1, 0, 0] (codeOf Tryz.f10))) (b := (subC [1, 1, 0, 1] (codeOf Tryz.f10))) (by kernel_rfl) (annNo (subC [1, 1, 0, 0] (codeOf Tryz.f10))) (annBlock (a := (subC [1, 1, 0, 1, 0] (codeOf Tryz.f10))) (i := 0) (by kernel_rfl) (annLoop (a := (subC [1, 1, 0, 1, 0, 0] (codeOf Tryz.f10))) (by kernel_rfl) F_law08_kept_L0_ok))) (annNo (subC [1, 1, 1] (codeOf Tryz.f10)))))))
def s_law08_kept_0 (e : Int) (g k V : Nat) (j : Int) (M O : Nat) (ac ad : Nat → Nat) (R : Nat) (W X : Nat → Nat) : Bool := let x0 := Int.toNat (IntKind.wrap .i64 ((Int.ofNat O) + (1 : Int))); let x1 := (L_law08_kept_L0 R W X k O ac ad (V_law08_kept_L0.mk (0 : Int))).v0; let x2 := Int.toNat x1; (bif (bif (!(ilt x1 (Int.ofNat O))) then false else (!(s_ref02_Same_0 (W x2) (X x2) (ac x2) (ad x2)))) then false else (((feq (W O) 4635118810238550016) && ((feq (X O) 0) && true)) && ((feq (W x0) 4635189178982727680) && ((feq (X x0) 0) && true))))
def q_law08_kept (e : Int) (g k V : Nat) (j : Int) (M O : Nat) (ac ad : Nat → Nat) (R : Nat) (W X : Nat → Nat) : Bool := (let x0 := IntKind.wrap .i64 ((Int.ofNat k) + (2 : Int)); let x1 := Int.toNat x0; let x2 := ((ile (0 : Int) x0) && ((Nat.ble x1 V) || (Nat.ble x1 k))) && ((((allB fun _ => true) && (allB fun _ => true)) && (eqT V V)) && (E_law08_kept_L0 R W X k O ac ad (V_law08_kept_L0.mk (0 : Int)))); let x3 := (Nat.blt O R) && ((Nat.blt O x1) && x2); let x4 := IntKind.wrap .i64 ((Int.ofNat O) + (1 : Int)); let x5 := Int.toNat x4; let x6 := (L_law08_kept_L0 R W X k O ac ad (V_law08_kept_L0.mk (0 : Int))).v0; let x7 := Int.toNat x6; (mrgB (bif (!(ilt x6 (Int.ofNat O))) then false else (!(s_ref02_Same_0 (W x7) (X x7) (ac x7) (ad x7)))) x2 (mrgB ((feq (W O) 4635118810238550016) && ((feq (X O) 0) && true)) ((Nat.blt x5 R) && (((ile (0 : Int) x4) && (Nat.blt x5 x1)) && x3)) x3)))
theorem e_law08_kept (e : Int) (g k V : Nat) (j : Int) (M O : Nat) (ac ad : Nat → Nat) (R : Nat) (W X : Nat → Nat) : outK [1, 2] (evFnM Tryz.prog false menv121 [] [] 96 (Ann.two Ann.no (Ann.two Ann.no (Ann.two (Ann.two Ann.no (Ann.one (Ann.loop F_law08_kept_L0))) Ann.no))) Tryz.f10 [AV.agg [AV.int .u8 e, AV.float g, AV.lst 0 0 2 k V], AV.agg [AV.int .u8 j, AV.float M, AV.view O 2 (fun i0 => [AV.float (ac i0), AV.float (ad i0)])]] [⟨.sym R 2 (fun i0 => [AV.float (W i0), AV.float (X i0)]), 29, 0⟩]) = some (q_law08_kept e g k V j M O ac ad R W X, AV.bool (s_law08_kept_0 e g k V j M O ac ad R W X), [⟨.sym R 2 (fun i0 => [AV.float (W i0), AV.float (X i0)]), 29, 0⟩, ⟨.flat [], 0, 1⟩, ⟨.flat [], 0, 1⟩]) := by kernel_rfl
def o_law08_kept (e : Int) (g k V : Nat) (j : Int) (M O : Nat) (ac ad : Nat → Nat) (R : Nat) (W X : Nat → Nat) : Bool := let x0 := IntKind.wrap .i64 ((Int.ofNat k) + (2 : Int)); let x1 := Int.toNat x0; let x2 := ((ile (0 : Int) x0) && ((Nat.ble x1 V) || (Nat.ble x1 k))) && (E_law08_kept_L0 R W X k O ac ad (V_law08_kept_L0.mk (0 : Int))); let x3 := (Nat.blt O R) && ((Nat.blt O x1) && x2); let x4 := IntKind.wrap .i64 ((Int.ofNat O) + (1 : Int)); let x5 := Int.toNat x4; let x6 := (L_law08_kept_L0 R W X k O ac ad (V_law08_kept_L0.mk (0 : Int))).v0; let x7 := Int.toNat x6; (mrgB (bif (!(ilt x6 (Int.ofNat O))) then false else (!(s_ref02_Same_0 (W x7) (X x7) (ac x7) (ad x7)))) x2 (mrgB ((feq (W O) 4635118810238550016) && (feq (X O) 0)) ((Nat.blt x5 R) && (((ile (0 : Int) x4) && (Nat.blt x5 x1)) && x3)) x3))
def S_law08_kept : List AV → Heap → RM
  | [AV.agg [AV.int .u8 e, AV.float g, AV.lst 0 0 2 k V], AV.agg [AV.int .u8 j, AV.float M, AV.view O 2 ag]], [⟨.sym R 2 ae, 29, 0⟩] => some (Ob.both (Ob.bit ((allB fun i => isNrm [Ck.f, Ck.f] (ag i)) && (allB fun i => isNrm [Ck.f, Ck.f] (ae i)))) (Ob.bit (o_law08_kept e g k V j M O (fL ag 0) (fL ag 1) R (fL ae 0) (fL ae 1))), AV.bool (s_law08_kept_0 e g k V j M O (fL ag 0) (fL ag 1) R (fL ae 0) (fL ae 1)), [⟨.sym R 2 ae, 29, 0⟩, ⟨.flat [], 0, 1⟩, ⟨.flat [], 0, 1⟩], [[]])
  | _, _ => none
theorem ob_law08_kept (e : Int) (g k V : Nat) (j : Int) (M O : Nat) (ac ad : Nat → Nat) (R : Nat) (W X : Nat → Nat) (ho : o_law08_kept e g k V j M O ac ad R W X = true) : q_law08_kept e g k V j M O ac ad R W X = true := by
  unfold q_law08_kept
  unfold o_law08_kept at ho
  simp only [allB_true, eqT_self, mrgB_self, Bool.true_and, Bool.and_true] at ho ⊢
  exact ho
theorem t_law08_kept : WOkM Tryz.prog false (10, S_law08_kept) := WOkM.fullL [1, 2] (N := 96) (k0 := 1) menv121_ok Tryz.func10 ann_law08_kept Tryz.call10 fun args H o v G d h => by
  unfold S_law08_kept at h
  split at h
  · rename_i e g k V j M O ag R ae
    cases h
    refine ⟨HI.inv (HI.keep HI.nil), Nat.le_refl _, fun ho => ?_⟩
    rw [Ob.both_ok, Bool.and_eq_true] at ho
    obtain ⟨hn, ho2⟩ := ho
    simp only [Ob.ok, Bool.and_eq_true] at hn
    obtain ⟨n0, n1⟩ := hn
    replace n0 := nrm_fun n0
    replace n1 := nrm_fun n1
    have this : outK [1, 2] (evFnM Tryz.prog false menv121 [] [] 96 (Ann.two Ann.no (Ann.two Ann.no (Ann.two (Ann.two Ann.no (Ann.one (Ann.loop F_law08_kept_L0))) Ann.no))) Tryz.f10 [AV.agg [AV.int .u8 e, AV.float g, AV.lst 0 0 2 k V], AV.agg [AV.int .u8 j, AV.float M, AV.view O 2 (fun i => mkN [Ck.f, Ck.f] (ag i) 0)]] [⟨.sym R 2 (fun i => mkN [Ck.f, Ck.f] (ae i) 0), 29, 0⟩]) = some (true, AV.bool (s_law08_kept_0 e g k V j M O (fL ag 0) (fL ag 1) R (fL ae 0) (fL ae 1)), [⟨.sym R 2 (fun i => mkN [Ck.f, Ck.f] (ae i) 0), 29, 0⟩, ⟨.flat [], 0, 1⟩, ⟨.flat [], 0, 1⟩]) := Eq.trans (show outK [1, 2] (evFnM Tryz.prog false menv121 [] [] 96 (Ann.two Ann.no (Ann.two Ann.no (Ann.two (Ann.two Ann.no (Ann.one (Ann.loop F_law08_kept_L0))) Ann.no))) Tryz.f10 [AV.agg [AV.int .u8 e, AV.float g, AV.lst 0 0 2 k V], AV.agg [AV.int .u8 j, AV.float M, AV.view O 2 (fun i => mkN [Ck.f, Ck.f] (ag i) 0)]] [⟨.sym R 2 (fun i => mkN [Ck.f, Ck.f] (ae i) 0), 29, 0⟩]) = _ from e_law08_kept e g k V j M O (fL ag 0) (fL ag 1) R (fL ae 0) (fL ae 1)) (by rw [(ob_law08_kept e g k V j M O (fL ag 0) (fL ag 1) R (fL ae 0) (fL ae 1) ho2)]; try rfl)
    rw [n0, n1] at this
    exact this
  · cases h
def c_law08_kept : WFM := frW S_law08_kept
theorem c_law08_kept_ok : WOkM Tryz.prog false (10, c_law08_kept) := (WOkM.frame t_law08_kept)
def mws6 : List (FuncId × WFM) := (10, c_law08_kept) :: mws5
def menv122 : EnvM := mkEnvM mxs mss117 mws6
theorem mws6_ok : All (WOkM Tryz.prog false) mws6 := All.cons c_law08_kept_ok mws5_ok
theorem menv122_ok : menv122.Ok Tryz.prog false := mkEnvM_ok mxs_ok mss117_ok mws6_ok
-- tumble/tumblelaw08.MassOfs
theorem ann_law08_MassOfs : FnOk Tryz.prog false 0 Tryz.f3 Ann.no := (fnNo _)
def T_law08_MassOfs (q : Int) (t P : Nat) (a0_2_0 a0_2_1 : Nat → Nat) (U : Nat) : Bool := let x0 : (Nat → Nat) := (s_law08_lent_6 q t P a0_2_0 a0_2_1); let x1 : (Nat → Nat) := (s_law08_lent_5 q t P a0_2_0 a0_2_1); let x2 := s_law08_lent_2 q t P a0_2_0 a0_2_1; let x3 := s_law08_lent_1 q t P a0_2_0 a0_2_1; let x4 := s_law08_lent_0 q t P a0_2_0 a0_2_1; (bif (!(s_law08_alive_0)) then false else (bif (ilt (100 : Int) (Int.ofNat P)) then (s_law08_alive_0) else ((((s_law08_alive_0) && (s_ref08_Same_0 (s_mass_Of_0 x4 x3 x2 x1 x0 U) (s_mass_Of_1 x4 x3 x2 x1 x0 U) (s_mass_Of_2 x4 x3 x2 x1 x0 U) (s_mass_Of_3 x4 x3 x2 x1 x0 U) (s_ref08_Of_0 q t P a0_2_0 a0_2_1 U) (s_ref08_Of_1 q t P a0_2_0 a0_2_1 U) (s_ref08_Of_2 q t P a0_2_0 a0_2_1 U) (s_ref08_Of_3 q t P a0_2_0 a0_2_1 U))) && (ieq (s_mass_Of_4 x4 x3 x2 x1 x0 U) (s_ref08_Of_4 q t P a0_2_0 a0_2_1 U))) && (s_law08_kept_0 x4 x3 x2 (s_law08_lent_3 q t P a0_2_0 a0_2_1) q t P a0_2_0 a0_2_1 (s_law08_lent_4 q t P a0_2_0 a0_2_1) x1 x0))))
def O_law08_MassOfs (q : Int) (t P : Nat) (a0_2_0 a0_2_1 : Nat → Nat) (U : Nat) : Bool := let x0 := (0 + P) + 2; let x1 := Nat.ble P x0; let x2 : (Nat → Nat) := (s_law08_lent_6 q t P a0_2_0 a0_2_1); let x3 : (Nat → Nat) := (s_law08_lent_5 q t P a0_2_0 a0_2_1); let x4 := s_law08_lent_2 q t P a0_2_0 a0_2_1; let x5 := s_law08_lent_1 q t P a0_2_0 a0_2_1; let x6 := s_law08_lent_0 q t P a0_2_0 a0_2_1; let x7 := s_law08_lent_4 q t P a0_2_0 a0_2_1; let x8 := ((allB fun _ => true) && (((allB fun _ => true) && (allB fun _ => true)) && (o_law08_kept x6 x5 x4 (s_law08_lent_3 q t P a0_2_0 a0_2_1) q t P a0_2_0 a0_2_1 x7 x3 x2))) && (((allB fun _ => true) && (o_ref08_Of q t P a0_2_0 a0_2_1 U)) && (((Nat.ble x4 x7) && ((allB fun _ => true) && (o_mass_Of x6 x5 x4 x3 x2 U))) && ((allB fun _ => true) && ((x1 || x1) && (((Nat.ble (0 + P) (0 + P)) && (Nat.ble (x0 * 16) 140737488355328)) && (Nat.ble ((0 + P) * 16) 140737488355328)))))); let x9 := mrgB (s_law08_alive_0) x8 x8; let x10 := (s_law08_alive_0) && (s_ref08_Same_0 (s_mass_Of_0 x6 x5 x4 x3 x2 U) (s_mass_Of_1 x6 x5 x4 x3 x2 U) (s_mass_Of_2 x6 x5 x4 x3 x2 U) (s_mass_Of_3 x6 x5 x4 x3 x2 U) (s_ref08_Of_0 q t P a0_2_0 a0_2_1 U) (s_ref08_Of_1 q t P a0_2_0 a0_2_1 U) (s_ref08_Of_2 q t P a0_2_0 a0_2_1 U) (s_ref08_Of_3 q t P a0_2_0 a0_2_1 U)); let x11 := mrgB x10 x9 x9; (mrgB (!(s_law08_alive_0)) true (mrgB (ilt (100 : Int) (Int.ofNat P)) true (mrgB (x10 && (ieq (s_mass_Of_4 x6 x5 x4 x3 x2 U) (s_ref08_Of_4 q t P a0_2_0 a0_2_1 U))) x11 x11)))
theorem tree_law08_MassOfs (q : Int) (t P : Nat) (a0_2_0 a0_2_1 : Nat → Nat) (U : Nat) : outB (evFnM Tryz.prog false menv122 [] [] 96 Ann.no Tryz.f3 [AV.agg [.int .u8 q, .float t, .view P 2 (fun i0 => [AV.float (a0_2_0 i0), AV.float (a0_2_1 i0)])], AV.float U] []) = some (O_law08_MassOfs q t P a0_2_0 a0_2_1 U, AV.bool (T_law08_MassOfs q t P a0_2_0 a0_2_1 U)) := by kernel_rfl

end Go.Proofs.YtbkogihigehjlaaGreat
end
