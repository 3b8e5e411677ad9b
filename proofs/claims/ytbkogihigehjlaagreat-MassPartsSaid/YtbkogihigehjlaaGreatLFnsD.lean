/- The contracts of the functions that these laws reach, loops too, printed by a program of this work: each says what the Go function gives, up to which NaN. -/
import Derived.Test.YtbkogihigehjlaaGreatLFnsDB
set_option linter.unusedVariables false
set_option linter.unusedSimpArgs false
set_option maxRecDepth 100000
set_option maxHeartbeats 4000000
noncomputable section
namespace Go.Proofs.YtbkogihigehjlaaGreat
open Go.Lst
open Go.Sim (fadd fsub fmul fdiv fneg feq flt fle fsqrt cn nanb fabs fcps fsame feq_self cps_cn fabs_cn)
-- tumble/tumbleref04.Real
theorem ann_ref04_Real : FnOk Tryz.prog false 0 Tryz.f78 Ann.no := (fnNo _)
def s_ref04_Real_0 (d : Nat) : Bool := (s_ref01_Within_0 d 4787326403894837248)
theorem e_ref04_Real (d : Nat) : outB (evFnM Tryz.prog false menv109 [] [] 96 Ann.no Tryz.f78 [AV.float d] []) = some (true, AV.bool (s_ref04_Real_0 d)) := by kernel_rfl
def S_ref04_Real : List AV → Option (Ob × AV)
  | [AV.float d] => some (Ob.tt, AV.bool (s_ref04_Real_0 d))
  | _ => none
theorem t_ref04_Real : SOkM Tryz.prog false (78, fun args => match S_ref04_Real args with | some (o, v) => some (o, v, []) | none => none) := SOkM.flat (N := 96) menv109_ok Tryz.func78 ann_ref04_Real Tryz.call78 fun args o v h ho => by
  unfold S_ref04_Real at h
  split at h
  · rename_i d
    cases h
    have ho2 := ho
    have this := show outB (evFnM Tryz.prog false menv109 [] [] 96 Ann.no Tryz.f78 [AV.float d] []) = _ from e_ref04_Real d
    exact ⟨this, rfl⟩
  · cases h
def c_ref04_Real : SFM := fun args => match S_ref04_Real args with | some (o, v) => some (o, v, []) | none => none
theorem c_ref04_Real_ok : SOkM Tryz.prog false (78, c_ref04_Real) := t_ref04_Real
def mss106 : List (FuncId × SFM) := (78, c_ref04_Real) :: mss105
def menv110 : EnvM := mkEnvM mxs mss106 mws5
theorem mss106_ok : All (SOkM Tryz.prog false) mss106 := All.cons c_ref04_Real_ok mss105_ok
theorem menv110_ok : menv110.Ok Tryz.prog false := mkEnvM_ok mxs_ok mss106_ok mws5_ok
-- tumble/tumbleref07.Real
theorem ann_ref07_Real : FnOk Tryz.prog false 0 Tryz.f54 Ann.no := (fnNo _)
def s_ref07_Real_0 (d e : Nat) : Bool := ((s_ref04_Real_0 d) && (s_ref04_Real_0 e))
theorem e_ref07_Real (d e : Nat) : outB (evFnM Tryz.prog false menv110 [] [] 96 Ann.no Tryz.f54 [AV.agg [AV.float d, AV.float e]] []) = some (true, AV.bool (s_ref07_Real_0 d e)) := by kernel_rfl
def S_ref07_Real : List AV → Option (Ob × AV)
  | [AV.agg [AV.float d, AV.float e]] => some (Ob.tt, AV.bool (s_ref07_Real_0 d e))
  | _ => none
theorem t_ref07_Real : SOkM Tryz.prog false (54, fun args => match S_ref07_Real args with | some (o, v) => some (o, v, []) | none => none) := SOkM.flat (N := 96) menv110_ok Tryz.func54 ann_ref07_Real Tryz.call54 fun args o v h ho => by
  unfold S_ref07_Real at h
  split at h
  · rename_i d e
    cases h
    have ho2 := ho
    have this := show outB (evFnM Tryz.prog false menv110 [] [] 96 Ann.no Tryz.f54 [AV.agg [AV.float d, AV.float e]] []) = _ from e_ref07_Real d e
    exact ⟨this, rfl⟩
  · cases h
def c_ref07_Real : SFM := fun args => match S_ref07_Real args with | some (o, v) => some (o, v, []) | none => none
theorem c_ref07_Real_ok : SOkM Tryz.prog false (54, c_ref07_Real) := t_ref07_Real
def mss107 : List (FuncId × SFM) := (54, c_ref07_Real) :: mss106
def menv111 : EnvM := mkEnvM mxs mss107 mws5
theorem mss107_ok : All (SOkM Tryz.prog false) mss107 := All.cons c_ref07_Real_ok mss106_ok
theorem menv111_ok : menv111.Ok Tryz.prog false := mkEnvM_ok mxs_ok mss107_ok mws5_ok
-- tumble/tumbleref07.minus
theorem ann_ref07_minus : FnOk Tryz.prog false 0 Tryz.f56 Ann.no := (fnNo _)
def s_ref07_minus_0 (d e u k : Nat) : Nat := (fsub d u)
def s_ref07_minus_1 (d e u k : Nat) : Nat := (fsub e k)
theorem e_ref07_minus (d e u k : Nat) : outB (evFnM Tryz.prog false menv111 [] [] 96 Ann.no Tryz.f56 [AV.agg [AV.float d, AV.float e], AV.agg [AV.float u, AV.float k]] []) = some (true, AV.agg [AV.float (s_ref07_minus_0 d e u k), AV.float (s_ref07_minus_1 d e u k)]) := by kernel_rfl
def S_ref07_minus : List AV → Option (Ob × AV)
  | [AV.agg [AV.float d, AV.float e], AV.agg [AV.float u, AV.float k]] => some (Ob.tt, AV.agg [AV.float (s_ref07_minus_0 d e u k), AV.float (s_ref07_minus_1 d e u k)])
  | _ => none
theorem t_ref07_minus : SOkM Tryz.prog false (56, fun args => match S_ref07_minus args with | some (o, v) => some (o, v, []) | none => none) := SOkM.flat (N := 96) menv111_ok Tryz.func56 ann_ref07_minus Tryz.call56 fun args o v h ho => by
  unfold S_ref07_minus at h
  split at h
  · rename_i d e u k
    cases h
    have ho2 := ho
    have this := show outB (evFnM Tryz.prog false menv111 [] [] 96 Ann.no Tryz.f56 [AV.agg [AV.float d, AV.float e], AV.agg [AV.float u, AV.float k]] []) = _ from e_ref07_minus d e u k
    exact ⟨this, rfl⟩
  · cases h
def c_ref07_minus : SFM := fun args => match S_ref07_minus args with | some (o, v) => some (o, v, []) | none => none
theorem c_ref07_minus_ok : SOkM Tryz.prog false (56, c_ref07_minus) := t_ref07_minus
def mss108 : List (FuncId × SFM) := (56, c_ref07_minus) :: mss107
def menv112 : EnvM := mkEnvM mxs mss108 mws5
theorem mss108_ok : All (SOkM Tryz.prog false) mss108 := All.cons c_ref07_minus_ok mss107_ok
theorem menv112_ok : menv112.Ok Tryz.prog false := mkEnvM_ok mxs_ok mss108_ok mws5_ok
-- tumble/tumbleref07.dot
theorem ann_ref07_dot : FnOk Tryz.prog false 0 Tryz.f79 Ann.no := (fnNo _)
def s_ref07_dot_0 (d e u k : Nat) : Nat := (fadd (fmul d u) (fmul e k))
theorem e_ref07_dot (d e u k : Nat) : outB (evFnM Tryz.prog false menv112 [] [] 96 Ann.no Tryz.f79 [AV.agg [AV.float d, AV.float e], AV.agg [AV.float u, AV.float k]] []) = some (true, AV.float (s_ref07_dot_0 d e u k)) := by kernel_rfl
def S_ref07_dot : List AV → Option (Ob × AV)
  | [AV.agg [AV.float d, AV.float e], AV.agg [AV.float u, AV.float k]] => some (Ob.tt, AV.float (s_ref07_dot_0 d e u k))
  | _ => none
theorem t_ref07_dot : SOkM Tryz.prog false (79, fun args => match S_ref07_dot args with | some (o, v) => some (o, v, []) | none => none) := SOkM.flat (N := 96) menv112_ok Tryz.func79 ann_ref07_dot Tryz.call79 fun args o v h ho => by
  unfold S_ref07_dot at h
  split at h
  · rename_i d e u k
    cases h
    have ho2 := ho
    have this := show outB (evFnM Tryz.prog false menv112 [] [] 96 Ann.no Tryz.f79 [AV.agg [AV.float d, AV.float e], AV.agg [AV.float u, AV.float k]] []) = _ from e_ref07_dot d e u k
    exact ⟨this, rfl⟩
  · cases h
def c_ref07_dot : SFM := fun args => match S_ref07_dot args with | some (o, v) => some (o, v, []) | none => none
theorem c_ref07_dot_ok : SOkM Tryz.prog false (79, c_ref07_dot) := t_ref07_dot
def mss109 : List (FuncId × SFM) := (79, c_ref07_dot) :: mss108
def menv113 : EnvM := mkEnvM mxs mss109 mws5
theorem mss109_ok : All (SOkM Tryz.prog false) mss109 := All.cons c_ref07_dot_ok mss108_ok
theorem menv113_ok : menv113.Ok Tryz.prog false := mkEnvM_ok mxs_ok mss109_ok mws5_ok
-- tumble/tumbleref07.length
theorem ann_ref07_length : FnOk Tryz.prog false 0 Tryz.f55 Ann.no := (fnNo _)
def s_ref07_length_0 (d e : Nat) : Nat := (s_math_Sqrt_0 (s_ref07_dot_0 d e d e))
theorem e_ref07_length (d e : Nat) : outB (evFnM Tryz.prog false menv113 [] [] 96 Ann.no Tryz.f55 [AV.agg [AV.float d, AV.float e]] []) = some (true, AV.float (s_ref07_length_0 d e)) := by kernel_rfl
def S_ref07_length : List AV → Option (Ob × AV)
  | [AV.agg [AV.float d, AV.float e]] => some (Ob.tt, AV.float (s_ref07_length_0 d e))
  | _ => none
theorem t_ref07_length : SOkM Tryz.prog false (55, fun args => match S_ref07_length args with | some (o, v) => some (o, v, []) | none => none) := SOkM.flat (N := 96) menv113_ok Tryz.func55 ann_ref07_length Tryz.call55 fun args o v h ho => by
  unfold S_ref07_length at h
  split at h
  · rename_i d e
    cases h
    have ho2 := ho
    have this := show outB (evFnM Tryz.prog false menv113 [] [] 96 Ann.no Tryz.f55 [AV.agg [AV.float d, AV.float e]] []) = _ from e_ref07_length d e
    exact ⟨this, rfl⟩
  · cases h
def c_ref07_length : SFM := fun args => match S_ref07_length args with | some (o, v) => some (o, v, []) | none => none
theorem c_ref07_length_ok : SOkM Tryz.prog false (55, c_ref07_length) := t_ref07_length
def mss110 : List (FuncId × SFM) := (55, c_ref07_length) :: mss109
def menv114 : EnvM := mkEnvM mxs mss110 mws5
theorem mss110_ok : All (SOkM Tryz.prog false) mss110 := All.cons c_ref07_length_ok mss109_ok
theorem menv114_ok : menv114.Ok Tryz.prog false := mkEnvM_ok mxs_ok mss110_ok mws5_ok
-- tumble/tumbleref07.Check
-- a loop of tumble/tumbleref07.Check
structure V_ref07_Check_L0 where
  v0 : Int
def tpl_ref07_Check_L0 : List AV := (AV.top :: AV.nul :: AV.top :: AV.nul :: AV.nul :: tpA 65 ([]))
def cts_ref07_Check_L0 : List CT := [CT.keep]
def phs_ref07_Check_L0 : List Src := []
def T_ref07_Check_L0 (j m : Int) (l r : Nat) (C D : Nat → Nat) (x : V_ref07_Check_L0) (F0 : Nat → List AV) : List AV × Heap := ((AV.top :: AV.ptr (some ⟨0, 0, .lit 0⟩) :: AV.top :: AV.int .i64 j :: AV.int .i64 x.v0 :: tpA 65 ([])), [⟨.flat [AV.int .u8 m, AV.float l, AV.view r 2 F0], 25, 0⟩])
def sh_ref07_Check_L0 (j m : Int) (l r : Nat) (C D : Nat → Nat) (x : V_ref07_Check_L0) : List AV × Heap := T_ref07_Check_L0 j m l r C D x (fun j0 => [AV.float (C j0), AV.float (D j0)])
def step_ref07_Check_L0 (j : Int) (r : Nat) (C D : Nat → Nat) (x : V_ref07_Check_L0) : V_ref07_Check_L0 := V_ref07_Check_L0.mk (IntKind.wrap .i64 (x.v0 + (1 : Int)))
def go_ref07_Check_L0 (j : Int) (r : Nat) (C D : Nat → Nat) (x : V_ref07_Check_L0) : Bool := (bif (bif (!(ilt x.v0 j)) then false else (!(s_ref07_Real_0 (C (Int.toNat x.v0)) (D (Int.toNat x.v0))))) then false else (bif (!(ilt x.v0 j)) then false else true))
def ok_ref07_Check_L0 (j : Int) (r : Nat) (C D : Nat → Nat) (x : V_ref07_Check_L0) : Bool := (mrgB (bif (!(ilt x.v0 j)) then false else (!(s_ref07_Real_0 (C (Int.toNat x.v0)) (D (Int.toNat x.v0))))) ((ile (0 : Int) x.v0) && (Nat.blt (Int.toNat x.v0) r)) (mrgB (!(ilt x.v0 j)) true ((ile (0 : Int) x.v0) && (Nat.blt (Int.toNat x.v0) r))))
def L_ref07_Check_L0 (j : Int) (r : Nat) (C D : Nat → Nat) (x : V_ref07_Check_L0) : V_ref07_Check_L0 := lastL (ok_ref07_Check_L0 j r C D) (go_ref07_Check_L0 j r C D) (step_ref07_Check_L0 j r C D) x
def E_ref07_Check_L0 (j : Int) (r : Nat) (C D : Nat → Nat) (x : V_ref07_Check_L0) : Bool := endsL (ok_ref07_Check_L0 j r C D) (go_ref07_Check_L0 j r C D) (step_ref07_Check_L0 j r C D) x
theorem all_ref07_Check_L0 (j m : Int) (l r : Nat) (C D : Nat → Nat) (x : V_ref07_Check_L0) : rnd Tryz.prog false menv114 [] [] 96 Ann.no (subC [1, 1, 0, 1, 0, 1, 0, 1, 0, 1, 0, 0] (codeOf Tryz.f26)) 0 [⟨some 0, 0, 0, []⟩] tpl_ref07_Check_L0 cts_ref07_Check_L0 (true :: false :: true :: false :: tpB 66 ([])) [false] (sh_ref07_Check_L0 j m l r C D x) = (true, true, go_ref07_Check_L0 j r C D x, ok_ref07_Check_L0 j r C D x, true, sh_ref07_Check_L0 j m l r C D (step_ref07_Check_L0 j r C D x), true) := by kernel_rfl
def fam_ref07_Check_L0 (j m : Int) (l r : Nat) (C D : Nat → Nat) : Fam Tryz.prog false menv114 [] [] 96 0 Ann.no (subC [1, 1, 0, 1, 0, 1, 0, 1, 0, 1, 0, 0] (codeOf Tryz.f26)) V_ref07_Check_L0 where
  sh := sh_ref07_Check_L0 j m l r C D
  ok := ok_ref07_Check_L0 j r C D
  go := go_ref07_Check_L0 j r C D
  step := step_ref07_Check_L0 j r C D
  chg := (true :: false :: true :: false :: tpB 66 ([]))
  chgH := [false]
  tpl := tpl_ref07_Check_L0
  cts := cts_ref07_Check_L0
  keep := 0
  srcs := [⟨some 0, 0, 0, []⟩]
  ann := (annNo (subC [1, 1, 0, 1, 0, 1, 0, 1, 0, 1, 0, 0] (codeOf Tryz.f26)))
  le := by kernel_rfl
  kept := by kernel_rfl
  keptB := by kernel_rfl
  all := all_ref07_Check_L0 j m l r C D
  len := fun x => by kernel_rfl
  head := fun x y => by kernel_rfl
  con := fun x y => by kernel_rfl
  conH := fun x y => by kernel_rfl
def F_ref07_Check_L0 : St → Option Ch := fun s => cond (Nat.beq s.tm.length 70 && Nat.beq s.H.length 1) (tkTops 1 (alL tpl_ref07_Check_L0 s.tm) fun t0 => tkCons t0 fun e t1 => tkPtr 0 0 0 e <| tkTops 1 t1 fun t2 => tkCons t2 fun k t3 => tkI .i64 k fun s0 => tkCons t3 fun M t4 => tkI .i64 M fun s1 => tkTops 65 t4 fun t5 => tkNil t5 <| tkCons (alH cts_ref07_Check_L0 (s.H ++ List.map phan phs_ref07_Check_L0)) fun b6 t6 => tkFlat 25 0 b6 fun m6 => tkCons m6 fun R t7 => tkI .u8 R fun s2 => tkCons t7 fun aa t8 => tkF aa fun s3 => tkCons t8 fun X t9 => tkView 2 X fun s4 f0 => tkNil t9 <| tkNil t6 <| Fam.out (fam_ref07_Check_L0 s0 s2 s3 s4 (fL f0 0) (fL f0 1)) s (allB fun i => isNrm [Ck.f, Ck.f] (f0 i)) (V_ref07_Check_L0.mk s1)) none
theorem F_ref07_Check_L0_ok : ∀ s ch, F_ref07_Check_L0 s = some ch → AllI s ch ∧ LoopSpec Tryz.prog false 0 (subC [1, 1, 0, 1, 0, 1, 0, 1, 0, 1, 0, 0] (codeOf Tryz.f26)) s (sel ch) := by
  intro s ch h
  unfold F_ref07_Check_L0 at h
  obtain ⟨hl, h0⟩ := cond_some h rfl
  clear h
  obtain ⟨hl, hb⟩ := and_beq2 hl
  obtain ⟨t0, e0, h1⟩ := tkTops_some h0
  obtain ⟨e, t1, rfl, h2⟩ := tkCons_some h1
  obtain ⟨rfl, h3⟩ := tkPtr_some h2
  obtain ⟨t2, rfl, h4⟩ := tkTops_some h3
  obtain ⟨k, t3, rfl, h5⟩ := tkCons_some h4
  obtain ⟨s0, rfl, h6⟩ := tkI_some h5
  obtain ⟨M, t4, rfl, h7⟩ := tkCons_some h6
  obtain ⟨s1, rfl, h8⟩ := tkI_some h7
  obtain ⟨t5, rfl, h9⟩ := tkTops_some h8
  obtain ⟨rfl, h10⟩ := tkNil_some h9
  obtain ⟨b6, t6, eH, h11⟩ := tkCons_some h10
  obtain ⟨m6, rfl, h12⟩ := tkFlat_some h11
  obtain ⟨R, t7, rfl, h13⟩ := tkCons_some h12
  obtain ⟨s2, rfl, h14⟩ := tkI_some h13
  obtain ⟨aa, t8, rfl, h15⟩ := tkCons_some h14
  obtain ⟨s3, rfl, h16⟩ := tkF_some h15
  obtain ⟨X, t9, rfl, h17⟩ := tkCons_some h16
  obtain ⟨s4, f0, rfl, h18⟩ := tkView_some h17
  obtain ⟨rfl, h19⟩ := tkNil_some h18
  obtain ⟨rfl, h20⟩ := tkNil_some h19
  refine Fam.spec menv114_ok (fam_ref07_Check_L0 s0 s2 s3 s4 (fL f0 0) (fL f0 1)) (phs := phs_ref07_Check_L0) (hl.trans (by kernel_rfl)) (hb.trans (by kernel_rfl)) ?_ ?_ h20
  · rw [← hdr_alH cts_ref07_Check_L0 (s.H ++ List.map phan phs_ref07_Check_L0), eH]; kernel_rfl
  · intro hq
    have hq0 := hq
    have n0 := nrm_fun hq0
    show sh_ref07_Check_L0 s0 s2 s3 s4 (fL f0 0) (fL f0 1) (V_ref07_Check_L0.mk s1) = (alL tpl_ref07_Check_L0 s.tm, alH cts_ref07_Check_L0 (s.H ++ List.map phan phs_ref07_Check_L0))
    rw [e0, eH]
    refine Eq.trans (show sh_ref07_Check_L0 s0 s2 s3 s4 (fL f0 0) (fL f0 1) (V_ref07_Check_L0.mk s1) = T_ref07_Check_L0 s0 s2 s3 s4 (fL f0 0) (fL f0 1) (V_ref07_Check_L0.mk s1) (fun i => mkN [Ck.f, Ck.f] (f0 i) 0) by kernel_rfl) ?_
    rw [n0]
    kernel_rfl
theorem ann_ref07_Check : FnOk Tryz.prog false 0 Tryz.f26 (Ann.two Ann.no (Ann.two Ann.no (Ann.two (Ann.two Ann.no (Ann.one (Ann.two Ann.no (Ann.two (Ann.two Ann.no (Ann.two (Ann.two Ann.no (Ann.one (Ann.loop F_ref07_Check_L0))) Ann.no)) Ann.no)))) Ann.no))) := (fnOk_of (c := codeOf Tryz.f26) (by kernel_rfl) (annSeq (a := (subC [0] (codeOf Tryz.f26))) (b := (subC [1] (codeOf Tryz.f26))) (by kernel_rfl) (annNo (subC [0] (codeOf Tryz.f26))) (annSeq (a := (subC [1, 0] (codeOf Tryz.f26))) (b := (subC [1, 1] (codeOf Tryz.f26))) (by kernel_rfl) (annNo (subC [1, 0] (codeOf Tryz.f26))) (annSeq (a := (subC [1, 1, 0] (codeOf Tryz.f26))) (b := (subC [1, 1, 1] (codeOf Tryz.f26))) (by kernel_rfl) (annSeq (a := (subC [1, 1, 0, 0] (codeOf Tryz.f26))) (b := (subC [1, 1, 0, 1] (codeOf Tryz.f26))) (by kernel_rfl) (annNo (subC [1, 1, 0, 0] (codeOf Tryz.f26))) (annBlock (a := (subC [1, 1, 0, 1, 0] (codeOf Tryz.f26))) (i := 0) (by kernel_rfl) (annSeq (a := (subC [1, 1, 0, 1, 0, 0] (codeOf Tryz.f26))) (b := (subC [1, 1, 0, 1, 0, 1] (codeOf Tryz.f26))) (by kernel_rfl) (annNo (subC [1, 1, 0, 1, 0, 0] (codeOf Tryz.f26))) (annCond (a := (subC [1, 1, 0, 1, 0, 1, 0] (codeOf Tryz.f26))) (b := (subC [1, 1, 0, 1, 0, 1, 1] (codeOf Tryz.f26))) (x := (.tmp 10)) (by kernel_rfl) (annSeq (a := (subC [1, 1, 0, 1, 0, 1, 0, 0] (codeOf Tryz.f26))) (b := (subC [1, 1, 0, 1, 0, 1, 0, 1] (codeOf Tryz.f26))) (by kernel_rfl) (annNo (subC [1, 1, 0, 1, 0, 1, 0, 0] (codeOf Tryz.f26))) (annSeq (a := (subC [1, 1, 0, 1, 0, 1, 0, 1, 0] (codeOf Tryz.f26))) (b := (subC [1, 1, 0, 1, 0, 1, 0, 1, 1] (codeOf Tryz.f26))) (by kernel_rfl) (annSeq (a := (subC [1, 1, 0, 1, 0, 1, 0, 1, 0, 0] (codeOf Tryz.f26))) (b := (subC [1, 1, 0, 1, 0, 1, 0, 1, 0, 1] (codeOf Tryz.f26))) (by kernel_rfl) (annNo (subC [1, 1, 0, 1, 0, 1, 0, 1, 0, 0] (codeOf Tryz.f26))) (annBlock (a := (subC [1, 1, 0, 1, 0, 1, 0, 1, 0, 1, 0] (codeOf Tryz.f26))) (i := 1) (by kernel_rfl) (annLoop (a := (subC [1, 1, 0, 1, 0, 1, 0, 1, 0, 1, 0, 0] (codeOf Tryz.f26))) (by kernel_rfl) F_ref07_Check_L0_ok))) (annNo (subC [1, 1, 0, 1, 0, 1, 0, 1, 1] (codeOf Tryz.f26))))) (annNo (subC [1, 1, 0, 1, 0, 1, 1] (codeOf Tryz.f26))))))) (annNo (subC [1, 1, 1] (codeOf Tryz.f26)))))))
def s_ref07_Check_0 (d : Int) (e q : Nat) (z B : Nat → Nat) : Int := let x0 := (L_ref07_Check_L0 (Int.ofNat q) q z B (V_ref07_Check_L0.mk (0 : Int))).v0; let x1 := Int.toNat x0; let x2 := (ieq d (1 : Int)) || (ieq d (2 : Int)); (bif (x2 || (ieq d (3 : Int))) then (bif x2 then (bif (!(ieq (Int.ofNat q) (IntKind.wrap .i64 d))) then (6 : Int) else (bif (bif (!(ilt x0 (Int.ofNat q))) then false else (!(s_ref07_Real_0 (z x1) (B x1)))) then (5 : Int) else (bif (!((fle 4472074429978902528 e) && (fle e 4787326403894837248))) then (5 : Int) else (bif ((ieq (Int.ofNat q) (2 : Int)) && (flt (s_ref07_length_0 (s_ref07_minus_0 (z 1) (B 1) (z 0) (B 0)) (s_ref07_minus_1 (z 1) (B 1) (z 0) (B 0))) 4472074429978902528)) then (6 : Int) else (0 : Int))))) else (bif (((ilt (Int.ofNat q) (3 : Int)) || (ilt (8 : Int) (Int.ofNat q))) || (!(feq e 0))) then (6 : Int) else (s_ref06_Check_0 q z B))) else (70 : Int))
def q_ref07_Check (d : Int) (e q : Nat) (z B : Nat → Nat) : Bool := (let x0 := (allB fun _ => true) && (E_ref07_Check_L0 (Int.ofNat q) q z B (V_ref07_Check_L0.mk (0 : Int))); let x1 := mrgB (fle 4472074429978902528 e) x0 x0; let x2 := ieq (Int.ofNat q) (2 : Int); let x3 := mrgB x2 ((Nat.blt 0 q) && ((Nat.blt 1 q) && x1)) x1; let x4 := (L_ref07_Check_L0 (Int.ofNat q) q z B (V_ref07_Check_L0.mk (0 : Int))).v0; let x5 := Int.toNat x4; let x6 := (ieq d (1 : Int)) || (ieq d (2 : Int)); (mrgB (x6 || (ieq d (3 : Int))) (mrgB x6 (mrgB (!(ieq (Int.ofNat q) (IntKind.wrap .i64 d))) true (mrgB (bif (!(ilt x4 (Int.ofNat q))) then false else (!(s_ref07_Real_0 (z x5) (B x5)))) x0 (mrgB (!((fle 4472074429978902528 e) && (fle e 4787326403894837248))) x1 (mrgB (x2 && (flt (s_ref07_length_0 (s_ref07_minus_0 (z 1) (B 1) (z 0) (B 0)) (s_ref07_minus_1 (z 1) (B 1) (z 0) (B 0))) 4472074429978902528)) x3 x3)))) (mrgB (((ilt (Int.ofNat q) (3 : Int)) || (ilt (8 : Int) (Int.ofNat q))) || (!(feq e 0))) true ((allB fun _ => true) && (o_ref06_Check q z B)))) true))
theorem e_ref07_Check (d : Int) (e q : Nat) (z B : Nat → Nat) : outB (evFnM Tryz.prog false menv114 [] [] 96 (Ann.two Ann.no (Ann.two Ann.no (Ann.two (Ann.two Ann.no (Ann.one (Ann.two Ann.no (Ann.two (Ann.two Ann.no (Ann.two (Ann.two Ann.no (Ann.one (Ann.loop F_ref07_Check_L0))) Ann.no)) Ann.no)))) Ann.no))) Tryz.f26 [AV.agg [AV.int .u8 d, AV.float e, AV.view q 2 (fun i0 => [AV.float (z i0), AV.float (B i0)])]] []) = some (q_ref07_Check d e q z B, AV.int .i64 (s_ref07_Check_0 d e q z B)) := by kernel_rfl
def o_ref07_Check (d : Int) (e q : Nat) (z B : Nat → Nat) : Bool := let x0 := E_ref07_Check_L0 (Int.ofNat q) q z B (V_ref07_Check_L0.mk (0 : Int)); let x1 := mrgB (fle 4472074429978902528 e) x0 x0; let x2 := ieq (Int.ofNat q) (2 : Int); let x3 := mrgB x2 ((Nat.blt 0 q) && ((Nat.blt 1 q) && x1)) x1; let x4 := (L_ref07_Check_L0 (Int.ofNat q) q z B (V_ref07_Check_L0.mk (0 : Int))).v0; let x5 := Int.toNat x4; let x6 := (ieq d (1 : Int)) || (ieq d (2 : Int)); (mrgB (x6 || (ieq d (3 : Int))) (mrgB x6 (mrgB (!(ieq (Int.ofNat q) (IntKind.wrap .i64 d))) true (mrgB (bif (!(ilt x4 (Int.ofNat q))) then false else (!(s_ref07_Real_0 (z x5) (B x5)))) x0 (mrgB (!((fle 4472074429978902528 e) && (fle e 4787326403894837248))) x1 (mrgB (x2 && (flt (s_ref07_length_0 (s_ref07_minus_0 (z 1) (B 1) (z 0) (B 0)) (s_ref07_minus_1 (z 1) (B 1) (z 0) (B 0))) 4472074429978902528)) x3 x3)))) (mrgB (((ilt (Int.ofNat q) (3 : Int)) || (ilt (8 : Int) (Int.ofNat q))) || (!(feq e 0))) true (o_ref06_Check q z B))) true)
def S_ref07_Check : List AV → Option (Ob × AV)
  | [AV.agg [AV.int .u8 d, AV.float e, AV.view q 2 J]] => some (Ob.both (Ob.bit (allB fun i => isNrm [Ck.f, Ck.f] (J i))) (Ob.bit (o_ref07_Check d e q (fL J 0) (fL J 1))), AV.int .i64 (s_ref07_Check_0 d e q (fL J 0) (fL J 1)))
  | _ => none
theorem ob_ref07_Check (d : Int) (e q : Nat) (z B : Nat → Nat) (ho : o_ref07_Check d e q z B = true) : q_ref07_Check d e q z B = true := by
  unfold q_ref07_Check
  unfold o_ref07_Check at ho
  simp only [allB_true, eqT_self, mrgB_self, Bool.true_and, Bool.and_true] at ho ⊢
  exact ho
theorem t_ref07_Check : SOkM Tryz.prog false (26, fun args => match S_ref07_Check args with | some (o, v) => some (o, v, []) | none => none) := SOkM.flat (N := 96) menv114_ok Tryz.func26 ann_ref07_Check Tryz.call26 fun args o v h ho => by
  unfold S_ref07_Check at h
  split at h
  · rename_i d e q J
    cases h
    rw [Ob.both_ok, Bool.and_eq_true] at ho
    obtain ⟨hn, ho2⟩ := ho
    have n0 := hn
    simp only [Ob.ok] at n0
    replace n0 := nrm_fun n0
    have this := show outB (evFnM Tryz.prog false menv114 [] [] 96 (Ann.two Ann.no (Ann.two Ann.no (Ann.two (Ann.two Ann.no (Ann.one (Ann.two Ann.no (Ann.two (Ann.two Ann.no (Ann.two (Ann.two Ann.no (Ann.one (Ann.loop F_ref07_Check_L0))) Ann.no)) Ann.no)))) Ann.no))) Tryz.f26 [AV.agg [AV.int .u8 d, AV.float e, AV.view q 2 (fun i => mkN [Ck.f, Ck.f] (J i) 0)]] []) = _ from e_ref07_Check d e q (fL J 0) (fL J 1)
    rw [(ob_ref07_Check d e q (fL J 0) (fL J 1) ho2)] at this
    rw [n0] at this
    exact ⟨this, rfl⟩
  · cases h
def c_ref07_Check : SFM := fun args => match S_ref07_Check args with | some (o, v) => some (o, v, []) | none => none
theorem c_ref07_Check_ok : SOkM Tryz.prog false (26, c_ref07_Check) := t_ref07_Check
def mss111 : List (FuncId × SFM) := (26, c_ref07_Check) :: mss110
def menv115 : EnvM := mkEnvM mxs mss111 mws5
theorem mss111_ok : All (SOkM Tryz.prog false) mss111 := All.cons c_ref07_Check_ok mss110_ok
theorem menv115_ok : menv115.Ok Tryz.prog false := mkEnvM_ok mxs_ok mss111_ok mws5_ok
-- tumble/tumbleref08.circle
theorem ann_ref08_circle : FnOk Tryz.prog false 0 Tryz.f28 Ann.no := (fnNo _)
def s_ref08_circle_0 (d : Int) (e q : Nat) (z B : Nat → Nat) (k : Nat) : Nat := (fmul k (fmul 4614256656552045848 (fmul e e)))
def s_ref08_circle_1 (d : Int) (e q : Nat) (z B : Nat → Nat) (k : Nat) : Nat := (fmul (fmul (fmul k (fmul 4614256656552045848 (fmul e e))) (fmul e e)) 4602678819172646912)
def s_ref08_circle_2 (d : Int) (e q : Nat) (z B : Nat → Nat) (k : Nat) : Nat := (z 0)
def s_ref08_circle_3 (d : Int) (e q : Nat) (z B : Nat → Nat) (k : Nat) : Nat := (B 0)
def o_ref08_circle (d : Int) (e q : Nat) (z B : Nat → Nat) (k : Nat) : Bool := (Nat.blt 0 q)
theorem e_ref08_circle (d : Int) (e q : Nat) (z B : Nat → Nat) (k : Nat) : outB (evFnM Tryz.prog false menv115 [] [] 96 Ann.no Tryz.f28 [AV.agg [AV.int .u8 d, AV.float e, AV.view q 2 (fun i0 => [AV.float (z i0), AV.float (B i0)])], AV.float k] []) = some (o_ref08_circle d e q z B k, AV.agg [AV.float (s_ref08_circle_0 d e q z B k), AV.float (s_ref08_circle_1 d e q z B k), AV.float (s_ref08_circle_2 d e q z B k), AV.float (s_ref08_circle_3 d e q z B k)]) := by kernel_rfl
def S_ref08_circle : List AV → Option (Ob × AV)
  | [AV.agg [AV.int .u8 d, AV.float e, AV.view q 2 J], AV.float k] => some (Ob.both (Ob.bit (allB fun i => isNrm [Ck.f, Ck.f] (J i))) (Ob.bit (o_ref08_circle d e q (fL J 0) (fL J 1) k)), AV.agg [AV.float (s_ref08_circle_0 d e q (fL J 0) (fL J 1) k), AV.float (s_ref08_circle_1 d e q (fL J 0) (fL J 1) k), AV.float (s_ref08_circle_2 d e q (fL J 0) (fL J 1) k), AV.float (s_ref08_circle_3 d e q (fL J 0) (fL J 1) k)])
  | _ => none
theorem t_ref08_circle : SOkM Tryz.prog false (28, fun args => match S_ref08_circle args with | some (o, v) => some (o, v, []) | none => none) := SOkM.flat (N := 96) menv115_ok Tryz.func28 ann_ref08_circle Tryz.call28 fun args o v h ho => by
  unfold S_ref08_circle at h
  split at h
  · rename_i d e q J k
    cases h
    rw [Ob.both_ok, Bool.and_eq_true] at ho
    obtain ⟨hn, ho2⟩ := ho
    have n0 := hn
    simp only [Ob.ok] at n0
    replace n0 := nrm_fun n0
    have this := show outB (evFnM Tryz.prog false menv115 [] [] 96 Ann.no Tryz.f28 [AV.agg [AV.int .u8 d, AV.float e, AV.view q 2 (fun i => mkN [Ck.f, Ck.f] (J i) 0)], AV.float k] []) = _ from e_ref08_circle d e q (fL J 0) (fL J 1) k
    rw [show o_ref08_circle d e q (fL J 0) (fL J 1) k = true from ho2] at this
    rw [n0] at this
    exact ⟨this, rfl⟩
  · cases h
def c_ref08_circle : SFM := fun args => match S_ref08_circle args with | some (o, v) => some (o, v, []) | none => none
theorem c_ref08_circle_ok : SOkM Tryz.prog false (28, c_ref08_circle) := t_ref08_circle
def mss112 : List (FuncId × SFM) := (28, c_ref08_circle) :: mss111
def menv116 : EnvM := mkEnvM mxs mss112 mws5
theorem mss112_ok : All (SOkM Tryz.prog false) mss112 := All.cons c_ref08_circle_ok mss111_ok
theorem menv116_ok : menv116.Ok Tryz.prog false := mkEnvM_ok mxs_ok mss112_ok mws5_ok
-- tumble/tumbleref08.End
theorem ann_ref08_End : FnOk Tryz.prog false 0 Tryz.f84 Ann.no := (fnNo _)
def s_ref08_End_0 (d : Nat) : Bool := ((fle 0 d) && (feq (fsub d d) 0))
theorem e_ref08_End (d : Nat) : outB (evFnM Tryz.prog false menv116 [] [] 96 Ann.no Tryz.f84 [AV.float d] []) = some (true, AV.bool (s_ref08_End_0 d)) := by kernel_rfl
def S_ref08_End : List AV → Option (Ob × AV)
  | [AV.float d] => some (Ob.tt, AV.bool (s_ref08_End_0 d))
  | _ => none
theorem t_ref08_End : SOkM Tryz.prog false (84, fun args => match S_ref08_End args with | some (o, v) => some (o, v, []) | none => none) := SOkM.flat (N := 96) menv116_ok Tryz.func84 ann_ref08_End Tryz.call84 fun args o v h ho => by
  unfold S_ref08_End at h
  split at h
  · rename_i d
    cases h
    have ho2 := ho
    have this := show outB (evFnM Tryz.prog false menv116 [] [] 96 Ann.no Tryz.f84 [AV.float d] []) = _ from e_ref08_End d
    exact ⟨this, rfl⟩
  · cases h
def c_ref08_End : SFM := fun args => match S_ref08_End args with | some (o, v) => some (o, v, []) | none => none
theorem c_ref08_End_ok : SOkM Tryz.prog false (84, c_ref08_End) := t_ref08_End
def mss113 : List (FuncId × SFM) := (84, c_ref08_End) :: mss112
def menv117 : EnvM := mkEnvM mxs mss113 mws5
theorem mss113_ok : All (SOkM Tryz.prog false) mss113 := All.cons c_ref08_End_ok mss112_ok
theorem menv117_ok : menv117.Ok Tryz.prog false := mkEnvM_ok mxs_ok mss113_ok mws5_ok
-- tumble/tumbleref08.Check
theorem ann_ref08_Check : FnOk Tryz.prog false 0 Tryz.f58 Ann.no := (fnNo _)
def s_ref08_Check_0 (d e u k : Nat) : Int := (bif (((!(s_ref08_End_0 d)) || (!(s_ref08_End_0 e))) || (!(s_ref02_Within_0 u k 4787326403894837248))) then (80 : Int) else (0 : Int))
theorem e_ref08_Check (d e u k : Nat) : outB (evFnM Tryz.prog false menv117 [] [] 96 Ann.no Tryz.f58 [AV.agg [AV.float d, AV.float e, AV.float u, AV.float k]] []) = some (true, AV.int .i64 (s_ref08_Check_0 d e u k)) := by kernel_rfl
def S_ref08_Check : List AV → Option (Ob × AV)
  | [AV.agg [AV.float d, AV.float e, AV.float u, AV.float k]] => some (Ob.tt, AV.int .i64 (s_ref08_Check_0 d e u k))
  | _ => none
theorem t_ref08_Check : SOkM Tryz.prog false (58, fun args => match S_ref08_Check args with | some (o, v) => some (o, v, []) | none => none) := SOkM.flat (N := 96) menv117_ok Tryz.func58 ann_ref08_Check Tryz.call58 fun args o v h ho => by
  unfold S_ref08_Check at h
  split at h
  · rename_i d e u k
    cases h
    have ho2 := ho
    have this := show outB (evFnM Tryz.prog false menv117 [] [] 96 Ann.no Tryz.f58 [AV.agg [AV.float d, AV.float e, AV.float u, AV.float k]] []) = _ from e_ref08_Check d e u k
    exact ⟨this, rfl⟩
  · cases h
def c_ref08_Check : SFM := fun args => match S_ref08_Check args with | some (o, v) => some (o, v, []) | none => none
theorem c_ref08_Check_ok : SOkM Tryz.prog false (58, c_ref08_Check) := t_ref08_Check
def mss114 : List (FuncId × SFM) := (58, c_ref08_Check) :: mss113
def menv118 : EnvM := mkEnvM mxs mss114 mws5
theorem mss114_ok : All (SOkM Tryz.prog false) mss114 := All.cons c_ref08_Check_ok mss113_ok
theorem menv118_ok : menv118.Ok Tryz.prog false := mkEnvM_ok mxs_ok mss114_ok mws5_ok
-- tumble/tumbleref08.told
theorem ann_ref08_told : FnOk Tryz.prog false 0 Tryz.f27 Ann.no := (fnNo _)
def s_ref08_told_0 (d e u k : Nat) : Nat := (bif (!(ieq (s_ref08_Check_0 d e u k) (0 : Int))) then 0 else d)
def s_ref08_told_1 (d e u k : Nat) : Nat := (bif (!(ieq (s_ref08_Check_0 d e u k) (0 : Int))) then 0 else e)
def s_ref08_told_2 (d e u k : Nat) : Nat := (bif (!(ieq (s_ref08_Check_0 d e u k) (0 : Int))) then 0 else u)
def s_ref08_told_3 (d e u k : Nat) : Nat := (bif (!(ieq (s_ref08_Check_0 d e u k) (0 : Int))) then 0 else k)
def s_ref08_told_4 (d e u k : Nat) : Int := (bif (!(ieq (s_ref08_Check_0 d e u k) (0 : Int))) then (s_ref08_Check_0 d e u k) else (0 : Int))
theorem e_ref08_told (d e u k : Nat) : outB (evFnM Tryz.prog false menv118 [] [] 96 Ann.no Tryz.f27 [AV.agg [AV.float d, AV.float e, AV.float u, AV.float k]] []) = some (true, AV.tup [AV.agg [AV.float (s_ref08_told_0 d e u k), AV.float (s_ref08_told_1 d e u k), AV.float (s_ref08_told_2 d e u k), AV.float (s_ref08_told_3 d e u k)], AV.int .i64 (s_ref08_told_4 d e u k)]) := by kernel_rfl
def S_ref08_told : List AV → Option (Ob × AV)
  | [AV.agg [AV.float d, AV.float e, AV.float u, AV.float k]] => some (Ob.tt, AV.tup [AV.agg [AV.float (s_ref08_told_0 d e u k), AV.float (s_ref08_told_1 d e u k), AV.float (s_ref08_told_2 d e u k), AV.float (s_ref08_told_3 d e u k)], AV.int .i64 (s_ref08_told_4 d e u k)])
  | _ => none
theorem t_ref08_told : SOkM Tryz.prog false (27, fun args => match S_ref08_told args with | some (o, v) => some (o, v, []) | none => none) := SOkM.flat (N := 96) menv118_ok Tryz.func27 ann_ref08_told Tryz.call27 fun args o v h ho => by
  unfold S_ref08_told at h
  split at h
  · rename_i d e u k
    cases h
    have ho2 := ho
    have this := show outB (evFnM Tryz.prog false menv118 [] [] 96 Ann.no Tryz.f27 [AV.agg [AV.float d, AV.float e, AV.float u, AV.float k]] []) = _ from e_ref08_told d e u k
    exact ⟨this, rfl⟩
  · cases h
def c_ref08_told : SFM := fun args => match S_ref08_told args with | some (o, v) => some (o, v, []) | none => none
theorem c_ref08_told_ok : SOkM Tryz.prog false (27, c_ref08_told) := t_ref08_told
def mss115 : List (FuncId × SFM) := (27, c_ref08_told) :: mss114
def menv119 : EnvM := mkEnvM mxs mss115 mws5
theorem mss115_ok : All (SOkM Tryz.prog false) mss115 := All.cons c_ref08_told_ok mss114_ok
theorem menv119_ok : menv119.Ok Tryz.prog false := mkEnvM_ok mxs_ok mss115_ok mws5_ok
-- tumble/tumbleref08.three
theorem ann_ref08_three : FnOk Tryz.prog false 0 Tryz.f61 Ann.no := (fnNo _)
def s_ref08_three_0 (d : Nat) : Nat := (fmul d 4614256656552045848)
theorem e_ref08_three (d : Nat) : outB (evFnM Tryz.prog false menv119 [] [] 96 Ann.no Tryz.f61 [AV.float d] []) = some (true, AV.float (s_ref08_three_0 d)) := by kernel_rfl
def S_ref08_three : List AV → Option (Ob × AV)
  | [AV.float d] => some (Ob.tt, AV.float (s_ref08_three_0 d))
  | _ => none
theorem t_ref08_three : SOkM Tryz.prog false (61, fun args => match S_ref08_three args with | some (o, v) => some (o, v, []) | none => none) := SOkM.flat (N := 96) menv119_ok Tryz.func61 ann_ref08_three Tryz.call61 fun args o v h ho => by
  unfold S_ref08_three at h
  split at h
  · rename_i d
    cases h
    have ho2 := ho
    have this := show outB (evFnM Tryz.prog false menv119 [] [] 96 Ann.no Tryz.f61 [AV.float d] []) = _ from e_ref08_three d
    exact ⟨this, rfl⟩
  · cases h
def c_ref08_three : SFM := fun args => match S_ref08_three args with | some (o, v) => some (o, v, []) | none => none
theorem c_ref08_three_ok : SOkM Tryz.prog false (61, c_ref08_three) := t_ref08_three
def mss116 : List (FuncId × SFM) := (61, c_ref08_three) :: mss115
def menv120 : EnvM := mkEnvM mxs mss116 mws5
theorem mss116_ok : All (SOkM Tryz.prog false) mss116 := All.cons c_ref08_three_ok mss115_ok
theorem menv120_ok : menv120.Ok Tryz.prog false := mkEnvM_ok mxs_ok mss116_ok mws5_ok
-- tumble/tumbleref02.Middle
theorem ann_ref02_Middle : FnOk Tryz.prog false 0 Tryz.f62 Ann.no := (fnNo _)
def s_ref02_Middle_0 (d e u k : Nat) : Nat := (s_ref02_Vec_0 (fdiv (fadd d u) 4611686018427387904) (fdiv (fadd e k) 4611686018427387904))
def s_ref02_Middle_1 (d e u k : Nat) : Nat := (s_ref02_Vec_1 (fdiv (fadd d u) 4611686018427387904) (fdiv (fadd e k) 4611686018427387904))
theorem e_ref02_Middle (d e u k : Nat) : outB (evFnM Tryz.prog false menv120 [] [] 96 Ann.no Tryz.f62 [AV.agg [AV.float d, AV.float e], AV.agg [AV.float u, AV.float k]] []) = some (true, AV.agg [AV.float (s_ref02_Middle_0 d e u k), AV.float (s_ref02_Middle_1 d e u k)]) := by kernel_rfl
def S_ref02_Middle : List AV → Option (Ob × AV)
  | [AV.agg [AV.float d, AV.float e], AV.agg [AV.float u, AV.float k]] => some (Ob.tt, AV.agg [AV.float (s_ref02_Middle_0 d e u k), AV.float (s_ref02_Middle_1 d e u k)])
  | _ => none
theorem t_ref02_Middle : SOkM Tryz.prog false (62, fun args => match S_ref02_Middle args with | some (o, v) => some (o, v, []) | none => none) := SOkM.flat (N := 96) menv120_ok Tryz.func62 ann_ref02_Middle Tryz.call62 fun args o v h ho => by
  unfold S_ref02_Middle at h
  split at h
  · rename_i d e u k
    cases h
    have ho2 := ho
    have this := show outB (evFnM Tryz.prog false menv120 [] [] 96 Ann.no Tryz.f62 [AV.agg [AV.float d, AV.float e], AV.agg [AV.float u, AV.float k]] []) = _ from e_ref02_Middle d e u k
    exact ⟨this, rfl⟩
  · cases h
def c_ref02_Middle : SFM := fun args => match S_ref02_Middle args with | some (o, v) => some (o, v, []) | none => none
theorem c_ref02_Middle_ok : SOkM Tryz.prog false (62, c_ref02_Middle) := t_ref02_Middle
def mss117 : List (FuncId × SFM) := (62, c_ref02_Middle) :: mss116
def menv121 : EnvM := mkEnvM mxs mss117 mws5
theorem mss117_ok : All (SOkM Tryz.prog false) mss117 := All.cons c_ref02_Middle_ok mss116_ok
theorem menv121_ok : menv121.Ok Tryz.prog false := mkEnvM_ok mxs_ok mss117_ok mws5_ok
-- tumble/tumbleref08.capsule
theorem ann_ref08_capsule : FnOk Tryz.prog false 0 Tryz.f29 Ann.no := (fnNo _)
def s_ref08_capsule_0 (d : Int) (e q : Nat) (z B : Nat → Nat) (k : Nat) : Nat := (fadd (fmul k (fmul (fmul 4611686018427387904 e) (s_ref02_Length_0 (s_ref02_Sub_0 (z 1) (B 1) (z 0) (B 0)) (s_ref02_Sub_1 (z 1) (B 1) (z 0) (B 0))))) (fmul k (fmul 4614256656552045848 (fmul e e))))
def s_ref08_capsule_1 (d : Int) (e q : Nat) (z B : Nat → Nat) (k : Nat) : Nat := let x0 := s_ref02_Length_0 (s_ref02_Sub_0 (z 1) (B 1) (z 0) (B 0)) (s_ref02_Sub_1 (z 1) (B 1) (z 0) (B 0)); let x1 := fmul x0 x0; (fadd (fdiv (fmul (fmul k (fmul (fmul 4611686018427387904 e) x0)) (fadd x1 (fmul (fmul 4616189618054758400 e) e))) 4622945017495814144) (fmul (fmul k (fmul 4614256656552045848 (fmul e e))) (fadd (fadd (fmul (fmul e e) 4602678819172646912) (fmul x1 4598175219545276416)) (fmul x0 (fdiv (fmul 4616189618054758400 e) 4621495296368779730)))))
def s_ref08_capsule_2 (d : Int) (e q : Nat) (z B : Nat → Nat) (k : Nat) : Nat := (s_ref02_Middle_0 (z 0) (B 0) (z 1) (B 1))
def s_ref08_capsule_3 (d : Int) (e q : Nat) (z B : Nat → Nat) (k : Nat) : Nat := (s_ref02_Middle_1 (z 0) (B 0) (z 1) (B 1))
def o_ref08_capsule (d : Int) (e q : Nat) (z B : Nat → Nat) (k : Nat) : Bool := ((Nat.blt 1 q) && (Nat.blt 0 q))
theorem e_ref08_capsule (d : Int) (e q : Nat) (z B : Nat → Nat) (k : Nat) : outB (evFnM Tryz.prog false menv121 [] [] 96 Ann.no Tryz.f29 [AV.agg [AV.int .u8 d, AV.float e, AV.view q 2 (fun i0 => [AV.float (z i0), AV.float (B i0)])], AV.float k] []) = some (o_ref08_capsule d e q z B k, AV.agg [AV.float (s_ref08_capsule_0 d e q z B k), AV.float (s_ref08_capsule_1 d e q z B k), AV.float (s_ref08_capsule_2 d e q z B k), AV.float (s_ref08_capsule_3 d e q z B k)]) := by kernel_rfl
def S_ref08_capsule : List AV → Option (Ob × AV)
  | [AV.agg [AV.int .u8 d, AV.float e, AV.view q 2 J], AV.float k] => some (Ob.both (Ob.bit (allB fun i => isNrm [Ck.f, Ck.f] (J i))) (Ob.bit (o_ref08_capsule d e q (fL J 0) (fL J 1) k)), AV.agg [AV.float (s_ref08_capsule_0 d e q (fL J 0) (fL J 1) k), AV.float (s_ref08_capsule_1 d e q (fL J 0) (fL J 1) k), AV.float (s_ref08_capsule_2 d e q (fL J 0) (fL J 1) k), AV.float (s_ref08_capsule_3 d e q (fL J 0) (fL J 1) k)])
  | _ => none
theorem t_ref08_capsule : SOkM Tryz.prog false (29, fun args => match S_ref08_capsule args with | some (o, v) => some (o, v, []) | none => none) := SOkM.flat (N := 96) menv121_ok Tryz.func29 ann_ref08_capsule Tryz.call29 fun args o v h ho => by
  unfold S_ref08_capsule at h
  split at h
  · rename_i d e q J k
    cases h
    rw [Ob.both_ok, Bool.and_eq_true] at ho
    obtain ⟨hn, ho2⟩ := ho
    have n0 := hn
    simp only [Ob.ok] at n0
    replace n0 := nrm_fun n0
    have this := show outB (evFnM Tryz.prog false menv121 [] [] 96 Ann.no Tryz.f29 [AV.agg [AV.int .u8 d, AV.float e, AV.view q 2 (fun i => mkN [Ck.f, Ck.f] (J i) 0)], AV.float k] []) = _ from e_ref08_capsule d e q (fL J 0) (fL J 1) k
    rw [show o_ref08_capsule d e q (fL J 0) (fL J 1) k = true from ho2] at this
    rw [n0] at this
    exact ⟨this, rfl⟩
  · cases h
def c_ref08_capsule : SFM := fun args => match S_ref08_capsule args with | some (o, v) => some (o, v, []) | none => none
theorem c_ref08_capsule_ok : SOkM Tryz.prog false (29, c_ref08_capsule) := t_ref08_capsule
def mss118 : List (FuncId × SFM) := (29, c_ref08_capsule) :: mss117
def menv122 : EnvM := mkEnvM mxs mss118 mws5
theorem mss118_ok : All (SOkM Tryz.prog false) mss118 := All.cons c_ref08_capsule_ok mss117_ok
theorem menv122_ok : menv122.Ok Tryz.prog false := mkEnvM_ok mxs_ok mss118_ok mws5_ok
-- tumble/tumbleref06.sum
-- a loop of tumble/tumbleref06.sum
structure V_ref06_sum_L0 where
  v0 : Nat
  v1 : Int
def tpl_ref06_sum_L0 : List AV := (AV.nul :: AV.top :: AV.top :: AV.nul :: AV.nul :: tpA 33 ([]))
def cts_ref06_sum_L0 : List CT := []
def phs_ref06_sum_L0 : List Src := []
def T_ref06_sum_L0 (j : Nat) (m l : Nat → Nat) (x : V_ref06_sum_L0) (F0 : Nat → List AV) : List AV × Heap := ((AV.view j 2 F0 :: AV.top :: AV.top :: AV.float x.v0 :: AV.int .i64 x.v1 :: tpA 33 ([])), [])
def sh_ref06_sum_L0 (j : Nat) (m l : Nat → Nat) (x : V_ref06_sum_L0) : List AV × Heap := T_ref06_sum_L0 j m l x (fun j0 => [AV.float (m j0), AV.float (l j0)])
def step_ref06_sum_L0 (j : Nat) (m l : Nat → Nat) (x : V_ref06_sum_L0) : V_ref06_sum_L0 := V_ref06_sum_L0.mk (let x0 := Int.toNat (IntKind.wrap .i64 (x.v1 + (1 : Int))); let x1 := l x0; let x2 := m x0; let x3 := l (Int.toNat x.v1); let x4 := m (Int.toNat x.v1); let x5 := s_ref02_Cross_0 (s_ref06_lead_0 (m 0) (l 0) x4 x3) (s_ref06_lead_1 (m 0) (l 0) x4 x3) (s_ref06_lead_0 (m 0) (l 0) x2 x1) (s_ref06_lead_1 (m 0) (l 0) x2 x1); (bif (ieq x.v1 (1 : Int)) then x5 else (fadd x.v0 x5))) (IntKind.wrap .i64 (x.v1 + (1 : Int)))
def go_ref06_sum_L0 (j : Nat) (m l : Nat → Nat) (x : V_ref06_sum_L0) : Bool := (bif (!(ilt x.v1 (IntKind.wrap .i64 ((Int.ofNat j) - (1 : Int))))) then false else true)
def ok_ref06_sum_L0 (j : Nat) (m l : Nat → Nat) (x : V_ref06_sum_L0) : Bool := let x0 := ((ile (0 : Int) (IntKind.wrap .i64 (x.v1 + (1 : Int)))) && (Nat.blt (Int.toNat (IntKind.wrap .i64 (x.v1 + (1 : Int)))) j)) && ((Nat.blt 0 j) && (((ile (0 : Int) x.v1) && (Nat.blt (Int.toNat x.v1) j)) && (Nat.blt 0 j))); (mrgB (!(ilt x.v1 (IntKind.wrap .i64 ((Int.ofNat j) - (1 : Int))))) true (mrgB (ieq x.v1 (1 : Int)) x0 x0))
def L_ref06_sum_L0 (j : Nat) (m l : Nat → Nat) (x : V_ref06_sum_L0) : V_ref06_sum_L0 := lastL (ok_ref06_sum_L0 j m l) (go_ref06_sum_L0 j m l) (step_ref06_sum_L0 j m l) x
def E_ref06_sum_L0 (j : Nat) (m l : Nat → Nat) (x : V_ref06_sum_L0) : Bool := endsL (ok_ref06_sum_L0 j m l) (go_ref06_sum_L0 j m l) (step_ref06_sum_L0 j m l) x
theorem all_ref06_sum_L0 (j : Nat) (m l : Nat → Nat) (x : V_ref06_sum_L0) : rnd Tryz.prog false menv122 [] [] 96 Ann.no (subC [1, 1, 0, 1, 0, 0] (codeOf Tryz.f86)) 0 [] tpl_ref06_sum_L0 cts_ref06_sum_L0 (false :: tpB 37 ([])) [] (sh_ref06_sum_L0 j m l x) = (true, true, go_ref06_sum_L0 j m l x, ok_ref06_sum_L0 j m l x, true, sh_ref06_sum_L0 j m l (step_ref06_sum_L0 j m l x), true) := by kernel_rfl
def fam_ref06_sum_L0 (j : Nat) (m l : Nat → Nat) : Fam Tryz.prog false menv122 [] [] 96 0 Ann.no (subC [1, 1, 0, 1, 0, 0] (codeOf Tryz.f86)) V_ref06_sum_L0 where
  sh := sh_ref06_sum_L0 j m l
  ok := ok_ref06_sum_L0 j m l
  go := go_ref06_sum_L0 j m l
  step := step_ref06_sum_L0 j m l
  chg := (false :: tpB 37 ([]))
  chgH := []
  tpl := tpl_ref06_sum_L0
  cts := cts_ref06_sum_L0
  keep := 0
  srcs := []
  ann := (annNo (subC [1, 1, 0, 1, 0, 0] (codeOf Tryz.f86)))
  le := by kernel_rfl
  kept := by kernel_rfl
  keptB := by kernel_rfl
  all := all_ref06_sum_L0 j m l
  len := fun x => by kernel_rfl
  head := fun x y => by kernel_rfl
  con := fun x y => by kernel_rfl
  conH := fun x y => by kernel_rfl
def F_ref06_sum_L0 : St → Option Ch := fun s => cond (Nat.beq s.tm.length 38 && Nat.beq s.H.length 0) (tkCons (alL tpl_ref06_sum_L0 s.tm) fun d t0 => tkView 2 d fun s0 f0 => tkTops 2 t0 fun t1 => tkCons t1 fun u t2 => tkF u fun s3 => tkCons t2 fun k t3 => tkI .i64 k fun s4 => tkTops 33 t3 fun t4 => tkNil t4 <| tkNil (alH cts_ref06_sum_L0 (s.H ++ List.map phan phs_ref06_sum_L0)) <| Fam.out (fam_ref06_sum_L0 s0 (fL f0 0) (fL f0 1)) s (allB fun i => isNrm [Ck.f, Ck.f] (f0 i)) (V_ref06_sum_L0.mk s3 s4)) none
theorem F_ref06_sum_L0_ok : ∀ s ch, F_ref06_sum_L0 s = some ch → AllI s ch ∧ LoopSpec Tryz.prog false 0 (subC [1, 1, 0, 1, 0, 0] (codeOf Tryz.f86)) s (sel ch) := by
  intro s ch h
  unfold F_ref06_sum_L0 at h
  obtain ⟨hl, h0⟩ := cond_some h rfl
  clear h
  obtain ⟨hl, hb⟩ := and_beq2 hl
  obtain ⟨d, t0, e0, h1⟩ := tkCons_some h0
  obtain ⟨s0, f0, rfl, h2⟩ := tkView_some h1
  obtain ⟨t1, rfl, h3⟩ := tkTops_some h2
  obtain ⟨u, t2, rfl, h4⟩ := tkCons_some h3
  obtain ⟨s3, rfl, h5⟩ := tkF_some h4
  obtain ⟨k, t3, rfl, h6⟩ := tkCons_some h5
  obtain ⟨s4, rfl, h7⟩ := tkI_some h6
  obtain ⟨t4, rfl, h8⟩ := tkTops_some h7
  obtain ⟨rfl, h9⟩ := tkNil_some h8
  obtain ⟨eH, h10⟩ := tkNil_some h9
  refine Fam.spec menv122_ok (fam_ref06_sum_L0 s0 (fL f0 0) (fL f0 1)) (phs := phs_ref06_sum_L0) (hl.trans (by kernel_rfl)) (hb.trans (by kernel_rfl)) ?_ ?_ h10
  · rw [← hdr_alH cts_ref06_sum_L0 (s.H ++ List.map phan phs_ref06_sum_L0), eH]; kernel_rfl
  · intro hq
    have hq0 := hq
    have n0 := nrm_fun hq0
    show sh_ref06_sum_L0 s0 (fL f0 0) (fL f0 1) (V_ref06_sum_L0.mk s3 s4) = (alL tpl_ref06_sum_L0 s.tm, alH cts_ref06_sum_L0 (s.H ++ List.map phan phs_ref06_sum_L0))
    rw [e0, eH]
    refine Eq.trans (show sh_ref06_sum_L0 s0 (fL f0 0) (fL f0 1) (V_ref06_sum_L0.mk s3 s4) = T_ref06_sum_L0 s0 (fL f0 0) (fL f0 1) (V_ref06_sum_L0.mk s3 s4) (fun i => mkN [Ck.f, Ck.f] (f0 i) 0) by kernel_rfl) ?_
    rw [n0]
    kernel_rfl
theorem ann_ref06_sum : FnOk Tryz.prog false 0 Tryz.f86 (Ann.two Ann.no (Ann.two Ann.no (Ann.two (Ann.two Ann.no (Ann.one (Ann.loop F_ref06_sum_L0))) Ann.no))) := (fnOk_of (c := codeOf Tryz.f86) (by kernel_rfl) (annSeq (a := (subC [0] (codeOf Tryz.f86))) (b := (subC [1] (codeOf Tryz.f86))) (by kernel_rfl) (annNo (subC [0] (codeOf Tryz.f86))) (annSeq (a := (subC [1, 0] (codeOf Tryz.f86))) (b := (subC [1, 1] (codeOf Tryz.f86))) (by kernel_rfl) (annNo (subC [1, 0] (codeOf Tryz.f86))) (annSeq (a := (subC [1, 1, 0] (codeOf Tryz.f86))) (b := (subC [1, 1, 1] (codeOf Tryz.f86))) (by kernel_rfl) (annSeq (a := (subC [1, 1, 0, 0] (codeOf Tryz.f86))) (b := (subC [1, 1, 0, 1] (codeOf Tryz.f86))) (by kernel_rfl) (annNo (subC [1, 1, 0, 0] (codeOf Tryz.f86))) (annBlock (a := (subC [1, 1, 0, 1, 0] (codeOf Tryz.f86))) (i := 0) (by kernel_rfl) (annLoop (a := (subC [1, 1, 0, 1, 0, 0] (codeOf Tryz.f86))) (by kernel_rfl) F_ref06_sum_L0_ok))) (annNo (subC [1, 1, 1] (codeOf Tryz.f86)))))))
def s_ref06_sum_0 (g : Nat) (n p : Nat → Nat) : Nat := ((L_ref06_sum_L0 g n p (V_ref06_sum_L0.mk 0 (1 : Int))).v0)
theorem e_ref06_sum (g : Nat) (n p : Nat → Nat) : outB (evFnM Tryz.prog false menv122 [] [] 96 (Ann.two Ann.no (Ann.two Ann.no (Ann.two (Ann.two Ann.no (Ann.one (Ann.loop F_ref06_sum_L0))) Ann.no))) Tryz.f86 [AV.view g 2 (fun i0 => [AV.float (n i0), AV.float (p i0)])] []) = some (((allB fun _ => true) && (E_ref06_sum_L0 g n p (V_ref06_sum_L0.mk 0 (1 : Int)))), AV.float (s_ref06_sum_0 g n p)) := by kernel_rfl
def o_ref06_sum (g : Nat) (n p : Nat → Nat) : Bool := (E_ref06_sum_L0 g n p (V_ref06_sum_L0.mk 0 (1 : Int)))
def S_ref06_sum : List AV → Option (Ob × AV)
  | [AV.view g 2 t] => some (Ob.both (Ob.bit (allB fun i => isNrm [Ck.f, Ck.f] (t i))) (Ob.bit (o_ref06_sum g (fL t 0) (fL t 1))), AV.float (s_ref06_sum_0 g (fL t 0) (fL t 1)))
  | _ => none
theorem ob_ref06_sum (g : Nat) (n p : Nat → Nat) (ho : o_ref06_sum g n p = true) : ((allB fun _ => true) && (E_ref06_sum_L0 g n p (V_ref06_sum_L0.mk 0 (1 : Int)))) = true := by
  unfold o_ref06_sum at ho
  simp only [allB_true, eqT_self, mrgB_self, Bool.true_and, Bool.and_true] at ho ⊢
  exact ho
theorem t_ref06_sum : SOkM Tryz.prog false (86, fun args => match S_ref06_sum args with | some (o, v) => some (o, v, []) | none => none) := SOkM.flat (N := 96) menv122_ok Tryz.func86 ann_ref06_sum Tryz.call86 fun args o v h ho => by
  unfold S_ref06_sum at h
  split at h
  · rename_i g t
    cases h
    rw [Ob.both_ok, Bool.and_eq_true] at ho
    obtain ⟨hn, ho2⟩ := ho
    have n0 := hn
    simp only [Ob.ok] at n0
    replace n0 := nrm_fun n0
    have this := show outB (evFnM Tryz.prog false menv122 [] [] 96 (Ann.two Ann.no (Ann.two Ann.no (Ann.two (Ann.two Ann.no (Ann.one (Ann.loop F_ref06_sum_L0))) Ann.no))) Tryz.f86 [AV.view g 2 (fun i => mkN [Ck.f, Ck.f] (t i) 0)] []) = _ from e_ref06_sum g (fL t 0) (fL t 1)
    rw [(ob_ref06_sum g (fL t 0) (fL t 1) ho2)] at this
    rw [n0] at this
    exact ⟨this, rfl⟩
  · cases h
def c_ref06_sum : SFM := fun args => match S_ref06_sum args with | some (o, v) => some (o, v, []) | none => none
theorem c_ref06_sum_ok : SOkM Tryz.prog false (86, c_ref06_sum) := t_ref06_sum
def mss119 : List (FuncId × SFM) := (86, c_ref06_sum) :: mss118
def menv123 : EnvM := mkEnvM mxs mss119 mws5
theorem mss119_ok : All (SOkM Tryz.prog false) mss119 := All.cons c_ref06_sum_ok mss118_ok
theorem menv123_ok : menv123.Ok Tryz.prog false := mkEnvM_ok mxs_ok mss119_ok mws5_ok
-- tumble/tumbleref06.Area
theorem ann_ref06_Area : FnOk Tryz.prog false 0 Tryz.f63 Ann.no := (fnNo _)
def s_ref06_Area_0 (g : Nat) (n p : Nat → Nat) : Nat := (bif (!(ieq (s_ref06_Check_0 g n p) (0 : Int))) then 0 else (bif (!(flt 0 (s_ref06_sum_0 g n p))) then 0 else (fmul (s_ref06_sum_0 g n p) 4602678819172646912)))
def s_ref06_Area_1 (g : Nat) (n p : Nat → Nat) : Int := (bif (!(ieq (s_ref06_Check_0 g n p) (0 : Int))) then (s_ref06_Check_0 g n p) else (bif (!(flt 0 (s_ref06_sum_0 g n p))) then (61 : Int) else (0 : Int)))
def q_ref06_Area (g : Nat) (n p : Nat → Nat) : Bool := (mrgB (!(ieq (s_ref06_Check_0 g n p) (0 : Int))) ((allB fun _ => true) && (o_ref06_Check g n p)) (mrgB (!(flt 0 (s_ref06_sum_0 g n p))) (((allB fun _ => true) && (o_ref06_sum g n p)) && ((allB fun _ => true) && (o_ref06_Check g n p))) (((allB fun _ => true) && (o_ref06_sum g n p)) && ((allB fun _ => true) && (o_ref06_Check g n p)))))
theorem e_ref06_Area (g : Nat) (n p : Nat → Nat) : outB (evFnM Tryz.prog false menv123 [] [] 96 Ann.no Tryz.f63 [AV.view g 2 (fun i0 => [AV.float (n i0), AV.float (p i0)])] []) = some (q_ref06_Area g n p, AV.tup [AV.float (s_ref06_Area_0 g n p), AV.int .i64 (s_ref06_Area_1 g n p)]) := by kernel_rfl
def o_ref06_Area (g : Nat) (n p : Nat → Nat) : Bool := (mrgB (!(ieq (s_ref06_Check_0 g n p) (0 : Int))) (o_ref06_Check g n p) (mrgB (!(flt 0 (s_ref06_sum_0 g n p))) ((o_ref06_sum g n p) && (o_ref06_Check g n p)) ((o_ref06_sum g n p) && (o_ref06_Check g n p))))
def S_ref06_Area : List AV → Option (Ob × AV)
  | [AV.view g 2 t] => some (Ob.both (Ob.bit (allB fun i => isNrm [Ck.f, Ck.f] (t i))) (Ob.bit (o_ref06_Area g (fL t 0) (fL t 1))), AV.tup [AV.float (s_ref06_Area_0 g (fL t 0) (fL t 1)), AV.int .i64 (s_ref06_Area_1 g (fL t 0) (fL t 1))])
  | _ => none
theorem ob_ref06_Area (g : Nat) (n p : Nat → Nat) (ho : o_ref06_Area g n p = true) : q_ref06_Area g n p = true := by
  unfold q_ref06_Area
  unfold o_ref06_Area at ho
  simp only [allB_true, eqT_self, mrgB_self, Bool.true_and, Bool.and_true] at ho ⊢
  exact ho
theorem t_ref06_Area : SOkM Tryz.prog false (63, fun args => match S_ref06_Area args with | some (o, v) => some (o, v, []) | none => none) := SOkM.flat (N := 96) menv123_ok Tryz.func63 ann_ref06_Area Tryz.call63 fun args o v h ho => by
  unfold S_ref06_Area at h
  split at h
  · rename_i g t
    cases h
    rw [Ob.both_ok, Bool.and_eq_true] at ho
    obtain ⟨hn, ho2⟩ := ho
    have n0 := hn
    simp only [Ob.ok] at n0
    replace n0 := nrm_fun n0
    have this := show outB (evFnM Tryz.prog false menv123 [] [] 96 Ann.no Tryz.f63 [AV.view g 2 (fun i => mkN [Ck.f, Ck.f] (t i) 0)] []) = _ from e_ref06_Area g (fL t 0) (fL t 1)
    rw [(ob_ref06_Area g (fL t 0) (fL t 1) ho2)] at this
    rw [n0] at this
    exact ⟨this, rfl⟩
  · cases h
def c_ref06_Area : SFM := fun args => match S_ref06_Area args with | some (o, v) => some (o, v, []) | none => none
theorem c_ref06_Area_ok : SOkM Tryz.prog false (63, c_ref06_Area) := t_ref06_Area
def mss120 : List (FuncId × SFM) := (63, c_ref06_Area) :: mss119
def menv124 : EnvM := mkEnvM mxs mss120 mws5
theorem mss120_ok : All (SOkM Tryz.prog false) mss120 := All.cons c_ref06_Area_ok mss119_ok
theorem menv124_ok : menv124.Ok Tryz.prog false := mkEnvM_ok mxs_ok mss120_ok mws5_ok
-- tumble/tumbleref06.Centre
-- a loop of tumble/tumbleref06.Centre
structure V_ref06_Centre_L0 where
  v0 : Nat
  v1 : Nat
  v2 : Int
def tpl_ref06_Centre_L0 : List AV := (AV.nul :: AV.top :: AV.nul :: AV.top :: AV.top :: AV.top :: AV.nul :: AV.nul :: AV.nul :: tpA 86 ([]))
def cts_ref06_Centre_L0 : List CT := [CT.keep]
def phs_ref06_Centre_L0 : List Src := []
def T_ref06_Centre_L0 (j : Nat) (m l : Nat → Nat) (x : V_ref06_Centre_L0) (F0 : Nat → List AV) : List AV × Heap := ((AV.view j 2 F0 :: AV.top :: AV.ptr (some ⟨0, 0, .lit 0⟩) :: AV.top :: AV.top :: AV.top :: AV.float x.v0 :: AV.float x.v1 :: AV.int .i64 x.v2 :: tpA 86 ([])), [⟨.flat [AV.float 0, AV.float 0], 29, 0⟩])
def sh_ref06_Centre_L0 (j : Nat) (m l : Nat → Nat) (x : V_ref06_Centre_L0) : List AV × Heap := T_ref06_Centre_L0 j m l x (fun j0 => [AV.float (m j0), AV.float (l j0)])
def step_ref06_Centre_L0 (j : Nat) (m l : Nat → Nat) (x : V_ref06_Centre_L0) : V_ref06_Centre_L0 := V_ref06_Centre_L0.mk (let x0 := Int.toNat (IntKind.wrap .i64 (x.v2 + (1 : Int))); let x1 := l x0; let x2 := m x0; let x3 := s_ref06_lead_0 (m 0) (l 0) x2 x1; let x4 := l (Int.toNat x.v2); let x5 := m (Int.toNat x.v2); let x6 := s_ref06_lead_0 (m 0) (l 0) x5 x4; let x7 := fmul (fadd x6 x3) (s_ref02_Cross_0 x6 (s_ref06_lead_1 (m 0) (l 0) x5 x4) x3 (s_ref06_lead_1 (m 0) (l 0) x2 x1)); (bif (ieq x.v2 (1 : Int)) then x7 else (fadd x.v0 x7))) (let x0 := Int.toNat (IntKind.wrap .i64 (x.v2 + (1 : Int))); let x1 := l x0; let x2 := m x0; let x3 := s_ref06_lead_1 (m 0) (l 0) x2 x1; let x4 := l (Int.toNat x.v2); let x5 := m (Int.toNat x.v2); let x6 := s_ref06_lead_1 (m 0) (l 0) x5 x4; let x7 := fmul (fadd x6 x3) (s_ref02_Cross_0 (s_ref06_lead_0 (m 0) (l 0) x5 x4) x6 (s_ref06_lead_0 (m 0) (l 0) x2 x1) x3); (bif (ieq x.v2 (1 : Int)) then x7 else (fadd x.v1 x7))) (IntKind.wrap .i64 (x.v2 + (1 : Int)))
def go_ref06_Centre_L0 (j : Nat) (m l : Nat → Nat) (x : V_ref06_Centre_L0) : Bool := (bif (!(ilt x.v2 (IntKind.wrap .i64 ((Int.ofNat j) - (1 : Int))))) then false else true)
def ok_ref06_Centre_L0 (j : Nat) (m l : Nat → Nat) (x : V_ref06_Centre_L0) : Bool := let x0 := ((ile (0 : Int) (IntKind.wrap .i64 (x.v2 + (1 : Int)))) && (Nat.blt (Int.toNat (IntKind.wrap .i64 (x.v2 + (1 : Int)))) j)) && ((Nat.blt 0 j) && (((ile (0 : Int) x.v2) && (Nat.blt (Int.toNat x.v2) j)) && (Nat.blt 0 j))); (mrgB (!(ilt x.v2 (IntKind.wrap .i64 ((Int.ofNat j) - (1 : Int))))) true (mrgB (ieq x.v2 (1 : Int)) x0 x0))
def L_ref06_Centre_L0 (j : Nat) (m l : Nat → Nat) (x : V_ref06_Centre_L0) : V_ref06_Centre_L0 := lastL (ok_ref06_Centre_L0 j m l) (go_ref06_Centre_L0 j m l) (step_ref06_Centre_L0 j m l) x
def E_ref06_Centre_L0 (j : Nat) (m l : Nat → Nat) (x : V_ref06_Centre_L0) : Bool := endsL (ok_ref06_Centre_L0 j m l) (go_ref06_Centre_L0 j m l) (step_ref06_Centre_L0 j m l) x
theorem all_ref06_Centre_L0 (j : Nat) (m l : Nat → Nat) (x : V_ref06_Centre_L0) : rnd Tryz.prog false menv124 [] [] 96 Ann.no (subC [1, 1, 1, 1, 1, 0, 1, 0, 0] (codeOf Tryz.f64)) 0 [⟨some 0, 0, 0, []⟩] tpl_ref06_Centre_L0 cts_ref06_Centre_L0 (false :: true :: false :: tpB 92 ([])) [false] (sh_ref06_Centre_L0 j m l x) = (true, true, go_ref06_Centre_L0 j m l x, ok_ref06_Centre_L0 j m l x, true, sh_ref06_Centre_L0 j m l (step_ref06_Centre_L0 j m l x), true) := by kernel_rfl
def fam_ref06_Centre_L0 (j : Nat) (m l : Nat → Nat) : Fam Tryz.prog false menv124 [] [] 96 0 Ann.no (subC [1, 1, 1, 1, 1, 0, 1, 0, 0] (codeOf Tryz.f64)) V_ref06_Centre_L0 where
  sh := sh_ref06_Centre_L0 j m l
  ok := ok_ref06_Centre_L0 j m l
  go := go_ref06_Centre_L0 j m l
  step := step_ref06_Centre_L0 j m l
  chg := (false :: true :: false :: tpB 92 ([]))
  chgH := [false]
  tpl := tpl_ref06_Centre_L0
  cts := cts_ref06_Centre_L0
  keep := 0
  srcs := [⟨some 0, 0, 0, []⟩]
  ann := (annNo (subC [1, 1, 1, 1, 1, 0, 1, 0, 0] (codeOf Tryz.f64)))
  le := by kernel_rfl
  kept := by kernel_rfl
  keptB := by kernel_rfl
  all := all_ref06_Centre_L0 j m l
  len := fun x => by kernel_rfl
  head := fun x y => by kernel_rfl
  con := fun x y => by kernel_rfl
  conH := fun x y => by kernel_rfl
def F_ref06_Centre_L0 : St → Option Ch := fun s => cond (Nat.beq s.tm.length 95 && Nat.beq s.H.length 1) (tkCons (alL tpl_ref06_Centre_L0 s.tm) fun d t0 => tkView 2 d fun s0 f0 => tkTops 1 t0 fun t1 => tkCons t1 fun u t2 => tkPtr 0 0 0 u <| tkTops 3 t2 fun t3 => tkCons t3 fun M t4 => tkF M fun s3 => tkCons t4 fun P t5 => tkF P fun s4 => tkCons t5 fun Y t6 => tkI .i64 Y fun s5 => tkTops 86 t6 fun t7 => tkNil t7 <| tkCons (alH cts_ref06_Centre_L0 (s.H ++ List.map phan phs_ref06_Centre_L0)) fun b8 t8 => tkFlat 29 0 b8 fun m8 => tkCons m8 fun X t9 => tkFL 0 X <| tkCons t9 fun ae t10 => tkFL 0 ae <| tkNil t10 <| tkNil t8 <| Fam.out (fam_ref06_Centre_L0 s0 (fL f0 0) (fL f0 1)) s (allB fun i => isNrm [Ck.f, Ck.f] (f0 i)) (V_ref06_Centre_L0.mk s3 s4 s5)) none
theorem F_ref06_Centre_L0_ok : ∀ s ch, F_ref06_Centre_L0 s = some ch → AllI s ch ∧ LoopSpec Tryz.prog false 0 (subC [1, 1, 1, 1, 1, 0, 1, 0, 0] (codeOf Tryz.f64)) s (sel ch) := by
  intro s ch h
  unfold F_ref06_Centre_L0 at h
  obtain ⟨hl, h0⟩ := cond_some h rfl
  clear h
  obtain ⟨hl, hb⟩ := and_beq2 hl
  obtain ⟨d, t0, e0, h1⟩ := tkCons_some h0
  obtain ⟨s0, f0, rfl, h2⟩ := tkView_some h1
  obtain ⟨t1, rfl, h3⟩ := tkTops_some h2
  obtain ⟨u, t2, rfl, h4⟩ := tkCons_some h3
  obtain ⟨rfl, h5⟩ := tkPtr_some h4
  obtain ⟨t3, rfl, h6⟩ := tkTops_some h5
  obtain ⟨M, t4, rfl, h7⟩ := tkCons_some h6
  obtain ⟨s3, rfl, h8⟩ := tkF_some h7
  obtain ⟨P, t5, rfl, h9⟩ := tkCons_some h8
  obtain ⟨s4, rfl, h10⟩ := tkF_some h9
  obtain ⟨Y, t6, rfl, h11⟩ := tkCons_some h10
  obtain ⟨s5, rfl, h12⟩ := tkI_some h11
  obtain ⟨t7, rfl, h13⟩ := tkTops_some h12
  obtain ⟨rfl, h14⟩ := tkNil_some h13
  obtain ⟨b8, t8, eH, h15⟩ := tkCons_some h14
  obtain ⟨m8, rfl, h16⟩ := tkFlat_some h15
  obtain ⟨X, t9, rfl, h17⟩ := tkCons_some h16
  obtain ⟨rfl, h18⟩ := tkFL_some h17
  obtain ⟨ae, t10, rfl, h19⟩ := tkCons_some h18
  obtain ⟨rfl, h20⟩ := tkFL_some h19
  obtain ⟨rfl, h21⟩ := tkNil_some h20
  obtain ⟨rfl, h22⟩ := tkNil_some h21
  refine Fam.spec menv124_ok (fam_ref06_Centre_L0 s0 (fL f0 0) (fL f0 1)) (phs := phs_ref06_Centre_L0) (hl.trans (by kernel_rfl)) (hb.trans (by kernel_rfl)) ?_ ?_ h22
  · rw [← hdr_alH cts_ref06_Centre_L0 (s.H ++ List.map phan phs_ref06_Centre_L0), eH]; kernel_rfl
  · intro hq
    have hq0 := hq
    have n0 := nrm_fun hq0
    show sh_ref06_Centre_L0 s0 (fL f0 0) (fL f0 1) (V_ref06_Centre_L0.mk s3 s4 s5) = (alL tpl_ref06_Centre_L0 s.tm, alH cts_ref06_Centre_L0 (s.H ++ List.map phan phs_ref06_Centre_L0))
    rw [e0, eH]
    refine Eq.trans (show sh_ref06_Centre_L0 s0 (fL f0 0) (fL f0 1) (V_ref06_Centre_L0.mk s3 s4 s5) = T_ref06_Centre_L0 s0 (fL f0 0) (fL f0 1) (V_ref06_Centre_L0.mk s3 s4 s5) (fun i => mkN [Ck.f, Ck.f] (f0 i) 0) by kernel_rfl) ?_
    rw [n0]
    kernel_rfl
theorem ann_ref06_Centre : FnOk Tryz.prog false 0 Tryz.f64 (Ann.two Ann.no (Ann.two Ann.no (Ann.two Ann.no (Ann.two Ann.no (Ann.two Ann.no (Ann.two (Ann.two Ann.no (Ann.one (Ann.loop F_ref06_Centre_L0))) Ann.no)))))) := (fnOk_of (c := codeOf Tryz.f64) (by kernel_rfl) (annSeq (a := (subC [0] (codeOf Tryz.f64))) (b := (subC [1] (codeOf Tryz.f64))) (by kernel_rfl) (annNo (subC [0] (codeOf Tryz.f64))) (annSeq (a := (subC [1, 0] (codeOf Tryz.f64))) (b := (subC [1, 1] (codeOf Tryz.f64))) (by kernel_rfl) (annNo (subC [1, 0] (codeOf Tryz.f64))) (annSeq (a := (subC [1, 1, 0] (codeOf Tryz.f64))) (b := (subC [1, 1, 1] (codeOf Tryz.f64))) (by kernel_rfl) (annNo (subC [1, 1, 0] (codeOf Tryz.f64))) (annSeq (a := (subC [1, 1, 1, 0] (codeOf Tryz.f64))) (b := (subC [1, 1, 1, 1] (codeOf Tryz.f64))) (by kernel_rfl) (annNo (subC [1, 1, 1, 0] (codeOf Tryz.f64))) (annSeq (a := (subC [1, 1, 1, 1, 0] (codeOf Tryz.f64))) (b := (subC [1, 1, 1, 1, 1] (codeOf Tryz.f64))) (by kernel_rfl) (annNo (subC [1, 1, 1, 1, 0] (codeOf Tryz.f64))) (annSeq (a := (subC [1, 1, 1, 1, 1, 0] (codeOf Tryz.f64))) (b := (subC [1, 1, 1, 1, 1, 1] (codeOf Tryz.f64))) (by kernel_rfl) (annSeq (a := (subC [1, 1, 1, 1, 1, 0, 0] (codeOf Tryz.f64))) (b := (subC [1, 1, 1, 1, 1, 0, 1] (codeOf Tryz.f64))) (by kernel_rfl) (annNo (subC [1, 1, 1, 1, 1, 0, 0] (codeOf Tryz.f64))) (annBlock (a := (subC [1, 1, 1, 1, 1, 0, 1, 0] (codeOf Tryz.f64))) (i := 0) (by kernel_rfl) (annLoop (a := (subC [1, 1, 1, 1, 1, 0, 1, 0, 0] (codeOf Tryz.f64))) (by kernel_rfl) F_ref06_Centre_L0_ok))) (annNo (subC [1, 1, 1, 1, 1, 1] (codeOf Tryz.f64))))))))))
def s_ref06_Centre_0 (g : Nat) (n p : Nat → Nat) : Nat := (bif (!(ieq (s_ref06_Area_1 g n p) (0 : Int))) then 0 else (fadd (n 0) (fdiv ((L_ref06_Centre_L0 g n p (V_ref06_Centre_L0.mk 0 0 (1 : Int))).v0) (fmul 4613937818241073152 (s_ref06_sum_0 g n p)))))
def s_ref06_Centre_1 (g : Nat) (n p : Nat → Nat) : Nat := (bif (!(ieq (s_ref06_Area_1 g n p) (0 : Int))) then 0 else (fadd (p 0) (fdiv ((L_ref06_Centre_L0 g n p (V_ref06_Centre_L0.mk 0 0 (1 : Int))).v1) (fmul 4613937818241073152 (s_ref06_sum_0 g n p)))))
def s_ref06_Centre_2 (g : Nat) (n p : Nat → Nat) : Int := (bif (!(ieq (s_ref06_Area_1 g n p) (0 : Int))) then (s_ref06_Area_1 g n p) else (0 : Int))
def q_ref06_Centre (g : Nat) (n p : Nat → Nat) : Bool := (mrgB (!(ieq (s_ref06_Area_1 g n p) (0 : Int))) ((allB fun _ => true) && (o_ref06_Area g n p)) ((Nat.blt 0 g) && ((Nat.blt 0 g) && (((allB fun _ => true) && (o_ref06_sum g n p)) && (((allB fun _ => true) && (o_ref06_Area g n p)) && ((allB fun _ => true) && (E_ref06_Centre_L0 g n p (V_ref06_Centre_L0.mk 0 0 (1 : Int)))))))))
theorem e_ref06_Centre (g : Nat) (n p : Nat → Nat) : outB (evFnM Tryz.prog false menv124 [] [] 96 (Ann.two Ann.no (Ann.two Ann.no (Ann.two Ann.no (Ann.two Ann.no (Ann.two Ann.no (Ann.two (Ann.two Ann.no (Ann.one (Ann.loop F_ref06_Centre_L0))) Ann.no)))))) Tryz.f64 [AV.view g 2 (fun i0 => [AV.float (n i0), AV.float (p i0)])] []) = some (q_ref06_Centre g n p, AV.tup [AV.agg [AV.float (s_ref06_Centre_0 g n p), AV.float (s_ref06_Centre_1 g n p)], AV.int .i64 (s_ref06_Centre_2 g n p)]) := by kernel_rfl
def o_ref06_Centre (g : Nat) (n p : Nat → Nat) : Bool := (mrgB (!(ieq (s_ref06_Area_1 g n p) (0 : Int))) (o_ref06_Area g n p) ((Nat.blt 0 g) && ((Nat.blt 0 g) && ((o_ref06_sum g n p) && ((o_ref06_Area g n p) && (E_ref06_Centre_L0 g n p (V_ref06_Centre_L0.mk 0 0 (1 : Int))))))))
def S_ref06_Centre : List AV → Option (Ob × AV)
  | [AV.view g 2 t] => some (Ob.both (Ob.bit (allB fun i => isNrm [Ck.f, Ck.f] (t i))) (Ob.bit (o_ref06_Centre g (fL t 0) (fL t 1))), AV.tup [AV.agg [AV.float (s_ref06_Centre_0 g (fL t 0) (fL t 1)), AV.float (s_ref06_Centre_1 g (fL t 0) (fL t 1))], AV.int .i64 (s_ref06_Centre_2 g (fL t 0) (fL t 1))])
  | _ => none
theorem ob_ref06_Centre (g : Nat) (n p : Nat → Nat) (ho : o_ref06_Centre g n p = true) : q_ref06_Centre g n p = true := by
  unfold q_ref06_Centre
  unfold o_ref06_Centre at ho
  simp only [allB_true, eqT_self, mrgB_self, Bool.true_and, Bool.and_true] at ho ⊢
  exact ho
theorem t_ref06_Centre : SOkM Tryz.prog false (64, fun args => match S_ref06_Centre args with | some (o, v) => some (o, v, []) | none => none) := SOkM.flat (N := 96) menv124_ok Tryz.func64 ann_ref06_Centre Tryz.call64 fun args o v h ho => by
  unfold S_ref06_Centre at h
  split at h
  · rename_i g t
    cases h
    rw [Ob.both_ok, Bool.and_eq_true] at ho
    obtain ⟨hn, ho2⟩ := ho
    have n0 := hn
    simp only [Ob.ok] at n0
    replace n0 := nrm_fun n0
    have this := show outB (evFnM Tryz.prog false menv124 [] [] 96 (Ann.two Ann.no (Ann.two Ann.no (Ann.two Ann.no (Ann.two Ann.no (Ann.two Ann.no (Ann.two (Ann.two Ann.no (Ann.one (Ann.loop F_ref06_Centre_L0))) Ann.no)))))) Tryz.f64 [AV.view g 2 (fun i => mkN [Ck.f, Ck.f] (t i) 0)] []) = _ from e_ref06_Centre g (fL t 0) (fL t 1)
    rw [(ob_ref06_Centre g (fL t 0) (fL t 1) ho2)] at this
    rw [n0] at this
    exact ⟨this, rfl⟩
  · cases h
def c_ref06_Centre : SFM := fun args => match S_ref06_Centre args with | some (o, v) => some (o, v, []) | none => none
theorem c_ref06_Centre_ok : SOkM Tryz.prog false (64, c_ref06_Centre) := t_ref06_Centre
def mss121 : List (FuncId × SFM) := (64, c_ref06_Centre) :: mss120
def menv125 : EnvM := mkEnvM mxs mss121 mws5
theorem mss121_ok : All (SOkM Tryz.prog false) mss121 := All.cons c_ref06_Centre_ok mss120_ok
theorem menv125_ok : menv125.Ok Tryz.prog false := mkEnvM_ok mxs_ok mss121_ok mws5_ok
-- tumble/tumbleref08.polygon
-- a loop of tumble/tumbleref08.polygon
structure V_ref08_polygon_L0 where
  v0 : Nat
  v1 : Int
def tpl_ref08_polygon_L0 : List AV := (AV.top :: AV.nul :: AV.nul :: AV.top :: AV.nul :: AV.top :: AV.nul :: AV.top :: AV.nul :: AV.nul :: AV.nul :: AV.nul :: tpA 78 ([]))
def cts_ref08_polygon_L0 : List CT := [CT.keep, CT.keep, CT.keep]
def phs_ref08_polygon_L0 : List Src := []
def T_ref08_polygon_L0 (j m : Nat) (l r : Int) (C D : Nat) (F I : Nat → Nat) (L K : Nat) (x : V_ref08_polygon_L0) (F0 : Nat → List AV) : List AV × Heap := ((AV.top :: AV.float j :: AV.ptr (some ⟨0, 0, .lit 0⟩) :: AV.top :: AV.ptr (some ⟨1, 0, .lit 0⟩) :: AV.top :: AV.float m :: AV.top :: AV.ptr (some ⟨2, 0, .lit 0⟩) :: AV.float x.v0 :: AV.int .i64 l :: AV.int .i64 x.v1 :: tpA 78 ([])), [⟨.flat [AV.int .u8 r, AV.float C, AV.view D 2 F0], 25, 0⟩, ⟨.flat [AV.float 0, AV.float 0, AV.float 0, AV.float 0], 31, 0⟩, ⟨.flat [AV.float L, AV.float K], 29, 0⟩])
def sh_ref08_polygon_L0 (j m : Nat) (l r : Int) (C D : Nat) (F I : Nat → Nat) (L K : Nat) (x : V_ref08_polygon_L0) : List AV × Heap := T_ref08_polygon_L0 j m l r C D F I L K x (fun j0 => [AV.float (F j0), AV.float (I j0)])
def step_ref08_polygon_L0 (l : Int) (D : Nat) (F I : Nat → Nat) (L K : Nat) (x : V_ref08_polygon_L0) : V_ref08_polygon_L0 := V_ref08_polygon_L0.mk (let x0 := Int.toNat (Int.tmod (IntKind.wrap .i64 (x.v1 + (1 : Int))) l); let x1 := I x0; let x2 := F x0; let x3 := s_ref02_Sub_1 x2 x1 L K; let x4 := s_ref02_Sub_0 x2 x1 L K; let x5 := I (Int.toNat x.v1); let x6 := F (Int.toNat x.v1); let x7 := s_ref02_Sub_1 x6 x5 L K; let x8 := s_ref02_Sub_0 x6 x5 L K; let x9 := fmul (s_ref02_Cross_0 x8 x7 x4 x3) (fadd (fadd (s_ref02_Dot_0 x8 x7 x8 x7) (s_ref02_Dot_0 x8 x7 x4 x3)) (s_ref02_Dot_0 x4 x3 x4 x3)); (bif (ieq x.v1 (0 : Int)) then x9 else (fadd x.v0 x9))) (IntKind.wrap .i64 (x.v1 + (1 : Int)))
def go_ref08_polygon_L0 (l : Int) (D : Nat) (F I : Nat → Nat) (L K : Nat) (x : V_ref08_polygon_L0) : Bool := (bif (!(ilt x.v1 l)) then false else true)
def ok_ref08_polygon_L0 (l : Int) (D : Nat) (F I : Nat → Nat) (L K : Nat) (x : V_ref08_polygon_L0) : Bool := let x0 := Int.tmod (IntKind.wrap .i64 (x.v1 + (1 : Int))) l; let x1 := ((ile (0 : Int) x0) && (Nat.blt (Int.toNat x0) D)) && ((!(ieq l (0 : Int))) && ((ile (0 : Int) x.v1) && (Nat.blt (Int.toNat x.v1) D))); (mrgB (!(ilt x.v1 l)) true (mrgB (ieq x.v1 (0 : Int)) x1 x1))
def L_ref08_polygon_L0 (l : Int) (D : Nat) (F I : Nat → Nat) (L K : Nat) (x : V_ref08_polygon_L0) : V_ref08_polygon_L0 := lastL (ok_ref08_polygon_L0 l D F I L K) (go_ref08_polygon_L0 l D F I L K) (step_ref08_polygon_L0 l D F I L K) x
def E_ref08_polygon_L0 (l : Int) (D : Nat) (F I : Nat → Nat) (L K : Nat) (x : V_ref08_polygon_L0) : Bool := endsL (ok_ref08_polygon_L0 l D F I L K) (go_ref08_polygon_L0 l D F I L K) (step_ref08_polygon_L0 l D F I L K) x
theorem all_ref08_polygon_L0 (j m : Nat) (l r : Int) (C D : Nat) (F I : Nat → Nat) (L K : Nat) (x : V_ref08_polygon_L0) : rnd Tryz.prog false menv125 [] [] 96 Ann.no (subC [1, 1, 1, 1, 1, 1, 1, 0, 1, 0, 0] (codeOf Tryz.f30)) 0 [⟨some 0, 0, 0, []⟩, ⟨some 1, 0, 0, []⟩, ⟨some 2, 0, 0, []⟩] tpl_ref08_polygon_L0 cts_ref08_polygon_L0 (true :: false :: false :: true :: false :: true :: false :: true :: false :: true :: false :: tpB 79 ([])) [false, false, false] (sh_ref08_polygon_L0 j m l r C D F I L K x) = (true, true, go_ref08_polygon_L0 l D F I L K x, ok_ref08_polygon_L0 l D F I L K x, true, sh_ref08_polygon_L0 j m l r C D F I L K (step_ref08_polygon_L0 l D F I L K x), true) := by kernel_rfl
def fam_ref08_polygon_L0 (j m : Nat) (l r : Int) (C D : Nat) (F I : Nat → Nat) (L K : Nat) : Fam Tryz.prog false menv125 [] [] 96 0 Ann.no (subC [1, 1, 1, 1, 1, 1, 1, 0, 1, 0, 0] (codeOf Tryz.f30)) V_ref08_polygon_L0 where
  sh := sh_ref08_polygon_L0 j m l r C D F I L K
  ok := ok_ref08_polygon_L0 l D F I L K
  go := go_ref08_polygon_L0 l D F I L K
  step := step_ref08_polygon_L0 l D F I L K
  chg := (true :: false :: false :: true :: false :: true :: false :: true :: false :: true :: false :: tpB 79 ([]))
  chgH := [false, false, false]
  tpl := tpl_ref08_polygon_L0
  cts := cts_ref08_polygon_L0
  keep := 0
  srcs := [⟨some 0, 0, 0, []⟩, ⟨some 1, 0, 0, []⟩, ⟨some 2, 0, 0, []⟩]
  ann := (annNo (subC [1, 1, 1, 1, 1, 1, 1, 0, 1, 0, 0] (codeOf Tryz.f30)))
  le := by kernel_rfl
  kept := by kernel_rfl
  keptB := by kernel_rfl
  all := all_ref08_polygon_L0 j m l r C D F I L K
  len := fun x => by kernel_rfl
  head := fun x y => by kernel_rfl
  con := fun x y => by kernel_rfl
  conH := fun x y => by kernel_rfl
def F_ref08_polygon_L0 : St → Option Ch := fun s => cond (Nat.beq s.tm.length 90 && Nat.beq s.H.length 3) (tkTops 1 (alL tpl_ref08_polygon_L0 s.tm) fun t0 => tkCons t0 fun e t1 => tkF e fun s0 => tkCons t1 fun u t2 => tkPtr 0 0 0 u <| tkTops 1 t2 fun t3 => tkCons t3 fun M t4 => tkPtr 1 0 0 M <| tkTops 1 t4 fun t5 => tkCons t5 fun Y t6 => tkF Y fun s1 => tkTops 1 t6 fun t7 => tkCons t7 fun aa t8 => tkPtr 2 0 0 aa <| tkCons t8 fun X t9 => tkF X fun s2 => tkCons t9 fun ae t10 => tkI .i64 ae fun s3 => tkCons t10 fun ad t11 => tkI .i64 ad fun s4 => tkTops 78 t11 fun t12 => tkNil t12 <| tkCons (alH cts_ref08_polygon_L0 (s.H ++ List.map phan phs_ref08_polygon_L0)) fun b13 t13 => tkFlat 25 0 b13 fun m13 => tkCons m13 fun ao t14 => tkI .u8 ao fun s5 => tkCons t14 fun ag t15 => tkF ag fun s6 => tkCons t15 fun ah t16 => tkView 2 ah fun s7 f0 => tkNil t16 <| tkCons t13 fun b17 t17 => tkFlat 31 0 b17 fun m17 => tkCons m17 fun ap t18 => tkFL 0 ap <| tkCons t18 fun ak t19 => tkFL 0 ak <| tkCons t19 fun al t20 => tkFL 0 al <| tkCons t20 fun am t21 => tkFL 0 am <| tkNil t21 <| tkCons t17 fun b22 t22 => tkFlat 29 0 b22 fun m22 => tkCons m22 fun au t23 => tkF au fun s14 => tkCons t23 fun an t24 => tkF an fun s15 => tkNil t24 <| tkNil t22 <| Fam.out (fam_ref08_polygon_L0 s0 s1 s3 s5 s6 s7 (fL f0 0) (fL f0 1) s14 s15) s (allB fun i => isNrm [Ck.f, Ck.f] (f0 i)) (V_ref08_polygon_L0.mk s2 s4)) none
theorem F_ref08_polygon_L0_ok : ∀ s ch, F_ref08_polygon_L0 s = some ch → AllI s ch ∧ LoopSpec Tryz.prog false 0 (subC [1, 1, 1, 1, 1, 1, 1, 0, 1, 0, 0] (codeOf Tryz.f30)) s (sel ch) := by
  intro s ch h
  unfold F_ref08_polygon_L0 at h
  obtain ⟨hl, h0⟩ := cond_some h rfl
  clear h
  obtain ⟨hl, hb⟩ := and_beq2 hl
  obtain ⟨t0, e0, h1⟩ := tkTops_some h0
  obtain ⟨e, t1, rfl, h2⟩ := tkCons_some h1
  obtain ⟨s0, rfl, h3⟩ := tkF_some h2
  obtain ⟨u, t2, rfl, h4⟩ := tkCons_some h3
  obtain ⟨rfl, h5⟩ := tkPtr_some h4
  obtain ⟨t3, rfl, h6⟩ := tkTops_some h5
  obtain ⟨M, t4, rfl, h7⟩ := tkCons_some h6
  obtain ⟨rfl, h8⟩ := tkPtr_some h7
  obtain ⟨t5, rfl, h9⟩ := tkTops_some h8
  obtain ⟨Y, t6, rfl, h10⟩ := tkCons_some h9
  obtain ⟨s1, rfl, h11⟩ := tkF_some h10
  obtain ⟨t7, rfl, h12⟩ := tkTops_some h11
  obtain ⟨aa, t8, rfl, h13⟩ := tkCons_some h12
  obtain ⟨rfl, h14⟩ := tkPtr_some h13
  obtain ⟨X, t9, rfl, h15⟩ := tkCons_some h14
  obtain ⟨s2, rfl, h16⟩ := tkF_some h15
  obtain ⟨ae, t10, rfl, h17⟩ := tkCons_some h16
  obtain ⟨s3, rfl, h18⟩ := tkI_some h17
  obtain ⟨ad, t11, rfl, h19⟩ := tkCons_some h18
  obtain ⟨s4, rfl, h20⟩ := tkI_some h19
  obtain ⟨t12, rfl, h21⟩ := tkTops_some h20
  obtain ⟨rfl, h22⟩ := tkNil_some h21
  obtain ⟨b13, t13, eH, h23⟩ := tkCons_some h22
  obtain ⟨m13, rfl, h24⟩ := tkFlat_some h23
  obtain ⟨ao, t14, rfl, h25⟩ := tkCons_some h24
  obtain ⟨s5, rfl, h26⟩ := tkI_some h25
  obtain ⟨ag, t15, rfl, h27⟩ := tkCons_some h26
  obtain ⟨s6, rfl, h28⟩ := tkF_some h27
  obtain ⟨ah, t16, rfl, h29⟩ := tkCons_some h28
  obtain ⟨s7, f0, rfl, h30⟩ := tkView_some h29
  obtain ⟨rfl, h31⟩ := tkNil_some h30
  obtain ⟨b17, t17, rfl, h32⟩ := tkCons_some h31
  obtain ⟨m17, rfl, h33⟩ := tkFlat_some h32
  obtain ⟨ap, t18, rfl, h34⟩ := tkCons_some h33
  obtain ⟨rfl, h35⟩ := tkFL_some h34
  obtain ⟨ak, t19, rfl, h36⟩ := tkCons_some h35
  obtain ⟨rfl, h37⟩ := tkFL_some h36
  obtain ⟨al, t20, rfl, h38⟩ := tkCons_some h37
  obtain ⟨rfl, h39⟩ := tkFL_some h38
  obtain ⟨am, t21, rfl, h40⟩ := tkCons_some h39
  obtain ⟨rfl, h41⟩ := tkFL_some h40
  obtain ⟨rfl, h42⟩ := tkNil_some h41
  obtain ⟨b22, t22, rfl, h43⟩ := tkCons_some h42
  obtain ⟨m22, rfl, h44⟩ := tkFlat_some h43
  obtain ⟨au, t23, rfl, h45⟩ := tkCons_some h44
  obtain ⟨s14, rfl, h46⟩ := tkF_some h45
  obtain ⟨an, t24, rfl, h47⟩ := tkCons_some h46
  obtain ⟨s15, rfl, h48⟩ := tkF_some h47
  obtain ⟨rfl, h49⟩ := tkNil_some h48
  obtain ⟨rfl, h50⟩ := tkNil_some h49
  refine Fam.spec menv125_ok (fam_ref08_polygon_L0 s0 s1 s3 s5 s6 s7 (fL f0 0) (fL f0 1) s14 s15) (phs := phs_ref08_polygon_L0) (hl.trans (by kernel_rfl)) (hb.trans (by kernel_rfl)) ?_ ?_ h50
  · rw [← hdr_alH cts_ref08_polygon_L0 (s.H ++ List.map phan phs_ref08_polygon_L0), eH]; kernel_rfl
  · intro hq
    have hq0 := hq
    have n0 := nrm_fun hq0
    show sh_ref08_polygon_L0 s0 s1 s3 s5 s6 s7 (fL f0 0) (fL f0 1) s14 s15 (V_ref08_polygon_L0.mk s2 s4) = (alL tpl_ref08_polygon_L0 s.tm, alH cts_ref08_polygon_L0 (s.H ++ List.map phan phs_ref08_polygon_L0))
    rw [e0, eH]
    refine Eq.trans (show sh_ref08_polygon_L0 s0 s1 s3 s5 s6 s7 (fL f0 0) (fL f0 1) s14 s15 (V_ref08_polygon_L0.mk s2 s4) = T_ref08_polygon_L0 s0 s1 s3 s5 s6 s7 (fL f0 0) (fL f0 1) s14 s15 (V_ref08_polygon_L0.mk s2 s4) (fun i => mkN [Ck.f, Ck.f] (f0 i) 0) by kernel_rfl) ?_
    rw [n0]
    kernel_rfl
theorem ann_ref08_polygon : FnOk Tryz.prog false 0 Tryz.f30 (Ann.two Ann.no (Ann.two Ann.no (Ann.two Ann.no (Ann.two Ann.no (Ann.two Ann.no (Ann.two Ann.no (Ann.two Ann.no (Ann.two (Ann.two Ann.no (Ann.one (Ann.loop F_ref08_polygon_L0))) Ann.no)))))))) := (fnOk_of (c := codeOf Tryz.f30) (by kernel_rfl) (annSeq (a := (subC [0] (codeOf Tryz.f30))) (b := (subC [1] (codeOf Tryz.f30))) (by kernel_rfl) (annNo (subC [0] (codeOf Tryz.f30))) (annSeq (a := (subC [1, 0] (codeOf Tryz.f30))) (b := (subC [1, 1] (codeOf Tryz.f30))) (by kernel_rfl) (annNo (subC [1, 0] (codeOf Tryz.f30))) (annSeq (a := (subC [1, 1, 0] (codeOf Tryz.f30))) (b := (subC [1, 1, 1] (codeOf Tryz.f30))) (by kernel_rfl) (annNo (subC [1, 1, 0] (codeOf Tryz.f30))) (annSeq (a := (subC [1, 1, 1, 0] (codeOf Tryz.f30))) (b := (subC [1, 1, 1, 1] (codeOf Tryz.f30))) (by kernel_rfl) (annNo (subC [1, 1, 1, 0] (codeOf Tryz.f30))) (annSeq (a := (subC [1, 1, 1, 1, 0] (codeOf Tryz.f30))) (b := (subC [1, 1, 1, 1, 1] (codeOf Tryz.f30))) (by kernel_rfl) (annNo (subC [1, 1, 1, 1, 0] (codeOf Tryz.f30))) (annSeq (a := (subC [1, 1, 1, 1, 1, 0] (codeOf Tryz.f30))) (b := (subC [1, 1, 1, 1, 1, 1] (codeOf Tryz.f30))) (by kernel_rfl) (annNo (subC [1, 1, 1, 1, 1, 0] (codeOf Tryz.f30))) (annSeq (a := (subC [1, 1, 1, 1, 1, 1, 0] (codeOf Tryz.f30))) (b := (subC [1, 1, 1, 1, 1, 1, 1] (codeOf Tryz.f30))) (by kernel_rfl) (annNo (subC [1, 1, 1, 1, 1, 1, 0] (codeOf Tryz.f30))) (annSeq (a := (subC [1, 1, 1, 1, 1, 1, 1, 0] (codeOf Tryz.f30))) (b := (subC [1, 1, 1, 1, 1, 1, 1, 1] (codeOf Tryz.f30))) (by kernel_rfl) (annSeq (a := (subC [1, 1, 1, 1, 1, 1, 1, 0, 0] (codeOf Tryz.f30))) (b := (subC [1, 1, 1, 1, 1, 1, 1, 0, 1] (codeOf Tryz.f30))) (by kernel_rfl) (annNo (subC [1, 1, 1, 1, 1, 1, 1, 0, 0] (codeOf Tryz.f30))) (annBlock (a := (subC [1, 1, 1, 1, 1, 1, 1, 0, 1, 0] (codeOf Tryz.f30))) (i := 0) (by kernel_rfl) (annLoop (a := (subC [1, 1, 1, 1, 1, 1, 1, 0, 1, 0, 0] (codeOf Tryz.f30))) (by kernel_rfl) F_ref08_polygon_L0_ok))) (annNo (subC [1, 1, 1, 1, 1, 1, 1, 1] (codeOf Tryz.f30))))))))))))
def s_ref08_polygon_0 (d : Int) (e q : Nat) (z B : Nat → Nat) (k : Nat) : Nat := (bif (!(ieq (s_ref06_Area_1 q z B) (0 : Int))) then 0 else (bif (!(ieq (s_ref06_Centre_2 q z B) (0 : Int))) then 0 else (fmul k (s_ref06_Area_0 q z B))))
def s_ref08_polygon_1 (d : Int) (e q : Nat) (z B : Nat → Nat) (k : Nat) : Nat := (bif (!(ieq (s_ref06_Area_1 q z B) (0 : Int))) then 0 else (bif (!(ieq (s_ref06_Centre_2 q z B) (0 : Int))) then 0 else (fmul k (fdiv ((L_ref08_polygon_L0 (Int.ofNat q) q z B (s_ref06_Centre_0 q z B) (s_ref06_Centre_1 q z B) (V_ref08_polygon_L0.mk 0 (0 : Int))).v0) 4622945017495814144))))
def s_ref08_polygon_2 (d : Int) (e q : Nat) (z B : Nat → Nat) (k : Nat) : Nat := (bif (!(ieq (s_ref06_Area_1 q z B) (0 : Int))) then 0 else (bif (!(ieq (s_ref06_Centre_2 q z B) (0 : Int))) then 0 else (s_ref06_Centre_0 q z B)))
def s_ref08_polygon_3 (d : Int) (e q : Nat) (z B : Nat → Nat) (k : Nat) : Nat := (bif (!(ieq (s_ref06_Area_1 q z B) (0 : Int))) then 0 else (bif (!(ieq (s_ref06_Centre_2 q z B) (0 : Int))) then 0 else (s_ref06_Centre_1 q z B)))
def s_ref08_polygon_4 (d : Int) (e q : Nat) (z B : Nat → Nat) (k : Nat) : Int := (bif (!(ieq (s_ref06_Area_1 q z B) (0 : Int))) then (s_ref06_Area_1 q z B) else (bif (!(ieq (s_ref06_Centre_2 q z B) (0 : Int))) then (s_ref06_Centre_2 q z B) else (0 : Int)))
def q_ref08_polygon (d : Int) (e q : Nat) (z B : Nat → Nat) (k : Nat) : Bool := (let x0 := (allB fun _ => true) && (o_ref06_Area q z B); let x1 := ((allB fun _ => true) && (o_ref06_Centre q z B)) && x0; (mrgB (!(ieq (s_ref06_Area_1 q z B) (0 : Int))) x0 (mrgB (!(ieq (s_ref06_Centre_2 q z B) (0 : Int))) x1 (x1 && ((allB fun _ => true) && (E_ref08_polygon_L0 (Int.ofNat q) q z B (s_ref06_Centre_0 q z B) (s_ref06_Centre_1 q z B) (V_ref08_polygon_L0.mk 0 (0 : Int))))))))
theorem e_ref08_polygon (d : Int) (e q : Nat) (z B : Nat → Nat) (k : Nat) : outB (evFnM Tryz.prog false menv125 [] [] 96 (Ann.two Ann.no (Ann.two Ann.no (Ann.two Ann.no (Ann.two Ann.no (Ann.two Ann.no (Ann.two Ann.no (Ann.two Ann.no (Ann.two (Ann.two Ann.no (Ann.one (Ann.loop F_ref08_polygon_L0))) Ann.no)))))))) Tryz.f30 [AV.agg [AV.int .u8 d, AV.float e, AV.view q 2 (fun i0 => [AV.float (z i0), AV.float (B i0)])], AV.float k] []) = some (q_ref08_polygon d e q z B k, AV.tup [AV.agg [AV.float (s_ref08_polygon_0 d e q z B k), AV.float (s_ref08_polygon_1 d e q z B k), AV.float (s_ref08_polygon_2 d e q z B k), AV.float (s_ref08_polygon_3 d e q z B k)], AV.int .i64 (s_ref08_polygon_4 d e q z B k)]) := by kernel_rfl
def o_ref08_polygon (d : Int) (e q : Nat) (z B : Nat → Nat) (k : Nat) : Bool := (mrgB (!(ieq (s_ref06_Area_1 q z B) (0 : Int))) (o_ref06_Area q z B) (mrgB (!(ieq (s_ref06_Centre_2 q z B) (0 : Int))) ((o_ref06_Centre q z B) && (o_ref06_Area q z B)) (((o_ref06_Centre q z B) && (o_ref06_Area q z B)) && (E_ref08_polygon_L0 (Int.ofNat q) q z B (s_ref06_Centre_0 q z B) (s_ref06_Centre_1 q z B) (V_ref08_polygon_L0.mk 0 (0 : Int))))))
def S_ref08_polygon : List AV → Option (Ob × AV)
  | [AV.agg [AV.int .u8 d, AV.float e, AV.view q 2 J], AV.float k] => some (Ob.both (Ob.bit (allB fun i => isNrm [Ck.f, Ck.f] (J i))) (Ob.bit (o_ref08_polygon d e q (fL J 0) (fL J 1) k)), AV.tup [AV.agg [AV.float (s_ref08_polygon_0 d e q (fL J 0) (fL J 1) k), AV.float (s_ref08_polygon_1 d e q (fL J 0) (fL J 1) k), AV.float (s_ref08_polygon_2 d e q (fL J 0) (fL J 1) k), AV.float (s_ref08_polygon_3 d e q (fL J 0) (fL J 1) k)], AV.int .i64 (s_ref08_polygon_4 d e q (fL J 0) (fL J 1) k)])
  | _ => none
theorem ob_ref08_polygon (d : Int) (e q : Nat) (z B : Nat → Nat) (k : Nat) (ho : o_ref08_polygon d e q z B k = true) : q_ref08_polygon d e q z B k = true := by
  unfold q_ref08_polygon
  unfold o_ref08_polygon at ho
  simp only [allB_true, eqT_self, mrgB_self, Bool.true_and, Bool.and_true] at ho ⊢
  exact ho
theorem t_ref08_polygon : SOkM Tryz.prog false (30, fun args => match S_ref08_polygon args with | some (o, v) => some (o, v, []) | none => none) := SOkM.flat (N := 96) menv125_ok Tryz.func30 ann_ref08_polygon Tryz.call30 fun args o v h ho => by
  unfold S_ref08_polygon at h
  split at h
  · rename_i d e q J k
    cases h
    rw [Ob.both_ok, Bool.and_eq_true] at ho
    obtain ⟨hn, ho2⟩ := ho
    have n0 := hn
    simp only [Ob.ok] at n0
    replace n0 := nrm_fun n0
    have this := show outB (evFnM Tryz.prog false menv125 [] [] 96 (Ann.two Ann.no (Ann.two Ann.no (Ann.two Ann.no (Ann.two Ann.no (Ann.two Ann.no (Ann.two Ann.no (Ann.two Ann.no (Ann.two (Ann.two Ann.no (Ann.one (Ann.loop F_ref08_polygon_L0))) Ann.no)))))))) Tryz.f30 [AV.agg [AV.int .u8 d, AV.float e, AV.view q 2 (fun i => mkN [Ck.f, Ck.f] (J i) 0)], AV.float k] []) = _ from e_ref08_polygon d e q (fL J 0) (fL J 1) k
    rw [(ob_ref08_polygon d e q (fL J 0) (fL J 1) k ho2)] at this
    rw [n0] at this
    exact ⟨this, rfl⟩
  · cases h
def c_ref08_polygon : SFM := fun args => match S_ref08_polygon args with | some (o, v) => some (o, v, []) | none => none
theorem c_ref08_polygon_ok : SOkM Tryz.prog false (30, c_ref08_polygon) := t_ref08_polygon
def mss122 : List (FuncId × SFM) := (30, c_ref08_polygon) :: mss121
def menv126 : EnvM := mkEnvM mxs mss122 mws5
theorem mss122_ok : All (SOkM Tryz.prog false) mss122 := All.cons c_ref08_polygon_ok mss121_ok
theorem menv126_ok : menv126.Ok Tryz.prog false := mkEnvM_ok mxs_ok mss122_ok mws5_ok
-- tumble/tumbleref08.Of
theorem ann_ref08_Of : FnOk Tryz.prog false 0 Tryz.f8 Ann.no := (fnNo _)
def s_ref08_Of_0 (d : Int) (e q : Nat) (z B : Nat → Nat) (k : Nat) : Nat := (bif (!(ieq (s_ref07_Check_0 d e q z B) (0 : Int))) then 0 else (bif (!((fle 0 k) && (fle k 4787326403894837248))) then 0 else (bif (ieq d (1 : Int)) then (s_ref08_told_0 (s_ref08_circle_0 d e q z B k) (s_ref08_circle_1 d e q z B k) (s_ref08_circle_2 d e q z B k) (s_ref08_circle_3 d e q z B k)) else (bif (ieq d (2 : Int)) then (s_ref08_told_0 (s_ref08_capsule_0 d e q z B k) (s_ref08_capsule_1 d e q z B k) (s_ref08_capsule_2 d e q z B k) (s_ref08_capsule_3 d e q z B k)) else (bif (!(ieq (s_ref08_polygon_4 d e q z B k) (0 : Int))) then 0 else (s_ref08_told_0 (s_ref08_polygon_0 d e q z B k) (s_ref08_polygon_1 d e q z B k) (s_ref08_polygon_2 d e q z B k) (s_ref08_polygon_3 d e q z B k)))))))
def s_ref08_Of_1 (d : Int) (e q : Nat) (z B : Nat → Nat) (k : Nat) : Nat := (bif (!(ieq (s_ref07_Check_0 d e q z B) (0 : Int))) then 0 else (bif (!((fle 0 k) && (fle k 4787326403894837248))) then 0 else (bif (ieq d (1 : Int)) then (s_ref08_told_1 (s_ref08_circle_0 d e q z B k) (s_ref08_circle_1 d e q z B k) (s_ref08_circle_2 d e q z B k) (s_ref08_circle_3 d e q z B k)) else (bif (ieq d (2 : Int)) then (s_ref08_told_1 (s_ref08_capsule_0 d e q z B k) (s_ref08_capsule_1 d e q z B k) (s_ref08_capsule_2 d e q z B k) (s_ref08_capsule_3 d e q z B k)) else (bif (!(ieq (s_ref08_polygon_4 d e q z B k) (0 : Int))) then 0 else (s_ref08_told_1 (s_ref08_polygon_0 d e q z B k) (s_ref08_polygon_1 d e q z B k) (s_ref08_polygon_2 d e q z B k) (s_ref08_polygon_3 d e q z B k)))))))
def s_ref08_Of_2 (d : Int) (e q : Nat) (z B : Nat → Nat) (k : Nat) : Nat := (bif (!(ieq (s_ref07_Check_0 d e q z B) (0 : Int))) then 0 else (bif (!((fle 0 k) && (fle k 4787326403894837248))) then 0 else (bif (ieq d (1 : Int)) then (s_ref08_told_2 (s_ref08_circle_0 d e q z B k) (s_ref08_circle_1 d e q z B k) (s_ref08_circle_2 d e q z B k) (s_ref08_circle_3 d e q z B k)) else (bif (ieq d (2 : Int)) then (s_ref08_told_2 (s_ref08_capsule_0 d e q z B k) (s_ref08_capsule_1 d e q z B k) (s_ref08_capsule_2 d e q z B k) (s_ref08_capsule_3 d e q z B k)) else (bif (!(ieq (s_ref08_polygon_4 d e q z B k) (0 : Int))) then 0 else (s_ref08_told_2 (s_ref08_polygon_0 d e q z B k) (s_ref08_polygon_1 d e q z B k) (s_ref08_polygon_2 d e q z B k) (s_ref08_polygon_3 d e q z B k)))))))
def s_ref08_Of_3 (d : Int) (e q : Nat) (z B : Nat → Nat) (k : Nat) : Nat := (bif (!(ieq (s_ref07_Check_0 d e q z B) (0 : Int))) then 0 else (bif (!((fle 0 k) && (fle k 4787326403894837248))) then 0 else (bif (ieq d (1 : Int)) then (s_ref08_told_3 (s_ref08_circle_0 d e q z B k) (s_ref08_circle_1 d e q z B k) (s_ref08_circle_2 d e q z B k) (s_ref08_circle_3 d e q z B k)) else (bif (ieq d (2 : Int)) then (s_ref08_told_3 (s_ref08_capsule_0 d e q z B k) (s_ref08_capsule_1 d e q z B k) (s_ref08_capsule_2 d e q z B k) (s_ref08_capsule_3 d e q z B k)) else (bif (!(ieq (s_ref08_polygon_4 d e q z B k) (0 : Int))) then 0 else (s_ref08_told_3 (s_ref08_polygon_0 d e q z B k) (s_ref08_polygon_1 d e q z B k) (s_ref08_polygon_2 d e q z B k) (s_ref08_polygon_3 d e q z B k)))))))
def s_ref08_Of_4 (d : Int) (e q : Nat) (z B : Nat → Nat) (k : Nat) : Int := let x0 := s_ref08_polygon_4 d e q z B k; let x1 := s_ref07_Check_0 d e q z B; (bif (!(ieq x1 (0 : Int))) then x1 else (bif (!((fle 0 k) && (fle k 4787326403894837248))) then (5 : Int) else (bif (ieq d (1 : Int)) then (s_ref08_told_4 (s_ref08_circle_0 d e q z B k) (s_ref08_circle_1 d e q z B k) (s_ref08_circle_2 d e q z B k) (s_ref08_circle_3 d e q z B k)) else (bif (ieq d (2 : Int)) then (s_ref08_told_4 (s_ref08_capsule_0 d e q z B k) (s_ref08_capsule_1 d e q z B k) (s_ref08_capsule_2 d e q z B k) (s_ref08_capsule_3 d e q z B k)) else (bif (!(ieq x0 (0 : Int))) then x0 else (s_ref08_told_4 (s_ref08_polygon_0 d e q z B k) (s_ref08_polygon_1 d e q z B k) (s_ref08_polygon_2 d e q z B k) (s_ref08_polygon_3 d e q z B k)))))))
def q_ref08_Of (d : Int) (e q : Nat) (z B : Nat → Nat) (k : Nat) : Bool := (let x0 := (allB fun _ => true) && (o_ref07_Check d e q z B); let x1 := mrgB (fle 0 k) x0 x0; let x2 := ((allB fun _ => true) && (o_ref08_polygon d e q z B k)) && x1; (mrgB (!(ieq (s_ref07_Check_0 d e q z B) (0 : Int))) x0 (mrgB (!((fle 0 k) && (fle k 4787326403894837248))) x1 (mrgB (ieq d (1 : Int)) (((allB fun _ => true) && (Nat.blt 0 q)) && x1) (mrgB (ieq d (2 : Int)) (((allB fun _ => true) && ((Nat.blt 1 q) && (Nat.blt 0 q))) && x1) (mrgB (!(ieq (s_ref08_polygon_4 d e q z B k) (0 : Int))) x2 x2))))))
theorem e_ref08_Of (d : Int) (e q : Nat) (z B : Nat → Nat) (k : Nat) : outB (evFnM Tryz.prog false menv126 [] [] 96 Ann.no Tryz.f8 [AV.agg [AV.int .u8 d, AV.float e, AV.view q 2 (fun i0 => [AV.float (z i0), AV.float (B i0)])], AV.float k] []) = some (q_ref08_Of d e q z B k, AV.tup [AV.agg [AV.float (s_ref08_Of_0 d e q z B k), AV.float (s_ref08_Of_1 d e q z B k), AV.float (s_ref08_Of_2 d e q z B k), AV.float (s_ref08_Of_3 d e q z B k)], AV.int .i64 (s_ref08_Of_4 d e q z B k)]) := by kernel_rfl
def o_ref08_Of (d : Int) (e q : Nat) (z B : Nat → Nat) (k : Nat) : Bool := let x0 := o_ref07_Check d e q z B; let x1 := mrgB (fle 0 k) x0 x0; let x2 := (o_ref08_polygon d e q z B k) && x1; (mrgB (!(ieq (s_ref07_Check_0 d e q z B) (0 : Int))) x0 (mrgB (!((fle 0 k) && (fle k 4787326403894837248))) x1 (mrgB (ieq d (1 : Int)) ((Nat.blt 0 q) && x1) (mrgB (ieq d (2 : Int)) (((Nat.blt 1 q) && (Nat.blt 0 q)) && x1) (mrgB (!(ieq (s_ref08_polygon_4 d e q z B k) (0 : Int))) x2 x2)))))
def S_ref08_Of : List AV → Option (Ob × AV)
  | [AV.agg [AV.int .u8 d, AV.float e, AV.view q 2 J], AV.float k] => some (Ob.both (Ob.bit (allB fun i => isNrm [Ck.f, Ck.f] (J i))) (Ob.bit (o_ref08_Of d e q (fL J 0) (fL J 1) k)), AV.tup [AV.agg [AV.float (s_ref08_Of_0 d e q (fL J 0) (fL J 1) k), AV.float (s_ref08_Of_1 d e q (fL J 0) (fL J 1) k), AV.float (s_ref08_Of_2 d e q (fL J 0) (fL J 1) k), AV.float (s_ref08_Of_3 d e q (fL J 0) (fL J 1) k)], AV.int .i64 (s_ref08_Of_4 d e q (fL J 0) (fL J 1) k)])
  | _ => none
theorem ob_ref08_Of (d : Int) (e q : Nat) (z B : Nat → Nat) (k : Nat) (ho : o_ref08_Of d e q z B k = true) : q_ref08_Of d e q z B k = true := by
  unfold q_ref08_Of
  unfold o_ref08_Of at ho
  simp only [allB_true, eqT_self, mrgB_self, Bool.true_and, Bool.and_true] at ho ⊢
  exact ho
theorem t_ref08_Of : SOkM Tryz.prog false (8, fun args => match S_ref08_Of args with | some (o, v) => some (o, v, []) | none => none) := SOkM.flat (N := 96) menv126_ok Tryz.func8 ann_ref08_Of Tryz.call8 fun args o v h ho => by
  unfold S_ref08_Of at h
  split at h
  · rename_i d e q J k
    cases h
    rw [Ob.both_ok, Bool.and_eq_true] at ho
    obtain ⟨hn, ho2⟩ := ho
    have n0 := hn
    simp only [Ob.ok] at n0
    replace n0 := nrm_fun n0
    have this := show outB (evFnM Tryz.prog false menv126 [] [] 96 Ann.no Tryz.f8 [AV.agg [AV.int .u8 d, AV.float e, AV.view q 2 (fun i => mkN [Ck.f, Ck.f] (J i) 0)], AV.float k] []) = _ from e_ref08_Of d e q (fL J 0) (fL J 1) k
    rw [(ob_ref08_Of d e q (fL J 0) (fL J 1) k ho2)] at this
    rw [n0] at this
    exact ⟨this, rfl⟩
  · cases h
def c_ref08_Of : SFM := fun args => match S_ref08_Of args with | some (o, v) => some (o, v, []) | none => none
theorem c_ref08_Of_ok : SOkM Tryz.prog false (8, c_ref08_Of) := t_ref08_Of
def mss123 : List (FuncId × SFM) := (8, c_ref08_Of) :: mss122
def menv127 : EnvM := mkEnvM mxs mss123 mws5
theorem mss123_ok : All (SOkM Tryz.prog false) mss123 := All.cons c_ref08_Of_ok mss122_ok
theorem menv127_ok : menv127.Ok Tryz.prog false := mkEnvM_ok mxs_ok mss123_ok mws5_ok
-- tumble/tumbleref08.Join
-- a loop of tumble/tumbleref08.Join
structure V_ref08_Join_L0 where
  v0 : Int
def tpl_ref08_Join_L0 : List AV := (AV.nul :: AV.top :: AV.nul :: AV.top :: AV.nul :: tpA 143 ([]))
def cts_ref08_Join_L0 : List CT := [CT.keep]
def phs_ref08_Join_L0 : List Src := []
def T_ref08_Join_L0 (j : Nat) (m l r C : Nat → Nat) (x : V_ref08_Join_L0) (F0 : Nat → List AV) : List AV × Heap := ((AV.view j 4 F0 :: AV.top :: AV.ptr (some ⟨0, 0, .lit 0⟩) :: AV.top :: AV.int .i64 x.v0 :: tpA 143 ([])), [⟨.flat [AV.float 0, AV.float 0, AV.float 0, AV.float 0], 31, 0⟩])
def sh_ref08_Join_L0 (j : Nat) (m l r C : Nat → Nat) (x : V_ref08_Join_L0) : List AV × Heap := T_ref08_Join_L0 j m l r C x (fun j0 => [AV.float (m j0), AV.float (l j0), AV.float (r j0), AV.float (C j0)])
def step_ref08_Join_L0 (j : Nat) (m l r C : Nat → Nat) (x : V_ref08_Join_L0) : V_ref08_Join_L0 := V_ref08_Join_L0.mk (IntKind.wrap .i64 (x.v0 + (1 : Int)))
def go_ref08_Join_L0 (j : Nat) (m l r C : Nat → Nat) (x : V_ref08_Join_L0) : Bool := (bif (bif (!(ilt x.v0 (Int.ofNat j))) then false else (!(ieq (s_ref08_Check_0 (m (Int.toNat x.v0)) (l (Int.toNat x.v0)) (r (Int.toNat x.v0)) (C (Int.toNat x.v0))) (0 : Int)))) then false else (bif (!(ilt x.v0 (Int.ofNat j))) then false else true))
def ok_ref08_Join_L0 (j : Nat) (m l r C : Nat → Nat) (x : V_ref08_Join_L0) : Bool := (mrgB (bif (!(ilt x.v0 (Int.ofNat j))) then false else (!(ieq (s_ref08_Check_0 (m (Int.toNat x.v0)) (l (Int.toNat x.v0)) (r (Int.toNat x.v0)) (C (Int.toNat x.v0))) (0 : Int)))) ((ile (0 : Int) x.v0) && (Nat.blt (Int.toNat x.v0) j)) (mrgB (!(ilt x.v0 (Int.ofNat j))) true ((ile (0 : Int) x.v0) && (Nat.blt (Int.toNat x.v0) j))))
def L_ref08_Join_L0 (j : Nat) (m l r C : Nat → Nat) (x : V_ref08_Join_L0) : V_ref08_Join_L0 := lastL (ok_ref08_Join_L0 j m l r C) (go_ref08_Join_L0 j m l r C) (step_ref08_Join_L0 j m l r C) x
def E_ref08_Join_L0 (j : Nat) (m l r C : Nat → Nat) (x : V_ref08_Join_L0) : Bool := endsL (ok_ref08_Join_L0 j m l r C) (go_ref08_Join_L0 j m l r C) (step_ref08_Join_L0 j m l r C) x
theorem all_ref08_Join_L0 (j : Nat) (m l r C : Nat → Nat) (x : V_ref08_Join_L0) : rnd Tryz.prog false menv127 [] [] 96 Ann.no (subC [1, 1, 0, 1, 0, 0] (codeOf Tryz.f33)) 0 [⟨some 0, 0, 0, []⟩] tpl_ref08_Join_L0 cts_ref08_Join_L0 (false :: true :: false :: tpB 145 ([])) [true] (sh_ref08_Join_L0 j m l r C x) = (true, true, go_ref08_Join_L0 j m l r C x, ok_ref08_Join_L0 j m l r C x, true, sh_ref08_Join_L0 j m l r C (step_ref08_Join_L0 j m l r C x), true) := by kernel_rfl
def fam_ref08_Join_L0 (j : Nat) (m l r C : Nat → Nat) : Fam Tryz.prog false menv127 [] [] 96 0 Ann.no (subC [1, 1, 0, 1, 0, 0] (codeOf Tryz.f33)) V_ref08_Join_L0 where
  sh := sh_ref08_Join_L0 j m l r C
  ok := ok_ref08_Join_L0 j m l r C
  go := go_ref08_Join_L0 j m l r C
  step := step_ref08_Join_L0 j m l r C
  chg := (false :: true :: false :: tpB 145 ([]))
  chgH := [true]
  tpl := tpl_ref08_Join_L0
  cts := cts_ref08_Join_L0
  keep := 0
  srcs := [⟨some 0, 0, 0, []⟩]
  ann := (annNo (subC [1, 1, 0, 1, 0, 0] (codeOf Tryz.f33)))
  le := by kernel_rfl
  kept := by kernel_rfl
  keptB := by kernel_rfl
  all := all_ref08_Join_L0 j m l r C
  len := fun x => by kernel_rfl
  head := fun x y => by kernel_rfl
  con := fun x y => by kernel_rfl
  conH := fun x y => by kernel_rfl
def F_ref08_Join_L0 : St → Option Ch := fun s => cond (Nat.beq s.tm.length 148 && Nat.beq s.H.length 1) (tkCons (alL tpl_ref08_Join_L0 s.tm) fun d t0 => tkView 4 d fun s0 f0 => tkTops 1 t0 fun t1 => tkCons t1 fun u t2 => tkPtr 0 0 0 u <| tkTops 1 t2 fun t3 => tkCons t3 fun M t4 => tkI .i64 M fun s5 => tkTops 143 t4 fun t5 => tkNil t5 <| tkCons (alH cts_ref08_Join_L0 (s.H ++ List.map phan phs_ref08_Join_L0)) fun b6 t6 => tkFlat 31 0 b6 fun m6 => tkCons m6 fun R t7 => tkFL 0 R <| tkCons t7 fun aa t8 => tkFL 0 aa <| tkCons t8 fun X t9 => tkFL 0 X <| tkCons t9 fun ae t10 => tkFL 0 ae <| tkNil t10 <| tkNil t6 <| Fam.out (fam_ref08_Join_L0 s0 (fL f0 0) (fL f0 1) (fL f0 2) (fL f0 3)) s (allB fun i => isNrm [Ck.f, Ck.f, Ck.f, Ck.f] (f0 i)) (V_ref08_Join_L0.mk s5)) none
theorem F_ref08_Join_L0_ok : ∀ s ch, F_ref08_Join_L0 s = some ch → AllI s ch ∧ LoopSpec Tryz.prog false 0 (subC [1, 1, 0, 1, 0, 0] (codeOf Tryz.f33)) s (sel ch) := by
  intro s ch h
  unfold F_ref08_Join_L0 at h
  obtain ⟨hl, h0⟩ := cond_some h rfl
  clear h
  obtain ⟨hl, hb⟩ := and_beq2 hl
  obtain ⟨d, t0, e0, h1⟩ := tkCons_some h0
  obtain ⟨s0, f0, rfl, h2⟩ := tkView_some h1
  obtain ⟨t1, rfl, h3⟩ := tkTops_some h2
  obtain ⟨u, t2, rfl, h4⟩ := tkCons_some h3
  obtain ⟨rfl, h5⟩ := tkPtr_some h4
  obtain ⟨t3, rfl, h6⟩ := tkTops_some h5
  obtain ⟨M, t4, rfl, h7⟩ := tkCons_some h6
  obtain ⟨s5, rfl, h8⟩ := tkI_some h7
  obtain ⟨t5, rfl, h9⟩ := tkTops_some h8
  obtain ⟨rfl, h10⟩ := tkNil_some h9
  obtain ⟨b6, t6, eH, h11⟩ := tkCons_some h10
  obtain ⟨m6, rfl, h12⟩ := tkFlat_some h11
  obtain ⟨R, t7, rfl, h13⟩ := tkCons_some h12
  obtain ⟨rfl, h14⟩ := tkFL_some h13
  obtain ⟨aa, t8, rfl, h15⟩ := tkCons_some h14
  obtain ⟨rfl, h16⟩ := tkFL_some h15
  obtain ⟨X, t9, rfl, h17⟩ := tkCons_some h16
  obtain ⟨rfl, h18⟩ := tkFL_some h17
  obtain ⟨ae, t10, rfl, h19⟩ := tkCons_some h18
  obtain ⟨rfl, h20⟩ := tkFL_some h19
  obtain ⟨rfl, h21⟩ := tkNil_some h20
  obtain ⟨rfl, h22⟩ := tkNil_some h21
  refine Fam.spec menv127_ok (fam_ref08_Join_L0 s0 (fL f0 0) (fL f0 1) (fL f0 2) (fL f0 3)) (phs := phs_ref08_Join_L0) (hl.trans (by kernel_rfl)) (hb.trans (by kernel_rfl)) ?_ ?_ h22
  · rw [← hdr_alH cts_ref08_Join_L0 (s.H ++ List.map phan phs_ref08_Join_L0), eH]; kernel_rfl
  · intro hq
    have hq0 := hq
    have n0 := nrm_fun hq0
    show sh_ref08_Join_L0 s0 (fL f0 0) (fL f0 1) (fL f0 2) (fL f0 3) (V_ref08_Join_L0.mk s5) = (alL tpl_ref08_Join_L0 s.tm, alH cts_ref08_Join_L0 (s.H ++ List.map phan phs_ref08_Join_L0))
    rw [e0, eH]
    refine Eq.trans (show sh_ref08_Join_L0 s0 (fL f0 0) (fL f0 1) (fL f0 2) (fL f0 3) (V_ref08_Join_L0.mk s5) = T_ref08_Join_L0 s0 (fL f0 0) (fL f0 1) (fL f0 2) (fL f0 3) (V_ref08_Join_L0.mk s5) (fun i => mkN [Ck.f, Ck.f, Ck.f, Ck.f] (f0 i) 0) by kernel_rfl) ?_
    rw [n0]
    kernel_rfl
-- a loop of tumble/tumbleref08.Join
structure V_ref08_Join_L1 where
  v0 : Nat
  v1 : Nat
  v2 : Int
  v3 : Nat
def tpl_ref08_Join_L1 : List AV := (AV.nul :: AV.top :: AV.nul :: AV.top :: AV.top :: AV.nul :: AV.nul :: AV.nul :: AV.nul :: tpA 139 ([]))
def cts_ref08_Join_L1 : List CT := [CT.keep, CT.keep]
def phs_ref08_Join_L1 : List Src := []
def T_ref08_Join_L1 (j : Nat) (m l r C : Nat → Nat) (D F I : Nat) (x : V_ref08_Join_L1) (F0 : Nat → List AV) : List AV × Heap := ((AV.view j 4 F0 :: AV.top :: AV.ptr (some ⟨0, 0, .lit 0⟩) :: AV.top :: AV.top :: AV.ptr (some ⟨1, 0, .lit 0⟩) :: AV.float x.v0 :: AV.float x.v1 :: AV.int .i64 x.v2 :: tpA 139 ([])), [⟨.flat [AV.float 0, AV.float 0, AV.float 0, AV.float 0], 31, 0⟩, ⟨.flat [AV.float x.v3, AV.float D, AV.float F, AV.float I], 31, 0⟩])
def sh_ref08_Join_L1 (j : Nat) (m l r C : Nat → Nat) (D F I : Nat) (x : V_ref08_Join_L1) : List AV × Heap := T_ref08_Join_L1 j m l r C D F I x (fun j0 => [AV.float (m j0), AV.float (l j0), AV.float (r j0), AV.float (C j0)])
def step_ref08_Join_L1 (j : Nat) (m r C : Nat → Nat) (x : V_ref08_Join_L1) : V_ref08_Join_L1 := V_ref08_Join_L1.mk (fadd x.v0 (fmul (m (Int.toNat x.v2)) (r (Int.toNat x.v2)))) (fadd x.v1 (fmul (m (Int.toNat x.v2)) (C (Int.toNat x.v2)))) (IntKind.wrap .i64 (x.v2 + (1 : Int))) (fadd x.v3 (m (Int.toNat x.v2)))
def go_ref08_Join_L1 (j : Nat) (m r C : Nat → Nat) (x : V_ref08_Join_L1) : Bool := (bif (!(ilt x.v2 (Int.ofNat j))) then false else true)
def ok_ref08_Join_L1 (j : Nat) (m r C : Nat → Nat) (x : V_ref08_Join_L1) : Bool := (mrgB (!(ilt x.v2 (Int.ofNat j))) true (((ile (0 : Int) x.v2) && (Nat.blt (Int.toNat x.v2) j)) && (((ile (0 : Int) x.v2) && (Nat.blt (Int.toNat x.v2) j)) && (((ile (0 : Int) x.v2) && (Nat.blt (Int.toNat x.v2) j)) && (((ile (0 : Int) x.v2) && (Nat.blt (Int.toNat x.v2) j)) && ((ile (0 : Int) x.v2) && (Nat.blt (Int.toNat x.v2) j)))))))
def L_ref08_Join_L1 (j : Nat) (m r C : Nat → Nat) (x : V_ref08_Join_L1) : V_ref08_Join_L1 := lastL (ok_ref08_Join_L1 j m r C) (go_ref08_Join_L1 j m r C) (step_ref08_Join_L1 j m r C) x
def E_ref08_Join_L1 (j : Nat) (m r C : Nat → Nat) (x : V_ref08_Join_L1) : Bool := endsL (ok_ref08_Join_L1 j m r C) (go_ref08_Join_L1 j m r C) (step_ref08_Join_L1 j m r C) x
theorem all_ref08_Join_L1 (j : Nat) (m l r C : Nat → Nat) (D F I : Nat) (x : V_ref08_Join_L1) : rnd Tryz.prog false menv127 [] [] 96 Ann.no (subC [1, 1, 1, 1, 1, 1, 1, 1, 0, 1, 0, 0] (codeOf Tryz.f33)) 0 [⟨some 0, 0, 0, []⟩, ⟨some 1, 0, 0, []⟩] tpl_ref08_Join_L1 cts_ref08_Join_L1 (false :: true :: false :: true :: true :: false :: tpB 142 ([])) [false, true] (sh_ref08_Join_L1 j m l r C D F I x) = (true, true, go_ref08_Join_L1 j m r C x, ok_ref08_Join_L1 j m r C x, true, sh_ref08_Join_L1 j m l r C D F I (step_ref08_Join_L1 j m r C x), true) := by kernel_rfl
def fam_ref08_Join_L1 (j : Nat) (m l r C : Nat → Nat) (D F I : Nat) : Fam Tryz.prog false menv127 [] [] 96 0 Ann.no (subC [1, 1, 1, 1, 1, 1, 1, 1, 0, 1, 0, 0] (codeOf Tryz.f33)) V_ref08_Join_L1 where
  sh := sh_ref08_Join_L1 j m l r C D F I
  ok := ok_ref08_Join_L1 j m r C
  go := go_ref08_Join_L1 j m r C
  step := step_ref08_Join_L1 j m r C
  chg := (false :: true :: false :: true :: true :: false :: tpB 142 ([]))
  chgH := [false, true]
  tpl := tpl_ref08_Join_L1
  cts := cts_ref08_Join_L1
  keep := 0
  srcs := [⟨some 0, 0, 0, []⟩, ⟨some 1, 0, 0, []⟩]
  ann := (annNo (subC [1, 1, 1, 1, 1, 1, 1, 1, 0, 1, 0, 0] (codeOf Tryz.f33)))
  le := by kernel_rfl
  kept := by kernel_rfl
  keptB := by kernel_rfl
  all := all_ref08_Join_L1 j m l r C D F I
  len := fun x => by kernel_rfl
  head := fun x y => by kernel_rfl
  con := fun x y => by kernel_rfl
  conH := fun x y => by kernel_rfl
def F_ref08_Join_L1 : St → Option Ch := fun s => cond (Nat.beq s.tm.length 148 && Nat.beq s.H.length 2) (tkCons (alL tpl_ref08_Join_L1 s.tm) fun d t0 => tkView 4 d fun s0 f0 => tkTops 1 t0 fun t1 => tkCons t1 fun u t2 => tkPtr 0 0 0 u <| tkTops 2 t2 fun t3 => tkCons t3 fun M t4 => tkPtr 1 0 0 M <| tkCons t4 fun P t5 => tkF P fun s5 => tkCons t5 fun Y t6 => tkF Y fun s6 => tkCons t6 fun R t7 => tkI .i64 R fun s7 => tkTops 139 t7 fun t8 => tkNil t8 <| tkCons (alH cts_ref08_Join_L1 (s.H ++ List.map phan phs_ref08_Join_L1)) fun b9 t9 => tkFlat 31 0 b9 fun m9 => tkCons m9 fun ae t10 => tkFL 0 ae <| tkCons t10 fun ad t11 => tkFL 0 ad <| tkCons t11 fun af t12 => tkFL 0 af <| tkCons t12 fun ai t13 => tkFL 0 ai <| tkNil t13 <| tkCons t9 fun b14 t14 => tkFlat 31 0 b14 fun m14 => tkCons m14 fun ag t15 => tkF ag fun s12 => tkCons t15 fun ah t16 => tkF ah fun s13 => tkCons t16 fun aj t17 => tkF aj fun s14 => tkCons t17 fun ap t18 => tkF ap fun s15 => tkNil t18 <| tkNil t14 <| Fam.out (fam_ref08_Join_L1 s0 (fL f0 0) (fL f0 1) (fL f0 2) (fL f0 3) s13 s14 s15) s (allB fun i => isNrm [Ck.f, Ck.f, Ck.f, Ck.f] (f0 i)) (V_ref08_Join_L1.mk s5 s6 s7 s12)) none
theorem F_ref08_Join_L1_ok : ∀ s ch, F_ref08_Join_L1 s = some ch → AllI s ch ∧ LoopSpec Tryz.prog false 0 (subC [1, 1, 1, 1, 1, 1, 1, 1, 0, 1, 0, 0] (codeOf Tryz.f33)) s (sel ch) := by
  intro s ch h
  unfold F_ref08_Join_L1 at h
  obtain ⟨hl, h0⟩ := cond_some h rfl
  clear h
  obtain ⟨hl, hb⟩ := and_beq2 hl
  obtain ⟨d, t0, e0, h1⟩ := tkCons_some h0
  obtain ⟨s0, f0, rfl, h2⟩ := tkView_some h1
  obtain ⟨t1, rfl, h3⟩ := tkTops_some h2
  obtain ⟨u, t2, rfl, h4⟩ := tkCons_some h3
  obtain ⟨rfl, h5⟩ := tkPtr_some h4
  obtain ⟨t3, rfl, h6⟩ := tkTops_some h5
  obtain ⟨M, t4, rfl, h7⟩ := tkCons_some h6
  obtain ⟨rfl, h8⟩ := tkPtr_some h7
  obtain ⟨P, t5, rfl, h9⟩ := tkCons_some h8
  obtain ⟨s5, rfl, h10⟩ := tkF_some h9
  obtain ⟨Y, t6, rfl, h11⟩ := tkCons_some h10
  obtain ⟨s6, rfl, h12⟩ := tkF_some h11
  obtain ⟨R, t7, rfl, h13⟩ := tkCons_some h12
  obtain ⟨s7, rfl, h14⟩ := tkI_some h13
  obtain ⟨t8, rfl, h15⟩ := tkTops_some h14
  obtain ⟨rfl, h16⟩ := tkNil_some h15
  obtain ⟨b9, t9, eH, h17⟩ := tkCons_some h16
  obtain ⟨m9, rfl, h18⟩ := tkFlat_some h17
  obtain ⟨ae, t10, rfl, h19⟩ := tkCons_some h18
  obtain ⟨rfl, h20⟩ := tkFL_some h19
  obtain ⟨ad, t11, rfl, h21⟩ := tkCons_some h20
  obtain ⟨rfl, h22⟩ := tkFL_some h21
  obtain ⟨af, t12, rfl, h23⟩ := tkCons_some h22
  obtain ⟨rfl, h24⟩ := tkFL_some h23
  obtain ⟨ai, t13, rfl, h25⟩ := tkCons_some h24
  obtain ⟨rfl, h26⟩ := tkFL_some h25
  obtain ⟨rfl, h27⟩ := tkNil_some h26
  obtain ⟨b14, t14, rfl, h28⟩ := tkCons_some h27
  obtain ⟨m14, rfl, h29⟩ := tkFlat_some h28
  obtain ⟨ag, t15, rfl, h30⟩ := tkCons_some h29
  obtain ⟨s12, rfl, h31⟩ := tkF_some h30
  obtain ⟨ah, t16, rfl, h32⟩ := tkCons_some h31
  obtain ⟨s13, rfl, h33⟩ := tkF_some h32
  obtain ⟨aj, t17, rfl, h34⟩ := tkCons_some h33
  obtain ⟨s14, rfl, h35⟩ := tkF_some h34
  obtain ⟨ap, t18, rfl, h36⟩ := tkCons_some h35
  obtain ⟨s15, rfl, h37⟩ := tkF_some h36
  obtain ⟨rfl, h38⟩ := tkNil_some h37
  obtain ⟨rfl, h39⟩ := tkNil_some h38
  refine Fam.spec menv127_ok (fam_ref08_Join_L1 s0 (fL f0 0) (fL f0 1) (fL f0 2) (fL f0 3) s13 s14 s15) (phs := phs_ref08_Join_L1) (hl.trans (by kernel_rfl)) (hb.trans (by kernel_rfl)) ?_ ?_ h39
  · rw [← hdr_alH cts_ref08_Join_L1 (s.H ++ List.map phan phs_ref08_Join_L1), eH]; kernel_rfl
  · intro hq
    have hq0 := hq
    have n0 := nrm_fun hq0
    show sh_ref08_Join_L1 s0 (fL f0 0) (fL f0 1) (fL f0 2) (fL f0 3) s13 s14 s15 (V_ref08_Join_L1.mk s5 s6 s7 s12) = (alL tpl_ref08_Join_L1 s.tm, alH cts_ref08_Join_L1 (s.H ++ List.map phan phs_ref08_Join_L1))
    rw [e0, eH]
    refine Eq.trans (show sh_ref08_Join_L1 s0 (fL f0 0) (fL f0 1) (fL f0 2) (fL f0 3) s13 s14 s15 (V_ref08_Join_L1.mk s5 s6 s7 s12) = T_ref08_Join_L1 s0 (fL f0 0) (fL f0 1) (fL f0 2) (fL f0 3) s13 s14 s15 (V_ref08_Join_L1.mk s5 s6 s7 s12) (fun i => mkN [Ck.f, Ck.f, Ck.f, Ck.f] (f0 i) 0) by kernel_rfl) ?_
    rw [n0]
    kernel_rfl
-- a loop of tumble/tumbleref08.Join
structure V_ref08_Join_L2 where
  v0 : Int
  v1 : Nat
def tpl_ref08_Join_L2 : List AV := (AV.nul :: AV.top :: AV.nul :: AV.top :: AV.top :: AV.nul :: AV.top :: AV.top :: AV.top :: AV.nul :: tpA 138 ([]))
def cts_ref08_Join_L2 : List CT := [CT.keep, CT.keep]
def phs_ref08_Join_L2 : List Src := []
def T_ref08_Join_L2 (j : Nat) (m l r C : Nat → Nat) (D F I : Nat) (x : V_ref08_Join_L2) (F0 : Nat → List AV) : List AV × Heap := ((AV.view j 4 F0 :: AV.top :: AV.ptr (some ⟨0, 0, .lit 0⟩) :: AV.top :: AV.top :: AV.ptr (some ⟨1, 0, .lit 0⟩) :: AV.top :: AV.top :: AV.top :: AV.int .i64 x.v0 :: tpA 138 ([])), [⟨.flat [AV.float 0, AV.float 0, AV.float 0, AV.float 0], 31, 0⟩, ⟨.flat [AV.float D, AV.float x.v1, AV.float F, AV.float I], 31, 0⟩])
def sh_ref08_Join_L2 (j : Nat) (m l r C : Nat → Nat) (D F I : Nat) (x : V_ref08_Join_L2) : List AV × Heap := T_ref08_Join_L2 j m l r C D F I x (fun j0 => [AV.float (m j0), AV.float (l j0), AV.float (r j0), AV.float (C j0)])
def step_ref08_Join_L2 (j : Nat) (m l r C : Nat → Nat) (F I : Nat) (x : V_ref08_Join_L2) : V_ref08_Join_L2 := V_ref08_Join_L2.mk (IntKind.wrap .i64 (x.v0 + (1 : Int))) (let x0 := C (Int.toNat x.v0); let x1 := r (Int.toNat x.v0); let x2 := fadd (l (Int.toNat x.v0)) (fmul (m (Int.toNat x.v0)) (s_ref02_Square_0 (s_ref02_Sub_0 x1 x0 F I) (s_ref02_Sub_1 x1 x0 F I))); (bif (ieq x.v0 (0 : Int)) then x2 else (fadd x.v1 x2)))
def go_ref08_Join_L2 (j : Nat) (m l r C : Nat → Nat) (F I : Nat) (x : V_ref08_Join_L2) : Bool := (bif (!(ilt x.v0 (Int.ofNat j))) then false else true)
def ok_ref08_Join_L2 (j : Nat) (m l r C : Nat → Nat) (F I : Nat) (x : V_ref08_Join_L2) : Bool := let x0 := (ile (0 : Int) x.v0) && (Nat.blt (Int.toNat x.v0) j); let x1 := x0 && (x0 && x0); (mrgB (!(ilt x.v0 (Int.ofNat j))) true (mrgB (ieq x.v0 (0 : Int)) x1 x1))
def L_ref08_Join_L2 (j : Nat) (m l r C : Nat → Nat) (F I : Nat) (x : V_ref08_Join_L2) : V_ref08_Join_L2 := lastL (ok_ref08_Join_L2 j m l r C F I) (go_ref08_Join_L2 j m l r C F I) (step_ref08_Join_L2 j m l r C F I) x
def E_ref08_Join_L2 (j : Nat) (m l r C : Nat → Nat) (F I : Nat) (x : V_ref08_Join_L2) : Bool := endsL (ok_ref08_Join_L2 j m l r C F I) (go_ref08_Join_L2 j m l r C F I) (step_ref08_Join_L2 j m l r C F I) x
theorem all_ref08_Join_L2 (j : Nat) (m l r C : Nat → Nat) (D F I : Nat) (x : V_ref08_Join_L2) : rnd Tryz.prog false menv127 [] [] 96 Ann.no (subC [1, 1, 1, 1, 1, 1, 1, 1, 1, 1, 1, 0, 1, 0, 0] (codeOf Tryz.f33)) 0 [⟨some 0, 0, 0, []⟩, ⟨some 1, 0, 0, []⟩] tpl_ref08_Join_L2 cts_ref08_Join_L2 (false :: true :: false :: true :: true :: false :: tpB 142 ([])) [false, true] (sh_ref08_Join_L2 j m l r C D F I x) = (true, true, go_ref08_Join_L2 j m l r C F I x, ok_ref08_Join_L2 j m l r C F I x, true, sh_ref08_Join_L2 j m l r C D F I (step_ref08_Join_L2 j m l r C F I x), true) := by kernel_rfl
def fam_ref08_Join_L2 (j : Nat) (m l r C : Nat → Nat) (D F I : Nat) : Fam Tryz.prog false menv127 [] [] 96 0 Ann.no (subC [1, 1, 1, 1, 1, 1, 1, 1, 1, 1, 1, 0, 1, 0, 0] (codeOf Tryz.f33)) V_ref08_Join_L2 where
  sh := sh_ref08_Join_L2 j m l r C D F I
  ok := ok_ref08_Join_L2 j m l r C F I
  go := go_ref08_Join_L2 j m l r C F I
  step := step_ref08_Join_L2 j m l r C F I
  chg := (false :: true :: false :: true :: true :: false :: tpB 142 ([]))
  chgH := [false, true]
  tpl := tpl_ref08_Join_L2
  cts := cts_ref08_Join_L2
  keep := 0
  srcs := [⟨some 0, 0, 0, []⟩, ⟨some 1, 0, 0, []⟩]
  ann := (annNo (subC [1, 1, 1, 1, 1, 1, 1, 1, 1, 1, 1, 0, 1, 0, 0] (codeOf Tryz.f33)))
  le := by kernel_rfl
  kept := by kernel_rfl
  keptB := by kernel_rfl
  all := all_ref08_Join_L2 j m l r C D F I
  len := fun x => by kernel_rfl
  head := fun x y => by kernel_rfl
  con := fun x y => by kernel_rfl
  conH := fun x y => by kernel_rfl
def F_ref08_Join_L2 : St → Option Ch := fun s => cond (Nat.beq s.tm.length 148 && Nat.beq s.H.length 2) (tkCons (alL tpl_ref08_Join_L2 s.tm) fun d t0 => tkView 4 d fun s0 f0 => tkTops 1 t0 fun t1 => tkCons t1 fun u t2 => tkPtr 0 0 0 u <| tkTops 2 t2 fun t3 => tkCons t3 fun M t4 => tkPtr 1 0 0 M <| tkTops 3 t4 fun t5 => tkCons t5 fun Y t6 => tkI .i64 Y fun s5 => tkTops 138 t6 fun t7 => tkNil t7 <| tkCons (alH cts_ref08_Join_L2 (s.H ++ List.map phan phs_ref08_Join_L2)) fun b8 t8 => tkFlat 31 0 b8 fun m8 => tkCons m8 fun X t9 => tkFL 0 X <| tkCons t9 fun ae t10 => tkFL 0 ae <| tkCons t10 fun ad t11 => tkFL 0 ad <| tkCons t11 fun af t12 => tkFL 0 af <| tkNil t12 <| tkCons t8 fun b13 t13 => tkFlat 31 0 b13 fun m13 => tkCons m13 fun ao t14 => tkF ao fun s10 => tkCons t14 fun ag t15 => tkF ag fun s11 => tkCons t15 fun ah t16 => tkF ah fun s12 => tkCons t16 fun aj t17 => tkF aj fun s13 => tkNil t17 <| tkNil t13 <| Fam.out (fam_ref08_Join_L2 s0 (fL f0 0) (fL f0 1) (fL f0 2) (fL f0 3) s10 s12 s13) s (allB fun i => isNrm [Ck.f, Ck.f, Ck.f, Ck.f] (f0 i)) (V_ref08_Join_L2.mk s5 s11)) none
theorem F_ref08_Join_L2_ok : ∀ s ch, F_ref08_Join_L2 s = some ch → AllI s ch ∧ LoopSpec Tryz.prog false 0 (subC [1, 1, 1, 1, 1, 1, 1, 1, 1, 1, 1, 0, 1, 0, 0] (codeOf Tryz.f33)) s (sel ch) := by
  intro s ch h
  unfold F_ref08_Join_L2 at h
  obtain ⟨hl, h0⟩ := cond_some h rfl
  clear h
  obtain ⟨hl, hb⟩ := and_beq2 hl
  obtain ⟨d, t0, e0, h1⟩ := tkCons_some h0
  obtain ⟨s0, f0, rfl, h2⟩ := tkView_some h1
  obtain ⟨t1, rfl, h3⟩ := tkTops_some h2
  obtain ⟨u, t2, rfl, h4⟩ := tkCons_some h3
  obtain ⟨rfl, h5⟩ := tkPtr_some h4
  obtain ⟨t3, rfl, h6⟩ := tkTops_some h5
  obtain ⟨M, t4, rfl, h7⟩ := tkCons_some h6
  obtain ⟨rfl, h8⟩ := tkPtr_some h7
  obtain ⟨t5, rfl, h9⟩ := tkTops_some h8
  obtain ⟨Y, t6, rfl, h10⟩ := tkCons_some h9
  obtain ⟨s5, rfl, h11⟩ := tkI_some h10
  obtain ⟨t7, rfl, h12⟩ := tkTops_some h11
  obtain ⟨rfl, h13⟩ := tkNil_some h12
  obtain ⟨b8, t8, eH, h14⟩ := tkCons_some h13
  obtain ⟨m8, rfl, h15⟩ := tkFlat_some h14
  obtain ⟨X, t9, rfl, h16⟩ := tkCons_some h15
  obtain ⟨rfl, h17⟩ := tkFL_some h16
  obtain ⟨ae, t10, rfl, h18⟩ := tkCons_some h17
  obtain ⟨rfl, h19⟩ := tkFL_some h18
  obtain ⟨ad, t11, rfl, h20⟩ := tkCons_some h19
  obtain ⟨rfl, h21⟩ := tkFL_some h20
  obtain ⟨af, t12, rfl, h22⟩ := tkCons_some h21
  obtain ⟨rfl, h23⟩ := tkFL_some h22
  obtain ⟨rfl, h24⟩ := tkNil_some h23
  obtain ⟨b13, t13, rfl, h25⟩ := tkCons_some h24
  obtain ⟨m13, rfl, h26⟩ := tkFlat_some h25
  obtain ⟨ao, t14, rfl, h27⟩ := tkCons_some h26
  obtain ⟨s10, rfl, h28⟩ := tkF_some h27
  obtain ⟨ag, t15, rfl, h29⟩ := tkCons_some h28
  obtain ⟨s11, rfl, h30⟩ := tkF_some h29
  obtain ⟨ah, t16, rfl, h31⟩ := tkCons_some h30
  obtain ⟨s12, rfl, h32⟩ := tkF_some h31
  obtain ⟨aj, t17, rfl, h33⟩ := tkCons_some h32
  obtain ⟨s13, rfl, h34⟩ := tkF_some h33
  obtain ⟨rfl, h35⟩ := tkNil_some h34
  obtain ⟨rfl, h36⟩ := tkNil_some h35
  refine Fam.spec menv127_ok (fam_ref08_Join_L2 s0 (fL f0 0) (fL f0 1) (fL f0 2) (fL f0 3) s10 s12 s13) (phs := phs_ref08_Join_L2) (hl.trans (by kernel_rfl)) (hb.trans (by kernel_rfl)) ?_ ?_ h36
  · rw [← hdr_alH cts_ref08_Join_L2 (s.H ++ List.map phan phs_ref08_Join_L2), eH]; kernel_rfl
  · intro hq
    have hq0 := hq
    have n0 := nrm_fun hq0
    show sh_ref08_Join_L2 s0 (fL f0 0) (fL f0 1) (fL f0 2) (fL f0 3) s10 s12 s13 (V_ref08_Join_L2.mk s5 s11) = (alL tpl_ref08_Join_L2 s.tm, alH cts_ref08_Join_L2 (s.H ++ List.map phan phs_ref08_Join_L2))
    rw [e0, eH]
    refine Eq.trans (show sh_ref08_Join_L2 s0 (fL f0 0) (fL f0 1) (fL f0 2) (fL f0 3) s10 s12 s13 (V_ref08_Join_L2.mk s5 s11) = T_ref08_Join_L2 s0 (fL f0 0) (fL f0 1) (fL f0 2) (fL f0 3) s10 s12 s13 (V_ref08_Join_L2.mk s5 s11) (fun i => mkN [Ck.f, Ck.f, Ck.f, Ck.f] (f0 i) 0) by kernel_rfl) ?_
    rw [n0]
    kernel_rfl
theorem ann_ref08_Join : FnOk Tryz.prog false 0 Tryz.f33 (Ann.two Ann.no (Ann.two Ann.no (Ann.two (Ann.two Ann.no (Ann.one (Ann.loop F_ref08_Join_L0))) (Ann.two Ann.no (Ann.two Ann.no (Ann.two Ann.no (Ann.two Ann.no (Ann.two Ann.no (Ann.two (Ann.two Ann.no (Ann.one (Ann.loop F_ref08_Join_L1))) (Ann.two Ann.no (Ann.two Ann.no (Ann.two (Ann.two Ann.no (Ann.one (Ann.loop F_ref08_Join_L2))) Ann.no)))))))))))) := (fnOk_of (c := codeOf Tryz.f33) (by kernel_rfl) (annSeq (a := (subC [0] (codeOf Tryz.f33))) (b := (subC [1] (codeOf Tryz.f33))) (by kernel_rfl) (annNo (subC [0] (codeOf Tryz.f33))) (annSeq (a := (subC [1, 0] (codeOf Tryz.f33))) (b := (subC [1, 1] (codeOf Tryz.f33))) (by kernel_rfl) (annNo (subC [1, 0] (codeOf Tryz.f33))) (annSeq (a := (subC [1, 1, 0] (codeOf Tryz.f33))) (b := (subC [1, 1, 1] (codeOf Tryz.f33))) (by kernel_rfl) (annSeq (a := (subC [1, 1, 0, 0] (codeOf Tryz.f33))) (b := (subC [1, 1, 0, 1] (codeOf Tryz.f33))) (by kernel_rfl) (annNo (subC [1, 1, 0, 0] (codeOf Tryz.f33))) (annBlock (a := (subC [1, 1, 0, 1, 0] (codeOf Tryz.f33))) (i := 0) (by kernel_rfl) (annLoop (a := (subC [1, 1, 0, 1, 0, 0] (codeOf Tryz.f33))) (by kernel_rfl) F_ref08_Join_L0_ok))) (annSeq (a := (subC [1, 1, 1, 0] (codeOf Tryz.f33))) (b := (subC [1, 1, 1, 1] (codeOf Tryz.f33))) (by kernel_rfl) (annNo (subC [1, 1, 1, 0] (codeOf Tryz.f33))) (annSeq (a := (subC [1, 1, 1, 1, 0] (codeOf Tryz.f33))) (b := (subC [1, 1, 1, 1, 1] (codeOf Tryz.f33))) (by kernel_rfl) (annNo (subC [1, 1, 1, 1, 0] (codeOf Tryz.f33))) (annSeq (a := (subC [1, 1, 1, 1, 1, 0] (codeOf Tryz.f33))) (b := (subC [1, 1, 1, 1, 1, 1] (codeOf Tryz.f33))) (by kernel_rfl) (annNo (subC [1, 1, 1, 1, 1, 0] (codeOf Tryz.f33))) (annSeq (a := (subC [1, 1, 1, 1, 1, 1, 0] (codeOf Tryz.f33))) (b := (subC [1, 1, 1, 1, 1, 1, 1] (codeOf Tryz.f33))) (by kernel_rfl) (annNo (subC [1, 1, 1, 1, 1, 1, 0] (codeOf Tryz.f33))) (annSeq (a := (subC [1, 1, 1, 1, 1, 1, 1, 0] (codeOf Tryz.f33))) (b := (subC [1, 1, 1, 1, 1, 1, 1, 1] (codeOf Tryz.f33))) (by kernel_rfl) (annNo (subC [1, 1, 1, 1, 1, 1, 1, 0] (codeOf Tryz.f33))) (annSeq (a := (subC [1, 1, 1, 1, 1, 1, 1, 1, 0] (codeOf Tryz.f33))) (b := (subC [1, 1, 1, 1, 1, 1, 1, 1, 1] (codeOf Tryz.f33))) (by kernel_rfl) (annSeq (a := (subC [1, 1, 1, 1, 1, 1, 1, 1, 0, 0] (codeOf Tryz.f33))) (b := (subC [1, 1, 1, 1, 1, 1, 1, 1, 0, 1] (codeOf Tryz.f33))) (by kernel_rfl) (annNo (subC [1, 1, 1, 1, 1, 1, 1, 1, 0, 0] (codeOf Tryz.f33))) (annBlock (a := (subC [1, 1, 1, 1, 1, 1, 1, 1, 0, 1, 0] (codeOf Tryz.f33))) (i := 2) (by kernel_rfl) (annLoop (a := (subC [1, 1, 1, 1, 1, 1, 1, 1, 0, 1, 0, 0] (codeOf Tryz.f33))) (by kernel_rfl) F_ref08_Join_L1_ok))) (annSeq (a := (subC [1, 1, 1, 1, 1, 1, 1, 1, 1, 0] (codeOf Tryz.f33))) (b := (subC [1, 1, 1, 1, 1, 1, 1, 1, 1, 1] (codeOf Tryz.f33))) (by kernel_rfl) (annNo (subC [1, 1, 1, 1, 1, 1, 1, 1, 1, 0] (codeOf Tryz.f33))) (annSeq (a := (subC [1, 1, 1, 1, 1, 1, 1, 1, 1, 1, 0] (codeOf Tryz.f33))) (b := (subC [1, 1, 1, 1, 1, 1, 1, 1, 1, 1, 1] (codeOf Tryz.f33))) (by kernel_rfl) (annNo (subC [1, 1, 1, 1, 1, 1, 1, 1, 1, 1, 0] (codeOf Tryz.f33))) (annSeq (a := (subC [1, 1, 1, 1, 1, 1, 1, 1, 1, 1, 1, 0] (codeOf Tryz.f33))) (b := (subC [1, 1, 1, 1, 1, 1, 1, 1, 1, 1, 1, 1] (codeOf Tryz.f33))) (by kernel_rfl) (annSeq (a := (subC [1, 1, 1, 1, 1, 1, 1, 1, 1, 1, 1, 0, 0] (codeOf Tryz.f33))) (b := (subC [1, 1, 1, 1, 1, 1, 1, 1, 1, 1, 1, 0, 1] (codeOf Tryz.f33))) (by kernel_rfl) (annNo (subC [1, 1, 1, 1, 1, 1, 1, 1, 1, 1, 1, 0, 0] (codeOf Tryz.f33))) (annBlock (a := (subC [1, 1, 1, 1, 1, 1, 1, 1, 1, 1, 1, 0, 1, 0] (codeOf Tryz.f33))) (i := 4) (by kernel_rfl) (annLoop (a := (subC [1, 1, 1, 1, 1, 1, 1, 1, 1, 1, 1, 0, 1, 0, 0] (codeOf Tryz.f33))) (by kernel_rfl) F_ref08_Join_L2_ok))) (annNo (subC [1, 1, 1, 1, 1, 1, 1, 1, 1, 1, 1, 1] (codeOf Tryz.f33))))))))))))))))
def s_ref08_Join_0 (g : Nat) (n p G E : Nat → Nat) : Nat := let x0 : V_ref08_Join_L1 := (L_ref08_Join_L1 g n G E (V_ref08_Join_L1.mk (fmul (n 0) (G 0)) (fmul (n 0) (E 0)) (1 : Int) (n 0))); let x1 := x0.v3; let x2 := fdiv (x0.v1) x1; let x3 := fdiv (x0.v0) x1; let x4 := s_ref02_Vec_1 x3 x2; let x5 := s_ref02_Vec_0 x3 x2; let x6 := (L_ref08_Join_L0 g n p G E (V_ref08_Join_L0.mk (0 : Int))).v0; let x7 := Int.toNat x6; (bif (ilt (16384 : Int) (Int.ofNat g)) then 0 else (bif (bif (!(ilt x6 (Int.ofNat g))) then false else (!(ieq (s_ref08_Check_0 (n x7) (p x7) (G x7) (E x7)) (0 : Int)))) then 0 else (bif (ieq (Int.ofNat g) (0 : Int)) then 0 else (bif (ieq (Int.ofNat g) (1 : Int)) then (n 0) else (bif (feq x1 0) then 0 else (s_ref08_told_0 x1 ((L_ref08_Join_L2 g n p G E x5 x4 (V_ref08_Join_L2.mk (0 : Int) (p 0))).v1) x5 x4))))))
def s_ref08_Join_1 (g : Nat) (n p G E : Nat → Nat) : Nat := let x0 : V_ref08_Join_L1 := (L_ref08_Join_L1 g n G E (V_ref08_Join_L1.mk (fmul (n 0) (G 0)) (fmul (n 0) (E 0)) (1 : Int) (n 0))); let x1 := x0.v3; let x2 := fdiv (x0.v1) x1; let x3 := fdiv (x0.v0) x1; let x4 := s_ref02_Vec_1 x3 x2; let x5 := s_ref02_Vec_0 x3 x2; let x6 := (L_ref08_Join_L0 g n p G E (V_ref08_Join_L0.mk (0 : Int))).v0; let x7 := Int.toNat x6; (bif (ilt (16384 : Int) (Int.ofNat g)) then 0 else (bif (bif (!(ilt x6 (Int.ofNat g))) then false else (!(ieq (s_ref08_Check_0 (n x7) (p x7) (G x7) (E x7)) (0 : Int)))) then 0 else (bif (ieq (Int.ofNat g) (0 : Int)) then 0 else (bif (ieq (Int.ofNat g) (1 : Int)) then (p 0) else (bif (feq x1 0) then 0 else (s_ref08_told_1 x1 ((L_ref08_Join_L2 g n p G E x5 x4 (V_ref08_Join_L2.mk (0 : Int) (p 0))).v1) x5 x4))))))
def s_ref08_Join_2 (g : Nat) (n p G E : Nat → Nat) : Nat := let x0 : V_ref08_Join_L1 := (L_ref08_Join_L1 g n G E (V_ref08_Join_L1.mk (fmul (n 0) (G 0)) (fmul (n 0) (E 0)) (1 : Int) (n 0))); let x1 := x0.v3; let x2 := fdiv (x0.v1) x1; let x3 := fdiv (x0.v0) x1; let x4 := s_ref02_Vec_1 x3 x2; let x5 := s_ref02_Vec_0 x3 x2; let x6 := (L_ref08_Join_L0 g n p G E (V_ref08_Join_L0.mk (0 : Int))).v0; let x7 := Int.toNat x6; (bif (ilt (16384 : Int) (Int.ofNat g)) then 0 else (bif (bif (!(ilt x6 (Int.ofNat g))) then false else (!(ieq (s_ref08_Check_0 (n x7) (p x7) (G x7) (E x7)) (0 : Int)))) then 0 else (bif (ieq (Int.ofNat g) (0 : Int)) then 0 else (bif (ieq (Int.ofNat g) (1 : Int)) then (G 0) else (bif (feq x1 0) then 0 else (s_ref08_told_2 x1 ((L_ref08_Join_L2 g n p G E x5 x4 (V_ref08_Join_L2.mk (0 : Int) (p 0))).v1) x5 x4))))))
def s_ref08_Join_3 (g : Nat) (n p G E : Nat → Nat) : Nat := let x0 : V_ref08_Join_L1 := (L_ref08_Join_L1 g n G E (V_ref08_Join_L1.mk (fmul (n 0) (G 0)) (fmul (n 0) (E 0)) (1 : Int) (n 0))); let x1 := x0.v3; let x2 := fdiv (x0.v1) x1; let x3 := fdiv (x0.v0) x1; let x4 := s_ref02_Vec_1 x3 x2; let x5 := s_ref02_Vec_0 x3 x2; let x6 := (L_ref08_Join_L0 g n p G E (V_ref08_Join_L0.mk (0 : Int))).v0; let x7 := Int.toNat x6; (bif (ilt (16384 : Int) (Int.ofNat g)) then 0 else (bif (bif (!(ilt x6 (Int.ofNat g))) then false else (!(ieq (s_ref08_Check_0 (n x7) (p x7) (G x7) (E x7)) (0 : Int)))) then 0 else (bif (ieq (Int.ofNat g) (0 : Int)) then 0 else (bif (ieq (Int.ofNat g) (1 : Int)) then (E 0) else (bif (feq x1 0) then 0 else (s_ref08_told_3 x1 ((L_ref08_Join_L2 g n p G E x5 x4 (V_ref08_Join_L2.mk (0 : Int) (p 0))).v1) x5 x4))))))
def s_ref08_Join_4 (g : Nat) (n p G E : Nat → Nat) : Int := let x0 : V_ref08_Join_L1 := (L_ref08_Join_L1 g n G E (V_ref08_Join_L1.mk (fmul (n 0) (G 0)) (fmul (n 0) (E 0)) (1 : Int) (n 0))); let x1 := x0.v3; let x2 := fdiv (x0.v1) x1; let x3 := fdiv (x0.v0) x1; let x4 := s_ref02_Vec_1 x3 x2; let x5 := s_ref02_Vec_0 x3 x2; let x6 := (L_ref08_Join_L0 g n p G E (V_ref08_Join_L0.mk (0 : Int))).v0; let x7 := Int.toNat x6; (bif (ilt (16384 : Int) (Int.ofNat g)) then (4 : Int) else (bif (bif (!(ilt x6 (Int.ofNat g))) then false else (!(ieq (s_ref08_Check_0 (n x7) (p x7) (G x7) (E x7)) (0 : Int)))) then (80 : Int) else (bif (ieq (Int.ofNat g) (0 : Int)) then (0 : Int) else (bif (ieq (Int.ofNat g) (1 : Int)) then (0 : Int) else (bif (feq x1 0) then (0 : Int) else (s_ref08_told_4 x1 ((L_ref08_Join_L2 g n p G E x5 x4 (V_ref08_Join_L2.mk (0 : Int) (p 0))).v1) x5 x4))))))
def q_ref08_Join (g : Nat) (n p G E : Nat → Nat) : Bool := (let x0 := fmul (n 0) (E 0); let x1 := fmul (n 0) (G 0); let x2 : V_ref08_Join_L1 := (L_ref08_Join_L1 g n G E (V_ref08_Join_L1.mk x1 x0 (1 : Int) (n 0))); let x3 := x2.v3; let x4 := fdiv (x2.v1) x3; let x5 := fdiv (x2.v0) x3; let x6 := (allB fun _ => true) && (E_ref08_Join_L0 g n p G E (V_ref08_Join_L0.mk (0 : Int))); let x7 := (Nat.blt 0 g) && x6; let x8 := x7 && ((allB fun _ => true) && (E_ref08_Join_L1 g n G E (V_ref08_Join_L1.mk x1 x0 (1 : Int) (n 0)))); let x9 := (L_ref08_Join_L0 g n p G E (V_ref08_Join_L0.mk (0 : Int))).v0; let x10 := Int.toNat x9; (mrgB (ilt (16384 : Int) (Int.ofNat g)) true (mrgB (bif (!(ilt x9 (Int.ofNat g))) then false else (!(ieq (s_ref08_Check_0 (n x10) (p x10) (G x10) (E x10)) (0 : Int)))) x6 (mrgB (ieq (Int.ofNat g) (0 : Int)) x6 (mrgB (ieq (Int.ofNat g) (1 : Int)) x7 (mrgB (feq x3 0) x8 (x8 && ((allB fun _ => true) && (E_ref08_Join_L2 g n p G E (s_ref02_Vec_0 x5 x4) (s_ref02_Vec_1 x5 x4) (V_ref08_Join_L2.mk (0 : Int) (p 0)))))))))))
theorem e_ref08_Join (g : Nat) (n p G E : Nat → Nat) : outB (evFnM Tryz.prog false menv127 [] [] 96 (Ann.two Ann.no (Ann.two Ann.no (Ann.two (Ann.two Ann.no (Ann.one (Ann.loop F_ref08_Join_L0))) (Ann.two Ann.no (Ann.two Ann.no (Ann.two Ann.no (Ann.two Ann.no (Ann.two Ann.no (Ann.two (Ann.two Ann.no (Ann.one (Ann.loop F_ref08_Join_L1))) (Ann.two Ann.no (Ann.two Ann.no (Ann.two (Ann.two Ann.no (Ann.one (Ann.loop F_ref08_Join_L2))) Ann.no)))))))))))) Tryz.f33 [AV.view g 4 (fun i0 => [AV.float (n i0), AV.float (p i0), AV.float (G i0), AV.float (E i0)])] []) = some (q_ref08_Join g n p G E, AV.tup [AV.agg [AV.float (s_ref08_Join_0 g n p G E), AV.float (s_ref08_Join_1 g n p G E), AV.float (s_ref08_Join_2 g n p G E), AV.float (s_ref08_Join_3 g n p G E)], AV.int .i64 (s_ref08_Join_4 g n p G E)]) := by kernel_rfl
def o_ref08_Join (g : Nat) (n p G E : Nat → Nat) : Bool := let x0 := fmul (n 0) (E 0); let x1 := fmul (n 0) (G 0); let x2 : V_ref08_Join_L1 := (L_ref08_Join_L1 g n G E (V_ref08_Join_L1.mk x1 x0 (1 : Int) (n 0))); let x3 := x2.v3; let x4 := fdiv (x2.v1) x3; let x5 := fdiv (x2.v0) x3; let x6 := E_ref08_Join_L0 g n p G E (V_ref08_Join_L0.mk (0 : Int)); let x7 := (Nat.blt 0 g) && x6; let x8 := x7 && (E_ref08_Join_L1 g n G E (V_ref08_Join_L1.mk x1 x0 (1 : Int) (n 0))); let x9 := (L_ref08_Join_L0 g n p G E (V_ref08_Join_L0.mk (0 : Int))).v0; let x10 := Int.toNat x9; (mrgB (ilt (16384 : Int) (Int.ofNat g)) true (mrgB (bif (!(ilt x9 (Int.ofNat g))) then false else (!(ieq (s_ref08_Check_0 (n x10) (p x10) (G x10) (E x10)) (0 : Int)))) x6 (mrgB (ieq (Int.ofNat g) (0 : Int)) x6 (mrgB (ieq (Int.ofNat g) (1 : Int)) x7 (mrgB (feq x3 0) x8 (x8 && (E_ref08_Join_L2 g n p G E (s_ref02_Vec_0 x5 x4) (s_ref02_Vec_1 x5 x4) (V_ref08_Join_L2.mk (0 : Int) (p 0)))))))))
def S_ref08_Join : List AV → Option (Ob × AV)
  | [AV.view g 4 t] => some (Ob.both (Ob.bit (allB fun i => isNrm [Ck.f, Ck.f, Ck.f, Ck.f] (t i))) (Ob.bit (o_ref08_Join g (fL t 0) (fL t 1) (fL t 2) (fL t 3))), AV.tup [AV.agg [AV.float (s_ref08_Join_0 g (fL t 0) (fL t 1) (fL t 2) (fL t 3)), AV.float (s_ref08_Join_1 g (fL t 0) (fL t 1) (fL t 2) (fL t 3)), AV.float (s_ref08_Join_2 g (fL t 0) (fL t 1) (fL t 2) (fL t 3)), AV.float (s_ref08_Join_3 g (fL t 0) (fL t 1) (fL t 2) (fL t 3))], AV.int .i64 (s_ref08_Join_4 g (fL t 0) (fL t 1) (fL t 2) (fL t 3))])
  | _ => none
theorem ob_ref08_Join (g : Nat) (n p G E : Nat → Nat) (ho : o_ref08_Join g n p G E = true) : q_ref08_Join g n p G E = true := by
  unfold q_ref08_Join
  unfold o_ref08_Join at ho
  simp only [allB_true, eqT_self, mrgB_self, Bool.true_and, Bool.and_true] at ho ⊢
  exact ho
theorem t_ref08_Join : SOkM Tryz.prog false (33, fun args => match S_ref08_Join args with | some (o, v) => some (o, v, []) | none => none) := SOkM.flat (N := 96) menv127_ok Tryz.func33 ann_ref08_Join Tryz.call33 fun args o v h ho => by
  unfold S_ref08_Join at h
  split at h
  · rename_i g t
    cases h
    rw [Ob.both_ok, Bool.and_eq_true] at ho
    obtain ⟨hn, ho2⟩ := ho
    have n0 := hn
    simp only [Ob.ok] at n0
    replace n0 := nrm_fun n0
    have this := show outB (evFnM Tryz.prog false menv127 [] [] 96 (Ann.two Ann.no (Ann.two Ann.no (Ann.two (Ann.two Ann.no (Ann.one (Ann.loop F_ref08_Join_L0))) (Ann.two Ann.no (Ann.two Ann.no (Ann.two Ann.no (Ann.two Ann.no (Ann.two Ann.no (Ann.two (Ann.two Ann.no (Ann.one (Ann.loop F_ref08_Join_L1))) (Ann.two Ann.no (Ann.two Ann.no (Ann.two (Ann.two Ann.no (Ann.one (Ann.loop F_ref08_Join_L2))) Ann.no)))))))))))) Tryz.f33 [AV.view g 4 (fun i => mkN [Ck.f, Ck.f, Ck.f, Ck.f] (t i) 0)] []) = _ from e_ref08_Join g (fL t 0) (fL t 1) (fL t 2) (fL t 3)
    rw [(ob_ref08_Join g (fL t 0) (fL t 1) (fL t 2) (fL t 3) ho2)] at this
    rw [n0] at this
    exact ⟨this, rfl⟩
  · cases h
def c_ref08_Join : SFM := fun args => match S_ref08_Join args with | some (o, v) => some (o, v, []) | none => none
theorem c_ref08_Join_ok : SOkM Tryz.prog false (33, c_ref08_Join) := t_ref08_Join
def mss124 : List (FuncId × SFM) := (33, c_ref08_Join) :: mss123
def menv128 : EnvM := mkEnvM mxs mss124 mws5
theorem mss124_ok : All (SOkM Tryz.prog false) mss124 := All.cons c_ref08_Join_ok mss123_ok
theorem menv128_ok : menv128.Ok Tryz.prog false := mkEnvM_ok mxs_ok mss124_ok mws5_ok
-- tumble/tumbleref08.Parts
-- a loop of tumble/tumbleref08.Parts
structure V_ref08_Parts_L0 where
  v0 : Nat
  v1 : Int
  v2 : (Nat → Nat)
  v3 : (Nat → Nat)
  v4 : (Nat → Nat)
  v5 : (Nat → Nat)
def tpl_ref08_Parts_L0 : List AV := (AV.nul :: AV.top :: AV.nul :: AV.top :: AV.lst 1 0 4 0 0 :: AV.nul :: tpA 44 ([]))
def cts_ref08_Parts_L0 : List CT := [CT.keep, CT.keep]
def phs_ref08_Parts_L0 : List Src := [⟨none, 0, 31, [AV.float 0, AV.float 0, AV.float 0, AV.float 0]⟩]
def T_ref08_Parts_L0 (j : Nat) (m : Nat → Int) (l r : Nat → Nat) (C : (Nat → (Nat → Nat))) (D : (Nat → (Nat → Nat))) (F I L : Nat → Nat) (K : Nat → Bool) (ab ac : Nat → Int) (x : V_ref08_Parts_L0) (F0 F1 : Nat → List AV) : List AV × Heap := ((AV.view j 9 F0 :: AV.top :: AV.ptr (some ⟨0, 0, .lit 0⟩) :: AV.top :: AV.lst 1 0 4 x.v0 x.v0 :: AV.int .i64 x.v1 :: tpA 44 ([])), [⟨.flat [AV.float 0, AV.float 0, AV.float 0, AV.float 0], 31, 0⟩, ⟨.sym x.v0 4 F1, 31, 0⟩])
def sh_ref08_Parts_L0 (j : Nat) (m : Nat → Int) (l r : Nat → Nat) (C : (Nat → (Nat → Nat))) (D : (Nat → (Nat → Nat))) (F I L : Nat → Nat) (K : Nat → Bool) (ab ac : Nat → Int) (x : V_ref08_Parts_L0) : List AV × Heap := T_ref08_Parts_L0 j m l r C D F I L K ab ac x (fun j1 => [AV.int .u8 (m j1), AV.float (l j1), AV.view (r j1) 2 (fun j0 => [AV.float ((C j1) j0), AV.float ((D j1) j0)]), AV.float (F j1), AV.float (I j1), AV.float (L j1), AV.bool (K j1), AV.int .u16 (ab j1), AV.int .u16 (ac j1)]) (fun j0 => [AV.float (x.v2 j0), AV.float (x.v3 j0), AV.float (x.v4 j0), AV.float (x.v5 j0)])
def step_ref08_Parts_L0 (j : Nat) (m : Nat → Int) (l r : Nat → Nat) (C : (Nat → (Nat → Nat))) (D : (Nat → (Nat → Nat))) (F : Nat → Nat) (K : Nat → Bool) (x : V_ref08_Parts_L0) : V_ref08_Parts_L0 := V_ref08_Parts_L0.mk (csame (!(K (Int.toNat x.v1))) (x.v0 + 1) x.v0) (IntKind.wrap .i64 (x.v1 + (1 : Int))) (fun j0 => (bif (!(K (Int.toNat x.v1))) then (bif (Nat.blt j0 x.v0) then (x.v2 j0) else (s_ref08_Of_0 (m (Int.toNat x.v1)) (l (Int.toNat x.v1)) (r (Int.toNat x.v1)) (C (Int.toNat x.v1)) (D (Int.toNat x.v1)) (F (Int.toNat x.v1)))) else (x.v2 j0))) (fun j0 => (bif (!(K (Int.toNat x.v1))) then (bif (Nat.blt j0 x.v0) then (x.v3 j0) else (s_ref08_Of_1 (m (Int.toNat x.v1)) (l (Int.toNat x.v1)) (r (Int.toNat x.v1)) (C (Int.toNat x.v1)) (D (Int.toNat x.v1)) (F (Int.toNat x.v1)))) else (x.v3 j0))) (fun j0 => (bif (!(K (Int.toNat x.v1))) then (bif (Nat.blt j0 x.v0) then (x.v4 j0) else (s_ref08_Of_2 (m (Int.toNat x.v1)) (l (Int.toNat x.v1)) (r (Int.toNat x.v1)) (C (Int.toNat x.v1)) (D (Int.toNat x.v1)) (F (Int.toNat x.v1)))) else (x.v4 j0))) (fun j0 => (bif (!(K (Int.toNat x.v1))) then (bif (Nat.blt j0 x.v0) then (x.v5 j0) else (s_ref08_Of_3 (m (Int.toNat x.v1)) (l (Int.toNat x.v1)) (r (Int.toNat x.v1)) (C (Int.toNat x.v1)) (D (Int.toNat x.v1)) (F (Int.toNat x.v1)))) else (x.v5 j0)))
def go_ref08_Parts_L0 (j : Nat) (m : Nat → Int) (l r : Nat → Nat) (C : (Nat → (Nat → Nat))) (D : (Nat → (Nat → Nat))) (F : Nat → Nat) (K : Nat → Bool) (x : V_ref08_Parts_L0) : Bool := (bif (bif (!(ilt x.v1 (Int.ofNat j))) then false else (!(ieq (s_ref08_Of_4 (m (Int.toNat x.v1)) (l (Int.toNat x.v1)) (r (Int.toNat x.v1)) (C (Int.toNat x.v1)) (D (Int.toNat x.v1)) (F (Int.toNat x.v1))) (0 : Int)))) then false else (bif (!(ilt x.v1 (Int.ofNat j))) then false else true))
def ok_ref08_Parts_L0 (j : Nat) (m : Nat → Int) (l r : Nat → Nat) (C : (Nat → (Nat → Nat))) (D : (Nat → (Nat → Nat))) (F : Nat → Nat) (K : Nat → Bool) (x : V_ref08_Parts_L0) : Bool := let x0 := (ile (0 : Int) x.v1) && (Nat.blt (Int.toNat x.v1) j); let x1 := F (Int.toNat x.v1); let x2 : (Nat → Nat) := (D (Int.toNat x.v1)); let x3 : (Nat → Nat) := (C (Int.toNat x.v1)); let x4 := r (Int.toNat x.v1); let x5 := l (Int.toNat x.v1); let x6 := m (Int.toNat x.v1); let x7 := ((allB fun _ => true) && (o_ref08_Of x6 x5 x4 x3 x2 x1)) && (x0 && x0); let x8 := x0 && x7; let x9 := !(ilt x.v1 (Int.ofNat j)); (mrgB (bif x9 then false else (!(ieq (s_ref08_Of_4 x6 x5 x4 x3 x2 x1) (0 : Int)))) x7 (mrgB x9 true (mrgB (!(K (Int.toNat x.v1))) (((Nat.ble x.v0 x.v0) && (Nat.ble ((x.v0 + 1) * 32) 140737488355328)) && x8) x8)))
def L_ref08_Parts_L0 (j : Nat) (m : Nat → Int) (l r : Nat → Nat) (C : (Nat → (Nat → Nat))) (D : (Nat → (Nat → Nat))) (F : Nat → Nat) (K : Nat → Bool) (x : V_ref08_Parts_L0) : V_ref08_Parts_L0 := lastL (ok_ref08_Parts_L0 j m l r C D F K) (go_ref08_Parts_L0 j m l r C D F K) (step_ref08_Parts_L0 j m l r C D F K) x
def E_ref08_Parts_L0 (j : Nat) (m : Nat → Int) (l r : Nat → Nat) (C : (Nat → (Nat → Nat))) (D : (Nat → (Nat → Nat))) (F : Nat → Nat) (K : Nat → Bool) (x : V_ref08_Parts_L0) : Bool := endsL (ok_ref08_Parts_L0 j m l r C D F K) (go_ref08_Parts_L0 j m l r C D F K) (step_ref08_Parts_L0 j m l r C D F K) x
theorem all_ref08_Parts_L0 (j : Nat) (m : Nat → Int) (l r : Nat → Nat) (C : (Nat → (Nat → Nat))) (D : (Nat → (Nat → Nat))) (F I L : Nat → Nat) (K : Nat → Bool) (ab ac : Nat → Int) (x : V_ref08_Parts_L0) : rnd Tryz.prog false menv128 [] [] 96 Ann.no (subC [1, 1, 1, 0, 1, 0, 0] (codeOf Tryz.f12)) 0 [⟨some 0, 0, 0, []⟩, ⟨some 1, 0, 0, []⟩] tpl_ref08_Parts_L0 cts_ref08_Parts_L0 (false :: true :: false :: tpB 47 ([])) [true] (sh_ref08_Parts_L0 j m l r C D F I L K ab ac x) = (true, true, go_ref08_Parts_L0 j m l r C D F K x, ok_ref08_Parts_L0 j m l r C D F K x, true, sh_ref08_Parts_L0 j m l r C D F I L K ab ac (step_ref08_Parts_L0 j m l r C D F K x), true) := by kernel_rfl
def fam_ref08_Parts_L0 (j : Nat) (m : Nat → Int) (l r : Nat → Nat) (C : (Nat → (Nat → Nat))) (D : (Nat → (Nat → Nat))) (F I L : Nat → Nat) (K : Nat → Bool) (ab ac : Nat → Int) : Fam Tryz.prog false menv128 [] [] 96 0 Ann.no (subC [1, 1, 1, 0, 1, 0, 0] (codeOf Tryz.f12)) V_ref08_Parts_L0 where
  sh := sh_ref08_Parts_L0 j m l r C D F I L K ab ac
  ok := ok_ref08_Parts_L0 j m l r C D F K
  go := go_ref08_Parts_L0 j m l r C D F K
  step := step_ref08_Parts_L0 j m l r C D F K
  chg := (false :: true :: false :: tpB 47 ([]))
  chgH := [true]
  tpl := tpl_ref08_Parts_L0
  cts := cts_ref08_Parts_L0
  keep := 0
  srcs := [⟨some 0, 0, 0, []⟩, ⟨some 1, 0, 0, []⟩]
  ann := (annNo (subC [1, 1, 1, 0, 1, 0, 0] (codeOf Tryz.f12)))
  le := by kernel_rfl
  kept := by kernel_rfl
  keptB := by kernel_rfl
  all := all_ref08_Parts_L0 j m l r C D F I L K ab ac
  len := fun x => by kernel_rfl
  head := fun x y => by kernel_rfl
  con := fun x y => by kernel_rfl
  conH := fun x y => by kernel_rfl
def F_ref08_Parts_L0 : St → Option Ch := fun s => cond (Nat.beq s.tm.length 50 && Nat.beq s.H.length 1) (tkCons (alL tpl_ref08_Parts_L0 s.tm) fun d t0 => tkView 9 d fun s0 f0 => tkTops 1 t0 fun t1 => tkCons t1 fun u t2 => tkPtr 0 0 0 u <| tkTops 1 t2 fun t3 => tkCons t3 fun M t4 => tkLst 1 0 4 M fun s12 s13 => tkCons t4 fun P t5 => tkI .i64 P fun s14 => tkTops 44 t5 fun t6 => tkNil t6 <| tkCons (alH cts_ref08_Parts_L0 (s.H ++ List.map phan phs_ref08_Parts_L0)) fun b7 t7 => tkFlat 31 0 b7 fun m7 => tkCons m7 fun aa t8 => tkFL 0 aa <| tkCons t8 fun X t9 => tkFL 0 X <| tkCons t9 fun ae t10 => tkFL 0 ae <| tkCons t10 fun ad t11 => tkFL 0 ad <| tkNil t11 <| tkCons t7 fun b12 t12 => tkSym 31 0 4 b12 fun s19 f1 => tkNil t12 <| Fam.out (fam_ref08_Parts_L0 s0 (iL f0 0) (fL f0 1) (fun i => lnO (atL (f0 i) 2)) (fun i => fun k6 => flO (atL (vwO (atL (f0 i) 2) k6) 0)) (fun i => fun k6 => flO (atL (vwO (atL (f0 i) 2) k6) 1)) (fL f0 3) (fL f0 4) (fL f0 5) (fun i => blO (atL (f0 i) 6)) (iL f0 7) (iL f0 8)) s ((((allB fun i => isNrm [Ck.i .u8, Ck.f, Ck.v [Ck.f, Ck.f], Ck.f, Ck.f, Ck.f, Ck.b, Ck.i .u16, Ck.i .u16] (f0 i)) && (allB fun i => isNrm [Ck.f, Ck.f, Ck.f, Ck.f] (f1 i))) && (eqT s13 s12)) && (eqT s19 s12)) (V_ref08_Parts_L0.mk s12 s14 (fL f1 0) (fL f1 1) (fL f1 2) (fL f1 3))) none
theorem F_ref08_Parts_L0_ok : ∀ s ch, F_ref08_Parts_L0 s = some ch → AllI s ch ∧ LoopSpec Tryz.prog false 0 (subC [1, 1, 1, 0, 1, 0, 0] (codeOf Tryz.f12)) s (sel ch) := by
  intro s ch h
  unfold F_ref08_Parts_L0 at h
  obtain ⟨hl, h0⟩ := cond_some h rfl
  clear h
  obtain ⟨hl, hb⟩ := and_beq2 hl
  obtain ⟨d, t0, e0, h1⟩ := tkCons_some h0
  obtain ⟨s0, f0, rfl, h2⟩ := tkView_some h1
  obtain ⟨t1, rfl, h3⟩ := tkTops_some h2
  obtain ⟨u, t2, rfl, h4⟩ := tkCons_some h3
  obtain ⟨rfl, h5⟩ := tkPtr_some h4
  obtain ⟨t3, rfl, h6⟩ := tkTops_some h5
  obtain ⟨M, t4, rfl, h7⟩ := tkCons_some h6
  obtain ⟨s12, s13, rfl, h8⟩ := tkLst_some h7
  obtain ⟨P, t5, rfl, h9⟩ := tkCons_some h8
  obtain ⟨s14, rfl, h10⟩ := tkI_some h9
  obtain ⟨t6, rfl, h11⟩ := tkTops_some h10
  obtain ⟨rfl, h12⟩ := tkNil_some h11
  obtain ⟨b7, t7, eH, h13⟩ := tkCons_some h12
  obtain ⟨m7, rfl, h14⟩ := tkFlat_some h13
  obtain ⟨aa, t8, rfl, h15⟩ := tkCons_some h14
  obtain ⟨rfl, h16⟩ := tkFL_some h15
  obtain ⟨X, t9, rfl, h17⟩ := tkCons_some h16
  obtain ⟨rfl, h18⟩ := tkFL_some h17
  obtain ⟨ae, t10, rfl, h19⟩ := tkCons_some h18
  obtain ⟨rfl, h20⟩ := tkFL_some h19
  obtain ⟨ad, t11, rfl, h21⟩ := tkCons_some h20
  obtain ⟨rfl, h22⟩ := tkFL_some h21
  obtain ⟨rfl, h23⟩ := tkNil_some h22
  obtain ⟨b12, t12, rfl, h24⟩ := tkCons_some h23
  obtain ⟨s19, f1, rfl, h25⟩ := tkSym_some h24
  obtain ⟨rfl, h26⟩ := tkNil_some h25
  refine Fam.spec menv128_ok (fam_ref08_Parts_L0 s0 (iL f0 0) (fL f0 1) (fun i => lnO (atL (f0 i) 2)) (fun i => fun k6 => flO (atL (vwO (atL (f0 i) 2) k6) 0)) (fun i => fun k6 => flO (atL (vwO (atL (f0 i) 2) k6) 1)) (fL f0 3) (fL f0 4) (fL f0 5) (fun i => blO (atL (f0 i) 6)) (iL f0 7) (iL f0 8)) (phs := phs_ref08_Parts_L0) (hl.trans (by kernel_rfl)) (hb.trans (by kernel_rfl)) ?_ ?_ h26
  · rw [← hdr_alH cts_ref08_Parts_L0 (s.H ++ List.map phan phs_ref08_Parts_L0), eH]; kernel_rfl
  · intro hq
    simp only [Bool.and_eq_true] at hq
    obtain ⟨⟨⟨hq0, hq1⟩, hq2⟩, hq3⟩ := hq
    have n0 := nrm_fun hq0
    have n1 := nrm_fun hq1
    have hx := eqT_eq hq2; subst s13
    have hx := eqT_eq hq3; subst s19
    show sh_ref08_Parts_L0 s0 (iL f0 0) (fL f0 1) (fun i => lnO (atL (f0 i) 2)) (fun i => fun k6 => flO (atL (vwO (atL (f0 i) 2) k6) 0)) (fun i => fun k6 => flO (atL (vwO (atL (f0 i) 2) k6) 1)) (fL f0 3) (fL f0 4) (fL f0 5) (fun i => blO (atL (f0 i) 6)) (iL f0 7) (iL f0 8) (V_ref08_Parts_L0.mk s12 s14 (fL f1 0) (fL f1 1) (fL f1 2) (fL f1 3)) = (alL tpl_ref08_Parts_L0 s.tm, alH cts_ref08_Parts_L0 (s.H ++ List.map phan phs_ref08_Parts_L0))
    rw [e0, eH]
    refine Eq.trans (show sh_ref08_Parts_L0 s0 (iL f0 0) (fL f0 1) (fun i => lnO (atL (f0 i) 2)) (fun i => fun k6 => flO (atL (vwO (atL (f0 i) 2) k6) 0)) (fun i => fun k6 => flO (atL (vwO (atL (f0 i) 2) k6) 1)) (fL f0 3) (fL f0 4) (fL f0 5) (fun i => blO (atL (f0 i) 6)) (iL f0 7) (iL f0 8) (V_ref08_Parts_L0.mk s12 s14 (fL f1 0) (fL f1 1) (fL f1 2) (fL f1 3)) = T_ref08_Parts_L0 s0 (iL f0 0) (fL f0 1) (fun i => lnO (atL (f0 i) 2)) (fun i => fun k6 => flO (atL (vwO (atL (f0 i) 2) k6) 0)) (fun i => fun k6 => flO (atL (vwO (atL (f0 i) 2) k6) 1)) (fL f0 3) (fL f0 4) (fL f0 5) (fun i => blO (atL (f0 i) 6)) (iL f0 7) (iL f0 8) (V_ref08_Parts_L0.mk s12 s14 (fL f1 0) (fL f1 1) (fL f1 2) (fL f1 3)) (fun i => mkN [Ck.i .u8, Ck.f, Ck.v [Ck.f, Ck.f], Ck.f, Ck.f, Ck.f, Ck.b, Ck.i .u16, Ck.i .u16] (f0 i) 0) (fun i => mkN [Ck.f, Ck.f, Ck.f, Ck.f] (f1 i) 0) by kernel_rfl) ?_
    rw [n0, n1]
    kernel_rfl
theorem ann_ref08_Parts : FnOk Tryz.prog false 0 Tryz.f12 (Ann.two Ann.no (Ann.two Ann.no (Ann.two Ann.no (Ann.two (Ann.two Ann.no (Ann.one (Ann.loop F_ref08_Parts_L0))) Ann.no)))) := (fnOk_of (c := codeOf Tryz.f12) (by kernel_rfl) (annSeq (a := (subC [0] (codeOf Tryz.f12))) (b := (subC [1] (codeOf Tryz.f12))) (by kernel_rfl) (annNo (subC [0] (codeOf Tryz.f12))) (annSeq (a := (subC [1, 0] (codeOf Tryz.f12))) (b := (subC [1, 1] (codeOf Tryz.f12))) (by kernel_rfl) (annNo (subC [1, 0] (codeOf Tryz.f12))) (annSeq (a := (subC [1, 1, 0] (codeOf Tryz.f12))) (b := (subC [1, 1, 1] (codeOf Tryz.f12))) (by kernel_rfl) (annNo (subC [1, 1, 0] (codeOf Tryz.f12))) (annSeq (a := (subC [1, 1, 1, 0] (codeOf Tryz.f12))) (b := (subC [1, 1, 1, 1] (codeOf Tryz.f12))) (by kernel_rfl) (annSeq (a := (subC [1, 1, 1, 0, 0] (codeOf Tryz.f12))) (b := (subC [1, 1, 1, 0, 1] (codeOf Tryz.f12))) (by kernel_rfl) (annNo (subC [1, 1, 1, 0, 0] (codeOf Tryz.f12))) (annBlock (a := (subC [1, 1, 1, 0, 1, 0] (codeOf Tryz.f12))) (i := 0) (by kernel_rfl) (annLoop (a := (subC [1, 1, 1, 0, 1, 0, 0] (codeOf Tryz.f12))) (by kernel_rfl) F_ref08_Parts_L0_ok))) (annNo (subC [1, 1, 1, 1] (codeOf Tryz.f12))))))))
def s_ref08_Parts_0 (g : Nat) (n : Nat → Int) (p O : Nat → Nat) (a0_2_0 : Nat → Nat → Nat) (a0_2_1 : Nat → Nat → Nat) (E T U : Nat → Nat) (Q : Nat → Bool) (V W : Nat → Int) : Nat := let x0 : V_ref08_Parts_L0 := (L_ref08_Parts_L0 g n p O a0_2_0 a0_2_1 E Q (V_ref08_Parts_L0.mk 0 (0 : Int) (fun j0 => 0) (fun j0 => 0) (fun j0 => 0) (fun j0 => 0))); let x1 := x0.v1; let x2 := Int.toNat x1; (bif (ilt (8 : Int) (Int.ofNat g)) then 0 else (bif (bif (!(ilt x1 (Int.ofNat g))) then false else (!(ieq (s_ref08_Of_4 (n x2) (p x2) (O x2) (a0_2_0 x2) (a0_2_1 x2) (E x2)) (0 : Int)))) then 0 else (s_ref08_Join_0 (x0.v0) (x0.v2) (x0.v3) (x0.v4) (x0.v5))))
def s_ref08_Parts_1 (g : Nat) (n : Nat → Int) (p O : Nat → Nat) (a0_2_0 : Nat → Nat → Nat) (a0_2_1 : Nat → Nat → Nat) (E T U : Nat → Nat) (Q : Nat → Bool) (V W : Nat → Int) : Nat := let x0 : V_ref08_Parts_L0 := (L_ref08_Parts_L0 g n p O a0_2_0 a0_2_1 E Q (V_ref08_Parts_L0.mk 0 (0 : Int) (fun j0 => 0) (fun j0 => 0) (fun j0 => 0) (fun j0 => 0))); let x1 := x0.v1; let x2 := Int.toNat x1; (bif (ilt (8 : Int) (Int.ofNat g)) then 0 else (bif (bif (!(ilt x1 (Int.ofNat g))) then false else (!(ieq (s_ref08_Of_4 (n x2) (p x2) (O x2) (a0_2_0 x2) (a0_2_1 x2) (E x2)) (0 : Int)))) then 0 else (s_ref08_Join_1 (x0.v0) (x0.v2) (x0.v3) (x0.v4) (x0.v5))))
def s_ref08_Parts_2 (g : Nat) (n : Nat → Int) (p O : Nat → Nat) (a0_2_0 : Nat → Nat → Nat) (a0_2_1 : Nat → Nat → Nat) (E T U : Nat → Nat) (Q : Nat → Bool) (V W : Nat → Int) : Nat := let x0 : V_ref08_Parts_L0 := (L_ref08_Parts_L0 g n p O a0_2_0 a0_2_1 E Q (V_ref08_Parts_L0.mk 0 (0 : Int) (fun j0 => 0) (fun j0 => 0) (fun j0 => 0) (fun j0 => 0))); let x1 := x0.v1; let x2 := Int.toNat x1; (bif (ilt (8 : Int) (Int.ofNat g)) then 0 else (bif (bif (!(ilt x1 (Int.ofNat g))) then false else (!(ieq (s_ref08_Of_4 (n x2) (p x2) (O x2) (a0_2_0 x2) (a0_2_1 x2) (E x2)) (0 : Int)))) then 0 else (s_ref08_Join_2 (x0.v0) (x0.v2) (x0.v3) (x0.v4) (x0.v5))))
def s_ref08_Parts_3 (g : Nat) (n : Nat → Int) (p O : Nat → Nat) (a0_2_0 : Nat → Nat → Nat) (a0_2_1 : Nat → Nat → Nat) (E T U : Nat → Nat) (Q : Nat → Bool) (V W : Nat → Int) : Nat := let x0 : V_ref08_Parts_L0 := (L_ref08_Parts_L0 g n p O a0_2_0 a0_2_1 E Q (V_ref08_Parts_L0.mk 0 (0 : Int) (fun j0 => 0) (fun j0 => 0) (fun j0 => 0) (fun j0 => 0))); let x1 := x0.v1; let x2 := Int.toNat x1; (bif (ilt (8 : Int) (Int.ofNat g)) then 0 else (bif (bif (!(ilt x1 (Int.ofNat g))) then false else (!(ieq (s_ref08_Of_4 (n x2) (p x2) (O x2) (a0_2_0 x2) (a0_2_1 x2) (E x2)) (0 : Int)))) then 0 else (s_ref08_Join_3 (x0.v0) (x0.v2) (x0.v3) (x0.v4) (x0.v5))))
def s_ref08_Parts_4 (g : Nat) (n : Nat → Int) (p O : Nat → Nat) (a0_2_0 : Nat → Nat → Nat) (a0_2_1 : Nat → Nat → Nat) (E T U : Nat → Nat) (Q : Nat → Bool) (V W : Nat → Int) : Int := let x0 : V_ref08_Parts_L0 := (L_ref08_Parts_L0 g n p O a0_2_0 a0_2_1 E Q (V_ref08_Parts_L0.mk 0 (0 : Int) (fun j0 => 0) (fun j0 => 0) (fun j0 => 0) (fun j0 => 0))); let x1 := x0.v1; let x2 := Int.toNat x1; let x3 := s_ref08_Of_4 (n x2) (p x2) (O x2) (a0_2_0 x2) (a0_2_1 x2) (E x2); (bif (ilt (8 : Int) (Int.ofNat g)) then (4 : Int) else (bif (bif (!(ilt x1 (Int.ofNat g))) then false else (!(ieq x3 (0 : Int)))) then x3 else (s_ref08_Join_4 (x0.v0) (x0.v2) (x0.v3) (x0.v4) (x0.v5))))
def q_ref08_Parts (g : Nat) (n : Nat → Int) (p O : Nat → Nat) (a0_2_0 : Nat → Nat → Nat) (a0_2_1 : Nat → Nat → Nat) (E T U : Nat → Nat) (Q : Nat → Bool) (V W : Nat → Int) : Bool := (let x0 := ((((allB fun _ => ((allB fun _ => true) && true)) && (allB fun _ => true)) && (eqT 0 0)) && (eqT 0 0)) && (E_ref08_Parts_L0 g n p O a0_2_0 a0_2_1 E Q (V_ref08_Parts_L0.mk 0 (0 : Int) (fun j0 => 0) (fun j0 => 0) (fun j0 => 0) (fun j0 => 0))); let x1 : V_ref08_Parts_L0 := (L_ref08_Parts_L0 g n p O a0_2_0 a0_2_1 E Q (V_ref08_Parts_L0.mk 0 (0 : Int) (fun j0 => 0) (fun j0 => 0) (fun j0 => 0) (fun j0 => 0))); let x2 := x1.v0; let x3 := x1.v1; let x4 := Int.toNat x3; (mrgB (ilt (8 : Int) (Int.ofNat g)) true (mrgB (bif (!(ilt x3 (Int.ofNat g))) then false else (!(ieq (s_ref08_Of_4 (n x4) (p x4) (O x4) (a0_2_0 x4) (a0_2_1 x4) (E x4)) (0 : Int)))) x0 (((Nat.ble x2 x2) && ((allB fun _ => true) && (o_ref08_Join x2 (x1.v2) (x1.v3) (x1.v4) (x1.v5)))) && x0))))
def r_ref08_Parts (g : Nat) (n : Nat → Int) (p O : Nat → Nat) (a0_2_0 : Nat → Nat → Nat) (a0_2_1 : Nat → Nat → Nat) (E T U : Nat → Nat) (Q : Nat → Bool) (V W : Nat → Int) : AV := AV.tup [AV.agg [AV.float (s_ref08_Parts_0 g n p O a0_2_0 a0_2_1 E T U Q V W), AV.float (s_ref08_Parts_1 g n p O a0_2_0 a0_2_1 E T U Q V W), AV.float (s_ref08_Parts_2 g n p O a0_2_0 a0_2_1 E T U Q V W), AV.float (s_ref08_Parts_3 g n p O a0_2_0 a0_2_1 E T U Q V W)], AV.int .i64 (s_ref08_Parts_4 g n p O a0_2_0 a0_2_1 E T U Q V W)]
theorem e_ref08_Parts (g : Nat) (n : Nat → Int) (p O : Nat → Nat) (a0_2_0 : Nat → Nat → Nat) (a0_2_1 : Nat → Nat → Nat) (E T U : Nat → Nat) (Q : Nat → Bool) (V W : Nat → Int) : outB (evFnM Tryz.prog false menv128 [] [] 96 (Ann.two Ann.no (Ann.two Ann.no (Ann.two Ann.no (Ann.two (Ann.two Ann.no (Ann.one (Ann.loop F_ref08_Parts_L0))) Ann.no)))) Tryz.f12 [AV.view g 9 (fun i0 => [AV.int .u8 (n i0), AV.float (p i0), AV.view (O i0) 2 (fun i1 => [AV.float (a0_2_0 i0 i1), AV.float (a0_2_1 i0 i1)]), AV.float (E i0), AV.float (T i0), AV.float (U i0), AV.bool (Q i0), AV.int .u16 (V i0), AV.int .u16 (W i0)])] []) = some (q_ref08_Parts g n p O a0_2_0 a0_2_1 E T U Q V W, r_ref08_Parts g n p O a0_2_0 a0_2_1 E T U Q V W) := by kernel_rfl
def o_ref08_Parts (g : Nat) (n : Nat → Int) (p O : Nat → Nat) (a0_2_0 : Nat → Nat → Nat) (a0_2_1 : Nat → Nat → Nat) (E T U : Nat → Nat) (Q : Nat → Bool) (V W : Nat → Int) : Bool := let x0 := E_ref08_Parts_L0 g n p O a0_2_0 a0_2_1 E Q (V_ref08_Parts_L0.mk 0 (0 : Int) (fun j0 => 0) (fun j0 => 0) (fun j0 => 0) (fun j0 => 0)); let x1 : V_ref08_Parts_L0 := (L_ref08_Parts_L0 g n p O a0_2_0 a0_2_1 E Q (V_ref08_Parts_L0.mk 0 (0 : Int) (fun j0 => 0) (fun j0 => 0) (fun j0 => 0) (fun j0 => 0))); let x2 := x1.v0; let x3 := x1.v1; let x4 := Int.toNat x3; (mrgB (ilt (8 : Int) (Int.ofNat g)) true (mrgB (bif (!(ilt x3 (Int.ofNat g))) then false else (!(ieq (s_ref08_Of_4 (n x4) (p x4) (O x4) (a0_2_0 x4) (a0_2_1 x4) (E x4)) (0 : Int)))) x0 (((Nat.ble x2 x2) && (o_ref08_Join x2 (x1.v2) (x1.v3) (x1.v4) (x1.v5))) && x0)))
def S_ref08_Parts : List AV → Option (Ob × AV)
  | [AV.view g 9 t] => some (Ob.both (Ob.bit (allB fun i => isNrm [Ck.i .u8, Ck.f, Ck.v [Ck.f, Ck.f], Ck.f, Ck.f, Ck.f, Ck.b, Ck.i .u16, Ck.i .u16] (t i))) (Ob.bit (o_ref08_Parts g (iL t 0) (fL t 1) (fun i0 => (lnO (atL (t i0) 2))) (fun i0 => (fun i1 => (flO (atL (vwO (atL (t i0) 2) i1) 0)))) (fun i0 => (fun i1 => (flO (atL (vwO (atL (t i0) 2) i1) 1)))) (fL t 3) (fL t 4) (fL t 5) (fun i0 => (blO (atL (t i0) 6))) (iL t 7) (iL t 8))), r_ref08_Parts g (iL t 0) (fL t 1) (fun i0 => (lnO (atL (t i0) 2))) (fun i0 => (fun i1 => (flO (atL (vwO (atL (t i0) 2) i1) 0)))) (fun i0 => (fun i1 => (flO (atL (vwO (atL (t i0) 2) i1) 1)))) (fL t 3) (fL t 4) (fL t 5) (fun i0 => (blO (atL (t i0) 6))) (iL t 7) (iL t 8))
  | _ => none
theorem ob_ref08_Parts (g : Nat) (n : Nat → Int) (p O : Nat → Nat) (a0_2_0 : Nat → Nat → Nat) (a0_2_1 : Nat → Nat → Nat) (E T U : Nat → Nat) (Q : Nat → Bool) (V W : Nat → Int) (ho : o_ref08_Parts g n p O a0_2_0 a0_2_1 E T U Q V W = true) : q_ref08_Parts g n p O a0_2_0 a0_2_1 E T U Q V W = true := by
  unfold q_ref08_Parts
  unfold o_ref08_Parts at ho
  simp only [allB_true, eqT_self, mrgB_self, Bool.true_and, Bool.and_true] at ho ⊢
  exact ho
theorem t_ref08_Parts : SOkM Tryz.prog false (12, fun args => match S_ref08_Parts args with | some (o, v) => some (o, v, []) | none => none) := SOkM.flat (N := 96) menv128_ok Tryz.func12 ann_ref08_Parts Tryz.call12 fun args o v h ho => by
  unfold S_ref08_Parts at h
  split at h
  · rename_i g t
    unfold r_ref08_Parts at h
    cases h
    rw [Ob.both_ok, Bool.and_eq_true] at ho
    obtain ⟨hn, ho2⟩ := ho
    have n0 := hn
    simp only [Ob.ok] at n0
    replace n0 := nrm_fun n0
    have this := show outB (evFnM Tryz.prog false menv128 [] [] 96 (Ann.two Ann.no (Ann.two Ann.no (Ann.two Ann.no (Ann.two (Ann.two Ann.no (Ann.one (Ann.loop F_ref08_Parts_L0))) Ann.no)))) Tryz.f12 [AV.view g 9 (fun i => mkN [Ck.i .u8, Ck.f, Ck.v [Ck.f, Ck.f], Ck.f, Ck.f, Ck.f, Ck.b, Ck.i .u16, Ck.i .u16] (t i) 0)] []) = _ from e_ref08_Parts g (iL t 0) (fL t 1) (fun i0 => (lnO (atL (t i0) 2))) (fun i0 => (fun i1 => (flO (atL (vwO (atL (t i0) 2) i1) 0)))) (fun i0 => (fun i1 => (flO (atL (vwO (atL (t i0) 2) i1) 1)))) (fL t 3) (fL t 4) (fL t 5) (fun i0 => (blO (atL (t i0) 6))) (iL t 7) (iL t 8)
    rw [(ob_ref08_Parts g (iL t 0) (fL t 1) (fun i0 => (lnO (atL (t i0) 2))) (fun i0 => (fun i1 => (flO (atL (vwO (atL (t i0) 2) i1) 0)))) (fun i0 => (fun i1 => (flO (atL (vwO (atL (t i0) 2) i1) 1)))) (fL t 3) (fL t 4) (fL t 5) (fun i0 => (blO (atL (t i0) 6))) (iL t 7) (iL t 8) ho2)] at this
    rw [n0] at this
    exact ⟨this, rfl⟩
  · cases h
def c_ref08_Parts : SFM := fun args => match S_ref08_Parts args with | some (o, v) => some (o, v, []) | none => none
theorem c_ref08_Parts_ok : SOkM Tryz.prog false (12, c_ref08_Parts) := t_ref08_Parts
def mss125 : List (FuncId × SFM) := (12, c_ref08_Parts) :: mss124
def menv129 : EnvM := mkEnvM mxs mss125 mws5
theorem mss125_ok : All (SOkM Tryz.prog false) mss125 := All.cons c_ref08_Parts_ok mss124_ok
theorem menv129_ok : menv129.Ok Tryz.prog false := mkEnvM_ok mxs_ok mss125_ok mws5_ok
-- tumble/tumbleref02.Bits
theorem ann_ref02_Bits : FnOk Tryz.prog false 0 Tryz.f67 Ann.no := (fnNo _)
def s_ref02_Bits_0 (d : Nat) : Int := (bif (!(feq d d)) then (9221120237041090561 : Int) else (Int.ofNat d))
theorem e_ref02_Bits (d : Nat) : outB (evFnM Tryz.prog false menv129 [] [] 96 Ann.no Tryz.f67 [AV.float d] []) = some ((mrgB (!(feq d d)) true (!(nanb d))), AV.int .u64 (s_ref02_Bits_0 d)) := by kernel_rfl
def S_ref02_Bits : List AV → Option (Ob × AV)
  | [AV.float d] => some (Ob.tt, AV.int .u64 (s_ref02_Bits_0 d))
  | _ => none
theorem ob_ref02_Bits (d : Nat) : (mrgB (!(feq d d)) true (!(nanb d))) = true := by show ((mrgB (!(feq d d)) true (!(nanb d)))) = true; (try simp only [feq_self]) <;> (generalize (nanb d) = q0; cases q0 <;> rfl)
theorem t_ref02_Bits : SOkM Tryz.prog false (67, fun args => match S_ref02_Bits args with | some (o, v) => some (o, v, []) | none => none) := SOkM.flat (N := 96) menv129_ok Tryz.func67 ann_ref02_Bits Tryz.call67 fun args o v h ho => by
  unfold S_ref02_Bits at h
  split at h
  · rename_i d
    cases h
    have ho2 := ho
    have this := show outB (evFnM Tryz.prog false menv129 [] [] 96 Ann.no Tryz.f67 [AV.float d] []) = _ from e_ref02_Bits d
    rw [(ob_ref02_Bits d)] at this
    exact ⟨this, rfl⟩
  · cases h
def c_ref02_Bits : SFM := fun args => match S_ref02_Bits args with | some (o, v) => some (o, v, []) | none => none
theorem c_ref02_Bits_ok : SOkM Tryz.prog false (67, c_ref02_Bits) := t_ref02_Bits
def mss126 : List (FuncId × SFM) := (67, c_ref02_Bits) :: mss125
def menv130 : EnvM := mkEnvM mxs mss126 mws5
theorem mss126_ok : All (SOkM Tryz.prog false) mss126 := All.cons c_ref02_Bits_ok mss125_ok
theorem menv130_ok : menv130.Ok Tryz.prog false := mkEnvM_ok mxs_ok mss126_ok mws5_ok
-- tumble/tumbleref02.Is
theorem ann_ref02_Is : FnOk Tryz.prog false 0 Tryz.f31 Ann.no := (fnNo _)
def s_ref02_Is_0 (d e : Nat) : Bool := (ieq (s_ref02_Bits_0 d) (s_ref02_Bits_0 e))
theorem e_ref02_Is (d e : Nat) : outB (evFnM Tryz.prog false menv130 [] [] 96 Ann.no Tryz.f31 [AV.float d, AV.float e] []) = some (true, AV.bool (s_ref02_Is_0 d e)) := by kernel_rfl
def S_ref02_Is : List AV → Option (Ob × AV)
  | [AV.float d, AV.float e] => some (Ob.tt, AV.bool (s_ref02_Is_0 d e))
  | _ => none
theorem t_ref02_Is : SOkM Tryz.prog false (31, fun args => match S_ref02_Is args with | some (o, v) => some (o, v, []) | none => none) := SOkM.flat (N := 96) menv130_ok Tryz.func31 ann_ref02_Is Tryz.call31 fun args o v h ho => by
  unfold S_ref02_Is at h
  split at h
  · rename_i d e
    cases h
    have ho2 := ho
    have this := show outB (evFnM Tryz.prog false menv130 [] [] 96 Ann.no Tryz.f31 [AV.float d, AV.float e] []) = _ from e_ref02_Is d e
    exact ⟨this, rfl⟩
  · cases h
def c_ref02_Is : SFM := fun args => match S_ref02_Is args with | some (o, v) => some (o, v, []) | none => none
theorem c_ref02_Is_ok : SOkM Tryz.prog false (31, c_ref02_Is) := t_ref02_Is
def mss127 : List (FuncId × SFM) := (31, c_ref02_Is) :: mss126
def menv131 : EnvM := mkEnvM mxs mss127 mws5
theorem mss127_ok : All (SOkM Tryz.prog false) mss127 := All.cons c_ref02_Is_ok mss126_ok
theorem menv131_ok : menv131.Ok Tryz.prog false := mkEnvM_ok mxs_ok mss127_ok mws5_ok
-- tumble/tumbleref02.Same
theorem ann_ref02_Same : FnOk Tryz.prog false 0 Tryz.f32 Ann.no := (fnNo _)
def s_ref02_Same_0 (d e u k : Nat) : Bool := ((s_ref02_Is_0 d u) && (s_ref02_Is_0 e k))
theorem e_ref02_Same (d e u k : Nat) : outB (evFnM Tryz.prog false menv131 [] [] 96 Ann.no Tryz.f32 [AV.agg [AV.float d, AV.float e], AV.agg [AV.float u, AV.float k]] []) = some (true, AV.bool (s_ref02_Same_0 d e u k)) := by kernel_rfl
def S_ref02_Same : List AV → Option (Ob × AV)
  | [AV.agg [AV.float d, AV.float e], AV.agg [AV.float u, AV.float k]] => some (Ob.tt, AV.bool (s_ref02_Same_0 d e u k))
  | _ => none
theorem t_ref02_Same : SOkM Tryz.prog false (32, fun args => match S_ref02_Same args with | some (o, v) => some (o, v, []) | none => none) := SOkM.flat (N := 96) menv131_ok Tryz.func32 ann_ref02_Same Tryz.call32 fun args o v h ho => by
  unfold S_ref02_Same at h
  split at h
  · rename_i d e u k
    cases h
    have ho2 := ho
    have this := show outB (evFnM Tryz.prog false menv131 [] [] 96 Ann.no Tryz.f32 [AV.agg [AV.float d, AV.float e], AV.agg [AV.float u, AV.float k]] []) = _ from e_ref02_Same d e u k
    exact ⟨this, rfl⟩
  · cases h
def c_ref02_Same : SFM := fun args => match S_ref02_Same args with | some (o, v) => some (o, v, []) | none => none
theorem c_ref02_Same_ok : SOkM Tryz.prog false (32, c_ref02_Same) := t_ref02_Same
def mss128 : List (FuncId × SFM) := (32, c_ref02_Same) :: mss127
def menv132 : EnvM := mkEnvM mxs mss128 mws5
theorem mss128_ok : All (SOkM Tryz.prog false) mss128 := All.cons c_ref02_Same_ok mss127_ok
theorem menv132_ok : menv132.Ok Tryz.prog false := mkEnvM_ok mxs_ok mss128_ok mws5_ok
-- tumble/tumbleref08.Same
theorem ann_ref08_Same : FnOk Tryz.prog false 0 Tryz.f9 Ann.no := (fnNo _)
def s_ref08_Same_0 (d e u k M P Y R : Nat) : Bool := (((s_ref02_Is_0 d M) && (s_ref02_Is_0 e P)) && (s_ref02_Same_0 u k Y R))
theorem e_ref08_Same (d e u k M P Y R : Nat) : outB (evFnM Tryz.prog false menv132 [] [] 96 Ann.no Tryz.f9 [AV.agg [AV.float d, AV.float e, AV.float u, AV.float k], AV.agg [AV.float M, AV.float P, AV.float Y, AV.float R]] []) = some (true, AV.bool (s_ref08_Same_0 d e u k M P Y R)) := by kernel_rfl
def S_ref08_Same : List AV → Option (Ob × AV)
  | [AV.agg [AV.float d, AV.float e, AV.float u, AV.float k], AV.agg [AV.float M, AV.float P, AV.float Y, AV.float R]] => some (Ob.tt, AV.bool (s_ref08_Same_0 d e u k M P Y R))
  | _ => none
theorem t_ref08_Same : SOkM Tryz.prog false (9, fun args => match S_ref08_Same args with | some (o, v) => some (o, v, []) | none => none) := SOkM.flat (N := 96) menv132_ok Tryz.func9 ann_ref08_Same Tryz.call9 fun args o v h ho => by
  unfold S_ref08_Same at h
  split at h
  · rename_i d e u k M P Y R
    cases h
    have ho2 := ho
    have this := show outB (evFnM Tryz.prog false menv132 [] [] 96 Ann.no Tryz.f9 [AV.agg [AV.float d, AV.float e, AV.float u, AV.float k], AV.agg [AV.float M, AV.float P, AV.float Y, AV.float R]] []) = _ from e_ref08_Same d e u k M P Y R
    exact ⟨this, rfl⟩
  · cases h
def c_ref08_Same : SFM := fun args => match S_ref08_Same args with | some (o, v) => some (o, v, []) | none => none
theorem c_ref08_Same_ok : SOkM Tryz.prog false (9, c_ref08_Same) := t_ref08_Same
def mss129 : List (FuncId × SFM) := (9, c_ref08_Same) :: mss128
def menv133 : EnvM := mkEnvM mxs mss129 mws5
theorem mss129_ok : All (SOkM Tryz.prog false) mss129 := All.cons c_ref08_Same_ok mss128_ok
theorem menv133_ok : menv133.Ok Tryz.prog false := mkEnvM_ok mxs_ok mss129_ok mws5_ok
-- tumble/tumblelaw08.MassParts
-- a loop of tumble/tumblelaw08.MassParts
structure V_law08_MassParts_L0 where
  v0 : Int
def tpl_law08_MassParts_L0 : List AV := (AV.nul :: AV.top :: AV.top :: AV.nul :: AV.nul :: tpA 49 ([]))
def cts_law08_MassParts_L0 : List CT := []
def phs_law08_MassParts_L0 : List Src := []
def T_law08_MassParts_L0 (j : Nat) (m : Nat → Int) (l r : Nat → Nat) (C : (Nat → (Nat → Nat))) (D : (Nat → (Nat → Nat))) (F I L : Nat → Nat) (K : Nat → Bool) (ab ac : Nat → Int) (S : Bool) (x : V_law08_MassParts_L0) (F0 : Nat → List AV) : List AV × Heap := ((AV.view j 9 F0 :: AV.top :: AV.top :: AV.bool S :: AV.int .i64 x.v0 :: tpA 49 ([])), [])
def sh_law08_MassParts_L0 (j : Nat) (m : Nat → Int) (l r : Nat → Nat) (C : (Nat → (Nat → Nat))) (D : (Nat → (Nat → Nat))) (F I L : Nat → Nat) (K : Nat → Bool) (ab ac : Nat → Int) (S : Bool) (x : V_law08_MassParts_L0) : List AV × Heap := T_law08_MassParts_L0 j m l r C D F I L K ab ac S x (fun j1 => [AV.int .u8 (m j1), AV.float (l j1), AV.view (r j1) 2 (fun j0 => [AV.float ((C j1) j0), AV.float ((D j1) j0)]), AV.float (F j1), AV.float (I j1), AV.float (L j1), AV.bool (K j1), AV.int .u16 (ab j1), AV.int .u16 (ac j1)])
def step_law08_MassParts_L0 (j : Nat) (r : Nat → Nat) (x : V_law08_MassParts_L0) : V_law08_MassParts_L0 := V_law08_MassParts_L0.mk (IntKind.wrap .i64 (x.v0 + (1 : Int)))
def go_law08_MassParts_L0 (j : Nat) (r : Nat → Nat) (x : V_law08_MassParts_L0) : Bool := (bif (bif (!(ilt x.v0 (Int.ofNat j))) then false else (ilt (100 : Int) (Int.ofNat (r (Int.toNat x.v0))))) then false else (bif (!(ilt x.v0 (Int.ofNat j))) then false else true))
def ok_law08_MassParts_L0 (j : Nat) (r : Nat → Nat) (x : V_law08_MassParts_L0) : Bool := (mrgB (bif (!(ilt x.v0 (Int.ofNat j))) then false else (ilt (100 : Int) (Int.ofNat (r (Int.toNat x.v0))))) ((ile (0 : Int) x.v0) && (Nat.blt (Int.toNat x.v0) j)) (mrgB (!(ilt x.v0 (Int.ofNat j))) true ((ile (0 : Int) x.v0) && (Nat.blt (Int.toNat x.v0) j))))
def L_law08_MassParts_L0 (j : Nat) (r : Nat → Nat) (x : V_law08_MassParts_L0) : V_law08_MassParts_L0 := lastL (ok_law08_MassParts_L0 j r) (go_law08_MassParts_L0 j r) (step_law08_MassParts_L0 j r) x
def E_law08_MassParts_L0 (j : Nat) (r : Nat → Nat) (x : V_law08_MassParts_L0) : Bool := endsL (ok_law08_MassParts_L0 j r) (go_law08_MassParts_L0 j r) (step_law08_MassParts_L0 j r) x
theorem all_law08_MassParts_L0 (j : Nat) (m : Nat → Int) (l r : Nat → Nat) (C : (Nat → (Nat → Nat))) (D : (Nat → (Nat → Nat))) (F I L : Nat → Nat) (K : Nat → Bool) (ab ac : Nat → Int) (S : Bool) (x : V_law08_MassParts_L0) : rnd Tryz.prog false menv133 [] [] 96 Ann.no (subC [1, 1, 1, 1, 0, 1, 0, 0] (codeOf Tryz.f4)) 0 [] tpl_law08_MassParts_L0 cts_law08_MassParts_L0 (false :: true :: true :: false :: tpB 50 ([])) [] (sh_law08_MassParts_L0 j m l r C D F I L K ab ac S x) = (true, true, go_law08_MassParts_L0 j r x, ok_law08_MassParts_L0 j r x, true, sh_law08_MassParts_L0 j m l r C D F I L K ab ac S (step_law08_MassParts_L0 j r x), true) := by kernel_rfl
def fam_law08_MassParts_L0 (j : Nat) (m : Nat → Int) (l r : Nat → Nat) (C : (Nat → (Nat → Nat))) (D : (Nat → (Nat → Nat))) (F I L : Nat → Nat) (K : Nat → Bool) (ab ac : Nat → Int) (S : Bool) : Fam Tryz.prog false menv133 [] [] 96 0 Ann.no (subC [1, 1, 1, 1, 0, 1, 0, 0] (codeOf Tryz.f4)) V_law08_MassParts_L0 where
  sh := sh_law08_MassParts_L0 j m l r C D F I L K ab ac S
  ok := ok_law08_MassParts_L0 j r
  go := go_law08_MassParts_L0 j r
  step := step_law08_MassParts_L0 j r
  chg := (false :: true :: true :: false :: tpB 50 ([]))
  chgH := []
  tpl := tpl_law08_MassParts_L0
  cts := cts_law08_MassParts_L0
  keep := 0
  srcs := []
  ann := (annNo (subC [1, 1, 1, 1, 0, 1, 0, 0] (codeOf Tryz.f4)))
  le := by kernel_rfl
  kept := by kernel_rfl
  keptB := by kernel_rfl
  all := all_law08_MassParts_L0 j m l r C D F I L K ab ac S
  len := fun x => by kernel_rfl
  head := fun x y => by kernel_rfl
  con := fun x y => by kernel_rfl
  conH := fun x y => by kernel_rfl
def F_law08_MassParts_L0 : St → Option Ch := fun s => cond (Nat.beq s.tm.length 54 && Nat.beq s.H.length 0) (tkCons (alL tpl_law08_MassParts_L0 s.tm) fun d t0 => tkView 9 d fun s0 f0 => tkTops 2 t0 fun t1 => tkCons t1 fun u t2 => tkB u fun s12 => tkCons t2 fun k t3 => tkI .i64 k fun s13 => tkTops 49 t3 fun t4 => tkNil t4 <| tkNil (alH cts_law08_MassParts_L0 (s.H ++ List.map phan phs_law08_MassParts_L0)) <| Fam.out (fam_law08_MassParts_L0 s0 (iL f0 0) (fL f0 1) (fun i => lnO (atL (f0 i) 2)) (fun i => fun k6 => flO (atL (vwO (atL (f0 i) 2) k6) 0)) (fun i => fun k6 => flO (atL (vwO (atL (f0 i) 2) k6) 1)) (fL f0 3) (fL f0 4) (fL f0 5) (fun i => blO (atL (f0 i) 6)) (iL f0 7) (iL f0 8) s12) s (allB fun i => isNrm [Ck.i .u8, Ck.f, Ck.v [Ck.f, Ck.f], Ck.f, Ck.f, Ck.f, Ck.b, Ck.i .u16, Ck.i .u16] (f0 i)) (V_law08_MassParts_L0.mk s13)) none
theorem F_law08_MassParts_L0_ok : ∀ s ch, F_law08_MassParts_L0 s = some ch → AllI s ch ∧ LoopSpec Tryz.prog false 0 (subC [1, 1, 1, 1, 0, 1, 0, 0] (codeOf Tryz.f4)) s (sel ch) := by
  intro s ch h
  unfold F_law08_MassParts_L0 at h
  obtain ⟨hl, h0⟩ := cond_some h rfl
  clear h
  obtain ⟨hl, hb⟩ := and_beq2 hl
  obtain ⟨d, t0, e0, h1⟩ := tkCons_some h0
  obtain ⟨s0, f0, rfl, h2⟩ := tkView_some h1
  obtain ⟨t1, rfl, h3⟩ := tkTops_some h2
  obtain ⟨u, t2, rfl, h4⟩ := tkCons_some h3
  obtain ⟨s12, rfl, h5⟩ := tkB_some h4
  obtain ⟨k, t3, rfl, h6⟩ := tkCons_some h5
  obtain ⟨s13, rfl, h7⟩ := tkI_some h6
  obtain ⟨t4, rfl, h8⟩ := tkTops_some h7
  obtain ⟨rfl, h9⟩ := tkNil_some h8
  obtain ⟨eH, h10⟩ := tkNil_some h9
  refine Fam.spec menv133_ok (fam_law08_MassParts_L0 s0 (iL f0 0) (fL f0 1) (fun i => lnO (atL (f0 i) 2)) (fun i => fun k6 => flO (atL (vwO (atL (f0 i) 2) k6) 0)) (fun i => fun k6 => flO (atL (vwO (atL (f0 i) 2) k6) 1)) (fL f0 3) (fL f0 4) (fL f0 5) (fun i => blO (atL (f0 i) 6)) (iL f0 7) (iL f0 8) s12) (phs := phs_law08_MassParts_L0) (hl.trans (by kernel_rfl)) (hb.trans (by kernel_rfl)) ?_ ?_ h10
  · rw [← hdr_alH cts_law08_MassParts_L0 (s.H ++ List.map phan phs_law08_MassParts_L0), eH]; kernel_rfl
  · intro hq
    have hq0 := hq
    have n0 := nrm_fun hq0
    show sh_law08_MassParts_L0 s0 (iL f0 0) (fL f0 1) (fun i => lnO (atL (f0 i) 2)) (fun i => fun k6 => flO (atL (vwO (atL (f0 i) 2) k6) 0)) (fun i => fun k6 => flO (atL (vwO (atL (f0 i) 2) k6) 1)) (fL f0 3) (fL f0 4) (fL f0 5) (fun i => blO (atL (f0 i) 6)) (iL f0 7) (iL f0 8) s12 (V_law08_MassParts_L0.mk s13) = (alL tpl_law08_MassParts_L0 s.tm, alH cts_law08_MassParts_L0 (s.H ++ List.map phan phs_law08_MassParts_L0))
    rw [e0, eH]
    refine Eq.trans (show sh_law08_MassParts_L0 s0 (iL f0 0) (fL f0 1) (fun i => lnO (atL (f0 i) 2)) (fun i => fun k6 => flO (atL (vwO (atL (f0 i) 2) k6) 0)) (fun i => fun k6 => flO (atL (vwO (atL (f0 i) 2) k6) 1)) (fL f0 3) (fL f0 4) (fL f0 5) (fun i => blO (atL (f0 i) 6)) (iL f0 7) (iL f0 8) s12 (V_law08_MassParts_L0.mk s13) = T_law08_MassParts_L0 s0 (iL f0 0) (fL f0 1) (fun i => lnO (atL (f0 i) 2)) (fun i => fun k6 => flO (atL (vwO (atL (f0 i) 2) k6) 0)) (fun i => fun k6 => flO (atL (vwO (atL (f0 i) 2) k6) 1)) (fL f0 3) (fL f0 4) (fL f0 5) (fun i => blO (atL (f0 i) 6)) (iL f0 7) (iL f0 8) s12 (V_law08_MassParts_L0.mk s13) (fun i => mkN [Ck.i .u8, Ck.f, Ck.v [Ck.f, Ck.f], Ck.f, Ck.f, Ck.f, Ck.b, Ck.i .u16, Ck.i .u16] (f0 i) 0) by kernel_rfl) ?_
    rw [n0]
    kernel_rfl
theorem ann_law08_MassParts : FnOk Tryz.prog false 0 Tryz.f4 (Ann.two Ann.no (Ann.two Ann.no (Ann.two Ann.no (Ann.two Ann.no (Ann.two (Ann.two Ann.no (Ann.one (Ann.loop F_law08_MassParts_L0))) Ann.no))))) := (fnOk_of (c := codeOf Tryz.f4) (by kernel_rfl) (annSeq (a := (subC [0] (codeOf Tryz.f4))) (b := (subC [1] (codeOf Tryz.f4))) (by kernel_rfl) (annNo (subC [0] (codeOf Tryz.f4))) (annSeq (a := (subC [1, 0] (codeOf Tryz.f4))) (b := (subC [1, 1] (codeOf Tryz.f4))) (by kernel_rfl) (annNo (subC [1, 0] (codeOf Tryz.f4))) (annSeq (a := (subC [1, 1, 0] (codeOf Tryz.f4))) (b := (subC [1, 1, 1] (codeOf Tryz.f4))) (by kernel_rfl) (annNo (subC [1, 1, 0] (codeOf Tryz.f4))) (annSeq (a := (subC [1, 1, 1, 0] (codeOf Tryz.f4))) (b := (subC [1, 1, 1, 1] (codeOf Tryz.f4))) (by kernel_rfl) (annNo (subC [1, 1, 1, 0] (codeOf Tryz.f4))) (annSeq (a := (subC [1, 1, 1, 1, 0] (codeOf Tryz.f4))) (b := (subC [1, 1, 1, 1, 1] (codeOf Tryz.f4))) (by kernel_rfl) (annSeq (a := (subC [1, 1, 1, 1, 0, 0] (codeOf Tryz.f4))) (b := (subC [1, 1, 1, 1, 0, 1] (codeOf Tryz.f4))) (by kernel_rfl) (annNo (subC [1, 1, 1, 1, 0, 0] (codeOf Tryz.f4))) (annBlock (a := (subC [1, 1, 1, 1, 0, 1, 0] (codeOf Tryz.f4))) (i := 0) (by kernel_rfl) (annLoop (a := (subC [1, 1, 1, 1, 0, 1, 0, 0] (codeOf Tryz.f4))) (by kernel_rfl) F_law08_MassParts_L0_ok))) (annNo (subC [1, 1, 1, 1, 1] (codeOf Tryz.f4)))))))))
def T_law08_MassParts (Z : Nat) (a0_0_0 : Nat → Int) (a0_0_1 a0_0_2n : Nat → Nat) (a0_0_2_0 : Nat → Nat → Nat) (a0_0_2_1 : Nat → Nat → Nat) (a0_0_3 a0_0_4 a0_0_5 : Nat → Nat) (a0_0_6 : Nat → Bool) (a0_0_7 a0_0_8 : Nat → Int) : Bool := let x0 := (L_law08_MassParts_L0 Z a0_0_2n (V_law08_MassParts_L0.mk (0 : Int))).v0; (bif (!(s_law08_alive_0)) then false else (bif (ilt (20 : Int) (Int.ofNat Z)) then (s_law08_alive_0) else (bif (bif (!(ilt x0 (Int.ofNat Z))) then false else (ilt (100 : Int) (Int.ofNat (a0_0_2n (Int.toNat x0))))) then (s_law08_alive_0) else (((s_law08_alive_0) && (s_ref08_Same_0 (s_mass_Parts_0 Z a0_0_0 a0_0_1 a0_0_2n a0_0_2_0 a0_0_2_1 a0_0_3 a0_0_4 a0_0_5 a0_0_6 a0_0_7 a0_0_8) (s_mass_Parts_1 Z a0_0_0 a0_0_1 a0_0_2n a0_0_2_0 a0_0_2_1 a0_0_3 a0_0_4 a0_0_5 a0_0_6 a0_0_7 a0_0_8) (s_mass_Parts_2 Z a0_0_0 a0_0_1 a0_0_2n a0_0_2_0 a0_0_2_1 a0_0_3 a0_0_4 a0_0_5 a0_0_6 a0_0_7 a0_0_8) (s_mass_Parts_3 Z a0_0_0 a0_0_1 a0_0_2n a0_0_2_0 a0_0_2_1 a0_0_3 a0_0_4 a0_0_5 a0_0_6 a0_0_7 a0_0_8) (s_ref08_Parts_0 Z a0_0_0 a0_0_1 a0_0_2n a0_0_2_0 a0_0_2_1 a0_0_3 a0_0_4 a0_0_5 a0_0_6 a0_0_7 a0_0_8) (s_ref08_Parts_1 Z a0_0_0 a0_0_1 a0_0_2n a0_0_2_0 a0_0_2_1 a0_0_3 a0_0_4 a0_0_5 a0_0_6 a0_0_7 a0_0_8) (s_ref08_Parts_2 Z a0_0_0 a0_0_1 a0_0_2n a0_0_2_0 a0_0_2_1 a0_0_3 a0_0_4 a0_0_5 a0_0_6 a0_0_7 a0_0_8) (s_ref08_Parts_3 Z a0_0_0 a0_0_1 a0_0_2n a0_0_2_0 a0_0_2_1 a0_0_3 a0_0_4 a0_0_5 a0_0_6 a0_0_7 a0_0_8))) && (ieq (s_mass_Parts_4 Z a0_0_0 a0_0_1 a0_0_2n a0_0_2_0 a0_0_2_1 a0_0_3 a0_0_4 a0_0_5 a0_0_6 a0_0_7 a0_0_8) (s_ref08_Parts_4 Z a0_0_0 a0_0_1 a0_0_2n a0_0_2_0 a0_0_2_1 a0_0_3 a0_0_4 a0_0_5 a0_0_6 a0_0_7 a0_0_8))))))
def O_law08_MassParts (Z : Nat) (a0_0_0 : Nat → Int) (a0_0_1 a0_0_2n : Nat → Nat) (a0_0_2_0 : Nat → Nat → Nat) (a0_0_2_1 : Nat → Nat → Nat) (a0_0_3 a0_0_4 a0_0_5 : Nat → Nat) (a0_0_6 : Nat → Bool) (a0_0_7 a0_0_8 : Nat → Int) : Bool := let x0 := (allB fun _ => ((allB fun _ => true) && true)) && (E_law08_MassParts_L0 Z a0_0_2n (V_law08_MassParts_L0.mk (0 : Int))); let x1 := ((allB fun _ => ((allB fun _ => true) && true)) && (o_ref08_Parts Z a0_0_0 a0_0_1 a0_0_2n a0_0_2_0 a0_0_2_1 a0_0_3 a0_0_4 a0_0_5 a0_0_6 a0_0_7 a0_0_8)) && (((allB fun _ => ((allB fun _ => true) && true)) && (o_mass_Parts Z a0_0_0 a0_0_1 a0_0_2n a0_0_2_0 a0_0_2_1 a0_0_3 a0_0_4 a0_0_5 a0_0_6 a0_0_7 a0_0_8)) && x0); let x2 := mrgB (s_law08_alive_0) x1 x1; let x3 := (L_law08_MassParts_L0 Z a0_0_2n (V_law08_MassParts_L0.mk (0 : Int))).v0; (mrgB (!(s_law08_alive_0)) true (mrgB (ilt (20 : Int) (Int.ofNat Z)) true (mrgB (bif (!(ilt x3 (Int.ofNat Z))) then false else (ilt (100 : Int) (Int.ofNat (a0_0_2n (Int.toNat x3))))) x0 (mrgB ((s_law08_alive_0) && (s_ref08_Same_0 (s_mass_Parts_0 Z a0_0_0 a0_0_1 a0_0_2n a0_0_2_0 a0_0_2_1 a0_0_3 a0_0_4 a0_0_5 a0_0_6 a0_0_7 a0_0_8) (s_mass_Parts_1 Z a0_0_0 a0_0_1 a0_0_2n a0_0_2_0 a0_0_2_1 a0_0_3 a0_0_4 a0_0_5 a0_0_6 a0_0_7 a0_0_8) (s_mass_Parts_2 Z a0_0_0 a0_0_1 a0_0_2n a0_0_2_0 a0_0_2_1 a0_0_3 a0_0_4 a0_0_5 a0_0_6 a0_0_7 a0_0_8) (s_mass_Parts_3 Z a0_0_0 a0_0_1 a0_0_2n a0_0_2_0 a0_0_2_1 a0_0_3 a0_0_4 a0_0_5 a0_0_6 a0_0_7 a0_0_8) (s_ref08_Parts_0 Z a0_0_0 a0_0_1 a0_0_2n a0_0_2_0 a0_0_2_1 a0_0_3 a0_0_4 a0_0_5 a0_0_6 a0_0_7 a0_0_8) (s_ref08_Parts_1 Z a0_0_0 a0_0_1 a0_0_2n a0_0_2_0 a0_0_2_1 a0_0_3 a0_0_4 a0_0_5 a0_0_6 a0_0_7 a0_0_8) (s_ref08_Parts_2 Z a0_0_0 a0_0_1 a0_0_2n a0_0_2_0 a0_0_2_1 a0_0_3 a0_0_4 a0_0_5 a0_0_6 a0_0_7 a0_0_8) (s_ref08_Parts_3 Z a0_0_0 a0_0_1 a0_0_2n a0_0_2_0 a0_0_2_1 a0_0_3 a0_0_4 a0_0_5 a0_0_6 a0_0_7 a0_0_8))) x2 x2))))
theorem tree_law08_MassParts (Z : Nat) (a0_0_0 : Nat → Int) (a0_0_1 a0_0_2n : Nat → Nat) (a0_0_2_0 : Nat → Nat → Nat) (a0_0_2_1 : Nat → Nat → Nat) (a0_0_3 a0_0_4 a0_0_5 : Nat → Nat) (a0_0_6 : Nat → Bool) (a0_0_7 a0_0_8 : Nat → Int) : outB (evFnM Tryz.prog false menv133 [] [] 96 (Ann.two Ann.no (Ann.two Ann.no (Ann.two Ann.no (Ann.two Ann.no (Ann.two (Ann.two Ann.no (Ann.one (Ann.loop F_law08_MassParts_L0))) Ann.no))))) Tryz.f4 [AV.view Z 9 (fun i0 => [AV.int .u8 (a0_0_0 i0), AV.float (a0_0_1 i0), AV.view (a0_0_2n i0) 2 (fun i1 => [AV.float (a0_0_2_0 i0 i1), AV.float (a0_0_2_1 i0 i1)]), AV.float (a0_0_3 i0), AV.float (a0_0_4 i0), AV.float (a0_0_5 i0), AV.bool (a0_0_6 i0), AV.int .u16 (a0_0_7 i0), AV.int .u16 (a0_0_8 i0)])] []) = some (O_law08_MassParts Z a0_0_0 a0_0_1 a0_0_2n a0_0_2_0 a0_0_2_1 a0_0_3 a0_0_4 a0_0_5 a0_0_6 a0_0_7 a0_0_8, AV.bool (T_law08_MassParts Z a0_0_0 a0_0_1 a0_0_2n a0_0_2_0 a0_0_2_1 a0_0_3 a0_0_4 a0_0_5 a0_0_6 a0_0_7 a0_0_8)) := by kernel_rfl

end Go.Proofs.YtbkogihigehjlaaGreat
end
