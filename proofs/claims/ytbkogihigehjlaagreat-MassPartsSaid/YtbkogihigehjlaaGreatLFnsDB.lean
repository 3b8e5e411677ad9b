/- The contracts of the functions that these laws reach, loops too, printed by a program of this work: each says what the Go function gives, up to which NaN. -/
import Derived.Test.YtbkogihigehjlaaGreatLFnsDA
set_option linter.unusedVariables false
set_option linter.unusedSimpArgs false
set_option maxRecDepth 100000
set_option maxHeartbeats 4000000
noncomputable section
namespace Go.Proofs.YtbkogihigehjlaaGreat
open Go.Lst
open Go.Sim (fadd fsub fmul fdiv fneg feq flt fle fsqrt cn nanb fabs fcps fsame feq_self cps_cn fabs_cn)
-- tumble/mass.Join$1
theorem ann_mass_Join_1 : FnOk Tryz.prog false 0 Tryz.f35 Ann.no := (fnNo _)
def s_mass_Join_1_0 (d e u k : Nat) : Nat := d
theorem e_mass_Join_1 (d e u k : Nat) : outB (evFnM Tryz.prog false menv81 [] [] 96 Ann.no Tryz.f35 [AV.agg [AV.float d, AV.float e, AV.float u, AV.float k]] []) = some (true, AV.float (s_mass_Join_1_0 d e u k)) := by kernel_rfl
def S_mass_Join_1 : List AV → Option (Ob × AV)
  | [AV.agg [AV.float d, AV.float e, AV.float u, AV.float k]] => some (Ob.tt, AV.float (s_mass_Join_1_0 d e u k))
  | _ => none
theorem t_mass_Join_1 : SOkM Tryz.prog false (35, fun args => match S_mass_Join_1 args with | some (o, v) => some (o, v, []) | none => none) := SOkM.flat (N := 96) menv81_ok Tryz.func35 ann_mass_Join_1 Tryz.call35 fun args o v h ho => by
  unfold S_mass_Join_1 at h
  split at h
  · rename_i d e u k
    cases h
    have ho2 := ho
    have this := show outB (evFnM Tryz.prog false menv81 [] [] 96 Ann.no Tryz.f35 [AV.agg [AV.float d, AV.float e, AV.float u, AV.float k]] []) = _ from e_mass_Join_1 d e u k
    exact ⟨this, rfl⟩
  · cases h
def c_mass_Join_1 : SFM := fun args => match S_mass_Join_1 args with | some (o, v) => some (o, v, []) | none => none
theorem c_mass_Join_1_ok : SOkM Tryz.prog false (35, c_mass_Join_1) := t_mass_Join_1
def mss78 : List (FuncId × SFM) := (35, c_mass_Join_1) :: mss77
def menv82 : EnvM := mkEnvM mxs mss78 mws5
theorem mss78_ok : All (SOkM Tryz.prog false) mss78 := All.cons c_mass_Join_1_ok mss77_ok
theorem menv82_ok : menv82.Ok Tryz.prog false := mkEnvM_ok mxs_ok mss78_ok mws5_ok
-- tumble/mass.sum
-- a loop of tumble/mass.sum
structure V_mass_sum_L0 where
  v0 : Int
  v1 : (Nat → Nat)
def tpl_mass_sum_L0 : List AV := (AV.top :: AV.nul :: AV.top :: AV.top :: AV.top :: AV.nul :: AV.top :: AV.top :: AV.top :: AV.top :: AV.top :: AV.nul :: AV.nul :: AV.nul :: tpA 13 ([]))
def cts_mass_sum_L0 : List CT := [CT.keep]
def phs_mass_sum_L0 : List Src := []
def T_mass_sum_L0 (j : Nat) (m l r C : Nat → Nat) (D : Int) (x : V_mass_sum_L0) (F0 F1 : Nat → List AV) : List AV × Heap := ((AV.top :: AV.func 35 [] [] :: AV.top :: AV.top :: AV.top :: AV.lst 0 0 1 j j :: AV.top :: AV.top :: AV.top :: AV.top :: AV.top :: AV.view j 4 F0 :: AV.int .i64 D :: AV.int .i64 x.v0 :: tpA 13 ([])), [⟨.sym j 1 F1, 22, 0⟩])
def sh_mass_sum_L0 (j : Nat) (m l r C : Nat → Nat) (D : Int) (x : V_mass_sum_L0) : List AV × Heap := T_mass_sum_L0 j m l r C D x (fun j0 => [AV.float (m j0), AV.float (l j0), AV.float (r j0), AV.float (C j0)]) (fun j0 => [AV.float (x.v1 j0)])
def step_mass_sum_L0 (j : Nat) (m l r C : Nat → Nat) (D : Int) (x : V_mass_sum_L0) : V_mass_sum_L0 := V_mass_sum_L0.mk (IntKind.wrap .i64 (x.v0 + (1 : Int))) (fun j0 => (bif (Nat.beq j0 (Int.toNat x.v0)) then (s_mass_Join_1_0 (m (Int.toNat x.v0)) (l (Int.toNat x.v0)) (r (Int.toNat x.v0)) (C (Int.toNat x.v0))) else (x.v1 j0)))
def go_mass_sum_L0 (j : Nat) (m l r C : Nat → Nat) (D : Int) (x : V_mass_sum_L0) : Bool := (bif (!(ilt x.v0 D)) then false else true)
def ok_mass_sum_L0 (j : Nat) (m l r C : Nat → Nat) (D : Int) (x : V_mass_sum_L0) : Bool := (mrgB (!(ilt x.v0 D)) true ((Nat.blt (Int.toNat x.v0) j) && (((ile (0 : Int) x.v0) && (Nat.blt (Int.toNat x.v0) j)) && ((ile (0 : Int) x.v0) && (Nat.blt (Int.toNat x.v0) j)))))
def L_mass_sum_L0 (j : Nat) (m l r C : Nat → Nat) (D : Int) (x : V_mass_sum_L0) : V_mass_sum_L0 := lastL (ok_mass_sum_L0 j m l r C D) (go_mass_sum_L0 j m l r C D) (step_mass_sum_L0 j m l r C D) x
def E_mass_sum_L0 (j : Nat) (m l r C : Nat → Nat) (D : Int) (x : V_mass_sum_L0) : Bool := endsL (ok_mass_sum_L0 j m l r C D) (go_mass_sum_L0 j m l r C D) (step_mass_sum_L0 j m l r C D) x
theorem all_mass_sum_L0 (j : Nat) (m l r C : Nat → Nat) (D : Int) (x : V_mass_sum_L0) : rnd Tryz.prog false menv82 [] [] 96 Ann.no (subC [1, 1, 0, 1, 0, 0] (codeOf Tryz.f34)) 0 [⟨some 0, 0, 0, []⟩] tpl_mass_sum_L0 cts_mass_sum_L0 (true :: false :: true :: true :: true :: false :: true :: true :: true :: true :: true :: false :: false :: tpB 14 ([])) [true] (sh_mass_sum_L0 j m l r C D x) = (true, true, go_mass_sum_L0 j m l r C D x, ok_mass_sum_L0 j m l r C D x, true, sh_mass_sum_L0 j m l r C D (step_mass_sum_L0 j m l r C D x), true) := by kernel_rfl
def fam_mass_sum_L0 (j : Nat) (m l r C : Nat → Nat) (D : Int) : Fam Tryz.prog false menv82 [] [] 96 0 Ann.no (subC [1, 1, 0, 1, 0, 0] (codeOf Tryz.f34)) V_mass_sum_L0 where
  sh := sh_mass_sum_L0 j m l r C D
  ok := ok_mass_sum_L0 j m l r C D
  go := go_mass_sum_L0 j m l r C D
  step := step_mass_sum_L0 j m l r C D
  chg := (true :: false :: true :: true :: true :: false :: true :: true :: true :: true :: true :: false :: false :: tpB 14 ([]))
  chgH := [true]
  tpl := tpl_mass_sum_L0
  cts := cts_mass_sum_L0
  keep := 0
  srcs := [⟨some 0, 0, 0, []⟩]
  ann := (annNo (subC [1, 1, 0, 1, 0, 0] (codeOf Tryz.f34)))
  le := by kernel_rfl
  kept := by kernel_rfl
  keptB := by kernel_rfl
  all := all_mass_sum_L0 j m l r C D
  len := fun x => by kernel_rfl
  head := fun x y => by kernel_rfl
  con := fun x y => by kernel_rfl
  conH := fun x y => by kernel_rfl
def F_mass_sum_L0 : St → Option Ch := fun s => cond (Nat.beq s.tm.length 27 && Nat.beq s.H.length 1) (tkTops 1 (alL tpl_mass_sum_L0 s.tm) fun t0 => tkCons t0 fun e t1 => tkFunc 35 e fun l2 l3 => tkNil l2 <| tkNil l3 <| tkTops 3 t1 fun t4 => tkCons t4 fun P t5 => tkLst 0 0 1 P fun s0 s1 => tkTops 5 t5 fun t6 => tkCons t6 fun R t7 => tkView 4 R fun s2 f0 => tkCons t7 fun aa t8 => tkI .i64 aa fun s7 => tkCons t8 fun X t9 => tkI .i64 X fun s8 => tkTops 13 t9 fun t10 => tkNil t10 <| tkCons (alH cts_mass_sum_L0 (s.H ++ List.map phan phs_mass_sum_L0)) fun b11 t11 => tkSym 22 0 1 b11 fun s9 f1 => tkNil t11 <| Fam.out (fam_mass_sum_L0 s0 (fL f0 0) (fL f0 1) (fL f0 2) (fL f0 3) s7) s (((((allB fun i => isNrm [Ck.f, Ck.f, Ck.f, Ck.f] (f0 i)) && (allB fun i => isNrm [Ck.f] (f1 i))) && (eqT s1 s0)) && (eqT s2 s0)) && (eqT s9 s0)) (V_mass_sum_L0.mk s8 (fL f1 0))) none
theorem F_mass_sum_L0_ok : ∀ s ch, F_mass_sum_L0 s = some ch → AllI s ch ∧ LoopSpec Tryz.prog false 0 (subC [1, 1, 0, 1, 0, 0] (codeOf Tryz.f34)) s (sel ch) := by
  intro s ch h
  unfold F_mass_sum_L0 at h
  obtain ⟨hl, h0⟩ := cond_some h rfl
  clear h
  obtain ⟨hl, hb⟩ := and_beq2 hl
  obtain ⟨t0, e0, h1⟩ := tkTops_some h0
  obtain ⟨e, t1, rfl, h2⟩ := tkCons_some h1
  obtain ⟨l2, l3, rfl, h3⟩ := tkFunc_some h2
  obtain ⟨rfl, h4⟩ := tkNil_some h3
  obtain ⟨rfl, h5⟩ := tkNil_some h4
  obtain ⟨t4, rfl, h6⟩ := tkTops_some h5
  obtain ⟨P, t5, rfl, h7⟩ := tkCons_some h6
  obtain ⟨s0, s1, rfl, h8⟩ := tkLst_some h7
  obtain ⟨t6, rfl, h9⟩ := tkTops_some h8
  obtain ⟨R, t7, rfl, h10⟩ := tkCons_some h9
  obtain ⟨s2, f0, rfl, h11⟩ := tkView_some h10
  obtain ⟨aa, t8, rfl, h12⟩ := tkCons_some h11
  obtain ⟨s7, rfl, h13⟩ := tkI_some h12
  obtain ⟨X, t9, rfl, h14⟩ := tkCons_some h13
  obtain ⟨s8, rfl, h15⟩ := tkI_some h14
  obtain ⟨t10, rfl, h16⟩ := tkTops_some h15
  obtain ⟨rfl, h17⟩ := tkNil_some h16
  obtain ⟨b11, t11, eH, h18⟩ := tkCons_some h17
  obtain ⟨s9, f1, rfl, h19⟩ := tkSym_some h18
  obtain ⟨rfl, h20⟩ := tkNil_some h19
  refine Fam.spec menv82_ok (fam_mass_sum_L0 s0 (fL f0 0) (fL f0 1) (fL f0 2) (fL f0 3) s7) (phs := phs_mass_sum_L0) (hl.trans (by kernel_rfl)) (hb.trans (by kernel_rfl)) ?_ ?_ h20
  · rw [← hdr_alH cts_mass_sum_L0 (s.H ++ List.map phan phs_mass_sum_L0), eH]; kernel_rfl
  · intro hq
    simp only [Bool.and_eq_true] at hq
    obtain ⟨⟨⟨⟨hq0, hq1⟩, hq2⟩, hq3⟩, hq4⟩ := hq
    have n0 := nrm_fun hq0
    have n1 := nrm_fun hq1
    have hx := eqT_eq hq2; subst s1
    have hx := eqT_eq hq3; subst s2
    have hx := eqT_eq hq4; subst s9
    show sh_mass_sum_L0 s0 (fL f0 0) (fL f0 1) (fL f0 2) (fL f0 3) s7 (V_mass_sum_L0.mk s8 (fL f1 0)) = (alL tpl_mass_sum_L0 s.tm, alH cts_mass_sum_L0 (s.H ++ List.map phan phs_mass_sum_L0))
    rw [e0, eH]
    refine Eq.trans (show sh_mass_sum_L0 s0 (fL f0 0) (fL f0 1) (fL f0 2) (fL f0 3) s7 (V_mass_sum_L0.mk s8 (fL f1 0)) = T_mass_sum_L0 s0 (fL f0 0) (fL f0 1) (fL f0 2) (fL f0 3) s7 (V_mass_sum_L0.mk s8 (fL f1 0)) (fun i => mkN [Ck.f, Ck.f, Ck.f, Ck.f] (f0 i) 0) (fun i => mkN [Ck.f] (f1 i) 0) by kernel_rfl) ?_
    rw [n0, n1]
    kernel_rfl
theorem ann_mass_sum : FnOk Tryz.prog false 0 Tryz.f34 (Ann.two Ann.no (Ann.two Ann.no (Ann.two (Ann.two Ann.no (Ann.one (Ann.loop F_mass_sum_L0))) Ann.no))) := (fnOk_of (c := codeOf Tryz.f34) (by kernel_rfl) (annSeq (a := (subC [0] (codeOf Tryz.f34))) (b := (subC [1] (codeOf Tryz.f34))) (by kernel_rfl) (annNo (subC [0] (codeOf Tryz.f34))) (annSeq (a := (subC [1, 0] (codeOf Tryz.f34))) (b := (subC [1, 1] (codeOf Tryz.f34))) (by kernel_rfl) (annNo (subC [1, 0] (codeOf Tryz.f34))) (annSeq (a := (subC [1, 1, 0] (codeOf Tryz.f34))) (b := (subC [1, 1, 1] (codeOf Tryz.f34))) (by kernel_rfl) (annSeq (a := (subC [1, 1, 0, 0] (codeOf Tryz.f34))) (b := (subC [1, 1, 0, 1] (codeOf Tryz.f34))) (by kernel_rfl) (annNo (subC [1, 1, 0, 0] (codeOf Tryz.f34))) (annBlock (a := (subC [1, 1, 0, 1, 0] (codeOf Tryz.f34))) (i := 0) (by kernel_rfl) (annLoop (a := (subC [1, 1, 0, 1, 0, 0] (codeOf Tryz.f34))) (by kernel_rfl) F_mass_sum_L0_ok))) (annNo (subC [1, 1, 1] (codeOf Tryz.f34)))))))
def s_mass_sum_0 (g : Nat) (n p G E : Nat → Nat) : Nat := (s_num_Sum_0 g ((L_mass_sum_L0 g n p G E (Int.ofNat g) (V_mass_sum_L0.mk (0 : Int) (fun j0 => 0))).v1))
def q_mass_sum (g : Nat) (n p G E : Nat → Nat) : Bool := (((Nat.ble g g) && ((allB fun _ => true) && (o_num_Sum g ((L_mass_sum_L0 g n p G E (Int.ofNat g) (V_mass_sum_L0.mk (0 : Int) (fun j0 => 0))).v1)))) && (((ile (Int.ofNat g) (Int.ofNat g)) && ((ile ((8 : Int) * (Int.ofNat g)) (281474976710656 : Int)) && (ile (Int.ofNat g) (9223372036854775807 : Int)))) && ((((((allB fun _ => true) && (allB fun _ => true)) && (eqT g g)) && (eqT g g)) && (eqT g g)) && (E_mass_sum_L0 g n p G E (Int.ofNat g) (V_mass_sum_L0.mk (0 : Int) (fun j0 => 0))))))
theorem e_mass_sum (g : Nat) (n p G E : Nat → Nat) : outB (evFnM Tryz.prog false menv82 [] [] 96 (Ann.two Ann.no (Ann.two Ann.no (Ann.two (Ann.two Ann.no (Ann.one (Ann.loop F_mass_sum_L0))) Ann.no))) Tryz.f34 [AV.view g 4 (fun i0 => [AV.float (n i0), AV.float (p i0), AV.float (G i0), AV.float (E i0)]), AV.func 35 [] []] []) = some (q_mass_sum g n p G E, AV.float (s_mass_sum_0 g n p G E)) := by kernel_rfl
def o_mass_sum (g : Nat) (n p G E : Nat → Nat) : Bool := (((Nat.ble g g) && (o_num_Sum g ((L_mass_sum_L0 g n p G E (Int.ofNat g) (V_mass_sum_L0.mk (0 : Int) (fun j0 => 0))).v1))) && (((ile (Int.ofNat g) (Int.ofNat g)) && ((ile ((8 : Int) * (Int.ofNat g)) (281474976710656 : Int)) && (ile (Int.ofNat g) (9223372036854775807 : Int)))) && (E_mass_sum_L0 g n p G E (Int.ofNat g) (V_mass_sum_L0.mk (0 : Int) (fun j0 => 0)))))
def S_mass_sum : List AV → Option (Ob × AV)
  | [AV.view g 4 t, AV.func 35 [] []] => some (Ob.both (Ob.bit (allB fun i => isNrm [Ck.f, Ck.f, Ck.f, Ck.f] (t i))) (Ob.bit (o_mass_sum g (fL t 0) (fL t 1) (fL t 2) (fL t 3))), AV.float (s_mass_sum_0 g (fL t 0) (fL t 1) (fL t 2) (fL t 3)))
  | _ => none
theorem ob_mass_sum (g : Nat) (n p G E : Nat → Nat) (ho : o_mass_sum g n p G E = true) : q_mass_sum g n p G E = true := by
  unfold q_mass_sum
  unfold o_mass_sum at ho
  simp only [allB_true, eqT_self, mrgB_self, Bool.true_and, Bool.and_true] at ho ⊢
  exact ho
theorem t_mass_sum : SOkM Tryz.prog false (34, fun args => match S_mass_sum args with | some (o, v) => some (o, v, []) | none => none) := SOkM.flat (N := 96) menv82_ok Tryz.func34 ann_mass_sum Tryz.call34 fun args o v h ho => by
  unfold S_mass_sum at h
  split at h
  · rename_i g t
    cases h
    rw [Ob.both_ok, Bool.and_eq_true] at ho
    obtain ⟨hn, ho2⟩ := ho
    have n0 := hn
    simp only [Ob.ok] at n0
    replace n0 := nrm_fun n0
    have this := show outB (evFnM Tryz.prog false menv82 [] [] 96 (Ann.two Ann.no (Ann.two Ann.no (Ann.two (Ann.two Ann.no (Ann.one (Ann.loop F_mass_sum_L0))) Ann.no))) Tryz.f34 [AV.view g 4 (fun i => mkN [Ck.f, Ck.f, Ck.f, Ck.f] (t i) 0), AV.func 35 [] []] []) = _ from e_mass_sum g (fL t 0) (fL t 1) (fL t 2) (fL t 3)
    rw [(ob_mass_sum g (fL t 0) (fL t 1) (fL t 2) (fL t 3) ho2)] at this
    rw [n0] at this
    exact ⟨this, rfl⟩
  · cases h
def c_mass_sum : SFM := fun args => match S_mass_sum args with | some (o, v) => some (o, v, []) | none => none
theorem c_mass_sum_ok : SOkM Tryz.prog false (34, c_mass_sum) := t_mass_sum
def mss79 : List (FuncId × SFM) := (34, c_mass_sum) :: mss78
def menv83 : EnvM := mkEnvM mxs mss79 mws5
theorem mss79_ok : All (SOkM Tryz.prog false) mss79 := All.cons c_mass_sum_ok mss78_ok
theorem menv83_ok : menv83.Ok Tryz.prog false := mkEnvM_ok mxs_ok mss79_ok mws5_ok
-- tumble/mass.Join$2
theorem ann_mass_Join_2 : FnOk Tryz.prog false 0 Tryz.f36 Ann.no := (fnNo _)
def s_mass_Join_2_0 (d e u k : Nat) : Nat := (fmul d u)
theorem e_mass_Join_2 (d e u k : Nat) : outB (evFnM Tryz.prog false menv83 [] [] 96 Ann.no Tryz.f36 [AV.agg [AV.float d, AV.float e, AV.float u, AV.float k]] []) = some (true, AV.float (s_mass_Join_2_0 d e u k)) := by kernel_rfl
def S_mass_Join_2 : List AV → Option (Ob × AV)
  | [AV.agg [AV.float d, AV.float e, AV.float u, AV.float k]] => some (Ob.tt, AV.float (s_mass_Join_2_0 d e u k))
  | _ => none
theorem t_mass_Join_2 : SOkM Tryz.prog false (36, fun args => match S_mass_Join_2 args with | some (o, v) => some (o, v, []) | none => none) := SOkM.flat (N := 96) menv83_ok Tryz.func36 ann_mass_Join_2 Tryz.call36 fun args o v h ho => by
  unfold S_mass_Join_2 at h
  split at h
  · rename_i d e u k
    cases h
    have ho2 := ho
    have this := show outB (evFnM Tryz.prog false menv83 [] [] 96 Ann.no Tryz.f36 [AV.agg [AV.float d, AV.float e, AV.float u, AV.float k]] []) = _ from e_mass_Join_2 d e u k
    exact ⟨this, rfl⟩
  · cases h
def c_mass_Join_2 : SFM := fun args => match S_mass_Join_2 args with | some (o, v) => some (o, v, []) | none => none
theorem c_mass_Join_2_ok : SOkM Tryz.prog false (36, c_mass_Join_2) := t_mass_Join_2
def mss80 : List (FuncId × SFM) := (36, c_mass_Join_2) :: mss79
def menv84 : EnvM := mkEnvM mxs mss80 mws5
theorem mss80_ok : All (SOkM Tryz.prog false) mss80 := All.cons c_mass_Join_2_ok mss79_ok
theorem menv84_ok : menv84.Ok Tryz.prog false := mkEnvM_ok mxs_ok mss80_ok mws5_ok
-- tumble/mass.sum
-- a loop of tumble/mass.sum
structure V_mass_sum_v1_L0 where
  v0 : Int
  v1 : (Nat → Nat)
def tpl_mass_sum_v1_L0 : List AV := (AV.top :: AV.nul :: AV.top :: AV.top :: AV.top :: AV.nul :: AV.top :: AV.top :: AV.top :: AV.top :: AV.top :: AV.nul :: AV.nul :: AV.nul :: tpA 13 ([]))
def cts_mass_sum_v1_L0 : List CT := [CT.keep]
def phs_mass_sum_v1_L0 : List Src := []
def T_mass_sum_v1_L0 (j : Nat) (m l r C : Nat → Nat) (D : Int) (x : V_mass_sum_v1_L0) (F0 F1 : Nat → List AV) : List AV × Heap := ((AV.top :: AV.func 36 [] [] :: AV.top :: AV.top :: AV.top :: AV.lst 0 0 1 j j :: AV.top :: AV.top :: AV.top :: AV.top :: AV.top :: AV.view j 4 F0 :: AV.int .i64 D :: AV.int .i64 x.v0 :: tpA 13 ([])), [⟨.sym j 1 F1, 22, 0⟩])
def sh_mass_sum_v1_L0 (j : Nat) (m l r C : Nat → Nat) (D : Int) (x : V_mass_sum_v1_L0) : List AV × Heap := T_mass_sum_v1_L0 j m l r C D x (fun j0 => [AV.float (m j0), AV.float (l j0), AV.float (r j0), AV.float (C j0)]) (fun j0 => [AV.float (x.v1 j0)])
def step_mass_sum_v1_L0 (j : Nat) (m l r C : Nat → Nat) (D : Int) (x : V_mass_sum_v1_L0) : V_mass_sum_v1_L0 := V_mass_sum_v1_L0.mk (IntKind.wrap .i64 (x.v0 + (1 : Int))) (fun j0 => (bif (Nat.beq j0 (Int.toNat x.v0)) then (s_mass_Join_2_0 (m (Int.toNat x.v0)) (l (Int.toNat x.v0)) (r (Int.toNat x.v0)) (C (Int.toNat x.v0))) else (x.v1 j0)))
def go_mass_sum_v1_L0 (j : Nat) (m l r C : Nat → Nat) (D : Int) (x : V_mass_sum_v1_L0) : Bool := (bif (!(ilt x.v0 D)) then false else true)
def ok_mass_sum_v1_L0 (j : Nat) (m l r C : Nat → Nat) (D : Int) (x : V_mass_sum_v1_L0) : Bool := (mrgB (!(ilt x.v0 D)) true ((Nat.blt (Int.toNat x.v0) j) && (((ile (0 : Int) x.v0) && (Nat.blt (Int.toNat x.v0) j)) && ((ile (0 : Int) x.v0) && (Nat.blt (Int.toNat x.v0) j)))))
def L_mass_sum_v1_L0 (j : Nat) (m l r C : Nat → Nat) (D : Int) (x : V_mass_sum_v1_L0) : V_mass_sum_v1_L0 := lastL (ok_mass_sum_v1_L0 j m l r C D) (go_mass_sum_v1_L0 j m l r C D) (step_mass_sum_v1_L0 j m l r C D) x
def E_mass_sum_v1_L0 (j : Nat) (m l r C : Nat → Nat) (D : Int) (x : V_mass_sum_v1_L0) : Bool := endsL (ok_mass_sum_v1_L0 j m l r C D) (go_mass_sum_v1_L0 j m l r C D) (step_mass_sum_v1_L0 j m l r C D) x
theorem all_mass_sum_v1_L0 (j : Nat) (m l r C : Nat → Nat) (D : Int) (x : V_mass_sum_v1_L0) : rnd Tryz.prog false menv84 [] [] 96 Ann.no (subC [1, 1, 0, 1, 0, 0] (codeOf Tryz.f34)) 0 [⟨some 0, 0, 0, []⟩] tpl_mass_sum_v1_L0 cts_mass_sum_v1_L0 (true :: false :: true :: true :: true :: false :: true :: true :: true :: true :: true :: false :: false :: tpB 14 ([])) [true] (sh_mass_sum_v1_L0 j m l r C D x) = (true, true, go_mass_sum_v1_L0 j m l r C D x, ok_mass_sum_v1_L0 j m l r C D x, true, sh_mass_sum_v1_L0 j m l r C D (step_mass_sum_v1_L0 j m l r C D x), true) := by kernel_rfl
def fam_mass_sum_v1_L0 (j : Nat) (m l r C : Nat → Nat) (D : Int) : Fam Tryz.prog false menv84 [] [] 96 0 Ann.no (subC [1, 1, 0, 1, 0, 0] (codeOf Tryz.f34)) V_mass_sum_v1_L0 where
  sh := sh_mass_sum_v1_L0 j m l r C D
  ok := ok_mass_sum_v1_L0 j m l r C D
  go := go_mass_sum_v1_L0 j m l r C D
  step := step_mass_sum_v1_L0 j m l r C D
  chg := (true :: false :: true :: true :: true :: false :: true :: true :: true :: true :: true :: false :: false :: tpB 14 ([]))
  chgH := [true]
  tpl := tpl_mass_sum_v1_L0
  cts := cts_mass_sum_v1_L0
  keep := 0
  srcs := [⟨some 0, 0, 0, []⟩]
  ann := (annNo (subC [1, 1, 0, 1, 0, 0] (codeOf Tryz.f34)))
  le := by kernel_rfl
  kept := by kernel_rfl
  keptB := by kernel_rfl
  all := all_mass_sum_v1_L0 j m l r C D
  len := fun x => by kernel_rfl
  head := fun x y => by kernel_rfl
  con := fun x y => by kernel_rfl
  conH := fun x y => by kernel_rfl
def F_mass_sum_v1_L0 : St → Option Ch := fun s => cond (Nat.beq s.tm.length 27 && Nat.beq s.H.length 1) (tkTops 1 (alL tpl_mass_sum_v1_L0 s.tm) fun t0 => tkCons t0 fun e t1 => tkFunc 36 e fun l2 l3 => tkNil l2 <| tkNil l3 <| tkTops 3 t1 fun t4 => tkCons t4 fun P t5 => tkLst 0 0 1 P fun s0 s1 => tkTops 5 t5 fun t6 => tkCons t6 fun R t7 => tkView 4 R fun s2 f0 => tkCons t7 fun aa t8 => tkI .i64 aa fun s7 => tkCons t8 fun X t9 => tkI .i64 X fun s8 => tkTops 13 t9 fun t10 => tkNil t10 <| tkCons (alH cts_mass_sum_v1_L0 (s.H ++ List.map phan phs_mass_sum_v1_L0)) fun b11 t11 => tkSym 22 0 1 b11 fun s9 f1 => tkNil t11 <| Fam.out (fam_mass_sum_v1_L0 s0 (fL f0 0) (fL f0 1) (fL f0 2) (fL f0 3) s7) s (((((allB fun i => isNrm [Ck.f, Ck.f, Ck.f, Ck.f] (f0 i)) && (allB fun i => isNrm [Ck.f] (f1 i))) && (eqT s1 s0)) && (eqT s2 s0)) && (eqT s9 s0)) (V_mass_sum_v1_L0.mk s8 (fL f1 0))) none
theorem F_mass_sum_v1_L0_ok : ∀ s ch, F_mass_sum_v1_L0 s = some ch → AllI s ch ∧ LoopSpec Tryz.prog false 0 (subC [1, 1, 0, 1, 0, 0] (codeOf Tryz.f34)) s (sel ch) := by
  intro s ch h
  unfold F_mass_sum_v1_L0 at h
  obtain ⟨hl, h0⟩ := cond_some h rfl
  clear h
  obtain ⟨hl, hb⟩ := and_beq2 hl
  obtain ⟨t0, e0, h1⟩ := tkTops_some h0
  obtain ⟨e, t1, rfl, h2⟩ := tkCons_some h1
  obtain ⟨l2, l3, rfl, h3⟩ := tkFunc_some h2
  obtain ⟨rfl, h4⟩ := tkNil_some h3
  obtain ⟨rfl, h5⟩ := tkNil_some h4
  obtain ⟨t4, rfl, h6⟩ := tkTops_some h5
  obtain ⟨P, t5, rfl, h7⟩ := tkCons_some h6
  obtain ⟨s0, s1, rfl, h8⟩ := tkLst_some h7
  obtain ⟨t6, rfl, h9⟩ := tkTops_some h8
  obtain ⟨R, t7, rfl, h10⟩ := tkCons_some h9
  obtain ⟨s2, f0, rfl, h11⟩ := tkView_some h10
  obtain ⟨aa, t8, rfl, h12⟩ := tkCons_some h11
  obtain ⟨s7, rfl, h13⟩ := tkI_some h12
  obtain ⟨X, t9, rfl, h14⟩ := tkCons_some h13
  obtain ⟨s8, rfl, h15⟩ := tkI_some h14
  obtain ⟨t10, rfl, h16⟩ := tkTops_some h15
  obtain ⟨rfl, h17⟩ := tkNil_some h16
  obtain ⟨b11, t11, eH, h18⟩ := tkCons_some h17
  obtain ⟨s9, f1, rfl, h19⟩ := tkSym_some h18
  obtain ⟨rfl, h20⟩ := tkNil_some h19
  refine Fam.spec menv84_ok (fam_mass_sum_v1_L0 s0 (fL f0 0) (fL f0 1) (fL f0 2) (fL f0 3) s7) (phs := phs_mass_sum_v1_L0) (hl.trans (by kernel_rfl)) (hb.trans (by kernel_rfl)) ?_ ?_ h20
  · rw [← hdr_alH cts_mass_sum_v1_L0 (s.H ++ List.map phan phs_mass_sum_v1_L0), eH]; kernel_rfl
  · intro hq
    simp only [Bool.and_eq_true] at hq
    obtain ⟨⟨⟨⟨hq0, hq1⟩, hq2⟩, hq3⟩, hq4⟩ := hq
    have n0 := nrm_fun hq0
    have n1 := nrm_fun hq1
    have hx := eqT_eq hq2; subst s1
    have hx := eqT_eq hq3; subst s2
    have hx := eqT_eq hq4; subst s9
    show sh_mass_sum_v1_L0 s0 (fL f0 0) (fL f0 1) (fL f0 2) (fL f0 3) s7 (V_mass_sum_v1_L0.mk s8 (fL f1 0)) = (alL tpl_mass_sum_v1_L0 s.tm, alH cts_mass_sum_v1_L0 (s.H ++ List.map phan phs_mass_sum_v1_L0))
    rw [e0, eH]
    refine Eq.trans (show sh_mass_sum_v1_L0 s0 (fL f0 0) (fL f0 1) (fL f0 2) (fL f0 3) s7 (V_mass_sum_v1_L0.mk s8 (fL f1 0)) = T_mass_sum_v1_L0 s0 (fL f0 0) (fL f0 1) (fL f0 2) (fL f0 3) s7 (V_mass_sum_v1_L0.mk s8 (fL f1 0)) (fun i => mkN [Ck.f, Ck.f, Ck.f, Ck.f] (f0 i) 0) (fun i => mkN [Ck.f] (f1 i) 0) by kernel_rfl) ?_
    rw [n0, n1]
    kernel_rfl
theorem ann_mass_sum_v1 : FnOk Tryz.prog false 0 Tryz.f34 (Ann.two Ann.no (Ann.two Ann.no (Ann.two (Ann.two Ann.no (Ann.one (Ann.loop F_mass_sum_v1_L0))) Ann.no))) := (fnOk_of (c := codeOf Tryz.f34) (by kernel_rfl) (annSeq (a := (subC [0] (codeOf Tryz.f34))) (b := (subC [1] (codeOf Tryz.f34))) (by kernel_rfl) (annNo (subC [0] (codeOf Tryz.f34))) (annSeq (a := (subC [1, 0] (codeOf Tryz.f34))) (b := (subC [1, 1] (codeOf Tryz.f34))) (by kernel_rfl) (annNo (subC [1, 0] (codeOf Tryz.f34))) (annSeq (a := (subC [1, 1, 0] (codeOf Tryz.f34))) (b := (subC [1, 1, 1] (codeOf Tryz.f34))) (by kernel_rfl) (annSeq (a := (subC [1, 1, 0, 0] (codeOf Tryz.f34))) (b := (subC [1, 1, 0, 1] (codeOf Tryz.f34))) (by kernel_rfl) (annNo (subC [1, 1, 0, 0] (codeOf Tryz.f34))) (annBlock (a := (subC [1, 1, 0, 1, 0] (codeOf Tryz.f34))) (i := 0) (by kernel_rfl) (annLoop (a := (subC [1, 1, 0, 1, 0, 0] (codeOf Tryz.f34))) (by kernel_rfl) F_mass_sum_v1_L0_ok))) (annNo (subC [1, 1, 1] (codeOf Tryz.f34)))))))
def s_mass_sum_v1_0 (g : Nat) (n p G E : Nat → Nat) : Nat := (s_num_Sum_0 g ((L_mass_sum_v1_L0 g n p G E (Int.ofNat g) (V_mass_sum_v1_L0.mk (0 : Int) (fun j0 => 0))).v1))
def q_mass_sum_v1 (g : Nat) (n p G E : Nat → Nat) : Bool := (((Nat.ble g g) && ((allB fun _ => true) && (o_num_Sum g ((L_mass_sum_v1_L0 g n p G E (Int.ofNat g) (V_mass_sum_v1_L0.mk (0 : Int) (fun j0 => 0))).v1)))) && (((ile (Int.ofNat g) (Int.ofNat g)) && ((ile ((8 : Int) * (Int.ofNat g)) (281474976710656 : Int)) && (ile (Int.ofNat g) (9223372036854775807 : Int)))) && ((((((allB fun _ => true) && (allB fun _ => true)) && (eqT g g)) && (eqT g g)) && (eqT g g)) && (E_mass_sum_v1_L0 g n p G E (Int.ofNat g) (V_mass_sum_v1_L0.mk (0 : Int) (fun j0 => 0))))))
theorem e_mass_sum_v1 (g : Nat) (n p G E : Nat → Nat) : outB (evFnM Tryz.prog false menv84 [] [] 96 (Ann.two Ann.no (Ann.two Ann.no (Ann.two (Ann.two Ann.no (Ann.one (Ann.loop F_mass_sum_v1_L0))) Ann.no))) Tryz.f34 [AV.view g 4 (fun i0 => [AV.float (n i0), AV.float (p i0), AV.float (G i0), AV.float (E i0)]), AV.func 36 [] []] []) = some (q_mass_sum_v1 g n p G E, AV.float (s_mass_sum_v1_0 g n p G E)) := by kernel_rfl
def o_mass_sum_v1 (g : Nat) (n p G E : Nat → Nat) : Bool := (((Nat.ble g g) && (o_num_Sum g ((L_mass_sum_v1_L0 g n p G E (Int.ofNat g) (V_mass_sum_v1_L0.mk (0 : Int) (fun j0 => 0))).v1))) && (((ile (Int.ofNat g) (Int.ofNat g)) && ((ile ((8 : Int) * (Int.ofNat g)) (281474976710656 : Int)) && (ile (Int.ofNat g) (9223372036854775807 : Int)))) && (E_mass_sum_v1_L0 g n p G E (Int.ofNat g) (V_mass_sum_v1_L0.mk (0 : Int) (fun j0 => 0)))))
def S_mass_sum_v1 : List AV → Option (Ob × AV)
  | [AV.view g 4 t, AV.func 36 [] []] => some (Ob.both (Ob.bit (allB fun i => isNrm [Ck.f, Ck.f, Ck.f, Ck.f] (t i))) (Ob.bit (o_mass_sum_v1 g (fL t 0) (fL t 1) (fL t 2) (fL t 3))), AV.float (s_mass_sum_v1_0 g (fL t 0) (fL t 1) (fL t 2) (fL t 3)))
  | _ => none
theorem ob_mass_sum_v1 (g : Nat) (n p G E : Nat → Nat) (ho : o_mass_sum_v1 g n p G E = true) : q_mass_sum_v1 g n p G E = true := by
  unfold q_mass_sum_v1
  unfold o_mass_sum_v1 at ho
  simp only [allB_true, eqT_self, mrgB_self, Bool.true_and, Bool.and_true] at ho ⊢
  exact ho
theorem t_mass_sum_v1 : SOkM Tryz.prog false (34, fun args => match S_mass_sum_v1 args with | some (o, v) => some (o, v, []) | none => none) := SOkM.flat (N := 96) menv84_ok Tryz.func34 ann_mass_sum_v1 Tryz.call34 fun args o v h ho => by
  unfold S_mass_sum_v1 at h
  split at h
  · rename_i g t
    cases h
    rw [Ob.both_ok, Bool.and_eq_true] at ho
    obtain ⟨hn, ho2⟩ := ho
    have n0 := hn
    simp only [Ob.ok] at n0
    replace n0 := nrm_fun n0
    have this := show outB (evFnM Tryz.prog false menv84 [] [] 96 (Ann.two Ann.no (Ann.two Ann.no (Ann.two (Ann.two Ann.no (Ann.one (Ann.loop F_mass_sum_v1_L0))) Ann.no))) Tryz.f34 [AV.view g 4 (fun i => mkN [Ck.f, Ck.f, Ck.f, Ck.f] (t i) 0), AV.func 36 [] []] []) = _ from e_mass_sum_v1 g (fL t 0) (fL t 1) (fL t 2) (fL t 3)
    rw [(ob_mass_sum_v1 g (fL t 0) (fL t 1) (fL t 2) (fL t 3) ho2)] at this
    rw [n0] at this
    exact ⟨this, rfl⟩
  · cases h
def c_mass_sum_v1 : SFM := altS (fun args => match S_mass_sum_v1 args with | some (o, v) => some (o, v, []) | none => none) (c_mass_sum)
theorem c_mass_sum_v1_ok : SOkM Tryz.prog false (34, c_mass_sum_v1) := (SOkM.alt t_mass_sum_v1 c_mass_sum_ok)
def mss81 : List (FuncId × SFM) := (34, c_mass_sum_v1) :: mss80
def menv85 : EnvM := mkEnvM mxs mss81 mws5
theorem mss81_ok : All (SOkM Tryz.prog false) mss81 := All.cons c_mass_sum_v1_ok mss80_ok
theorem menv85_ok : menv85.Ok Tryz.prog false := mkEnvM_ok mxs_ok mss81_ok mws5_ok
-- tumble/mass.Join$3
theorem ann_mass_Join_3 : FnOk Tryz.prog false 0 Tryz.f37 Ann.no := (fnNo _)
def s_mass_Join_3_0 (d e u k : Nat) : Nat := (fmul d k)
theorem e_mass_Join_3 (d e u k : Nat) : outB (evFnM Tryz.prog false menv85 [] [] 96 Ann.no Tryz.f37 [AV.agg [AV.float d, AV.float e, AV.float u, AV.float k]] []) = some (true, AV.float (s_mass_Join_3_0 d e u k)) := by kernel_rfl
def S_mass_Join_3 : List AV → Option (Ob × AV)
  | [AV.agg [AV.float d, AV.float e, AV.float u, AV.float k]] => some (Ob.tt, AV.float (s_mass_Join_3_0 d e u k))
  | _ => none
theorem t_mass_Join_3 : SOkM Tryz.prog false (37, fun args => match S_mass_Join_3 args with | some (o, v) => some (o, v, []) | none => none) := SOkM.flat (N := 96) menv85_ok Tryz.func37 ann_mass_Join_3 Tryz.call37 fun args o v h ho => by
  unfold S_mass_Join_3 at h
  split at h
  · rename_i d e u k
    cases h
    have ho2 := ho
    have this := show outB (evFnM Tryz.prog false menv85 [] [] 96 Ann.no Tryz.f37 [AV.agg [AV.float d, AV.float e, AV.float u, AV.float k]] []) = _ from e_mass_Join_3 d e u k
    exact ⟨this, rfl⟩
  · cases h
def c_mass_Join_3 : SFM := fun args => match S_mass_Join_3 args with | some (o, v) => some (o, v, []) | none => none
theorem c_mass_Join_3_ok : SOkM Tryz.prog false (37, c_mass_Join_3) := t_mass_Join_3
def mss82 : List (FuncId × SFM) := (37, c_mass_Join_3) :: mss81
def menv86 : EnvM := mkEnvM mxs mss82 mws5
theorem mss82_ok : All (SOkM Tryz.prog false) mss82 := All.cons c_mass_Join_3_ok mss81_ok
theorem menv86_ok : menv86.Ok Tryz.prog false := mkEnvM_ok mxs_ok mss82_ok mws5_ok
-- tumble/mass.sum
-- a loop of tumble/mass.sum
structure V_mass_sum_v2_L0 where
  v0 : Int
  v1 : (Nat → Nat)
def tpl_mass_sum_v2_L0 : List AV := (AV.top :: AV.nul :: AV.top :: AV.top :: AV.top :: AV.nul :: AV.top :: AV.top :: AV.top :: AV.top :: AV.top :: AV.nul :: AV.nul :: AV.nul :: tpA 13 ([]))
def cts_mass_sum_v2_L0 : List CT := [CT.keep]
def phs_mass_sum_v2_L0 : List Src := []
def T_mass_sum_v2_L0 (j : Nat) (m l r C : Nat → Nat) (D : Int) (x : V_mass_sum_v2_L0) (F0 F1 : Nat → List AV) : List AV × Heap := ((AV.top :: AV.func 37 [] [] :: AV.top :: AV.top :: AV.top :: AV.lst 0 0 1 j j :: AV.top :: AV.top :: AV.top :: AV.top :: AV.top :: AV.view j 4 F0 :: AV.int .i64 D :: AV.int .i64 x.v0 :: tpA 13 ([])), [⟨.sym j 1 F1, 22, 0⟩])
def sh_mass_sum_v2_L0 (j : Nat) (m l r C : Nat → Nat) (D : Int) (x : V_mass_sum_v2_L0) : List AV × Heap := T_mass_sum_v2_L0 j m l r C D x (fun j0 => [AV.float (m j0), AV.float (l j0), AV.float (r j0), AV.float (C j0)]) (fun j0 => [AV.float (x.v1 j0)])
def step_mass_sum_v2_L0 (j : Nat) (m l r C : Nat → Nat) (D : Int) (x : V_mass_sum_v2_L0) : V_mass_sum_v2_L0 := V_mass_sum_v2_L0.mk (IntKind.wrap .i64 (x.v0 + (1 : Int))) (fun j0 => (bif (Nat.beq j0 (Int.toNat x.v0)) then (s_mass_Join_3_0 (m (Int.toNat x.v0)) (l (Int.toNat x.v0)) (r (Int.toNat x.v0)) (C (Int.toNat x.v0))) else (x.v1 j0)))
def go_mass_sum_v2_L0 (j : Nat) (m l r C : Nat → Nat) (D : Int) (x : V_mass_sum_v2_L0) : Bool := (bif (!(ilt x.v0 D)) then false else true)
def ok_mass_sum_v2_L0 (j : Nat) (m l r C : Nat → Nat) (D : Int) (x : V_mass_sum_v2_L0) : Bool := (mrgB (!(ilt x.v0 D)) true ((Nat.blt (Int.toNat x.v0) j) && (((ile (0 : Int) x.v0) && (Nat.blt (Int.toNat x.v0) j)) && ((ile (0 : Int) x.v0) && (Nat.blt (Int.toNat x.v0) j)))))
def L_mass_sum_v2_L0 (j : Nat) (m l r C : Nat → Nat) (D : Int) (x : V_mass_sum_v2_L0) : V_mass_sum_v2_L0 := lastL (ok_mass_sum_v2_L0 j m l r C D) (go_mass_sum_v2_L0 j m l r C D) (step_mass_sum_v2_L0 j m l r C D) x
def E_mass_sum_v2_L0 (j : Nat) (m l r C : Nat → Nat) (D : Int) (x : V_mass_sum_v2_L0) : Bool := endsL (ok_mass_sum_v2_L0 j m l r C D) (go_mass_sum_v2_L0 j m l r C D) (step_mass_sum_v2_L0 j m l r C D) x
theorem all_mass_sum_v2_L0 (j : Nat) (m l r C : Nat → Nat) (D : Int) (x : V_mass_sum_v2_L0) : rnd Tryz.prog false menv86 [] [] 96 Ann.no (subC [1, 1, 0, 1, 0, 0] (codeOf Tryz.f34)) 0 [⟨some 0, 0, 0, []⟩] tpl_mass_sum_v2_L0 cts_mass_sum_v2_L0 (true :: false :: true :: true :: true :: false :: true :: true :: true :: true :: true :: false :: false :: tpB 14 ([])) [true] (sh_mass_sum_v2_L0 j m l r C D x) = (true, true, go_mass_sum_v2_L0 j m l r C D x, ok_mass_sum_v2_L0 j m l r C D x, true, sh_mass_sum_v2_L0 j m l r C D (step_mass_sum_v2_L0 j m l r C D x), true) := by kernel_rfl
def fam_mass_sum_v2_L0 (j : Nat) (m l r C : Nat → Nat) (D : Int) : Fam Tryz.prog false menv86 [] [] 96 0 Ann.no (subC [1, 1, 0, 1, 0, 0] (codeOf Tryz.f34)) V_mass_sum_v2_L0 where
  sh := sh_mass_sum_v2_L0 j m l r C D
  ok := ok_mass_sum_v2_L0 j m l r C D
  go := go_mass_sum_v2_L0 j m l r C D
  step := step_mass_sum_v2_L0 j m l r C D
  chg := (true :: false :: true :: true :: true :: false :: true :: true :: true :: true :: true :: false :: false :: tpB 14 ([]))
  chgH := [true]
  tpl := tpl_mass_sum_v2_L0
  cts := cts_mass_sum_v2_L0
  keep := 0
  srcs := [⟨some 0, 0, 0, []⟩]
  ann := (annNo (subC [1, 1, 0, 1, 0, 0] (codeOf Tryz.f34)))
  le := by kernel_rfl
  kept := by kernel_rfl
  keptB := by kernel_rfl
  all := all_mass_sum_v2_L0 j m l r C D
  len := fun x => by kernel_rfl
  head := fun x y => by kernel_rfl
  con := fun x y => by kernel_rfl
  conH := fun x y => by kernel_rfl
def F_mass_sum_v2_L0 : St → Option Ch := fun s => cond (Nat.beq s.tm.length 27 && Nat.beq s.H.length 1) (tkTops 1 (alL tpl_mass_sum_v2_L0 s.tm) fun t0 => tkCons t0 fun e t1 => tkFunc 37 e fun l2 l3 => tkNil l2 <| tkNil l3 <| tkTops 3 t1 fun t4 => tkCons t4 fun P t5 => tkLst 0 0 1 P fun s0 s1 => tkTops 5 t5 fun t6 => tkCons t6 fun R t7 => tkView 4 R fun s2 f0 => tkCons t7 fun aa t8 => tkI .i64 aa fun s7 => tkCons t8 fun X t9 => tkI .i64 X fun s8 => tkTops 13 t9 fun t10 => tkNil t10 <| tkCons (alH cts_mass_sum_v2_L0 (s.H ++ List.map phan phs_mass_sum_v2_L0)) fun b11 t11 => tkSym 22 0 1 b11 fun s9 f1 => tkNil t11 <| Fam.out (fam_mass_sum_v2_L0 s0 (fL f0 0) (fL f0 1) (fL f0 2) (fL f0 3) s7) s (((((allB fun i => isNrm [Ck.f, Ck.f, Ck.f, Ck.f] (f0 i)) && (allB fun i => isNrm [Ck.f] (f1 i))) && (eqT s1 s0)) && (eqT s2 s0)) && (eqT s9 s0)) (V_mass_sum_v2_L0.mk s8 (fL f1 0))) none
theorem F_mass_sum_v2_L0_ok : ∀ s ch, F_mass_sum_v2_L0 s = some ch → AllI s ch ∧ LoopSpec Tryz.prog false 0 (subC [1, 1, 0, 1, 0, 0] (codeOf Tryz.f34)) s (sel ch) := by
  intro s ch h
  unfold F_mass_sum_v2_L0 at h
  obtain ⟨hl, h0⟩ := cond_some h rfl
  clear h
  obtain ⟨hl, hb⟩ := and_beq2 hl
  obtain ⟨t0, e0, h1⟩ := tkTops_some h0
  obtain ⟨e, t1, rfl, h2⟩ := tkCons_some h1
  obtain ⟨l2, l3, rfl, h3⟩ := tkFunc_some h2
  obtain ⟨rfl, h4⟩ := tkNil_some h3
  obtain ⟨rfl, h5⟩ := tkNil_some h4
  obtain ⟨t4, rfl, h6⟩ := tkTops_some h5
  obtain ⟨P, t5, rfl, h7⟩ := tkCons_some h6
  obtain ⟨s0, s1, rfl, h8⟩ := tkLst_some h7
  obtain ⟨t6, rfl, h9⟩ := tkTops_some h8
  obtain ⟨R, t7, rfl, h10⟩ := tkCons_some h9
  obtain ⟨s2, f0, rfl, h11⟩ := tkView_some h10
  obtain ⟨aa, t8, rfl, h12⟩ := tkCons_some h11
  obtain ⟨s7, rfl, h13⟩ := tkI_some h12
  obtain ⟨X, t9, rfl, h14⟩ := tkCons_some h13
  obtain ⟨s8, rfl, h15⟩ := tkI_some h14
  obtain ⟨t10, rfl, h16⟩ := tkTops_some h15
  obtain ⟨rfl, h17⟩ := tkNil_some h16
  obtain ⟨b11, t11, eH, h18⟩ := tkCons_some h17
  obtain ⟨s9, f1, rfl, h19⟩ := tkSym_some h18
  obtain ⟨rfl, h20⟩ := tkNil_some h19
  refine Fam.spec menv86_ok (fam_mass_sum_v2_L0 s0 (fL f0 0) (fL f0 1) (fL f0 2) (fL f0 3) s7) (phs := phs_mass_sum_v2_L0) (hl.trans (by kernel_rfl)) (hb.trans (by kernel_rfl)) ?_ ?_ h20
  · rw [← hdr_alH cts_mass_sum_v2_L0 (s.H ++ List.map phan phs_mass_sum_v2_L0), eH]; kernel_rfl
  · intro hq
    simp only [Bool.and_eq_true] at hq
    obtain ⟨⟨⟨⟨hq0, hq1⟩, hq2⟩, hq3⟩, hq4⟩ := hq
    have n0 := nrm_fun hq0
    have n1 := nrm_fun hq1
    have hx := eqT_eq hq2; subst s1
    have hx := eqT_eq hq3; subst s2
    have hx := eqT_eq hq4; subst s9
    show sh_mass_sum_v2_L0 s0 (fL f0 0) (fL f0 1) (fL f0 2) (fL f0 3) s7 (V_mass_sum_v2_L0.mk s8 (fL f1 0)) = (alL tpl_mass_sum_v2_L0 s.tm, alH cts_mass_sum_v2_L0 (s.H ++ List.map phan phs_mass_sum_v2_L0))
    rw [e0, eH]
    refine Eq.trans (show sh_mass_sum_v2_L0 s0 (fL f0 0) (fL f0 1) (fL f0 2) (fL f0 3) s7 (V_mass_sum_v2_L0.mk s8 (fL f1 0)) = T_mass_sum_v2_L0 s0 (fL f0 0) (fL f0 1) (fL f0 2) (fL f0 3) s7 (V_mass_sum_v2_L0.mk s8 (fL f1 0)) (fun i => mkN [Ck.f, Ck.f, Ck.f, Ck.f] (f0 i) 0) (fun i => mkN [Ck.f] (f1 i) 0) by kernel_rfl) ?_
    rw [n0, n1]
    kernel_rfl
theorem ann_mass_sum_v2 : FnOk Tryz.prog false 0 Tryz.f34 (Ann.two Ann.no (Ann.two Ann.no (Ann.two (Ann.two Ann.no (Ann.one (Ann.loop F_mass_sum_v2_L0))) Ann.no))) := (fnOk_of (c := codeOf Tryz.f34) (by kernel_rfl) (annSeq (a := (subC [0] (codeOf Tryz.f34))) (b := (subC [1] (codeOf Tryz.f34))) (by kernel_rfl) (annNo (subC [0] (codeOf Tryz.f34))) (annSeq (a := (subC [1, 0] (codeOf Tryz.f34))) (b := (subC [1, 1] (codeOf Tryz.f34))) (by kernel_rfl) (annNo (subC [1, 0] (codeOf Tryz.f34))) (annSeq (a := (subC [1, 1, 0] (codeOf Tryz.f34))) (b := (subC [1, 1, 1] (codeOf Tryz.f34))) (by kernel_rfl) (annSeq (a := (subC [1, 1, 0, 0] (codeOf Tryz.f34))) (b := (subC [1, 1, 0, 1] (codeOf Tryz.f34))) (by kernel_rfl) (annNo (subC [1, 1, 0, 0] (codeOf Tryz.f34))) (annBlock (a := (subC [1, 1, 0, 1, 0] (codeOf Tryz.f34))) (i := 0) (by kernel_rfl) (annLoop (a := (subC [1, 1, 0, 1, 0, 0] (codeOf Tryz.f34))) (by kernel_rfl) F_mass_sum_v2_L0_ok))) (annNo (subC [1, 1, 1] (codeOf Tryz.f34)))))))
def s_mass_sum_v2_0 (g : Nat) (n p G E : Nat → Nat) : Nat := (s_num_Sum_0 g ((L_mass_sum_v2_L0 g n p G E (Int.ofNat g) (V_mass_sum_v2_L0.mk (0 : Int) (fun j0 => 0))).v1))
def q_mass_sum_v2 (g : Nat) (n p G E : Nat → Nat) : Bool := (((Nat.ble g g) && ((allB fun _ => true) && (o_num_Sum g ((L_mass_sum_v2_L0 g n p G E (Int.ofNat g) (V_mass_sum_v2_L0.mk (0 : Int) (fun j0 => 0))).v1)))) && (((ile (Int.ofNat g) (Int.ofNat g)) && ((ile ((8 : Int) * (Int.ofNat g)) (281474976710656 : Int)) && (ile (Int.ofNat g) (9223372036854775807 : Int)))) && ((((((allB fun _ => true) && (allB fun _ => true)) && (eqT g g)) && (eqT g g)) && (eqT g g)) && (E_mass_sum_v2_L0 g n p G E (Int.ofNat g) (V_mass_sum_v2_L0.mk (0 : Int) (fun j0 => 0))))))
theorem e_mass_sum_v2 (g : Nat) (n p G E : Nat → Nat) : outB (evFnM Tryz.prog false menv86 [] [] 96 (Ann.two Ann.no (Ann.two Ann.no (Ann.two (Ann.two Ann.no (Ann.one (Ann.loop F_mass_sum_v2_L0))) Ann.no))) Tryz.f34 [AV.view g 4 (fun i0 => [AV.float (n i0), AV.float (p i0), AV.float (G i0), AV.float (E i0)]), AV.func 37 [] []] []) = some (q_mass_sum_v2 g n p G E, AV.float (s_mass_sum_v2_0 g n p G E)) := by kernel_rfl
def o_mass_sum_v2 (g : Nat) (n p G E : Nat → Nat) : Bool := (((Nat.ble g g) && (o_num_Sum g ((L_mass_sum_v2_L0 g n p G E (Int.ofNat g) (V_mass_sum_v2_L0.mk (0 : Int) (fun j0 => 0))).v1))) && (((ile (Int.ofNat g) (Int.ofNat g)) && ((ile ((8 : Int) * (Int.ofNat g)) (281474976710656 : Int)) && (ile (Int.ofNat g) (9223372036854775807 : Int)))) && (E_mass_sum_v2_L0 g n p G E (Int.ofNat g) (V_mass_sum_v2_L0.mk (0 : Int) (fun j0 => 0)))))
def S_mass_sum_v2 : List AV → Option (Ob × AV)
  | [AV.view g 4 t, AV.func 37 [] []] => some (Ob.both (Ob.bit (allB fun i => isNrm [Ck.f, Ck.f, Ck.f, Ck.f] (t i))) (Ob.bit (o_mass_sum_v2 g (fL t 0) (fL t 1) (fL t 2) (fL t 3))), AV.float (s_mass_sum_v2_0 g (fL t 0) (fL t 1) (fL t 2) (fL t 3)))
  | _ => none
theorem ob_mass_sum_v2 (g : Nat) (n p G E : Nat → Nat) (ho : o_mass_sum_v2 g n p G E = true) : q_mass_sum_v2 g n p G E = true := by
  unfold q_mass_sum_v2
  unfold o_mass_sum_v2 at ho
  simp only [allB_true, eqT_self, mrgB_self, Bool.true_and, Bool.and_true] at ho ⊢
  exact ho
theorem t_mass_sum_v2 : SOkM Tryz.prog false (34, fun args => match S_mass_sum_v2 args with | some (o, v) => some (o, v, []) | none => none) := SOkM.flat (N := 96) menv86_ok Tryz.func34 ann_mass_sum_v2 Tryz.call34 fun args o v h ho => by
  unfold S_mass_sum_v2 at h
  split at h
  · rename_i g t
    cases h
    rw [Ob.both_ok, Bool.and_eq_true] at ho
    obtain ⟨hn, ho2⟩ := ho
    have n0 := hn
    simp only [Ob.ok] at n0
    replace n0 := nrm_fun n0
    have this := show outB (evFnM Tryz.prog false menv86 [] [] 96 (Ann.two Ann.no (Ann.two Ann.no (Ann.two (Ann.two Ann.no (Ann.one (Ann.loop F_mass_sum_v2_L0))) Ann.no))) Tryz.f34 [AV.view g 4 (fun i => mkN [Ck.f, Ck.f, Ck.f, Ck.f] (t i) 0), AV.func 37 [] []] []) = _ from e_mass_sum_v2 g (fL t 0) (fL t 1) (fL t 2) (fL t 3)
    rw [(ob_mass_sum_v2 g (fL t 0) (fL t 1) (fL t 2) (fL t 3) ho2)] at this
    rw [n0] at this
    exact ⟨this, rfl⟩
  · cases h
def c_mass_sum_v2 : SFM := altS (fun args => match S_mass_sum_v2 args with | some (o, v) => some (o, v, []) | none => none) (c_mass_sum_v1)
theorem c_mass_sum_v2_ok : SOkM Tryz.prog false (34, c_mass_sum_v2) := (SOkM.alt t_mass_sum_v2 c_mass_sum_v1_ok)
def mss83 : List (FuncId × SFM) := (34, c_mass_sum_v2) :: mss82
def menv87 : EnvM := mkEnvM mxs mss83 mws5
theorem mss83_ok : All (SOkM Tryz.prog false) mss83 := All.cons c_mass_sum_v2_ok mss82_ok
theorem menv87_ok : menv87.Ok Tryz.prog false := mkEnvM_ok mxs_ok mss83_ok mws5_ok
-- tumble/mass.about
theorem ann_mass_about : FnOk Tryz.prog false 0 Tryz.f39 Ann.no := (fnNo _)
def s_mass_about_0 (d e u k M P : Nat) : Nat := (fadd e (fmul d (s_vec_Square_0 (s_vec_Sub_0 M P u k) (s_vec_Sub_1 M P u k))))
theorem e_mass_about (d e u k M P : Nat) : outB (evFnM Tryz.prog false menv87 [] [] 96 Ann.no Tryz.f39 [AV.agg [AV.float d, AV.float e, AV.float u, AV.float k], AV.agg [AV.float M, AV.float P]] []) = some (true, AV.float (s_mass_about_0 d e u k M P)) := by kernel_rfl
def S_mass_about : List AV → Option (Ob × AV)
  | [AV.agg [AV.float d, AV.float e, AV.float u, AV.float k], AV.agg [AV.float M, AV.float P]] => some (Ob.tt, AV.float (s_mass_about_0 d e u k M P))
  | _ => none
theorem t_mass_about : SOkM Tryz.prog false (39, fun args => match S_mass_about args with | some (o, v) => some (o, v, []) | none => none) := SOkM.flat (N := 96) menv87_ok Tryz.func39 ann_mass_about Tryz.call39 fun args o v h ho => by
  unfold S_mass_about at h
  split at h
  · rename_i d e u k M P
    cases h
    have ho2 := ho
    have this := show outB (evFnM Tryz.prog false menv87 [] [] 96 Ann.no Tryz.f39 [AV.agg [AV.float d, AV.float e, AV.float u, AV.float k], AV.agg [AV.float M, AV.float P]] []) = _ from e_mass_about d e u k M P
    exact ⟨this, rfl⟩
  · cases h
def c_mass_about : SFM := fun args => match S_mass_about args with | some (o, v) => some (o, v, []) | none => none
theorem c_mass_about_ok : SOkM Tryz.prog false (39, c_mass_about) := t_mass_about
def mss84 : List (FuncId × SFM) := (39, c_mass_about) :: mss83
def menv88 : EnvM := mkEnvM mxs mss84 mws5
theorem mss84_ok : All (SOkM Tryz.prog false) mss84 := All.cons c_mass_about_ok mss83_ok
theorem menv88_ok : menv88.Ok Tryz.prog false := mkEnvM_ok mxs_ok mss84_ok mws5_ok
-- tumble/mass.Join$4
theorem ann_mass_Join_4 : FnOk Tryz.prog false 0 Tryz.f38 Ann.no := (fnNo _)
def s_mass_Join_4_0 (d e u k M P : Nat) : Nat := (s_mass_about_0 d e u k M P)
theorem e_mass_Join_4 (d e u k M P : Nat) : outB (evFnM Tryz.prog false menv88 [] [] 96 Ann.no Tryz.f38 [AV.agg [AV.float d, AV.float e, AV.float u, AV.float k], AV.vptr [AV.float M, AV.float P]] []) = some (true, AV.float (s_mass_Join_4_0 d e u k M P)) := by kernel_rfl
def S_mass_Join_4 : List AV → Option (Ob × AV)
  | [AV.agg [AV.float d, AV.float e, AV.float u, AV.float k], AV.vptr [AV.float M, AV.float P]] => some (Ob.tt, AV.float (s_mass_Join_4_0 d e u k M P))
  | _ => none
theorem t_mass_Join_4 : SOkM Tryz.prog false (38, fun args => match S_mass_Join_4 args with | some (o, v) => some (o, v, []) | none => none) := SOkM.flat (N := 96) menv88_ok Tryz.func38 ann_mass_Join_4 Tryz.call38 fun args o v h ho => by
  unfold S_mass_Join_4 at h
  split at h
  · rename_i d e u k M P
    cases h
    have ho2 := ho
    have this := show outB (evFnM Tryz.prog false menv88 [] [] 96 Ann.no Tryz.f38 [AV.agg [AV.float d, AV.float e, AV.float u, AV.float k], AV.vptr [AV.float M, AV.float P]] []) = _ from e_mass_Join_4 d e u k M P
    exact ⟨this, rfl⟩
  · cases h
def c_mass_Join_4 : SFM := fun args => match S_mass_Join_4 args with | some (o, v) => some (o, v, []) | none => none
theorem c_mass_Join_4_ok : SOkM Tryz.prog false (38, c_mass_Join_4) := t_mass_Join_4
def mss85 : List (FuncId × SFM) := (38, c_mass_Join_4) :: mss84
def menv89 : EnvM := mkEnvM mxs mss85 mws5
theorem mss85_ok : All (SOkM Tryz.prog false) mss85 := All.cons c_mass_Join_4_ok mss84_ok
theorem menv89_ok : menv89.Ok Tryz.prog false := mkEnvM_ok mxs_ok mss85_ok mws5_ok
-- tumble/mass.sum
-- a loop of tumble/mass.sum
structure V_mass_sum_v3_L0 where
  v0 : Int
  v1 : (Nat → Nat)
def tpl_mass_sum_v3_L0 : List AV := (AV.top :: AV.nul :: AV.top :: AV.top :: AV.top :: AV.nul :: AV.top :: AV.top :: AV.top :: AV.top :: AV.top :: AV.nul :: AV.nul :: AV.nul :: tpA 13 ([]))
def cts_mass_sum_v3_L0 : List CT := [CT.keep]
def phs_mass_sum_v3_L0 : List Src := []
def T_mass_sum_v3_L0 (j m l : Nat) (r C D F : Nat → Nat) (I : Int) (x : V_mass_sum_v3_L0) (F0 F1 : Nat → List AV) : List AV × Heap := ((AV.top :: AV.func 38 [] [AV.vptr [AV.float j, AV.float m]] :: AV.top :: AV.top :: AV.top :: AV.lst 0 0 1 l l :: AV.top :: AV.top :: AV.top :: AV.top :: AV.top :: AV.view l 4 F0 :: AV.int .i64 I :: AV.int .i64 x.v0 :: tpA 13 ([])), [⟨.sym l 1 F1, 22, 0⟩])
def sh_mass_sum_v3_L0 (j m l : Nat) (r C D F : Nat → Nat) (I : Int) (x : V_mass_sum_v3_L0) : List AV × Heap := T_mass_sum_v3_L0 j m l r C D F I x (fun j0 => [AV.float (r j0), AV.float (C j0), AV.float (D j0), AV.float (F j0)]) (fun j0 => [AV.float (x.v1 j0)])
def step_mass_sum_v3_L0 (j m l : Nat) (r C D F : Nat → Nat) (I : Int) (x : V_mass_sum_v3_L0) : V_mass_sum_v3_L0 := V_mass_sum_v3_L0.mk (IntKind.wrap .i64 (x.v0 + (1 : Int))) (fun j0 => (bif (Nat.beq j0 (Int.toNat x.v0)) then (s_mass_Join_4_0 (r (Int.toNat x.v0)) (C (Int.toNat x.v0)) (D (Int.toNat x.v0)) (F (Int.toNat x.v0)) j m) else (x.v1 j0)))
def go_mass_sum_v3_L0 (j m l : Nat) (r C D F : Nat → Nat) (I : Int) (x : V_mass_sum_v3_L0) : Bool := (bif (!(ilt x.v0 I)) then false else true)
def ok_mass_sum_v3_L0 (j m l : Nat) (r C D F : Nat → Nat) (I : Int) (x : V_mass_sum_v3_L0) : Bool := (mrgB (!(ilt x.v0 I)) true ((Nat.blt (Int.toNat x.v0) l) && (((ile (0 : Int) x.v0) && (Nat.blt (Int.toNat x.v0) l)) && ((ile (0 : Int) x.v0) && (Nat.blt (Int.toNat x.v0) l)))))
def L_mass_sum_v3_L0 (j m l : Nat) (r C D F : Nat → Nat) (I : Int) (x : V_mass_sum_v3_L0) : V_mass_sum_v3_L0 := lastL (ok_mass_sum_v3_L0 j m l r C D F I) (go_mass_sum_v3_L0 j m l r C D F I) (step_mass_sum_v3_L0 j m l r C D F I) x
def E_mass_sum_v3_L0 (j m l : Nat) (r C D F : Nat → Nat) (I : Int) (x : V_mass_sum_v3_L0) : Bool := endsL (ok_mass_sum_v3_L0 j m l r C D F I) (go_mass_sum_v3_L0 j m l r C D F I) (step_mass_sum_v3_L0 j m l r C D F I) x
theorem all_mass_sum_v3_L0 (j m l : Nat) (r C D F : Nat → Nat) (I : Int) (x : V_mass_sum_v3_L0) : rnd Tryz.prog false menv89 [] [] 96 Ann.no (subC [1, 1, 0, 1, 0, 0] (codeOf Tryz.f34)) 0 [⟨some 0, 0, 0, []⟩] tpl_mass_sum_v3_L0 cts_mass_sum_v3_L0 (true :: false :: true :: true :: true :: false :: true :: true :: true :: true :: true :: false :: false :: tpB 14 ([])) [true] (sh_mass_sum_v3_L0 j m l r C D F I x) = (true, true, go_mass_sum_v3_L0 j m l r C D F I x, ok_mass_sum_v3_L0 j m l r C D F I x, true, sh_mass_sum_v3_L0 j m l r C D F I (step_mass_sum_v3_L0 j m l r C D F I x), true) := by kernel_rfl
def fam_mass_sum_v3_L0 (j m l : Nat) (r C D F : Nat → Nat) (I : Int) : Fam Tryz.prog false menv89 [] [] 96 0 Ann.no (subC [1, 1, 0, 1, 0, 0] (codeOf Tryz.f34)) V_mass_sum_v3_L0 where
  sh := sh_mass_sum_v3_L0 j m l r C D F I
  ok := ok_mass_sum_v3_L0 j m l r C D F I
  go := go_mass_sum_v3_L0 j m l r C D F I
  step := step_mass_sum_v3_L0 j m l r C D F I
  chg := (true :: false :: true :: true :: true :: false :: true :: true :: true :: true :: true :: false :: false :: tpB 14 ([]))
  chgH := [true]
  tpl := tpl_mass_sum_v3_L0
  cts := cts_mass_sum_v3_L0
  keep := 0
  srcs := [⟨some 0, 0, 0, []⟩]
  ann := (annNo (subC [1, 1, 0, 1, 0, 0] (codeOf Tryz.f34)))
  le := by kernel_rfl
  kept := by kernel_rfl
  keptB := by kernel_rfl
  all := all_mass_sum_v3_L0 j m l r C D F I
  len := fun x => by kernel_rfl
  head := fun x y => by kernel_rfl
  con := fun x y => by kernel_rfl
  conH := fun x y => by kernel_rfl
def F_mass_sum_v3_L0 : St → Option Ch := fun s => cond (Nat.beq s.tm.length 27 && Nat.beq s.H.length 1) (tkTops 1 (alL tpl_mass_sum_v3_L0 s.tm) fun t0 => tkCons t0 fun e t1 => tkFunc 38 e fun l2 l3 => tkNil l2 <| tkCons l3 fun M t4 => tkVptr M fun l5 => tkCons l5 fun Y t6 => tkF Y fun s0 => tkCons t6 fun R t7 => tkF R fun s1 => tkNil t7 <| tkNil t4 <| tkTops 3 t1 fun t8 => tkCons t8 fun X t9 => tkLst 0 0 1 X fun s2 s3 => tkTops 5 t9 fun t10 => tkCons t10 fun ad t11 => tkView 4 ad fun s4 f0 => tkCons t11 fun af t12 => tkI .i64 af fun s9 => tkCons t12 fun ai t13 => tkI .i64 ai fun s10 => tkTops 13 t13 fun t14 => tkNil t14 <| tkCons (alH cts_mass_sum_v3_L0 (s.H ++ List.map phan phs_mass_sum_v3_L0)) fun b15 t15 => tkSym 22 0 1 b15 fun s11 f1 => tkNil t15 <| Fam.out (fam_mass_sum_v3_L0 s0 s1 s2 (fL f0 0) (fL f0 1) (fL f0 2) (fL f0 3) s9) s (((((allB fun i => isNrm [Ck.f, Ck.f, Ck.f, Ck.f] (f0 i)) && (allB fun i => isNrm [Ck.f] (f1 i))) && (eqT s3 s2)) && (eqT s4 s2)) && (eqT s11 s2)) (V_mass_sum_v3_L0.mk s10 (fL f1 0))) none
theorem F_mass_sum_v3_L0_ok : ∀ s ch, F_mass_sum_v3_L0 s = some ch → AllI s ch ∧ LoopSpec Tryz.prog false 0 (subC [1, 1, 0, 1, 0, 0] (codeOf Tryz.f34)) s (sel ch) := by
  intro s ch h
  unfold F_mass_sum_v3_L0 at h
  obtain ⟨hl, h0⟩ := cond_some h rfl
  clear h
  obtain ⟨hl, hb⟩ := and_beq2 hl
  obtain ⟨t0, e0, h1⟩ := tkTops_some h0
  obtain ⟨e, t1, rfl, h2⟩ := tkCons_some h1
  obtain ⟨l2, l3, rfl, h3⟩ := tkFunc_some h2
  obtain ⟨rfl, h4⟩ := tkNil_some h3
  obtain ⟨M, t4, rfl, h5⟩ := tkCons_some h4
  obtain ⟨l5, rfl, h6⟩ := tkVptr_some h5
  obtain ⟨Y, t6, rfl, h7⟩ := tkCons_some h6
  obtain ⟨s0, rfl, h8⟩ := tkF_some h7
  obtain ⟨R, t7, rfl, h9⟩ := tkCons_some h8
  obtain ⟨s1, rfl, h10⟩ := tkF_some h9
  obtain ⟨rfl, h11⟩ := tkNil_some h10
  obtain ⟨rfl, h12⟩ := tkNil_some h11
  obtain ⟨t8, rfl, h13⟩ := tkTops_some h12
  obtain ⟨X, t9, rfl, h14⟩ := tkCons_some h13
  obtain ⟨s2, s3, rfl, h15⟩ := tkLst_some h14
  obtain ⟨t10, rfl, h16⟩ := tkTops_some h15
  obtain ⟨ad, t11, rfl, h17⟩ := tkCons_some h16
  obtain ⟨s4, f0, rfl, h18⟩ := tkView_some h17
  obtain ⟨af, t12, rfl, h19⟩ := tkCons_some h18
  obtain ⟨s9, rfl, h20⟩ := tkI_some h19
  obtain ⟨ai, t13, rfl, h21⟩ := tkCons_some h20
  obtain ⟨s10, rfl, h22⟩ := tkI_some h21
  obtain ⟨t14, rfl, h23⟩ := tkTops_some h22
  obtain ⟨rfl, h24⟩ := tkNil_some h23
  obtain ⟨b15, t15, eH, h25⟩ := tkCons_some h24
  obtain ⟨s11, f1, rfl, h26⟩ := tkSym_some h25
  obtain ⟨rfl, h27⟩ := tkNil_some h26
  refine Fam.spec menv89_ok (fam_mass_sum_v3_L0 s0 s1 s2 (fL f0 0) (fL f0 1) (fL f0 2) (fL f0 3) s9) (phs := phs_mass_sum_v3_L0) (hl.trans (by kernel_rfl)) (hb.trans (by kernel_rfl)) ?_ ?_ h27
  · rw [← hdr_alH cts_mass_sum_v3_L0 (s.H ++ List.map phan phs_mass_sum_v3_L0), eH]; kernel_rfl
  · intro hq
    simp only [Bool.and_eq_true] at hq
    obtain ⟨⟨⟨⟨hq0, hq1⟩, hq2⟩, hq3⟩, hq4⟩ := hq
    have n0 := nrm_fun hq0
    have n1 := nrm_fun hq1
    have hx := eqT_eq hq2; subst s3
    have hx := eqT_eq hq3; subst s4
    have hx := eqT_eq hq4; subst s11
    show sh_mass_sum_v3_L0 s0 s1 s2 (fL f0 0) (fL f0 1) (fL f0 2) (fL f0 3) s9 (V_mass_sum_v3_L0.mk s10 (fL f1 0)) = (alL tpl_mass_sum_v3_L0 s.tm, alH cts_mass_sum_v3_L0 (s.H ++ List.map phan phs_mass_sum_v3_L0))
    rw [e0, eH]
    refine Eq.trans (show sh_mass_sum_v3_L0 s0 s1 s2 (fL f0 0) (fL f0 1) (fL f0 2) (fL f0 3) s9 (V_mass_sum_v3_L0.mk s10 (fL f1 0)) = T_mass_sum_v3_L0 s0 s1 s2 (fL f0 0) (fL f0 1) (fL f0 2) (fL f0 3) s9 (V_mass_sum_v3_L0.mk s10 (fL f1 0)) (fun i => mkN [Ck.f, Ck.f, Ck.f, Ck.f] (f0 i) 0) (fun i => mkN [Ck.f] (f1 i) 0) by kernel_rfl) ?_
    rw [n0, n1]
    kernel_rfl
theorem ann_mass_sum_v3 : FnOk Tryz.prog false 0 Tryz.f34 (Ann.two Ann.no (Ann.two Ann.no (Ann.two (Ann.two Ann.no (Ann.one (Ann.loop F_mass_sum_v3_L0))) Ann.no))) := (fnOk_of (c := codeOf Tryz.f34) (by kernel_rfl) (annSeq (a := (subC [0] (codeOf Tryz.f34))) (b := (subC [1] (codeOf Tryz.f34))) (by kernel_rfl) (annNo (subC [0] (codeOf Tryz.f34))) (annSeq (a := (subC [1, 0] (codeOf Tryz.f34))) (b := (subC [1, 1] (codeOf Tryz.f34))) (by kernel_rfl) (annNo (subC [1, 0] (codeOf Tryz.f34))) (annSeq (a := (subC [1, 1, 0] (codeOf Tryz.f34))) (b := (subC [1, 1, 1] (codeOf Tryz.f34))) (by kernel_rfl) (annSeq (a := (subC [1, 1, 0, 0] (codeOf Tryz.f34))) (b := (subC [1, 1, 0, 1] (codeOf Tryz.f34))) (by kernel_rfl) (annNo (subC [1, 1, 0, 0] (codeOf Tryz.f34))) (annBlock (a := (subC [1, 1, 0, 1, 0] (codeOf Tryz.f34))) (i := 0) (by kernel_rfl) (annLoop (a := (subC [1, 1, 0, 1, 0, 0] (codeOf Tryz.f34))) (by kernel_rfl) F_mass_sum_v3_L0_ok))) (annNo (subC [1, 1, 1] (codeOf Tryz.f34)))))))
def s_mass_sum_v3_0 (g : Nat) (n p G E : Nat → Nat) (e u : Nat) : Nat := (s_num_Sum_0 g ((L_mass_sum_v3_L0 e u g n p G E (Int.ofNat g) (V_mass_sum_v3_L0.mk (0 : Int) (fun j0 => 0))).v1))
def q_mass_sum_v3 (g : Nat) (n p G E : Nat → Nat) (e u : Nat) : Bool := (((Nat.ble g g) && ((allB fun _ => true) && (o_num_Sum g ((L_mass_sum_v3_L0 e u g n p G E (Int.ofNat g) (V_mass_sum_v3_L0.mk (0 : Int) (fun j0 => 0))).v1)))) && (((ile (Int.ofNat g) (Int.ofNat g)) && ((ile ((8 : Int) * (Int.ofNat g)) (281474976710656 : Int)) && (ile (Int.ofNat g) (9223372036854775807 : Int)))) && ((((((allB fun _ => true) && (allB fun _ => true)) && (eqT g g)) && (eqT g g)) && (eqT g g)) && (E_mass_sum_v3_L0 e u g n p G E (Int.ofNat g) (V_mass_sum_v3_L0.mk (0 : Int) (fun j0 => 0))))))
theorem e_mass_sum_v3 (g : Nat) (n p G E : Nat → Nat) (e u : Nat) : outB (evFnM Tryz.prog false menv89 [] [] 96 (Ann.two Ann.no (Ann.two Ann.no (Ann.two (Ann.two Ann.no (Ann.one (Ann.loop F_mass_sum_v3_L0))) Ann.no))) Tryz.f34 [AV.view g 4 (fun i0 => [AV.float (n i0), AV.float (p i0), AV.float (G i0), AV.float (E i0)]), AV.func 38 [] [AV.vptr [AV.float e, AV.float u]]] []) = some (q_mass_sum_v3 g n p G E e u, AV.float (s_mass_sum_v3_0 g n p G E e u)) := by kernel_rfl
def o_mass_sum_v3 (g : Nat) (n p G E : Nat → Nat) (e u : Nat) : Bool := (((Nat.ble g g) && (o_num_Sum g ((L_mass_sum_v3_L0 e u g n p G E (Int.ofNat g) (V_mass_sum_v3_L0.mk (0 : Int) (fun j0 => 0))).v1))) && (((ile (Int.ofNat g) (Int.ofNat g)) && ((ile ((8 : Int) * (Int.ofNat g)) (281474976710656 : Int)) && (ile (Int.ofNat g) (9223372036854775807 : Int)))) && (E_mass_sum_v3_L0 e u g n p G E (Int.ofNat g) (V_mass_sum_v3_L0.mk (0 : Int) (fun j0 => 0)))))
def S_mass_sum_v3 : List AV → Option (Ob × AV)
  | [AV.view g 4 t, AV.func 38 [] [AV.vptr [AV.float e, AV.float u]]] => some (Ob.both (Ob.bit (allB fun i => isNrm [Ck.f, Ck.f, Ck.f, Ck.f] (t i))) (Ob.bit (o_mass_sum_v3 g (fL t 0) (fL t 1) (fL t 2) (fL t 3) e u)), AV.float (s_mass_sum_v3_0 g (fL t 0) (fL t 1) (fL t 2) (fL t 3) e u))
  | _ => none
theorem ob_mass_sum_v3 (g : Nat) (n p G E : Nat → Nat) (e u : Nat) (ho : o_mass_sum_v3 g n p G E e u = true) : q_mass_sum_v3 g n p G E e u = true := by
  unfold q_mass_sum_v3
  unfold o_mass_sum_v3 at ho
  simp only [allB_true, eqT_self, mrgB_self, Bool.true_and, Bool.and_true] at ho ⊢
  exact ho
theorem t_mass_sum_v3 : SOkM Tryz.prog false (34, fun args => match S_mass_sum_v3 args with | some (o, v) => some (o, v, []) | none => none) := SOkM.flat (N := 96) menv89_ok Tryz.func34 ann_mass_sum_v3 Tryz.call34 fun args o v h ho => by
  unfold S_mass_sum_v3 at h
  split at h
  · rename_i g t e u
    cases h
    rw [Ob.both_ok, Bool.and_eq_true] at ho
    obtain ⟨hn, ho2⟩ := ho
    have n0 := hn
    simp only [Ob.ok] at n0
    replace n0 := nrm_fun n0
    have this := show outB (evFnM Tryz.prog false menv89 [] [] 96 (Ann.two Ann.no (Ann.two Ann.no (Ann.two (Ann.two Ann.no (Ann.one (Ann.loop F_mass_sum_v3_L0))) Ann.no))) Tryz.f34 [AV.view g 4 (fun i => mkN [Ck.f, Ck.f, Ck.f, Ck.f] (t i) 0), AV.func 38 [] [AV.vptr [AV.float e, AV.float u]]] []) = _ from e_mass_sum_v3 g (fL t 0) (fL t 1) (fL t 2) (fL t 3) e u
    rw [(ob_mass_sum_v3 g (fL t 0) (fL t 1) (fL t 2) (fL t 3) e u ho2)] at this
    rw [n0] at this
    exact ⟨this, rfl⟩
  · cases h
def c_mass_sum_v3 : SFM := altS (fun args => match S_mass_sum_v3 args with | some (o, v) => some (o, v, []) | none => none) (c_mass_sum_v2)
theorem c_mass_sum_v3_ok : SOkM Tryz.prog false (34, c_mass_sum_v3) := (SOkM.alt t_mass_sum_v3 c_mass_sum_v2_ok)
def mss86 : List (FuncId × SFM) := (34, c_mass_sum_v3) :: mss85
def menv90 : EnvM := mkEnvM mxs mss86 mws5
theorem mss86_ok : All (SOkM Tryz.prog false) mss86 := All.cons c_mass_sum_v3_ok mss85_ok
theorem menv90_ok : menv90.Ok Tryz.prog false := mkEnvM_ok mxs_ok mss86_ok mws5_ok
-- tumble/mass.Join
-- a loop of tumble/mass.Join
structure V_mass_Join_L0 where
  v0 : Int
def tpl_mass_Join_L0 : List AV := (AV.nul :: AV.top :: AV.nul :: tpA 13 (AV.nul :: AV.nul :: AV.nul :: tpA 46 ([])))
def cts_mass_Join_L0 : List CT := [CT.keep]
def phs_mass_Join_L0 : List Src := []
def T_mass_Join_L0 (j : Nat) (m l r C : Nat → Nat) (D : Int) (x : V_mass_Join_L0) (F0 F1 : Nat → List AV) : List AV × Heap := ((AV.view j 4 F0 :: AV.top :: AV.ptr (some ⟨0, 0, .lit 0⟩) :: tpA 13 (AV.view j 4 F1 :: AV.int .i64 D :: AV.int .i64 x.v0 :: tpA 46 ([]))), [⟨.flat [AV.float 0, AV.float 0, AV.float 0, AV.float 0], 31, 0⟩])
def sh_mass_Join_L0 (j : Nat) (m l r C : Nat → Nat) (D : Int) (x : V_mass_Join_L0) : List AV × Heap := T_mass_Join_L0 j m l r C D x (fun j0 => [AV.float (m j0), AV.float (l j0), AV.float (r j0), AV.float (C j0)]) (fun j0 => [AV.float (m j0), AV.float (l j0), AV.float (r j0), AV.float (C j0)])
def step_mass_Join_L0 (j : Nat) (m l r C : Nat → Nat) (D : Int) (x : V_mass_Join_L0) : V_mass_Join_L0 := V_mass_Join_L0.mk (IntKind.wrap .i64 (x.v0 + (1 : Int)))
def go_mass_Join_L0 (j : Nat) (m l r C : Nat → Nat) (D : Int) (x : V_mass_Join_L0) : Bool := (bif (bif (!(ilt x.v0 D)) then false else (!(ieq (s_mass_Check_0 (m (Int.toNat x.v0)) (l (Int.toNat x.v0)) (r (Int.toNat x.v0)) (C (Int.toNat x.v0))) (0 : Int)))) then false else (bif (!(ilt x.v0 D)) then false else true))
def ok_mass_Join_L0 (j : Nat) (m l r C : Nat → Nat) (D : Int) (x : V_mass_Join_L0) : Bool := (mrgB (bif (!(ilt x.v0 D)) then false else (!(ieq (s_mass_Check_0 (m (Int.toNat x.v0)) (l (Int.toNat x.v0)) (r (Int.toNat x.v0)) (C (Int.toNat x.v0))) (0 : Int)))) ((ile (0 : Int) x.v0) && (Nat.blt (Int.toNat x.v0) j)) (mrgB (!(ilt x.v0 D)) true ((ile (0 : Int) x.v0) && (Nat.blt (Int.toNat x.v0) j))))
def L_mass_Join_L0 (j : Nat) (m l r C : Nat → Nat) (D : Int) (x : V_mass_Join_L0) : V_mass_Join_L0 := lastL (ok_mass_Join_L0 j m l r C D) (go_mass_Join_L0 j m l r C D) (step_mass_Join_L0 j m l r C D) x
def E_mass_Join_L0 (j : Nat) (m l r C : Nat → Nat) (D : Int) (x : V_mass_Join_L0) : Bool := endsL (ok_mass_Join_L0 j m l r C D) (go_mass_Join_L0 j m l r C D) (step_mass_Join_L0 j m l r C D) x
theorem all_mass_Join_L0 (j : Nat) (m l r C : Nat → Nat) (D : Int) (x : V_mass_Join_L0) : rnd Tryz.prog false menv90 [] [] 96 Ann.no (subC [1, 1, 0, 1, 0, 0] (codeOf Tryz.f15)) 0 [⟨some 0, 0, 0, []⟩] tpl_mass_Join_L0 cts_mass_Join_L0 (false :: true :: false :: tpB 13 (false :: false :: tpB 47 ([]))) [true] (sh_mass_Join_L0 j m l r C D x) = (true, true, go_mass_Join_L0 j m l r C D x, ok_mass_Join_L0 j m l r C D x, true, sh_mass_Join_L0 j m l r C D (step_mass_Join_L0 j m l r C D x), true) := by kernel_rfl
def fam_mass_Join_L0 (j : Nat) (m l r C : Nat → Nat) (D : Int) : Fam Tryz.prog false menv90 [] [] 96 0 Ann.no (subC [1, 1, 0, 1, 0, 0] (codeOf Tryz.f15)) V_mass_Join_L0 where
  sh := sh_mass_Join_L0 j m l r C D
  ok := ok_mass_Join_L0 j m l r C D
  go := go_mass_Join_L0 j m l r C D
  step := step_mass_Join_L0 j m l r C D
  chg := (false :: true :: false :: tpB 13 (false :: false :: tpB 47 ([])))
  chgH := [true]
  tpl := tpl_mass_Join_L0
  cts := cts_mass_Join_L0
  keep := 0
  srcs := [⟨some 0, 0, 0, []⟩]
  ann := (annNo (subC [1, 1, 0, 1, 0, 0] (codeOf Tryz.f15)))
  le := by kernel_rfl
  kept := by kernel_rfl
  keptB := by kernel_rfl
  all := all_mass_Join_L0 j m l r C D
  len := fun x => by kernel_rfl
  head := fun x y => by kernel_rfl
  con := fun x y => by kernel_rfl
  conH := fun x y => by kernel_rfl
def F_mass_Join_L0 : St → Option Ch := fun s => cond (Nat.beq s.tm.length 65 && Nat.beq s.H.length 1) (tkCons (alL tpl_mass_Join_L0 s.tm) fun d t0 => tkView 4 d fun s0 f0 => tkTops 1 t0 fun t1 => tkCons t1 fun u t2 => tkPtr 0 0 0 u <| tkTops 13 t2 fun t3 => tkCons t3 fun M t4 => tkView 4 M fun s5 f1 => tkCons t4 fun P t5 => tkI .i64 P fun s10 => tkCons t5 fun Y t6 => tkI .i64 Y fun s11 => tkTops 46 t6 fun t7 => tkNil t7 <| tkCons (alH cts_mass_Join_L0 (s.H ++ List.map phan phs_mass_Join_L0)) fun b8 t8 => tkFlat 31 0 b8 fun m8 => tkCons m8 fun X t9 => tkFL 0 X <| tkCons t9 fun ae t10 => tkFL 0 ae <| tkCons t10 fun ad t11 => tkFL 0 ad <| tkCons t11 fun af t12 => tkFL 0 af <| tkNil t12 <| tkNil t8 <| Fam.out (fam_mass_Join_L0 s0 (fL f0 0) (fL f0 1) (fL f0 2) (fL f0 3) s10) s (((allB fun i => isNrm [Ck.f, Ck.f, Ck.f, Ck.f] (f0 i)) && (eqT f1 f0)) && (eqT s5 s0)) (V_mass_Join_L0.mk s11)) none
theorem F_mass_Join_L0_ok : ∀ s ch, F_mass_Join_L0 s = some ch → AllI s ch ∧ LoopSpec Tryz.prog false 0 (subC [1, 1, 0, 1, 0, 0] (codeOf Tryz.f15)) s (sel ch) := by
  intro s ch h
  unfold F_mass_Join_L0 at h
  obtain ⟨hl, h0⟩ := cond_some h rfl
  clear h
  obtain ⟨hl, hb⟩ := and_beq2 hl
  obtain ⟨d, t0, e0, h1⟩ := tkCons_some h0
  obtain ⟨s0, f0, rfl, h2⟩ := tkView_some h1
  obtain ⟨t1, rfl, h3⟩ := tkTops_some h2
  obtain ⟨u, t2, rfl, h4⟩ := tkCons_some h3
  obtain ⟨rfl, h5⟩ := tkPtr_some h4
  obtain ⟨t3, rfl, h6⟩ := tkTops_some h5
  obtain ⟨M, t4, rfl, h7⟩ := tkCons_some h6
  obtain ⟨s5, f1, rfl, h8⟩ := tkView_some h7
  obtain ⟨P, t5, rfl, h9⟩ := tkCons_some h8
  obtain ⟨s10, rfl, h10⟩ := tkI_some h9
  obtain ⟨Y, t6, rfl, h11⟩ := tkCons_some h10
  obtain ⟨s11, rfl, h12⟩ := tkI_some h11
  obtain ⟨t7, rfl, h13⟩ := tkTops_some h12
  obtain ⟨rfl, h14⟩ := tkNil_some h13
  obtain ⟨b8, t8, eH, h15⟩ := tkCons_some h14
  obtain ⟨m8, rfl, h16⟩ := tkFlat_some h15
  obtain ⟨X, t9, rfl, h17⟩ := tkCons_some h16
  obtain ⟨rfl, h18⟩ := tkFL_some h17
  obtain ⟨ae, t10, rfl, h19⟩ := tkCons_some h18
  obtain ⟨rfl, h20⟩ := tkFL_some h19
  obtain ⟨ad, t11, rfl, h21⟩ := tkCons_some h20
  obtain ⟨rfl, h22⟩ := tkFL_some h21
  obtain ⟨af, t12, rfl, h23⟩ := tkCons_some h22
  obtain ⟨rfl, h24⟩ := tkFL_some h23
  obtain ⟨rfl, h25⟩ := tkNil_some h24
  obtain ⟨rfl, h26⟩ := tkNil_some h25
  refine Fam.spec menv90_ok (fam_mass_Join_L0 s0 (fL f0 0) (fL f0 1) (fL f0 2) (fL f0 3) s10) (phs := phs_mass_Join_L0) (hl.trans (by kernel_rfl)) (hb.trans (by kernel_rfl)) ?_ ?_ h26
  · rw [← hdr_alH cts_mass_Join_L0 (s.H ++ List.map phan phs_mass_Join_L0), eH]; kernel_rfl
  · intro hq
    simp only [Bool.and_eq_true] at hq
    obtain ⟨⟨hq0, hq1⟩, hq2⟩ := hq
    have n0 := nrm_fun hq0
    have hx := eqT_eq hq1; subst f1
    have hx := eqT_eq hq2; subst s5
    show sh_mass_Join_L0 s0 (fL f0 0) (fL f0 1) (fL f0 2) (fL f0 3) s10 (V_mass_Join_L0.mk s11) = (alL tpl_mass_Join_L0 s.tm, alH cts_mass_Join_L0 (s.H ++ List.map phan phs_mass_Join_L0))
    rw [e0, eH]
    refine Eq.trans (show sh_mass_Join_L0 s0 (fL f0 0) (fL f0 1) (fL f0 2) (fL f0 3) s10 (V_mass_Join_L0.mk s11) = T_mass_Join_L0 s0 (fL f0 0) (fL f0 1) (fL f0 2) (fL f0 3) s10 (V_mass_Join_L0.mk s11) (fun i => mkN [Ck.f, Ck.f, Ck.f, Ck.f] (f0 i) 0) (fun i => mkN [Ck.f, Ck.f, Ck.f, Ck.f] (f0 i) 0) by kernel_rfl) ?_
    rw [n0]
    kernel_rfl
theorem ann_mass_Join : FnOk Tryz.prog false 0 Tryz.f15 (Ann.two Ann.no (Ann.two Ann.no (Ann.two (Ann.two Ann.no (Ann.one (Ann.loop F_mass_Join_L0))) Ann.no))) := (fnOk_of (c := codeOf Tryz.f15) (by kernel_rfl) (annSeq (a := (subC [0] (codeOf Tryz.f15))) (b := (subC [1] (codeOf Tryz.f15))) (by kernel_rfl) (annNo (subC [0] (codeOf Tryz.f15))) (annSeq (a := (subC [1, 0] (codeOf Tryz.f15))) (b := (subC [1, 1] (codeOf Tryz.f15))) (by kernel_rfl) (annNo (subC [1, 0] (codeOf Tryz.f15))) (annSeq (a := (subC [1, 1, 0] (codeOf Tryz.f15))) (b := (subC [1, 1, 1] (codeOf Tryz.f15))) (by kernel_rfl) (annSeq (a := (subC [1, 1, 0, 0] (codeOf Tryz.f15))) (b := (subC [1, 1, 0, 1] (codeOf Tryz.f15))) (by kernel_rfl) (annNo (subC [1, 1, 0, 0] (codeOf Tryz.f15))) (annBlock (a := (subC [1, 1, 0, 1, 0] (codeOf Tryz.f15))) (i := 0) (by kernel_rfl) (annLoop (a := (subC [1, 1, 0, 1, 0, 0] (codeOf Tryz.f15))) (by kernel_rfl) F_mass_Join_L0_ok))) (annNo (subC [1, 1, 1] (codeOf Tryz.f15)))))))
def s_mass_Join_0 (g : Nat) (n p G E : Nat → Nat) : Nat := let x0 := s_mass_sum_0 g n p G E; let x1 := fdiv (s_mass_sum_v2_0 g n p G E) x0; let x2 := fdiv (s_mass_sum_v1_0 g n p G E) x0; let x3 := ieq (Int.ofNat g) (0 : Int); let x4 := (L_mass_Join_L0 g n p G E (Int.ofNat g) (V_mass_Join_L0.mk (0 : Int))).v0; let x5 := Int.toNat x4; (bif (ilt (16384 : Int) (Int.ofNat g)) then 0 else (bif (bif (!(ilt x4 (Int.ofNat g))) then false else (!(ieq (s_mass_Check_0 (n x5) (p x5) (G x5) (E x5)) (0 : Int)))) then 0 else (bif (x3 || (ieq (Int.ofNat g) (1 : Int))) then (bif x3 then 0 else (n 0)) else (bif (feq x0 0) then 0 else (s_mass_checked_0 x0 (s_mass_sum_v3_0 g n p G E x2 x1) x2 x1)))))
def s_mass_Join_1 (g : Nat) (n p G E : Nat → Nat) : Nat := let x0 := s_mass_sum_0 g n p G E; let x1 := fdiv (s_mass_sum_v2_0 g n p G E) x0; let x2 := fdiv (s_mass_sum_v1_0 g n p G E) x0; let x3 := ieq (Int.ofNat g) (0 : Int); let x4 := (L_mass_Join_L0 g n p G E (Int.ofNat g) (V_mass_Join_L0.mk (0 : Int))).v0; let x5 := Int.toNat x4; (bif (ilt (16384 : Int) (Int.ofNat g)) then 0 else (bif (bif (!(ilt x4 (Int.ofNat g))) then false else (!(ieq (s_mass_Check_0 (n x5) (p x5) (G x5) (E x5)) (0 : Int)))) then 0 else (bif (x3 || (ieq (Int.ofNat g) (1 : Int))) then (bif x3 then 0 else (p 0)) else (bif (feq x0 0) then 0 else (s_mass_checked_1 x0 (s_mass_sum_v3_0 g n p G E x2 x1) x2 x1)))))
def s_mass_Join_2 (g : Nat) (n p G E : Nat → Nat) : Nat := let x0 := s_mass_sum_0 g n p G E; let x1 := fdiv (s_mass_sum_v2_0 g n p G E) x0; let x2 := fdiv (s_mass_sum_v1_0 g n p G E) x0; let x3 := ieq (Int.ofNat g) (0 : Int); let x4 := (L_mass_Join_L0 g n p G E (Int.ofNat g) (V_mass_Join_L0.mk (0 : Int))).v0; let x5 := Int.toNat x4; (bif (ilt (16384 : Int) (Int.ofNat g)) then 0 else (bif (bif (!(ilt x4 (Int.ofNat g))) then false else (!(ieq (s_mass_Check_0 (n x5) (p x5) (G x5) (E x5)) (0 : Int)))) then 0 else (bif (x3 || (ieq (Int.ofNat g) (1 : Int))) then (bif x3 then 0 else (G 0)) else (bif (feq x0 0) then 0 else (s_mass_checked_2 x0 (s_mass_sum_v3_0 g n p G E x2 x1) x2 x1)))))
def s_mass_Join_3 (g : Nat) (n p G E : Nat → Nat) : Nat := let x0 := s_mass_sum_0 g n p G E; let x1 := fdiv (s_mass_sum_v2_0 g n p G E) x0; let x2 := fdiv (s_mass_sum_v1_0 g n p G E) x0; let x3 := ieq (Int.ofNat g) (0 : Int); let x4 := (L_mass_Join_L0 g n p G E (Int.ofNat g) (V_mass_Join_L0.mk (0 : Int))).v0; let x5 := Int.toNat x4; (bif (ilt (16384 : Int) (Int.ofNat g)) then 0 else (bif (bif (!(ilt x4 (Int.ofNat g))) then false else (!(ieq (s_mass_Check_0 (n x5) (p x5) (G x5) (E x5)) (0 : Int)))) then 0 else (bif (x3 || (ieq (Int.ofNat g) (1 : Int))) then (bif x3 then 0 else (E 0)) else (bif (feq x0 0) then 0 else (s_mass_checked_3 x0 (s_mass_sum_v3_0 g n p G E x2 x1) x2 x1)))))
def s_mass_Join_4 (g : Nat) (n p G E : Nat → Nat) : Int := let x0 := s_mass_sum_0 g n p G E; let x1 := fdiv (s_mass_sum_v2_0 g n p G E) x0; let x2 := fdiv (s_mass_sum_v1_0 g n p G E) x0; let x3 := ieq (Int.ofNat g) (0 : Int); let x4 := (L_mass_Join_L0 g n p G E (Int.ofNat g) (V_mass_Join_L0.mk (0 : Int))).v0; let x5 := Int.toNat x4; let x6 := s_mass_Check_0 (n x5) (p x5) (G x5) (E x5); (bif (ilt (16384 : Int) (Int.ofNat g)) then (4 : Int) else (bif (bif (!(ilt x4 (Int.ofNat g))) then false else (!(ieq x6 (0 : Int)))) then x6 else (bif (x3 || (ieq (Int.ofNat g) (1 : Int))) then (bif x3 then (0 : Int) else (0 : Int)) else (bif (feq x0 0) then (0 : Int) else (s_mass_checked_4 x0 (s_mass_sum_v3_0 g n p G E x2 x1) x2 x1)))))
def q_mass_Join (g : Nat) (n p G E : Nat → Nat) : Bool := (let x0 := (((allB fun _ => true) && (eqT (fun i => [AV.float (n i), AV.float (p i), AV.float (G i), AV.float (E i)]) (fun i => [AV.float (n i), AV.float (p i), AV.float (G i), AV.float (E i)]))) && (eqT g g)) && (E_mass_Join_L0 g n p G E (Int.ofNat g) (V_mass_Join_L0.mk (0 : Int))); let x1 := ((allB fun _ => true) && (o_mass_sum g n p G E)) && x0; let x2 := s_mass_sum_0 g n p G E; let x3 := ieq (Int.ofNat g) (0 : Int); let x4 := (L_mass_Join_L0 g n p G E (Int.ofNat g) (V_mass_Join_L0.mk (0 : Int))).v0; let x5 := Int.toNat x4; (mrgB (ilt (16384 : Int) (Int.ofNat g)) true (mrgB (bif (!(ilt x4 (Int.ofNat g))) then false else (!(ieq (s_mass_Check_0 (n x5) (p x5) (G x5) (E x5)) (0 : Int)))) x0 (mrgB (x3 || (ieq (Int.ofNat g) (1 : Int))) (mrgB x3 x0 ((Nat.blt 0 g) && x0)) (mrgB (feq x2 0) x1 (((allB fun _ => true) && (o_mass_sum_v3 g n p G E (fdiv (s_mass_sum_v1_0 g n p G E) x2) (fdiv (s_mass_sum_v2_0 g n p G E) x2))) && (((allB fun _ => true) && (o_mass_sum_v2 g n p G E)) && (((allB fun _ => true) && (o_mass_sum_v1 g n p G E)) && x1))))))))
theorem e_mass_Join (g : Nat) (n p G E : Nat → Nat) : outB (evFnM Tryz.prog false menv90 [] [] 96 (Ann.two Ann.no (Ann.two Ann.no (Ann.two (Ann.two Ann.no (Ann.one (Ann.loop F_mass_Join_L0))) Ann.no))) Tryz.f15 [AV.view g 4 (fun i0 => [AV.float (n i0), AV.float (p i0), AV.float (G i0), AV.float (E i0)])] []) = some (q_mass_Join g n p G E, AV.tup [AV.agg [AV.float (s_mass_Join_0 g n p G E), AV.float (s_mass_Join_1 g n p G E), AV.float (s_mass_Join_2 g n p G E), AV.float (s_mass_Join_3 g n p G E)], AV.int .i64 (s_mass_Join_4 g n p G E)]) := by kernel_rfl
def o_mass_Join (g : Nat) (n p G E : Nat → Nat) : Bool := let x0 := E_mass_Join_L0 g n p G E (Int.ofNat g) (V_mass_Join_L0.mk (0 : Int)); let x1 := (o_mass_sum g n p G E) && x0; let x2 := s_mass_sum_0 g n p G E; let x3 := ieq (Int.ofNat g) (0 : Int); let x4 := (L_mass_Join_L0 g n p G E (Int.ofNat g) (V_mass_Join_L0.mk (0 : Int))).v0; let x5 := Int.toNat x4; (mrgB (ilt (16384 : Int) (Int.ofNat g)) true (mrgB (bif (!(ilt x4 (Int.ofNat g))) then false else (!(ieq (s_mass_Check_0 (n x5) (p x5) (G x5) (E x5)) (0 : Int)))) x0 (mrgB (x3 || (ieq (Int.ofNat g) (1 : Int))) (mrgB x3 x0 ((Nat.blt 0 g) && x0)) (mrgB (feq x2 0) x1 ((o_mass_sum_v3 g n p G E (fdiv (s_mass_sum_v1_0 g n p G E) x2) (fdiv (s_mass_sum_v2_0 g n p G E) x2)) && ((o_mass_sum_v2 g n p G E) && ((o_mass_sum_v1 g n p G E) && x1)))))))
def S_mass_Join : List AV → Option (Ob × AV)
  | [AV.view g 4 t] => some (Ob.both (Ob.bit (allB fun i => isNrm [Ck.f, Ck.f, Ck.f, Ck.f] (t i))) (Ob.bit (o_mass_Join g (fL t 0) (fL t 1) (fL t 2) (fL t 3))), AV.tup [AV.agg [AV.float (s_mass_Join_0 g (fL t 0) (fL t 1) (fL t 2) (fL t 3)), AV.float (s_mass_Join_1 g (fL t 0) (fL t 1) (fL t 2) (fL t 3)), AV.float (s_mass_Join_2 g (fL t 0) (fL t 1) (fL t 2) (fL t 3)), AV.float (s_mass_Join_3 g (fL t 0) (fL t 1) (fL t 2) (fL t 3))], AV.int .i64 (s_mass_Join_4 g (fL t 0) (fL t 1) (fL t 2) (fL t 3))])
  | _ => none
theorem ob_mass_Join (g : Nat) (n p G E : Nat → Nat) (ho : o_mass_Join g n p G E = true) : q_mass_Join g n p G E = true := by
  unfold q_mass_Join
  unfold o_mass_Join at ho
  simp only [allB_true, eqT_self, mrgB_self, Bool.true_and, Bool.and_true] at ho ⊢
  exact ho
theorem t_mass_Join : SOkM Tryz.prog false (15, fun args => match S_mass_Join args with | some (o, v) => some (o, v, []) | none => none) := SOkM.flat (N := 96) menv90_ok Tryz.func15 ann_mass_Join Tryz.call15 fun args o v h ho => by
  unfold S_mass_Join at h
  split at h
  · rename_i g t
    cases h
    rw [Ob.both_ok, Bool.and_eq_true] at ho
    obtain ⟨hn, ho2⟩ := ho
    have n0 := hn
    simp only [Ob.ok] at n0
    replace n0 := nrm_fun n0
    have this := show outB (evFnM Tryz.prog false menv90 [] [] 96 (Ann.two Ann.no (Ann.two Ann.no (Ann.two (Ann.two Ann.no (Ann.one (Ann.loop F_mass_Join_L0))) Ann.no))) Tryz.f15 [AV.view g 4 (fun i => mkN [Ck.f, Ck.f, Ck.f, Ck.f] (t i) 0)] []) = _ from e_mass_Join g (fL t 0) (fL t 1) (fL t 2) (fL t 3)
    rw [(ob_mass_Join g (fL t 0) (fL t 1) (fL t 2) (fL t 3) ho2)] at this
    rw [n0] at this
    exact ⟨this, rfl⟩
  · cases h
def c_mass_Join : SFM := fun args => match S_mass_Join args with | some (o, v) => some (o, v, []) | none => none
theorem c_mass_Join_ok : SOkM Tryz.prog false (15, c_mass_Join) := t_mass_Join
def mss87 : List (FuncId × SFM) := (15, c_mass_Join) :: mss86
def menv91 : EnvM := mkEnvM mxs mss87 mws5
theorem mss87_ok : All (SOkM Tryz.prog false) mss87 := All.cons c_mass_Join_ok mss86_ok
theorem menv91_ok : menv91.Ok Tryz.prog false := mkEnvM_ok mxs_ok mss87_ok mws5_ok
-- tumble/mass.Parts
-- a loop of tumble/mass.Parts
structure V_mass_Parts_L0 where
  v0 : Nat
  v1 : Int
  v2 : (Nat → Nat)
  v3 : (Nat → Nat)
  v4 : (Nat → Nat)
  v5 : (Nat → Nat)
def tpl_mass_Parts_L0 : List AV := (AV.top :: AV.top :: AV.nul :: AV.top :: AV.lst 1 0 4 0 0 :: tpA 8 (AV.nul :: AV.nul :: AV.nul :: tpA 27 ([])))
def cts_mass_Parts_L0 : List CT := [CT.keep, CT.keep]
def phs_mass_Parts_L0 : List Src := [⟨none, 0, 31, [AV.float 0, AV.float 0, AV.float 0, AV.float 0]⟩]
def T_mass_Parts_L0 (j : Nat) (m : Nat → Int) (l r : Nat → Nat) (C : (Nat → (Nat → Nat))) (D : (Nat → (Nat → Nat))) (F I L : Nat → Nat) (K : Nat → Bool) (ab ac : Nat → Int) (S : Int) (x : V_mass_Parts_L0) (F0 F1 : Nat → List AV) : List AV × Heap := ((AV.top :: AV.top :: AV.ptr (some ⟨0, 0, .lit 0⟩) :: AV.top :: AV.lst 1 0 4 x.v0 x.v0 :: tpA 8 (AV.view j 9 F0 :: AV.int .i64 S :: AV.int .i64 x.v1 :: tpA 27 ([]))), [⟨.flat [AV.float 0, AV.float 0, AV.float 0, AV.float 0], 31, 0⟩, ⟨.sym x.v0 4 F1, 31, 0⟩])
def sh_mass_Parts_L0 (j : Nat) (m : Nat → Int) (l r : Nat → Nat) (C : (Nat → (Nat → Nat))) (D : (Nat → (Nat → Nat))) (F I L : Nat → Nat) (K : Nat → Bool) (ab ac : Nat → Int) (S : Int) (x : V_mass_Parts_L0) : List AV × Heap := T_mass_Parts_L0 j m l r C D F I L K ab ac S x (fun j1 => [AV.int .u8 (m j1), AV.float (l j1), AV.view (r j1) 2 (fun j0 => [AV.float ((C j1) j0), AV.float ((D j1) j0)]), AV.float (F j1), AV.float (I j1), AV.float (L j1), AV.bool (K j1), AV.int .u16 (ab j1), AV.int .u16 (ac j1)]) (fun j0 => [AV.float (x.v2 j0), AV.float (x.v3 j0), AV.float (x.v4 j0), AV.float (x.v5 j0)])
def step_mass_Parts_L0 (j : Nat) (m : Nat → Int) (l r : Nat → Nat) (C : (Nat → (Nat → Nat))) (D : (Nat → (Nat → Nat))) (F : Nat → Nat) (K : Nat → Bool) (S : Int) (x : V_mass_Parts_L0) : V_mass_Parts_L0 := V_mass_Parts_L0.mk (csame (!(K (Int.toNat x.v1))) (x.v0 + 1) x.v0) (IntKind.wrap .i64 (x.v1 + (1 : Int))) (fun j0 => (bif (!(K (Int.toNat x.v1))) then (bif (Nat.blt j0 x.v0) then (x.v2 j0) else (s_mass_Of_0 (m (Int.toNat x.v1)) (l (Int.toNat x.v1)) (r (Int.toNat x.v1)) (C (Int.toNat x.v1)) (D (Int.toNat x.v1)) (F (Int.toNat x.v1)))) else (x.v2 j0))) (fun j0 => (bif (!(K (Int.toNat x.v1))) then (bif (Nat.blt j0 x.v0) then (x.v3 j0) else (s_mass_Of_1 (m (Int.toNat x.v1)) (l (Int.toNat x.v1)) (r (Int.toNat x.v1)) (C (Int.toNat x.v1)) (D (Int.toNat x.v1)) (F (Int.toNat x.v1)))) else (x.v3 j0))) (fun j0 => (bif (!(K (Int.toNat x.v1))) then (bif (Nat.blt j0 x.v0) then (x.v4 j0) else (s_mass_Of_2 (m (Int.toNat x.v1)) (l (Int.toNat x.v1)) (r (Int.toNat x.v1)) (C (Int.toNat x.v1)) (D (Int.toNat x.v1)) (F (Int.toNat x.v1)))) else (x.v4 j0))) (fun j0 => (bif (!(K (Int.toNat x.v1))) then (bif (Nat.blt j0 x.v0) then (x.v5 j0) else (s_mass_Of_3 (m (Int.toNat x.v1)) (l (Int.toNat x.v1)) (r (Int.toNat x.v1)) (C (Int.toNat x.v1)) (D (Int.toNat x.v1)) (F (Int.toNat x.v1)))) else (x.v5 j0)))
def go_mass_Parts_L0 (j : Nat) (m : Nat → Int) (l r : Nat → Nat) (C : (Nat → (Nat → Nat))) (D : (Nat → (Nat → Nat))) (F : Nat → Nat) (K : Nat → Bool) (S : Int) (x : V_mass_Parts_L0) : Bool := (bif (bif (!(ilt x.v1 S)) then false else (!(ieq (s_mass_Of_4 (m (Int.toNat x.v1)) (l (Int.toNat x.v1)) (r (Int.toNat x.v1)) (C (Int.toNat x.v1)) (D (Int.toNat x.v1)) (F (Int.toNat x.v1))) (0 : Int)))) then false else (bif (!(ilt x.v1 S)) then false else true))
def ok_mass_Parts_L0 (j : Nat) (m : Nat → Int) (l r : Nat → Nat) (C : (Nat → (Nat → Nat))) (D : (Nat → (Nat → Nat))) (F : Nat → Nat) (K : Nat → Bool) (S : Int) (x : V_mass_Parts_L0) : Bool := let x0 := F (Int.toNat x.v1); let x1 : (Nat → Nat) := (D (Int.toNat x.v1)); let x2 : (Nat → Nat) := (C (Int.toNat x.v1)); let x3 := r (Int.toNat x.v1); let x4 := l (Int.toNat x.v1); let x5 := m (Int.toNat x.v1); let x6 := ((allB fun _ => true) && (o_mass_Of x5 x4 x3 x2 x1 x0)) && ((ile (0 : Int) x.v1) && (Nat.blt (Int.toNat x.v1) j)); let x7 := !(ilt x.v1 S); (mrgB (bif x7 then false else (!(ieq (s_mass_Of_4 x5 x4 x3 x2 x1 x0) (0 : Int)))) x6 (mrgB x7 true (mrgB (!(K (Int.toNat x.v1))) (((Nat.ble x.v0 x.v0) && (Nat.ble ((x.v0 + 1) * 32) 140737488355328)) && x6) x6)))
def L_mass_Parts_L0 (j : Nat) (m : Nat → Int) (l r : Nat → Nat) (C : (Nat → (Nat → Nat))) (D : (Nat → (Nat → Nat))) (F : Nat → Nat) (K : Nat → Bool) (S : Int) (x : V_mass_Parts_L0) : V_mass_Parts_L0 := lastL (ok_mass_Parts_L0 j m l r C D F K S) (go_mass_Parts_L0 j m l r C D F K S) (step_mass_Parts_L0 j m l r C D F K S) x
def E_mass_Parts_L0 (j : Nat) (m : Nat → Int) (l r : Nat → Nat) (C : (Nat → (Nat → Nat))) (D : (Nat → (Nat → Nat))) (F : Nat → Nat) (K : Nat → Bool) (S : Int) (x : V_mass_Parts_L0) : Bool := endsL (ok_mass_Parts_L0 j m l r C D F K S) (go_mass_Parts_L0 j m l r C D F K S) (step_mass_Parts_L0 j m l r C D F K S) x
theorem all_mass_Parts_L0 (j : Nat) (m : Nat → Int) (l r : Nat → Nat) (C : (Nat → (Nat → Nat))) (D : (Nat → (Nat → Nat))) (F I L : Nat → Nat) (K : Nat → Bool) (ab ac : Nat → Int) (S : Int) (x : V_mass_Parts_L0) : rnd Tryz.prog false menv91 [] [] 96 Ann.no (subC [1, 1, 1, 0, 1, 0, 0] (codeOf Tryz.f11)) 0 [⟨some 0, 0, 0, []⟩, ⟨some 1, 0, 0, []⟩] tpl_mass_Parts_L0 cts_mass_Parts_L0 (true :: true :: false :: tpB 10 (false :: false :: tpB 28 ([]))) [true] (sh_mass_Parts_L0 j m l r C D F I L K ab ac S x) = (true, true, go_mass_Parts_L0 j m l r C D F K S x, ok_mass_Parts_L0 j m l r C D F K S x, true, sh_mass_Parts_L0 j m l r C D F I L K ab ac S (step_mass_Parts_L0 j m l r C D F K S x), true) := by kernel_rfl
def fam_mass_Parts_L0 (j : Nat) (m : Nat → Int) (l r : Nat → Nat) (C : (Nat → (Nat → Nat))) (D : (Nat → (Nat → Nat))) (F I L : Nat → Nat) (K : Nat → Bool) (ab ac : Nat → Int) (S : Int) : Fam Tryz.prog false menv91 [] [] 96 0 Ann.no (subC [1, 1, 1, 0, 1, 0, 0] (codeOf Tryz.f11)) V_mass_Parts_L0 where
  sh := sh_mass_Parts_L0 j m l r C D F I L K ab ac S
  ok := ok_mass_Parts_L0 j m l r C D F K S
  go := go_mass_Parts_L0 j m l r C D F K S
  step := step_mass_Parts_L0 j m l r C D F K S
  chg := (true :: true :: false :: tpB 10 (false :: false :: tpB 28 ([])))
  chgH := [true]
  tpl := tpl_mass_Parts_L0
  cts := cts_mass_Parts_L0
  keep := 0
  srcs := [⟨some 0, 0, 0, []⟩, ⟨some 1, 0, 0, []⟩]
  ann := (annNo (subC [1, 1, 1, 0, 1, 0, 0] (codeOf Tryz.f11)))
  le := by kernel_rfl
  kept := by kernel_rfl
  keptB := by kernel_rfl
  all := all_mass_Parts_L0 j m l r C D F I L K ab ac S
  len := fun x => by kernel_rfl
  head := fun x y => by kernel_rfl
  con := fun x y => by kernel_rfl
  conH := fun x y => by kernel_rfl
def F_mass_Parts_L0 : St → Option Ch := fun s => cond (Nat.beq s.tm.length 43 && Nat.beq s.H.length 1) (tkTops 2 (alL tpl_mass_Parts_L0 s.tm) fun t0 => tkCons t0 fun e t1 => tkPtr 0 0 0 e <| tkTops 1 t1 fun t2 => tkCons t2 fun k t3 => tkLst 1 0 4 k fun s0 s1 => tkTops 8 t3 fun t4 => tkCons t4 fun P t5 => tkView 9 P fun s2 f0 => tkCons t5 fun Y t6 => tkI .i64 Y fun s14 => tkCons t6 fun R t7 => tkI .i64 R fun s15 => tkTops 27 t7 fun t8 => tkNil t8 <| tkCons (alH cts_mass_Parts_L0 (s.H ++ List.map phan phs_mass_Parts_L0)) fun b9 t9 => tkFlat 31 0 b9 fun m9 => tkCons m9 fun ae t10 => tkFL 0 ae <| tkCons t10 fun ad t11 => tkFL 0 ad <| tkCons t11 fun af t12 => tkFL 0 af <| tkCons t12 fun ai t13 => tkFL 0 ai <| tkNil t13 <| tkCons t9 fun b14 t14 => tkSym 31 0 4 b14 fun s20 f1 => tkNil t14 <| Fam.out (fam_mass_Parts_L0 s2 (iL f0 0) (fL f0 1) (fun i => lnO (atL (f0 i) 2)) (fun i => fun k6 => flO (atL (vwO (atL (f0 i) 2) k6) 0)) (fun i => fun k6 => flO (atL (vwO (atL (f0 i) 2) k6) 1)) (fL f0 3) (fL f0 4) (fL f0 5) (fun i => blO (atL (f0 i) 6)) (iL f0 7) (iL f0 8) s14) s ((((allB fun i => isNrm [Ck.i .u8, Ck.f, Ck.v [Ck.f, Ck.f], Ck.f, Ck.f, Ck.f, Ck.b, Ck.i .u16, Ck.i .u16] (f0 i)) && (allB fun i => isNrm [Ck.f, Ck.f, Ck.f, Ck.f] (f1 i))) && (eqT s1 s0)) && (eqT s20 s0)) (V_mass_Parts_L0.mk s0 s15 (fL f1 0) (fL f1 1) (fL f1 2) (fL f1 3))) none
theorem F_mass_Parts_L0_ok : ∀ s ch, F_mass_Parts_L0 s = some ch → AllI s ch ∧ LoopSpec Tryz.prog false 0 (subC [1, 1, 1, 0, 1, 0, 0] (codeOf Tryz.f11)) s (sel ch) := by
  intro s ch h
  unfold F_mass_Parts_L0 at h
  obtain ⟨hl, h0⟩ := cond_some h rfl
  clear h
  obtain ⟨hl, hb⟩ := and_beq2 hl
  obtain ⟨t0, e0, h1⟩ := tkTops_some h0
  obtain ⟨e, t1, rfl, h2⟩ := tkCons_some h1
  obtain ⟨rfl, h3⟩ := tkPtr_some h2
  obtain ⟨t2, rfl, h4⟩ := tkTops_some h3
  obtain ⟨k, t3, rfl, h5⟩ := tkCons_some h4
  obtain ⟨s0, s1, rfl, h6⟩ := tkLst_some h5
  obtain ⟨t4, rfl, h7⟩ := tkTops_some h6
  obtain ⟨P, t5, rfl, h8⟩ := tkCons_some h7
  obtain ⟨s2, f0, rfl, h9⟩ := tkView_some h8
  obtain ⟨Y, t6, rfl, h10⟩ := tkCons_some h9
  obtain ⟨s14, rfl, h11⟩ := tkI_some h10
  obtain ⟨R, t7, rfl, h12⟩ := tkCons_some h11
  obtain ⟨s15, rfl, h13⟩ := tkI_some h12
  obtain ⟨t8, rfl, h14⟩ := tkTops_some h13
  obtain ⟨rfl, h15⟩ := tkNil_some h14
  obtain ⟨b9, t9, eH, h16⟩ := tkCons_some h15
  obtain ⟨m9, rfl, h17⟩ := tkFlat_some h16
  obtain ⟨ae, t10, rfl, h18⟩ := tkCons_some h17
  obtain ⟨rfl, h19⟩ := tkFL_some h18
  obtain ⟨ad, t11, rfl, h20⟩ := tkCons_some h19
  obtain ⟨rfl, h21⟩ := tkFL_some h20
  obtain ⟨af, t12, rfl, h22⟩ := tkCons_some h21
  obtain ⟨rfl, h23⟩ := tkFL_some h22
  obtain ⟨ai, t13, rfl, h24⟩ := tkCons_some h23
  obtain ⟨rfl, h25⟩ := tkFL_some h24
  obtain ⟨rfl, h26⟩ := tkNil_some h25
  obtain ⟨b14, t14, rfl, h27⟩ := tkCons_some h26
  obtain ⟨s20, f1, rfl, h28⟩ := tkSym_some h27
  obtain ⟨rfl, h29⟩ := tkNil_some h28
  refine Fam.spec menv91_ok (fam_mass_Parts_L0 s2 (iL f0 0) (fL f0 1) (fun i => lnO (atL (f0 i) 2)) (fun i => fun k6 => flO (atL (vwO (atL (f0 i) 2) k6) 0)) (fun i => fun k6 => flO (atL (vwO (atL (f0 i) 2) k6) 1)) (fL f0 3) (fL f0 4) (fL f0 5) (fun i => blO (atL (f0 i) 6)) (iL f0 7) (iL f0 8) s14) (phs := phs_mass_Parts_L0) (hl.trans (by kernel_rfl)) (hb.trans (by kernel_rfl)) ?_ ?_ h29
  · rw [← hdr_alH cts_mass_Parts_L0 (s.H ++ List.map phan phs_mass_Parts_L0), eH]; kernel_rfl
  · intro hq
    simp only [Bool.and_eq_true] at hq
    obtain ⟨⟨⟨hq0, hq1⟩, hq2⟩, hq3⟩ := hq
    have n0 := nrm_fun hq0
    have n1 := nrm_fun hq1
    have hx := eqT_eq hq2; subst s1
    have hx := eqT_eq hq3; subst s20
    show sh_mass_Parts_L0 s2 (iL f0 0) (fL f0 1) (fun i => lnO (atL (f0 i) 2)) (fun i => fun k6 => flO (atL (vwO (atL (f0 i) 2) k6) 0)) (fun i => fun k6 => flO (atL (vwO (atL (f0 i) 2) k6) 1)) (fL f0 3) (fL f0 4) (fL f0 5) (fun i => blO (atL (f0 i) 6)) (iL f0 7) (iL f0 8) s14 (V_mass_Parts_L0.mk s0 s15 (fL f1 0) (fL f1 1) (fL f1 2) (fL f1 3)) = (alL tpl_mass_Parts_L0 s.tm, alH cts_mass_Parts_L0 (s.H ++ List.map phan phs_mass_Parts_L0))
    rw [e0, eH]
    refine Eq.trans (show sh_mass_Parts_L0 s2 (iL f0 0) (fL f0 1) (fun i => lnO (atL (f0 i) 2)) (fun i => fun k6 => flO (atL (vwO (atL (f0 i) 2) k6) 0)) (fun i => fun k6 => flO (atL (vwO (atL (f0 i) 2) k6) 1)) (fL f0 3) (fL f0 4) (fL f0 5) (fun i => blO (atL (f0 i) 6)) (iL f0 7) (iL f0 8) s14 (V_mass_Parts_L0.mk s0 s15 (fL f1 0) (fL f1 1) (fL f1 2) (fL f1 3)) = T_mass_Parts_L0 s2 (iL f0 0) (fL f0 1) (fun i => lnO (atL (f0 i) 2)) (fun i => fun k6 => flO (atL (vwO (atL (f0 i) 2) k6) 0)) (fun i => fun k6 => flO (atL (vwO (atL (f0 i) 2) k6) 1)) (fL f0 3) (fL f0 4) (fL f0 5) (fun i => blO (atL (f0 i) 6)) (iL f0 7) (iL f0 8) s14 (V_mass_Parts_L0.mk s0 s15 (fL f1 0) (fL f1 1) (fL f1 2) (fL f1 3)) (fun i => mkN [Ck.i .u8, Ck.f, Ck.v [Ck.f, Ck.f], Ck.f, Ck.f, Ck.f, Ck.b, Ck.i .u16, Ck.i .u16] (f0 i) 0) (fun i => mkN [Ck.f, Ck.f, Ck.f, Ck.f] (f1 i) 0) by kernel_rfl) ?_
    rw [n0, n1]
    kernel_rfl
theorem ann_mass_Parts : FnOk Tryz.prog false 0 Tryz.f11 (Ann.two Ann.no (Ann.two Ann.no (Ann.two Ann.no (Ann.two (Ann.two Ann.no (Ann.one (Ann.loop F_mass_Parts_L0))) Ann.no)))) := (fnOk_of (c := codeOf Tryz.f11) (by kernel_rfl) (annSeq (a := (subC [0] (codeOf Tryz.f11))) (b := (subC [1] (codeOf Tryz.f11))) (by kernel_rfl) (annNo (subC [0] (codeOf Tryz.f11))) (annSeq (a := (subC [1, 0] (codeOf Tryz.f11))) (b := (subC [1, 1] (codeOf Tryz.f11))) (by kernel_rfl) (annNo (subC [1, 0] (codeOf Tryz.f11))) (annSeq (a := (subC [1, 1, 0] (codeOf Tryz.f11))) (b := (subC [1, 1, 1] (codeOf Tryz.f11))) (by kernel_rfl) (annNo (subC [1, 1, 0] (codeOf Tryz.f11))) (annSeq (a := (subC [1, 1, 1, 0] (codeOf Tryz.f11))) (b := (subC [1, 1, 1, 1] (codeOf Tryz.f11))) (by kernel_rfl) (annSeq (a := (subC [1, 1, 1, 0, 0] (codeOf Tryz.f11))) (b := (subC [1, 1, 1, 0, 1] (codeOf Tryz.f11))) (by kernel_rfl) (annNo (subC [1, 1, 1, 0, 0] (codeOf Tryz.f11))) (annBlock (a := (subC [1, 1, 1, 0, 1, 0] (codeOf Tryz.f11))) (i := 0) (by kernel_rfl) (annLoop (a := (subC [1, 1, 1, 0, 1, 0, 0] (codeOf Tryz.f11))) (by kernel_rfl) F_mass_Parts_L0_ok))) (annNo (subC [1, 1, 1, 1] (codeOf Tryz.f11))))))))
def s_mass_Parts_0 (g : Nat) (n : Nat → Int) (p O : Nat → Nat) (a0_2_0 : Nat → Nat → Nat) (a0_2_1 : Nat → Nat → Nat) (E T U : Nat → Nat) (Q : Nat → Bool) (V W : Nat → Int) : Nat := let x0 : V_mass_Parts_L0 := (L_mass_Parts_L0 g n p O a0_2_0 a0_2_1 E Q (Int.ofNat g) (V_mass_Parts_L0.mk 0 (0 : Int) (fun j0 => 0) (fun j0 => 0) (fun j0 => 0) (fun j0 => 0))); let x1 := x0.v1; let x2 := Int.toNat x1; (bif (ilt (8 : Int) (Int.ofNat g)) then 0 else (bif (bif (!(ilt x1 (Int.ofNat g))) then false else (!(ieq (s_mass_Of_4 (n x2) (p x2) (O x2) (a0_2_0 x2) (a0_2_1 x2) (E x2)) (0 : Int)))) then 0 else (s_mass_Join_0 (x0.v0) (x0.v2) (x0.v3) (x0.v4) (x0.v5))))
def s_mass_Parts_1 (g : Nat) (n : Nat → Int) (p O : Nat → Nat) (a0_2_0 : Nat → Nat → Nat) (a0_2_1 : Nat → Nat → Nat) (E T U : Nat → Nat) (Q : Nat → Bool) (V W : Nat → Int) : Nat := let x0 : V_mass_Parts_L0 := (L_mass_Parts_L0 g n p O a0_2_0 a0_2_1 E Q (Int.ofNat g) (V_mass_Parts_L0.mk 0 (0 : Int) (fun j0 => 0) (fun j0 => 0) (fun j0 => 0) (fun j0 => 0))); let x1 := x0.v1; let x2 := Int.toNat x1; (bif (ilt (8 : Int) (Int.ofNat g)) then 0 else (bif (bif (!(ilt x1 (Int.ofNat g))) then false else (!(ieq (s_mass_Of_4 (n x2) (p x2) (O x2) (a0_2_0 x2) (a0_2_1 x2) (E x2)) (0 : Int)))) then 0 else (s_mass_Join_1 (x0.v0) (x0.v2) (x0.v3) (x0.v4) (x0.v5))))
def s_mass_Parts_2 (g : Nat) (n : Nat → Int) (p O : Nat → Nat) (a0_2_0 : Nat → Nat → Nat) (a0_2_1 : Nat → Nat → Nat) (E T U : Nat → Nat) (Q : Nat → Bool) (V W : Nat → Int) : Nat := let x0 : V_mass_Parts_L0 := (L_mass_Parts_L0 g n p O a0_2_0 a0_2_1 E Q (Int.ofNat g) (V_mass_Parts_L0.mk 0 (0 : Int) (fun j0 => 0) (fun j0 => 0) (fun j0 => 0) (fun j0 => 0))); let x1 := x0.v1; let x2 := Int.toNat x1; (bif (ilt (8 : Int) (Int.ofNat g)) then 0 else (bif (bif (!(ilt x1 (Int.ofNat g))) then false else (!(ieq (s_mass_Of_4 (n x2) (p x2) (O x2) (a0_2_0 x2) (a0_2_1 x2) (E x2)) (0 : Int)))) then 0 else (s_mass_Join_2 (x0.v0) (x0.v2) (x0.v3) (x0.v4) (x0.v5))))
def s_mass_Parts_3 (g : Nat) (n : Nat → Int) (p O : Nat → Nat) (a0_2_0 : Nat → Nat → Nat) (a0_2_1 : Nat → Nat → Nat) (E T U : Nat → Nat) (Q : Nat → Bool) (V W : Nat → Int) : Nat := let x0 : V_mass_Parts_L0 := (L_mass_Parts_L0 g n p O a0_2_0 a0_2_1 E Q (Int.ofNat g) (V_mass_Parts_L0.mk 0 (0 : Int) (fun j0 => 0) (fun j0 => 0) (fun j0 => 0) (fun j0 => 0))); let x1 := x0.v1; let x2 := Int.toNat x1; (bif (ilt (8 : Int) (Int.ofNat g)) then 0 else (bif (bif (!(ilt x1 (Int.ofNat g))) then false else (!(ieq (s_mass_Of_4 (n x2) (p x2) (O x2) (a0_2_0 x2) (a0_2_1 x2) (E x2)) (0 : Int)))) then 0 else (s_mass_Join_3 (x0.v0) (x0.v2) (x0.v3) (x0.v4) (x0.v5))))
def s_mass_Parts_4 (g : Nat) (n : Nat → Int) (p O : Nat → Nat) (a0_2_0 : Nat → Nat → Nat) (a0_2_1 : Nat → Nat → Nat) (E T U : Nat → Nat) (Q : Nat → Bool) (V W : Nat → Int) : Int := let x0 : V_mass_Parts_L0 := (L_mass_Parts_L0 g n p O a0_2_0 a0_2_1 E Q (Int.ofNat g) (V_mass_Parts_L0.mk 0 (0 : Int) (fun j0 => 0) (fun j0 => 0) (fun j0 => 0) (fun j0 => 0))); let x1 := x0.v1; let x2 := Int.toNat x1; let x3 := s_mass_Of_4 (n x2) (p x2) (O x2) (a0_2_0 x2) (a0_2_1 x2) (E x2); (bif (ilt (8 : Int) (Int.ofNat g)) then (4 : Int) else (bif (bif (!(ilt x1 (Int.ofNat g))) then false else (!(ieq x3 (0 : Int)))) then x3 else (s_mass_Join_4 (x0.v0) (x0.v2) (x0.v3) (x0.v4) (x0.v5))))
def q_mass_Parts (g : Nat) (n : Nat → Int) (p O : Nat → Nat) (a0_2_0 : Nat → Nat → Nat) (a0_2_1 : Nat → Nat → Nat) (E T U : Nat → Nat) (Q : Nat → Bool) (V W : Nat → Int) : Bool := (let x0 := ((((allB fun _ => ((allB fun _ => true) && true)) && (allB fun _ => true)) && (eqT 0 0)) && (eqT 0 0)) && (E_mass_Parts_L0 g n p O a0_2_0 a0_2_1 E Q (Int.ofNat g) (V_mass_Parts_L0.mk 0 (0 : Int) (fun j0 => 0) (fun j0 => 0) (fun j0 => 0) (fun j0 => 0))); let x1 : V_mass_Parts_L0 := (L_mass_Parts_L0 g n p O a0_2_0 a0_2_1 E Q (Int.ofNat g) (V_mass_Parts_L0.mk 0 (0 : Int) (fun j0 => 0) (fun j0 => 0) (fun j0 => 0) (fun j0 => 0))); let x2 := x1.v0; let x3 := x1.v1; let x4 := Int.toNat x3; (mrgB (ilt (8 : Int) (Int.ofNat g)) true (mrgB (bif (!(ilt x3 (Int.ofNat g))) then false else (!(ieq (s_mass_Of_4 (n x4) (p x4) (O x4) (a0_2_0 x4) (a0_2_1 x4) (E x4)) (0 : Int)))) x0 (((Nat.ble x2 x2) && ((allB fun _ => true) && (o_mass_Join x2 (x1.v2) (x1.v3) (x1.v4) (x1.v5)))) && x0))))
def r_mass_Parts (g : Nat) (n : Nat → Int) (p O : Nat → Nat) (a0_2_0 : Nat → Nat → Nat) (a0_2_1 : Nat → Nat → Nat) (E T U : Nat → Nat) (Q : Nat → Bool) (V W : Nat → Int) : AV := AV.tup [AV.agg [AV.float (s_mass_Parts_0 g n p O a0_2_0 a0_2_1 E T U Q V W), AV.float (s_mass_Parts_1 g n p O a0_2_0 a0_2_1 E T U Q V W), AV.float (s_mass_Parts_2 g n p O a0_2_0 a0_2_1 E T U Q V W), AV.float (s_mass_Parts_3 g n p O a0_2_0 a0_2_1 E T U Q V W)], AV.int .i64 (s_mass_Parts_4 g n p O a0_2_0 a0_2_1 E T U Q V W)]
theorem e_mass_Parts (g : Nat) (n : Nat → Int) (p O : Nat → Nat) (a0_2_0 : Nat → Nat → Nat) (a0_2_1 : Nat → Nat → Nat) (E T U : Nat → Nat) (Q : Nat → Bool) (V W : Nat → Int) : outB (evFnM Tryz.prog false menv91 [] [] 96 (Ann.two Ann.no (Ann.two Ann.no (Ann.two Ann.no (Ann.two (Ann.two Ann.no (Ann.one (Ann.loop F_mass_Parts_L0))) Ann.no)))) Tryz.f11 [AV.view g 9 (fun i0 => [AV.int .u8 (n i0), AV.float (p i0), AV.view (O i0) 2 (fun i1 => [AV.float (a0_2_0 i0 i1), AV.float (a0_2_1 i0 i1)]), AV.float (E i0), AV.float (T i0), AV.float (U i0), AV.bool (Q i0), AV.int .u16 (V i0), AV.int .u16 (W i0)])] []) = some (q_mass_Parts g n p O a0_2_0 a0_2_1 E T U Q V W, r_mass_Parts g n p O a0_2_0 a0_2_1 E T U Q V W) := by kernel_rfl
def o_mass_Parts (g : Nat) (n : Nat → Int) (p O : Nat → Nat) (a0_2_0 : Nat → Nat → Nat) (a0_2_1 : Nat → Nat → Nat) (E T U : Nat → Nat) (Q : Nat → Bool) (V W : Nat → Int) : Bool := let x0 := E_mass_Parts_L0 g n p O a0_2_0 a0_2_1 E Q (Int.ofNat g) (V_mass_Parts_L0.mk 0 (0 : Int) (fun j0 => 0) (fun j0 => 0) (fun j0 => 0) (fun j0 => 0)); let x1 : V_mass_Parts_L0 := (L_mass_Parts_L0 g n p O a0_2_0 a0_2_1 E Q (Int.ofNat g) (V_mass_Parts_L0.mk 0 (0 : Int) (fun j0 => 0) (fun j0 => 0) (fun j0 => 0) (fun j0 => 0))); let x2 := x1.v0; let x3 := x1.v1; let x4 := Int.toNat x3; (mrgB (ilt (8 : Int) (Int.ofNat g)) true (mrgB (bif (!(ilt x3 (Int.ofNat g))) then false else (!(ieq (s_mass_Of_4 (n x4) (p x4) (O x4) (a0_2_0 x4) (a0_2_1 x4) (E x4)) (0 : Int)))) x0 (((Nat.ble x2 x2) && (o_mass_Join x2 (x1.v2) (x1.v3) (x1.v4) (x1.v5))) && x0)))
def S_mass_Parts : List AV → Option (Ob × AV)
  | [AV.view g 9 t] => some (Ob.both (Ob.bit (allB fun i => isNrm [Ck.i .u8, Ck.f, Ck.v [Ck.f, Ck.f], Ck.f, Ck.f, Ck.f, Ck.b, Ck.i .u16, Ck.i .u16] (t i))) (Ob.bit (o_mass_Parts g (iL t 0) (fL t 1) (fun i0 => (lnO (atL (t i0) 2))) (fun i0 => (fun i1 => (flO (atL (vwO (atL (t i0) 2) i1) 0)))) (fun i0 => (fun i1 => (flO (atL (vwO (atL (t i0) 2) i1) 1)))) (fL t 3) (fL t 4) (fL t 5) (fun i0 => (blO (atL (t i0) 6))) (iL t 7) (iL t 8))), r_mass_Parts g (iL t 0) (fL t 1) (fun i0 => (lnO (atL (t i0) 2))) (fun i0 => (fun i1 => (flO (atL (vwO (atL (t i0) 2) i1) 0)))) (fun i0 => (fun i1 => (flO (atL (vwO (atL (t i0) 2) i1) 1)))) (fL t 3) (fL t 4) (fL t 5) (fun i0 => (blO (atL (t i0) 6))) (iL t 7) (iL t 8))
  | _ => none
theorem ob_mass_Parts (g : Nat) (n : Nat → Int) (p O : Nat → Nat) (a0_2_0 : Nat → Nat → Nat) (a0_2_1 : Nat → Nat → Nat) (E T U : Nat → Nat) (Q : Nat → Bool) (V W : Nat → Int) (ho : o_mass_Parts g n p O a0_2_0 a0_2_1 E T U Q V W = true) : q_mass_Parts g n p O a0_2_0 a0_2_1 E T U Q V W = true := by
  unfold q_mass_Parts
  unfold o_mass_Parts at ho
  simp only [allB_true, eqT_self, mrgB_self, Bool.true_and, Bool.and_true] at ho ⊢
  exact ho
theorem t_mass_Parts : SOkM Tryz.prog false (11, fun args => match S_mass_Parts args with | some (o, v) => some (o, v, []) | none => none) := SOkM.flat (N := 96) menv91_ok Tryz.func11 ann_mass_Parts Tryz.call11 fun args o v h ho => by
  unfold S_mass_Parts at h
  split at h
  · rename_i g t
    unfold r_mass_Parts at h
    cases h
    rw [Ob.both_ok, Bool.and_eq_true] at ho
    obtain ⟨hn, ho2⟩ := ho
    have n0 := hn
    simp only [Ob.ok] at n0
    replace n0 := nrm_fun n0
    have this := show outB (evFnM Tryz.prog false menv91 [] [] 96 (Ann.two Ann.no (Ann.two Ann.no (Ann.two Ann.no (Ann.two (Ann.two Ann.no (Ann.one (Ann.loop F_mass_Parts_L0))) Ann.no)))) Tryz.f11 [AV.view g 9 (fun i => mkN [Ck.i .u8, Ck.f, Ck.v [Ck.f, Ck.f], Ck.f, Ck.f, Ck.f, Ck.b, Ck.i .u16, Ck.i .u16] (t i) 0)] []) = _ from e_mass_Parts g (iL t 0) (fL t 1) (fun i0 => (lnO (atL (t i0) 2))) (fun i0 => (fun i1 => (flO (atL (vwO (atL (t i0) 2) i1) 0)))) (fun i0 => (fun i1 => (flO (atL (vwO (atL (t i0) 2) i1) 1)))) (fL t 3) (fL t 4) (fL t 5) (fun i0 => (blO (atL (t i0) 6))) (iL t 7) (iL t 8)
    rw [(ob_mass_Parts g (iL t 0) (fL t 1) (fun i0 => (lnO (atL (t i0) 2))) (fun i0 => (fun i1 => (flO (atL (vwO (atL (t i0) 2) i1) 0)))) (fun i0 => (fun i1 => (flO (atL (vwO (atL (t i0) 2) i1) 1)))) (fL t 3) (fL t 4) (fL t 5) (fun i0 => (blO (atL (t i0) 6))) (iL t 7) (iL t 8) ho2)] at this
    rw [n0] at this
    exact ⟨this, rfl⟩
  · cases h
def c_mass_Parts : SFM := fun args => match S_mass_Parts args with | some (o, v) => some (o, v, []) | none => none
theorem c_mass_Parts_ok : SOkM Tryz.prog false (11, c_mass_Parts) := t_mass_Parts
def mss88 : List (FuncId × SFM) := (11, c_mass_Parts) :: mss87
def menv92 : EnvM := mkEnvM mxs mss88 mws5
theorem mss88_ok : All (SOkM Tryz.prog false) mss88 := All.cons c_mass_Parts_ok mss87_ok
theorem menv92_ok : menv92.Ok Tryz.prog false := mkEnvM_ok mxs_ok mss88_ok mws5_ok
-- tumble/tumbleref02.Within
theorem ann_ref02_Within : FnOk Tryz.prog false 0 Tryz.f85 Ann.no := (fnNo _)
def s_ref02_Within_0 (d e u : Nat) : Bool := ((fle (fabs d) u) && (fle (fabs e) u))
theorem e_ref02_Within (d e u : Nat) : outB (evFnM Tryz.prog false menv92 [] [] 96 Ann.no Tryz.f85 [AV.agg [AV.float d, AV.float e], AV.float u] []) = some (true, AV.bool (s_ref02_Within_0 d e u)) := by kernel_rfl
def S_ref02_Within : List AV → Option (Ob × AV)
  | [AV.agg [AV.float d, AV.float e], AV.float u] => some (Ob.tt, AV.bool (s_ref02_Within_0 d e u))
  | _ => none
theorem t_ref02_Within : SOkM Tryz.prog false (85, fun args => match S_ref02_Within args with | some (o, v) => some (o, v, []) | none => none) := SOkM.flat (N := 96) menv92_ok Tryz.func85 ann_ref02_Within Tryz.call85 fun args o v h ho => by
  unfold S_ref02_Within at h
  split at h
  · rename_i d e u
    cases h
    have ho2 := ho
    have this := show outB (evFnM Tryz.prog false menv92 [] [] 96 Ann.no Tryz.f85 [AV.agg [AV.float d, AV.float e], AV.float u] []) = _ from e_ref02_Within d e u
    exact ⟨this, rfl⟩
  · cases h
def c_ref02_Within : SFM := fun args => match S_ref02_Within args with | some (o, v) => some (o, v, []) | none => none
theorem c_ref02_Within_ok : SOkM Tryz.prog false (85, c_ref02_Within) := t_ref02_Within
def mss89 : List (FuncId × SFM) := (85, c_ref02_Within) :: mss88
def menv93 : EnvM := mkEnvM mxs mss89 mws5
theorem mss89_ok : All (SOkM Tryz.prog false) mss89 := All.cons c_ref02_Within_ok mss88_ok
theorem menv93_ok : menv93.Ok Tryz.prog false := mkEnvM_ok mxs_ok mss89_ok mws5_ok
-- tumble/tumbleref06.Reals
-- a loop of tumble/tumbleref06.Reals
structure V_ref06_Reals_L0 where
  v0 : Int
def tpl_ref06_Reals_L0 : List AV := (AV.nul :: AV.top :: AV.top :: AV.nul :: tpA 15 ([]))
def cts_ref06_Reals_L0 : List CT := []
def phs_ref06_Reals_L0 : List Src := []
def T_ref06_Reals_L0 (j : Nat) (m l : Nat → Nat) (x : V_ref06_Reals_L0) (F0 : Nat → List AV) : List AV × Heap := ((AV.view j 2 F0 :: AV.top :: AV.top :: AV.int .i64 x.v0 :: tpA 15 ([])), [])
def sh_ref06_Reals_L0 (j : Nat) (m l : Nat → Nat) (x : V_ref06_Reals_L0) : List AV × Heap := T_ref06_Reals_L0 j m l x (fun j0 => [AV.float (m j0), AV.float (l j0)])
def step_ref06_Reals_L0 (j : Nat) (m l : Nat → Nat) (x : V_ref06_Reals_L0) : V_ref06_Reals_L0 := V_ref06_Reals_L0.mk (IntKind.wrap .i64 (x.v0 + (1 : Int)))
def go_ref06_Reals_L0 (j : Nat) (m l : Nat → Nat) (x : V_ref06_Reals_L0) : Bool := (bif (bif (!(ilt x.v0 (Int.ofNat j))) then false else (!(s_ref02_Within_0 (m (Int.toNat x.v0)) (l (Int.toNat x.v0)) 4787326403894837248))) then false else (bif (!(ilt x.v0 (Int.ofNat j))) then false else true))
def ok_ref06_Reals_L0 (j : Nat) (m l : Nat → Nat) (x : V_ref06_Reals_L0) : Bool := (mrgB (bif (!(ilt x.v0 (Int.ofNat j))) then false else (!(s_ref02_Within_0 (m (Int.toNat x.v0)) (l (Int.toNat x.v0)) 4787326403894837248))) ((ile (0 : Int) x.v0) && (Nat.blt (Int.toNat x.v0) j)) (mrgB (!(ilt x.v0 (Int.ofNat j))) true ((ile (0 : Int) x.v0) && (Nat.blt (Int.toNat x.v0) j))))
def L_ref06_Reals_L0 (j : Nat) (m l : Nat → Nat) (x : V_ref06_Reals_L0) : V_ref06_Reals_L0 := lastL (ok_ref06_Reals_L0 j m l) (go_ref06_Reals_L0 j m l) (step_ref06_Reals_L0 j m l) x
def E_ref06_Reals_L0 (j : Nat) (m l : Nat → Nat) (x : V_ref06_Reals_L0) : Bool := endsL (ok_ref06_Reals_L0 j m l) (go_ref06_Reals_L0 j m l) (step_ref06_Reals_L0 j m l) x
theorem all_ref06_Reals_L0 (j : Nat) (m l : Nat → Nat) (x : V_ref06_Reals_L0) : rnd Tryz.prog false menv93 [] [] 96 Ann.no (subC [1, 1, 0, 1, 0, 0] (codeOf Tryz.f80)) 0 [] tpl_ref06_Reals_L0 cts_ref06_Reals_L0 (false :: tpB 18 ([])) [] (sh_ref06_Reals_L0 j m l x) = (true, true, go_ref06_Reals_L0 j m l x, ok_ref06_Reals_L0 j m l x, true, sh_ref06_Reals_L0 j m l (step_ref06_Reals_L0 j m l x), true) := by kernel_rfl
def fam_ref06_Reals_L0 (j : Nat) (m l : Nat → Nat) : Fam Tryz.prog false menv93 [] [] 96 0 Ann.no (subC [1, 1, 0, 1, 0, 0] (codeOf Tryz.f80)) V_ref06_Reals_L0 where
  sh := sh_ref06_Reals_L0 j m l
  ok := ok_ref06_Reals_L0 j m l
  go := go_ref06_Reals_L0 j m l
  step := step_ref06_Reals_L0 j m l
  chg := (false :: tpB 18 ([]))
  chgH := []
  tpl := tpl_ref06_Reals_L0
  cts := cts_ref06_Reals_L0
  keep := 0
  srcs := []
  ann := (annNo (subC [1, 1, 0, 1, 0, 0] (codeOf Tryz.f80)))
  le := by kernel_rfl
  kept := by kernel_rfl
  keptB := by kernel_rfl
  all := all_ref06_Reals_L0 j m l
  len := fun x => by kernel_rfl
  head := fun x y => by kernel_rfl
  con := fun x y => by kernel_rfl
  conH := fun x y => by kernel_rfl
def F_ref06_Reals_L0 : St → Option Ch := fun s => cond (Nat.beq s.tm.length 19 && Nat.beq s.H.length 0) (tkCons (alL tpl_ref06_Reals_L0 s.tm) fun d t0 => tkView 2 d fun s0 f0 => tkTops 2 t0 fun t1 => tkCons t1 fun u t2 => tkI .i64 u fun s3 => tkTops 15 t2 fun t3 => tkNil t3 <| tkNil (alH cts_ref06_Reals_L0 (s.H ++ List.map phan phs_ref06_Reals_L0)) <| Fam.out (fam_ref06_Reals_L0 s0 (fL f0 0) (fL f0 1)) s (allB fun i => isNrm [Ck.f, Ck.f] (f0 i)) (V_ref06_Reals_L0.mk s3)) none
theorem F_ref06_Reals_L0_ok : ∀ s ch, F_ref06_Reals_L0 s = some ch → AllI s ch ∧ LoopSpec Tryz.prog false 0 (subC [1, 1, 0, 1, 0, 0] (codeOf Tryz.f80)) s (sel ch) := by
  intro s ch h
  unfold F_ref06_Reals_L0 at h
  obtain ⟨hl, h0⟩ := cond_some h rfl
  clear h
  obtain ⟨hl, hb⟩ := and_beq2 hl
  obtain ⟨d, t0, e0, h1⟩ := tkCons_some h0
  obtain ⟨s0, f0, rfl, h2⟩ := tkView_some h1
  obtain ⟨t1, rfl, h3⟩ := tkTops_some h2
  obtain ⟨u, t2, rfl, h4⟩ := tkCons_some h3
  obtain ⟨s3, rfl, h5⟩ := tkI_some h4
  obtain ⟨t3, rfl, h6⟩ := tkTops_some h5
  obtain ⟨rfl, h7⟩ := tkNil_some h6
  obtain ⟨eH, h8⟩ := tkNil_some h7
  refine Fam.spec menv93_ok (fam_ref06_Reals_L0 s0 (fL f0 0) (fL f0 1)) (phs := phs_ref06_Reals_L0) (hl.trans (by kernel_rfl)) (hb.trans (by kernel_rfl)) ?_ ?_ h8
  · rw [← hdr_alH cts_ref06_Reals_L0 (s.H ++ List.map phan phs_ref06_Reals_L0), eH]; kernel_rfl
  · intro hq
    have hq0 := hq
    have n0 := nrm_fun hq0
    show sh_ref06_Reals_L0 s0 (fL f0 0) (fL f0 1) (V_ref06_Reals_L0.mk s3) = (alL tpl_ref06_Reals_L0 s.tm, alH cts_ref06_Reals_L0 (s.H ++ List.map phan phs_ref06_Reals_L0))
    rw [e0, eH]
    refine Eq.trans (show sh_ref06_Reals_L0 s0 (fL f0 0) (fL f0 1) (V_ref06_Reals_L0.mk s3) = T_ref06_Reals_L0 s0 (fL f0 0) (fL f0 1) (V_ref06_Reals_L0.mk s3) (fun i => mkN [Ck.f, Ck.f] (f0 i) 0) by kernel_rfl) ?_
    rw [n0]
    kernel_rfl
theorem ann_ref06_Reals : FnOk Tryz.prog false 0 Tryz.f80 (Ann.two Ann.no (Ann.two Ann.no (Ann.two (Ann.two Ann.no (Ann.one (Ann.loop F_ref06_Reals_L0))) Ann.no))) := (fnOk_of (c := codeOf Tryz.f80) (by kernel_rfl) (annSeq (a := (subC [0] (codeOf Tryz.f80))) (b := (subC [1] (codeOf Tryz.f80))) (by kernel_rfl) (annNo (subC [0] (codeOf Tryz.f80))) (annSeq (a := (subC [1, 0] (codeOf Tryz.f80))) (b := (subC [1, 1] (codeOf Tryz.f80))) (by kernel_rfl) (annNo (subC [1, 0] (codeOf Tryz.f80))) (annSeq (a := (subC [1, 1, 0] (codeOf Tryz.f80))) (b := (subC [1, 1, 1] (codeOf Tryz.f80))) (by kernel_rfl) (annSeq (a := (subC [1, 1, 0, 0] (codeOf Tryz.f80))) (b := (subC [1, 1, 0, 1] (codeOf Tryz.f80))) (by kernel_rfl) (annNo (subC [1, 1, 0, 0] (codeOf Tryz.f80))) (annBlock (a := (subC [1, 1, 0, 1, 0] (codeOf Tryz.f80))) (i := 0) (by kernel_rfl) (annLoop (a := (subC [1, 1, 0, 1, 0, 0] (codeOf Tryz.f80))) (by kernel_rfl) F_ref06_Reals_L0_ok))) (annNo (subC [1, 1, 1] (codeOf Tryz.f80)))))))
def s_ref06_Reals_0 (g : Nat) (n p : Nat → Nat) : Int := (bif (ilt (64 : Int) (Int.ofNat g)) then (4 : Int) else (bif (bif (!(ilt ((L_ref06_Reals_L0 g n p (V_ref06_Reals_L0.mk (0 : Int))).v0) (Int.ofNat g))) then false else (!(s_ref02_Within_0 (n (Int.toNat ((L_ref06_Reals_L0 g n p (V_ref06_Reals_L0.mk (0 : Int))).v0))) (p (Int.toNat ((L_ref06_Reals_L0 g n p (V_ref06_Reals_L0.mk (0 : Int))).v0))) 4787326403894837248))) then (5 : Int) else (0 : Int)))
def q_ref06_Reals (g : Nat) (n p : Nat → Nat) : Bool := (mrgB (ilt (64 : Int) (Int.ofNat g)) true (mrgB (bif (!(ilt ((L_ref06_Reals_L0 g n p (V_ref06_Reals_L0.mk (0 : Int))).v0) (Int.ofNat g))) then false else (!(s_ref02_Within_0 (n (Int.toNat ((L_ref06_Reals_L0 g n p (V_ref06_Reals_L0.mk (0 : Int))).v0))) (p (Int.toNat ((L_ref06_Reals_L0 g n p (V_ref06_Reals_L0.mk (0 : Int))).v0))) 4787326403894837248))) ((allB fun _ => true) && (E_ref06_Reals_L0 g n p (V_ref06_Reals_L0.mk (0 : Int)))) ((allB fun _ => true) && (E_ref06_Reals_L0 g n p (V_ref06_Reals_L0.mk (0 : Int))))))
theorem e_ref06_Reals (g : Nat) (n p : Nat → Nat) : outB (evFnM Tryz.prog false menv93 [] [] 96 (Ann.two Ann.no (Ann.two Ann.no (Ann.two (Ann.two Ann.no (Ann.one (Ann.loop F_ref06_Reals_L0))) Ann.no))) Tryz.f80 [AV.view g 2 (fun i0 => [AV.float (n i0), AV.float (p i0)])] []) = some (q_ref06_Reals g n p, AV.int .i64 (s_ref06_Reals_0 g n p)) := by kernel_rfl
def o_ref06_Reals (g : Nat) (n p : Nat → Nat) : Bool := (mrgB (ilt (64 : Int) (Int.ofNat g)) true (mrgB (bif (!(ilt ((L_ref06_Reals_L0 g n p (V_ref06_Reals_L0.mk (0 : Int))).v0) (Int.ofNat g))) then false else (!(s_ref02_Within_0 (n (Int.toNat ((L_ref06_Reals_L0 g n p (V_ref06_Reals_L0.mk (0 : Int))).v0))) (p (Int.toNat ((L_ref06_Reals_L0 g n p (V_ref06_Reals_L0.mk (0 : Int))).v0))) 4787326403894837248))) (E_ref06_Reals_L0 g n p (V_ref06_Reals_L0.mk (0 : Int))) (E_ref06_Reals_L0 g n p (V_ref06_Reals_L0.mk (0 : Int)))))
def S_ref06_Reals : List AV → Option (Ob × AV)
  | [AV.view g 2 t] => some (Ob.both (Ob.bit (allB fun i => isNrm [Ck.f, Ck.f] (t i))) (Ob.bit (o_ref06_Reals g (fL t 0) (fL t 1))), AV.int .i64 (s_ref06_Reals_0 g (fL t 0) (fL t 1)))
  | _ => none
theorem ob_ref06_Reals (g : Nat) (n p : Nat → Nat) (ho : o_ref06_Reals g n p = true) : q_ref06_Reals g n p = true := by
  unfold q_ref06_Reals
  unfold o_ref06_Reals at ho
  simp only [allB_true, eqT_self, mrgB_self, Bool.true_and, Bool.and_true] at ho ⊢
  exact ho
theorem t_ref06_Reals : SOkM Tryz.prog false (80, fun args => match S_ref06_Reals args with | some (o, v) => some (o, v, []) | none => none) := SOkM.flat (N := 96) menv93_ok Tryz.func80 ann_ref06_Reals Tryz.call80 fun args o v h ho => by
  unfold S_ref06_Reals at h
  split at h
  · rename_i g t
    cases h
    rw [Ob.both_ok, Bool.and_eq_true] at ho
    obtain ⟨hn, ho2⟩ := ho
    have n0 := hn
    simp only [Ob.ok] at n0
    replace n0 := nrm_fun n0
    have this := show outB (evFnM Tryz.prog false menv93 [] [] 96 (Ann.two Ann.no (Ann.two Ann.no (Ann.two (Ann.two Ann.no (Ann.one (Ann.loop F_ref06_Reals_L0))) Ann.no))) Tryz.f80 [AV.view g 2 (fun i => mkN [Ck.f, Ck.f] (t i) 0)] []) = _ from e_ref06_Reals g (fL t 0) (fL t 1)
    rw [(ob_ref06_Reals g (fL t 0) (fL t 1) ho2)] at this
    rw [n0] at this
    exact ⟨this, rfl⟩
  · cases h
def c_ref06_Reals : SFM := fun args => match S_ref06_Reals args with | some (o, v) => some (o, v, []) | none => none
theorem c_ref06_Reals_ok : SOkM Tryz.prog false (80, c_ref06_Reals) := t_ref06_Reals
def mss90 : List (FuncId × SFM) := (80, c_ref06_Reals) :: mss89
def menv94 : EnvM := mkEnvM mxs mss90 mws5
theorem mss90_ok : All (SOkM Tryz.prog false) mss90 := All.cons c_ref06_Reals_ok mss89_ok
theorem menv94_ok : menv94.Ok Tryz.prog false := mkEnvM_ok mxs_ok mss90_ok mws5_ok
-- tumble/tumbleref06.next
theorem ann_ref06_next : FnOk Tryz.prog false 0 Tryz.f82 Ann.no := (fnNo _)
def s_ref06_next_0 (g : Nat) (n p : Nat → Nat) (e : Int) : Int := (Int.tmod (IntKind.wrap .i64 (e + (1 : Int))) (Int.ofNat g))
def o_ref06_next (g : Nat) (n p : Nat → Nat) (e : Int) : Bool := (!(ieq (Int.ofNat g) (0 : Int)))
theorem e_ref06_next (g : Nat) (n p : Nat → Nat) (e : Int) : outB (evFnM Tryz.prog false menv94 [] [] 96 Ann.no Tryz.f82 [AV.view g 2 (fun i0 => [AV.float (n i0), AV.float (p i0)]), AV.int .i64 e] []) = some (o_ref06_next g n p e, AV.int .i64 (s_ref06_next_0 g n p e)) := by kernel_rfl
def S_ref06_next : List AV → Option (Ob × AV)
  | [AV.view g 2 t, AV.int .i64 e] => some (Ob.both (Ob.bit (allB fun i => isNrm [Ck.f, Ck.f] (t i))) (Ob.bit (o_ref06_next g (fL t 0) (fL t 1) e)), AV.int .i64 (s_ref06_next_0 g (fL t 0) (fL t 1) e))
  | _ => none
theorem t_ref06_next : SOkM Tryz.prog false (82, fun args => match S_ref06_next args with | some (o, v) => some (o, v, []) | none => none) := SOkM.flat (N := 96) menv94_ok Tryz.func82 ann_ref06_next Tryz.call82 fun args o v h ho => by
  unfold S_ref06_next at h
  split at h
  · rename_i g t e
    cases h
    rw [Ob.both_ok, Bool.and_eq_true] at ho
    obtain ⟨hn, ho2⟩ := ho
    have n0 := hn
    simp only [Ob.ok] at n0
    replace n0 := nrm_fun n0
    have this := show outB (evFnM Tryz.prog false menv94 [] [] 96 Ann.no Tryz.f82 [AV.view g 2 (fun i => mkN [Ck.f, Ck.f] (t i) 0), AV.int .i64 e] []) = _ from e_ref06_next g (fL t 0) (fL t 1) e
    rw [show o_ref06_next g (fL t 0) (fL t 1) e = true from ho2] at this
    rw [n0] at this
    exact ⟨this, rfl⟩
  · cases h
def c_ref06_next : SFM := fun args => match S_ref06_next args with | some (o, v) => some (o, v, []) | none => none
theorem c_ref06_next_ok : SOkM Tryz.prog false (82, c_ref06_next) := t_ref06_next
def mss91 : List (FuncId × SFM) := (82, c_ref06_next) :: mss90
def menv95 : EnvM := mkEnvM mxs mss91 mws5
theorem mss91_ok : All (SOkM Tryz.prog false) mss91 := All.cons c_ref06_next_ok mss90_ok
theorem menv95_ok : menv95.Ok Tryz.prog false := mkEnvM_ok mxs_ok mss91_ok mws5_ok
-- tumble/tumbleref02.Vec
theorem ann_ref02_Vec : FnOk Tryz.prog false 0 Tryz.f68 Ann.no := (fnNo _)
def s_ref02_Vec_0 (d e : Nat) : Nat := d
def s_ref02_Vec_1 (d e : Nat) : Nat := e
theorem e_ref02_Vec (d e : Nat) : outB (evFnM Tryz.prog false menv95 [] [] 96 Ann.no Tryz.f68 [AV.float d, AV.float e] []) = some (true, AV.agg [AV.float (s_ref02_Vec_0 d e), AV.float (s_ref02_Vec_1 d e)]) := by kernel_rfl
def S_ref02_Vec : List AV → Option (Ob × AV)
  | [AV.float d, AV.float e] => some (Ob.tt, AV.agg [AV.float (s_ref02_Vec_0 d e), AV.float (s_ref02_Vec_1 d e)])
  | _ => none
theorem t_ref02_Vec : SOkM Tryz.prog false (68, fun args => match S_ref02_Vec args with | some (o, v) => some (o, v, []) | none => none) := SOkM.flat (N := 96) menv95_ok Tryz.func68 ann_ref02_Vec Tryz.call68 fun args o v h ho => by
  unfold S_ref02_Vec at h
  split at h
  · rename_i d e
    cases h
    have ho2 := ho
    have this := show outB (evFnM Tryz.prog false menv95 [] [] 96 Ann.no Tryz.f68 [AV.float d, AV.float e] []) = _ from e_ref02_Vec d e
    exact ⟨this, rfl⟩
  · cases h
def c_ref02_Vec : SFM := fun args => match S_ref02_Vec args with | some (o, v) => some (o, v, []) | none => none
theorem c_ref02_Vec_ok : SOkM Tryz.prog false (68, c_ref02_Vec) := t_ref02_Vec
def mss92 : List (FuncId × SFM) := (68, c_ref02_Vec) :: mss91
def menv96 : EnvM := mkEnvM mxs mss92 mws5
theorem mss92_ok : All (SOkM Tryz.prog false) mss92 := All.cons c_ref02_Vec_ok mss91_ok
theorem menv96_ok : menv96.Ok Tryz.prog false := mkEnvM_ok mxs_ok mss92_ok mws5_ok
-- tumble/tumbleref02.Sub
theorem ann_ref02_Sub : FnOk Tryz.prog false 0 Tryz.f60 Ann.no := (fnNo _)
def s_ref02_Sub_0 (d e u k : Nat) : Nat := (s_ref02_Vec_0 (fsub d u) (fsub e k))
def s_ref02_Sub_1 (d e u k : Nat) : Nat := (s_ref02_Vec_1 (fsub d u) (fsub e k))
theorem e_ref02_Sub (d e u k : Nat) : outB (evFnM Tryz.prog false menv96 [] [] 96 Ann.no Tryz.f60 [AV.agg [AV.float d, AV.float e], AV.agg [AV.float u, AV.float k]] []) = some (true, AV.agg [AV.float (s_ref02_Sub_0 d e u k), AV.float (s_ref02_Sub_1 d e u k)]) := by kernel_rfl
def S_ref02_Sub : List AV → Option (Ob × AV)
  | [AV.agg [AV.float d, AV.float e], AV.agg [AV.float u, AV.float k]] => some (Ob.tt, AV.agg [AV.float (s_ref02_Sub_0 d e u k), AV.float (s_ref02_Sub_1 d e u k)])
  | _ => none
theorem t_ref02_Sub : SOkM Tryz.prog false (60, fun args => match S_ref02_Sub args with | some (o, v) => some (o, v, []) | none => none) := SOkM.flat (N := 96) menv96_ok Tryz.func60 ann_ref02_Sub Tryz.call60 fun args o v h ho => by
  unfold S_ref02_Sub at h
  split at h
  · rename_i d e u k
    cases h
    have ho2 := ho
    have this := show outB (evFnM Tryz.prog false menv96 [] [] 96 Ann.no Tryz.f60 [AV.agg [AV.float d, AV.float e], AV.agg [AV.float u, AV.float k]] []) = _ from e_ref02_Sub d e u k
    exact ⟨this, rfl⟩
  · cases h
def c_ref02_Sub : SFM := fun args => match S_ref02_Sub args with | some (o, v) => some (o, v, []) | none => none
theorem c_ref02_Sub_ok : SOkM Tryz.prog false (60, c_ref02_Sub) := t_ref02_Sub
def mss93 : List (FuncId × SFM) := (60, c_ref02_Sub) :: mss92
def menv97 : EnvM := mkEnvM mxs mss93 mws5
theorem mss93_ok : All (SOkM Tryz.prog false) mss93 := All.cons c_ref02_Sub_ok mss92_ok
theorem menv97_ok : menv97.Ok Tryz.prog false := mkEnvM_ok mxs_ok mss93_ok mws5_ok
-- tumble/tumbleref06.lead
theorem ann_ref06_lead : FnOk Tryz.prog false 0 Tryz.f87 Ann.no := (fnNo _)
def s_ref06_lead_0 (d e u k : Nat) : Nat := (s_ref02_Sub_0 u k d e)
def s_ref06_lead_1 (d e u k : Nat) : Nat := (s_ref02_Sub_1 u k d e)
theorem e_ref06_lead (d e u k : Nat) : outB (evFnM Tryz.prog false menv97 [] [] 96 Ann.no Tryz.f87 [AV.agg [AV.float d, AV.float e], AV.agg [AV.float u, AV.float k]] []) = some (true, AV.agg [AV.float (s_ref06_lead_0 d e u k), AV.float (s_ref06_lead_1 d e u k)]) := by kernel_rfl
def S_ref06_lead : List AV → Option (Ob × AV)
  | [AV.agg [AV.float d, AV.float e], AV.agg [AV.float u, AV.float k]] => some (Ob.tt, AV.agg [AV.float (s_ref06_lead_0 d e u k), AV.float (s_ref06_lead_1 d e u k)])
  | _ => none
theorem t_ref06_lead : SOkM Tryz.prog false (87, fun args => match S_ref06_lead args with | some (o, v) => some (o, v, []) | none => none) := SOkM.flat (N := 96) menv97_ok Tryz.func87 ann_ref06_lead Tryz.call87 fun args o v h ho => by
  unfold S_ref06_lead at h
  split at h
  · rename_i d e u k
    cases h
    have ho2 := ho
    have this := show outB (evFnM Tryz.prog false menv97 [] [] 96 Ann.no Tryz.f87 [AV.agg [AV.float d, AV.float e], AV.agg [AV.float u, AV.float k]] []) = _ from e_ref06_lead d e u k
    exact ⟨this, rfl⟩
  · cases h
def c_ref06_lead : SFM := fun args => match S_ref06_lead args with | some (o, v) => some (o, v, []) | none => none
theorem c_ref06_lead_ok : SOkM Tryz.prog false (87, c_ref06_lead) := t_ref06_lead
def mss94 : List (FuncId × SFM) := (87, c_ref06_lead) :: mss93
def menv98 : EnvM := mkEnvM mxs mss94 mws5
theorem mss94_ok : All (SOkM Tryz.prog false) mss94 := All.cons c_ref06_lead_ok mss93_ok
theorem menv98_ok : menv98.Ok Tryz.prog false := mkEnvM_ok mxs_ok mss94_ok mws5_ok
-- tumble/tumbleref06.way
theorem ann_ref06_way : FnOk Tryz.prog false 0 Tryz.f81 Ann.no := (fnNo _)
def s_ref06_way_0 (g : Nat) (n p : Nat → Nat) (e : Int) : Nat := (s_ref06_lead_0 (n (Int.toNat e)) (p (Int.toNat e)) (n (Int.toNat (s_ref06_next_0 g n p e))) (p (Int.toNat (s_ref06_next_0 g n p e))))
def s_ref06_way_1 (g : Nat) (n p : Nat → Nat) (e : Int) : Nat := (s_ref06_lead_1 (n (Int.toNat e)) (p (Int.toNat e)) (n (Int.toNat (s_ref06_next_0 g n p e))) (p (Int.toNat (s_ref06_next_0 g n p e))))
theorem e_ref06_way (g : Nat) (n p : Nat → Nat) (e : Int) : outB (evFnM Tryz.prog false menv98 [] [] 96 Ann.no Tryz.f81 [AV.view g 2 (fun i0 => [AV.float (n i0), AV.float (p i0)]), AV.int .i64 e] []) = some ((((ile (0 : Int) (s_ref06_next_0 g n p e)) && (Nat.blt (Int.toNat (s_ref06_next_0 g n p e)) g)) && (((allB fun _ => true) && (!(ieq (Int.ofNat g) (0 : Int)))) && ((ile (0 : Int) e) && (Nat.blt (Int.toNat e) g)))), AV.agg [AV.float (s_ref06_way_0 g n p e), AV.float (s_ref06_way_1 g n p e)]) := by kernel_rfl
def o_ref06_way (g : Nat) (n p : Nat → Nat) (e : Int) : Bool := (((ile (0 : Int) (s_ref06_next_0 g n p e)) && (Nat.blt (Int.toNat (s_ref06_next_0 g n p e)) g)) && ((!(ieq (Int.ofNat g) (0 : Int))) && ((ile (0 : Int) e) && (Nat.blt (Int.toNat e) g))))
def S_ref06_way : List AV → Option (Ob × AV)
  | [AV.view g 2 t, AV.int .i64 e] => some (Ob.both (Ob.bit (allB fun i => isNrm [Ck.f, Ck.f] (t i))) (Ob.bit (o_ref06_way g (fL t 0) (fL t 1) e)), AV.agg [AV.float (s_ref06_way_0 g (fL t 0) (fL t 1) e), AV.float (s_ref06_way_1 g (fL t 0) (fL t 1) e)])
  | _ => none
theorem ob_ref06_way (g : Nat) (n p : Nat → Nat) (e : Int) (ho : o_ref06_way g n p e = true) : (((ile (0 : Int) (s_ref06_next_0 g n p e)) && (Nat.blt (Int.toNat (s_ref06_next_0 g n p e)) g)) && (((allB fun _ => true) && (!(ieq (Int.ofNat g) (0 : Int)))) && ((ile (0 : Int) e) && (Nat.blt (Int.toNat e) g)))) = true := by
  unfold o_ref06_way at ho
  simp only [allB_true, eqT_self, mrgB_self, Bool.true_and, Bool.and_true] at ho ⊢
  exact ho
theorem t_ref06_way : SOkM Tryz.prog false (81, fun args => match S_ref06_way args with | some (o, v) => some (o, v, []) | none => none) := SOkM.flat (N := 96) menv98_ok Tryz.func81 ann_ref06_way Tryz.call81 fun args o v h ho => by
  unfold S_ref06_way at h
  split at h
  · rename_i g t e
    cases h
    rw [Ob.both_ok, Bool.and_eq_true] at ho
    obtain ⟨hn, ho2⟩ := ho
    have n0 := hn
    simp only [Ob.ok] at n0
    replace n0 := nrm_fun n0
    have this := show outB (evFnM Tryz.prog false menv98 [] [] 96 Ann.no Tryz.f81 [AV.view g 2 (fun i => mkN [Ck.f, Ck.f] (t i) 0), AV.int .i64 e] []) = _ from e_ref06_way g (fL t 0) (fL t 1) e
    rw [(ob_ref06_way g (fL t 0) (fL t 1) e ho2)] at this
    rw [n0] at this
    exact ⟨this, rfl⟩
  · cases h
def c_ref06_way : SFM := fun args => match S_ref06_way args with | some (o, v) => some (o, v, []) | none => none
theorem c_ref06_way_ok : SOkM Tryz.prog false (81, c_ref06_way) := t_ref06_way
def mss95 : List (FuncId × SFM) := (81, c_ref06_way) :: mss94
def menv99 : EnvM := mkEnvM mxs mss95 mws5
theorem mss95_ok : All (SOkM Tryz.prog false) mss95 := All.cons c_ref06_way_ok mss94_ok
theorem menv99_ok : menv99.Ok Tryz.prog false := mkEnvM_ok mxs_ok mss95_ok mws5_ok
-- tumble/tumbleref02.Dot
theorem ann_ref02_Dot : FnOk Tryz.prog false 0 Tryz.f66 Ann.no := (fnNo _)
def s_ref02_Dot_0 (d e u k : Nat) : Nat := (fadd (fmul d u) (fmul e k))
theorem e_ref02_Dot (d e u k : Nat) : outB (evFnM Tryz.prog false menv99 [] [] 96 Ann.no Tryz.f66 [AV.agg [AV.float d, AV.float e], AV.agg [AV.float u, AV.float k]] []) = some (true, AV.float (s_ref02_Dot_0 d e u k)) := by kernel_rfl
def S_ref02_Dot : List AV → Option (Ob × AV)
  | [AV.agg [AV.float d, AV.float e], AV.agg [AV.float u, AV.float k]] => some (Ob.tt, AV.float (s_ref02_Dot_0 d e u k))
  | _ => none
theorem t_ref02_Dot : SOkM Tryz.prog false (66, fun args => match S_ref02_Dot args with | some (o, v) => some (o, v, []) | none => none) := SOkM.flat (N := 96) menv99_ok Tryz.func66 ann_ref02_Dot Tryz.call66 fun args o v h ho => by
  unfold S_ref02_Dot at h
  split at h
  · rename_i d e u k
    cases h
    have ho2 := ho
    have this := show outB (evFnM Tryz.prog false menv99 [] [] 96 Ann.no Tryz.f66 [AV.agg [AV.float d, AV.float e], AV.agg [AV.float u, AV.float k]] []) = _ from e_ref02_Dot d e u k
    exact ⟨this, rfl⟩
  · cases h
def c_ref02_Dot : SFM := fun args => match S_ref02_Dot args with | some (o, v) => some (o, v, []) | none => none
theorem c_ref02_Dot_ok : SOkM Tryz.prog false (66, c_ref02_Dot) := t_ref02_Dot
def mss96 : List (FuncId × SFM) := (66, c_ref02_Dot) :: mss95
def menv100 : EnvM := mkEnvM mxs mss96 mws5
theorem mss96_ok : All (SOkM Tryz.prog false) mss96 := All.cons c_ref02_Dot_ok mss95_ok
theorem menv100_ok : menv100.Ok Tryz.prog false := mkEnvM_ok mxs_ok mss96_ok mws5_ok
-- tumble/tumbleref02.Square
theorem ann_ref02_Square : FnOk Tryz.prog false 0 Tryz.f69 Ann.no := (fnNo _)
def s_ref02_Square_0 (d e : Nat) : Nat := (s_ref02_Dot_0 d e d e)
theorem e_ref02_Square (d e : Nat) : outB (evFnM Tryz.prog false menv100 [] [] 96 Ann.no Tryz.f69 [AV.agg [AV.float d, AV.float e]] []) = some (true, AV.float (s_ref02_Square_0 d e)) := by kernel_rfl
def S_ref02_Square : List AV → Option (Ob × AV)
  | [AV.agg [AV.float d, AV.float e]] => some (Ob.tt, AV.float (s_ref02_Square_0 d e))
  | _ => none
theorem t_ref02_Square : SOkM Tryz.prog false (69, fun args => match S_ref02_Square args with | some (o, v) => some (o, v, []) | none => none) := SOkM.flat (N := 96) menv100_ok Tryz.func69 ann_ref02_Square Tryz.call69 fun args o v h ho => by
  unfold S_ref02_Square at h
  split at h
  · rename_i d e
    cases h
    have ho2 := ho
    have this := show outB (evFnM Tryz.prog false menv100 [] [] 96 Ann.no Tryz.f69 [AV.agg [AV.float d, AV.float e]] []) = _ from e_ref02_Square d e
    exact ⟨this, rfl⟩
  · cases h
def c_ref02_Square : SFM := fun args => match S_ref02_Square args with | some (o, v) => some (o, v, []) | none => none
theorem c_ref02_Square_ok : SOkM Tryz.prog false (69, c_ref02_Square) := t_ref02_Square
def mss97 : List (FuncId × SFM) := (69, c_ref02_Square) :: mss96
def menv101 : EnvM := mkEnvM mxs mss97 mws5
theorem mss97_ok : All (SOkM Tryz.prog false) mss97 := All.cons c_ref02_Square_ok mss96_ok
theorem menv101_ok : menv101.Ok Tryz.prog false := mkEnvM_ok mxs_ok mss97_ok mws5_ok
-- tumble/tumbleref02.Length
theorem ann_ref02_Length : FnOk Tryz.prog false 0 Tryz.f59 Ann.no := (fnNo _)
def s_ref02_Length_0 (d e : Nat) : Nat := (s_math_Sqrt_0 (s_ref02_Square_0 d e))
theorem e_ref02_Length (d e : Nat) : outB (evFnM Tryz.prog false menv101 [] [] 96 Ann.no Tryz.f59 [AV.agg [AV.float d, AV.float e]] []) = some (true, AV.float (s_ref02_Length_0 d e)) := by kernel_rfl
def S_ref02_Length : List AV → Option (Ob × AV)
  | [AV.agg [AV.float d, AV.float e]] => some (Ob.tt, AV.float (s_ref02_Length_0 d e))
  | _ => none
theorem t_ref02_Length : SOkM Tryz.prog false (59, fun args => match S_ref02_Length args with | some (o, v) => some (o, v, []) | none => none) := SOkM.flat (N := 96) menv101_ok Tryz.func59 ann_ref02_Length Tryz.call59 fun args o v h ho => by
  unfold S_ref02_Length at h
  split at h
  · rename_i d e
    cases h
    have ho2 := ho
    have this := show outB (evFnM Tryz.prog false menv101 [] [] 96 Ann.no Tryz.f59 [AV.agg [AV.float d, AV.float e]] []) = _ from e_ref02_Length d e
    exact ⟨this, rfl⟩
  · cases h
def c_ref02_Length : SFM := fun args => match S_ref02_Length args with | some (o, v) => some (o, v, []) | none => none
theorem c_ref02_Length_ok : SOkM Tryz.prog false (59, c_ref02_Length) := t_ref02_Length
def mss98 : List (FuncId × SFM) := (59, c_ref02_Length) :: mss97
def menv102 : EnvM := mkEnvM mxs mss98 mws5
theorem mss98_ok : All (SOkM Tryz.prog false) mss98 := All.cons c_ref02_Length_ok mss97_ok
theorem menv102_ok : menv102.Ok Tryz.prog false := mkEnvM_ok mxs_ok mss98_ok mws5_ok
-- tumble/tumbleref02.Cross
theorem ann_ref02_Cross : FnOk Tryz.prog false 0 Tryz.f65 Ann.no := (fnNo _)
def s_ref02_Cross_0 (d e u k : Nat) : Nat := (fsub (fmul d k) (fmul e u))
theorem e_ref02_Cross (d e u k : Nat) : outB (evFnM Tryz.prog false menv102 [] [] 96 Ann.no Tryz.f65 [AV.agg [AV.float d, AV.float e], AV.agg [AV.float u, AV.float k]] []) = some (true, AV.float (s_ref02_Cross_0 d e u k)) := by kernel_rfl
def S_ref02_Cross : List AV → Option (Ob × AV)
  | [AV.agg [AV.float d, AV.float e], AV.agg [AV.float u, AV.float k]] => some (Ob.tt, AV.float (s_ref02_Cross_0 d e u k))
  | _ => none
theorem t_ref02_Cross : SOkM Tryz.prog false (65, fun args => match S_ref02_Cross args with | some (o, v) => some (o, v, []) | none => none) := SOkM.flat (N := 96) menv102_ok Tryz.func65 ann_ref02_Cross Tryz.call65 fun args o v h ho => by
  unfold S_ref02_Cross at h
  split at h
  · rename_i d e u k
    cases h
    have ho2 := ho
    have this := show outB (evFnM Tryz.prog false menv102 [] [] 96 Ann.no Tryz.f65 [AV.agg [AV.float d, AV.float e], AV.agg [AV.float u, AV.float k]] []) = _ from e_ref02_Cross d e u k
    exact ⟨this, rfl⟩
  · cases h
def c_ref02_Cross : SFM := fun args => match S_ref02_Cross args with | some (o, v) => some (o, v, []) | none => none
theorem c_ref02_Cross_ok : SOkM Tryz.prog false (65, c_ref02_Cross) := t_ref02_Cross
def mss99 : List (FuncId × SFM) := (65, c_ref02_Cross) :: mss98
def menv103 : EnvM := mkEnvM mxs mss99 mws5
theorem mss99_ok : All (SOkM Tryz.prog false) mss99 := All.cons c_ref02_Cross_ok mss98_ok
theorem menv103_ok : menv103.Ok Tryz.prog false := mkEnvM_ok mxs_ok mss99_ok mws5_ok
-- tumble/tumbleref06.left
theorem ann_ref06_left : FnOk Tryz.prog false 0 Tryz.f83 Ann.no := (fnNo _)
def s_ref06_left_0 (g : Nat) (n p : Nat → Nat) (e : Int) (u k : Nat) : Nat := (s_ref02_Cross_0 (s_ref06_way_0 g n p e) (s_ref06_way_1 g n p e) (s_ref06_lead_0 (n (Int.toNat e)) (p (Int.toNat e)) u k) (s_ref06_lead_1 (n (Int.toNat e)) (p (Int.toNat e)) u k))
def q_ref06_left (g : Nat) (n p : Nat → Nat) (e : Int) (u k : Nat) : Bool := (((ile (0 : Int) e) && (Nat.blt (Int.toNat e) g)) && ((allB fun _ => true) && (((ile (0 : Int) (s_ref06_next_0 g n p e)) && (Nat.blt (Int.toNat (s_ref06_next_0 g n p e)) g)) && ((!(ieq (Int.ofNat g) (0 : Int))) && ((ile (0 : Int) e) && (Nat.blt (Int.toNat e) g))))))
theorem e_ref06_left (g : Nat) (n p : Nat → Nat) (e : Int) (u k : Nat) : outB (evFnM Tryz.prog false menv103 [] [] 96 Ann.no Tryz.f83 [AV.view g 2 (fun i0 => [AV.float (n i0), AV.float (p i0)]), AV.int .i64 e, AV.agg [AV.float u, AV.float k]] []) = some (q_ref06_left g n p e u k, AV.float (s_ref06_left_0 g n p e u k)) := by kernel_rfl
def o_ref06_left (g : Nat) (n p : Nat → Nat) (e : Int) (u k : Nat) : Bool := (((ile (0 : Int) e) && (Nat.blt (Int.toNat e) g)) && (((ile (0 : Int) (s_ref06_next_0 g n p e)) && (Nat.blt (Int.toNat (s_ref06_next_0 g n p e)) g)) && ((!(ieq (Int.ofNat g) (0 : Int))) && ((ile (0 : Int) e) && (Nat.blt (Int.toNat e) g)))))
def S_ref06_left : List AV → Option (Ob × AV)
  | [AV.view g 2 t, AV.int .i64 e, AV.agg [AV.float u, AV.float k]] => some (Ob.both (Ob.bit (allB fun i => isNrm [Ck.f, Ck.f] (t i))) (Ob.bit (o_ref06_left g (fL t 0) (fL t 1) e u k)), AV.float (s_ref06_left_0 g (fL t 0) (fL t 1) e u k))
  | _ => none
theorem ob_ref06_left (g : Nat) (n p : Nat → Nat) (e : Int) (u k : Nat) (ho : o_ref06_left g n p e u k = true) : q_ref06_left g n p e u k = true := by
  unfold q_ref06_left
  unfold o_ref06_left at ho
  simp only [allB_true, eqT_self, mrgB_self, Bool.true_and, Bool.and_true] at ho ⊢
  exact ho
theorem t_ref06_left : SOkM Tryz.prog false (83, fun args => match S_ref06_left args with | some (o, v) => some (o, v, []) | none => none) := SOkM.flat (N := 96) menv103_ok Tryz.func83 ann_ref06_left Tryz.call83 fun args o v h ho => by
  unfold S_ref06_left at h
  split at h
  · rename_i g t e u k
    cases h
    rw [Ob.both_ok, Bool.and_eq_true] at ho
    obtain ⟨hn, ho2⟩ := ho
    have n0 := hn
    simp only [Ob.ok] at n0
    replace n0 := nrm_fun n0
    have this := show outB (evFnM Tryz.prog false menv103 [] [] 96 Ann.no Tryz.f83 [AV.view g 2 (fun i => mkN [Ck.f, Ck.f] (t i) 0), AV.int .i64 e, AV.agg [AV.float u, AV.float k]] []) = _ from e_ref06_left g (fL t 0) (fL t 1) e u k
    rw [(ob_ref06_left g (fL t 0) (fL t 1) e u k ho2)] at this
    rw [n0] at this
    exact ⟨this, rfl⟩
  · cases h
def c_ref06_left : SFM := fun args => match S_ref06_left args with | some (o, v) => some (o, v, []) | none => none
theorem c_ref06_left_ok : SOkM Tryz.prog false (83, c_ref06_left) := t_ref06_left
def mss100 : List (FuncId × SFM) := (83, c_ref06_left) :: mss99
def menv104 : EnvM := mkEnvM mxs mss100 mws5
theorem mss100_ok : All (SOkM Tryz.prog false) mss100 := All.cons c_ref06_left_ok mss99_ok
theorem menv104_ok : menv104.Ok Tryz.prog false := mkEnvM_ok mxs_ok mss100_ok mws5_ok
-- tumble/tumbleref06.Check
-- a loop of tumble/tumbleref06.Check
structure V_ref06_Check_L0 where
  v0 : Int
def tpl_ref06_Check_L0 : List AV := (AV.nul :: AV.top :: AV.top :: AV.top :: AV.nul :: AV.nul :: tpA 47 ([]))
def cts_ref06_Check_L0 : List CT := []
def phs_ref06_Check_L0 : List Src := []
def T_ref06_Check_L0 (j : Nat) (m l : Nat → Nat) (r : Int) (x : V_ref06_Check_L0) (F0 : Nat → List AV) : List AV × Heap := ((AV.view j 2 F0 :: AV.top :: AV.top :: AV.top :: AV.int .i64 r :: AV.int .i64 x.v0 :: tpA 47 ([])), [])
def sh_ref06_Check_L0 (j : Nat) (m l : Nat → Nat) (r : Int) (x : V_ref06_Check_L0) : List AV × Heap := T_ref06_Check_L0 j m l r x (fun j0 => [AV.float (m j0), AV.float (l j0)])
def step_ref06_Check_L0 (j : Nat) (m l : Nat → Nat) (r : Int) (x : V_ref06_Check_L0) : V_ref06_Check_L0 := V_ref06_Check_L0.mk (IntKind.wrap .i64 (x.v0 + (1 : Int)))
def go_ref06_Check_L0 (j : Nat) (m l : Nat → Nat) (r : Int) (x : V_ref06_Check_L0) : Bool := (bif (bif (!(ilt x.v0 (Int.ofNat j))) then false else (((!(ieq x.v0 r)) && (!(ieq x.v0 (s_ref06_next_0 j m l r)))) && (!(flt 0 (s_ref06_left_0 j m l r (m (Int.toNat x.v0)) (l (Int.toNat x.v0))))))) then false else (bif (!(ilt x.v0 (Int.ofNat j))) then false else true))
def ok_ref06_Check_L0 (j : Nat) (m l : Nat → Nat) (r : Int) (x : V_ref06_Check_L0) : Bool := let x0 := !(ieq (Int.ofNat j) (0 : Int)); let x1 := !(ieq x.v0 r); let x2 := mrgB x1 ((allB fun _ => true) && x0) true; let x3 := (ile (0 : Int) r) && (Nat.blt (Int.toNat r) j); let x4 := s_ref06_next_0 j m l r; let x5 := x1 && (!(ieq x.v0 x4)); let x6 := mrgB x5 (((allB fun _ => true) && (x3 && (((ile (0 : Int) x4) && (Nat.blt (Int.toNat x4) j)) && (x0 && x3)))) && (((ile (0 : Int) x.v0) && (Nat.blt (Int.toNat x.v0) j)) && x2)) x2; let x7 := !(ilt x.v0 (Int.ofNat j)); (mrgB (bif x7 then false else (x5 && (!(flt 0 (s_ref06_left_0 j m l r (m (Int.toNat x.v0)) (l (Int.toNat x.v0))))))) x6 (mrgB x7 true x6))
def L_ref06_Check_L0 (j : Nat) (m l : Nat → Nat) (r : Int) (x : V_ref06_Check_L0) : V_ref06_Check_L0 := lastL (ok_ref06_Check_L0 j m l r) (go_ref06_Check_L0 j m l r) (step_ref06_Check_L0 j m l r) x
def E_ref06_Check_L0 (j : Nat) (m l : Nat → Nat) (r : Int) (x : V_ref06_Check_L0) : Bool := endsL (ok_ref06_Check_L0 j m l r) (go_ref06_Check_L0 j m l r) (step_ref06_Check_L0 j m l r) x
theorem all_ref06_Check_L0 (j : Nat) (m l : Nat → Nat) (r : Int) (x : V_ref06_Check_L0) : rnd Tryz.prog false menv104 [] [] 96 Ann.no (subC [1, 1, 1, 1, 0, 1, 0, 0, 1, 0, 0, 1, 1, 0, 0] (codeOf Tryz.f57)) 0 [] tpl_ref06_Check_L0 cts_ref06_Check_L0 (false :: true :: true :: true :: false :: tpB 48 ([])) [] (sh_ref06_Check_L0 j m l r x) = (true, true, go_ref06_Check_L0 j m l r x, ok_ref06_Check_L0 j m l r x, true, sh_ref06_Check_L0 j m l r (step_ref06_Check_L0 j m l r x), true) := by kernel_rfl
def fam_ref06_Check_L0 (j : Nat) (m l : Nat → Nat) (r : Int) : Fam Tryz.prog false menv104 [] [] 96 0 Ann.no (subC [1, 1, 1, 1, 0, 1, 0, 0, 1, 0, 0, 1, 1, 0, 0] (codeOf Tryz.f57)) V_ref06_Check_L0 where
  sh := sh_ref06_Check_L0 j m l r
  ok := ok_ref06_Check_L0 j m l r
  go := go_ref06_Check_L0 j m l r
  step := step_ref06_Check_L0 j m l r
  chg := (false :: true :: true :: true :: false :: tpB 48 ([]))
  chgH := []
  tpl := tpl_ref06_Check_L0
  cts := cts_ref06_Check_L0
  keep := 0
  srcs := []
  ann := (annNo (subC [1, 1, 1, 1, 0, 1, 0, 0, 1, 0, 0, 1, 1, 0, 0] (codeOf Tryz.f57)))
  le := by kernel_rfl
  kept := by kernel_rfl
  keptB := by kernel_rfl
  all := all_ref06_Check_L0 j m l r
  len := fun x => by kernel_rfl
  head := fun x y => by kernel_rfl
  con := fun x y => by kernel_rfl
  conH := fun x y => by kernel_rfl
def F_ref06_Check_L0 : St → Option Ch := fun s => cond (Nat.beq s.tm.length 53 && Nat.beq s.H.length 0) (tkCons (alL tpl_ref06_Check_L0 s.tm) fun d t0 => tkView 2 d fun s0 f0 => tkTops 3 t0 fun t1 => tkCons t1 fun u t2 => tkI .i64 u fun s3 => tkCons t2 fun k t3 => tkI .i64 k fun s4 => tkTops 47 t3 fun t4 => tkNil t4 <| tkNil (alH cts_ref06_Check_L0 (s.H ++ List.map phan phs_ref06_Check_L0)) <| Fam.out (fam_ref06_Check_L0 s0 (fL f0 0) (fL f0 1) s3) s (allB fun i => isNrm [Ck.f, Ck.f] (f0 i)) (V_ref06_Check_L0.mk s4)) none
theorem F_ref06_Check_L0_ok : ∀ s ch, F_ref06_Check_L0 s = some ch → AllI s ch ∧ LoopSpec Tryz.prog false 0 (subC [1, 1, 1, 1, 0, 1, 0, 0, 1, 0, 0, 1, 1, 0, 0] (codeOf Tryz.f57)) s (sel ch) := by
  intro s ch h
  unfold F_ref06_Check_L0 at h
  obtain ⟨hl, h0⟩ := cond_some h rfl
  clear h
  obtain ⟨hl, hb⟩ := and_beq2 hl
  obtain ⟨d, t0, e0, h1⟩ := tkCons_some h0
  obtain ⟨s0, f0, rfl, h2⟩ := tkView_some h1
  obtain ⟨t1, rfl, h3⟩ := tkTops_some h2
  obtain ⟨u, t2, rfl, h4⟩ := tkCons_some h3
  obtain ⟨s3, rfl, h5⟩ := tkI_some h4
  obtain ⟨k, t3, rfl, h6⟩ := tkCons_some h5
  obtain ⟨s4, rfl, h7⟩ := tkI_some h6
  obtain ⟨t4, rfl, h8⟩ := tkTops_some h7
  obtain ⟨rfl, h9⟩ := tkNil_some h8
  obtain ⟨eH, h10⟩ := tkNil_some h9
  refine Fam.spec menv104_ok (fam_ref06_Check_L0 s0 (fL f0 0) (fL f0 1) s3) (phs := phs_ref06_Check_L0) (hl.trans (by kernel_rfl)) (hb.trans (by kernel_rfl)) ?_ ?_ h10
  · rw [← hdr_alH cts_ref06_Check_L0 (s.H ++ List.map phan phs_ref06_Check_L0), eH]; kernel_rfl
  · intro hq
    have hq0 := hq
    have n0 := nrm_fun hq0
    show sh_ref06_Check_L0 s0 (fL f0 0) (fL f0 1) s3 (V_ref06_Check_L0.mk s4) = (alL tpl_ref06_Check_L0 s.tm, alH cts_ref06_Check_L0 (s.H ++ List.map phan phs_ref06_Check_L0))
    rw [e0, eH]
    refine Eq.trans (show sh_ref06_Check_L0 s0 (fL f0 0) (fL f0 1) s3 (V_ref06_Check_L0.mk s4) = T_ref06_Check_L0 s0 (fL f0 0) (fL f0 1) s3 (V_ref06_Check_L0.mk s4) (fun i => mkN [Ck.f, Ck.f] (f0 i) 0) by kernel_rfl) ?_
    rw [n0]
    kernel_rfl
-- a loop of tumble/tumbleref06.Check
structure V_ref06_Check_L1 where
  v0 : Int
def tpl_ref06_Check_L1 : List AV := (AV.nul :: AV.top :: AV.top :: AV.top :: AV.nul :: tpA 48 ([]))
def cts_ref06_Check_L1 : List CT := []
def phs_ref06_Check_L1 : List Src := []
def T_ref06_Check_L1 (j : Nat) (m l : Nat → Nat) (x : V_ref06_Check_L1) (F0 : Nat → List AV) : List AV × Heap := ((AV.view j 2 F0 :: AV.top :: AV.top :: AV.top :: AV.int .i64 x.v0 :: tpA 48 ([])), [])
def sh_ref06_Check_L1 (j : Nat) (m l : Nat → Nat) (x : V_ref06_Check_L1) : List AV × Heap := T_ref06_Check_L1 j m l x (fun j0 => [AV.float (m j0), AV.float (l j0)])
def step_ref06_Check_L1 (j : Nat) (m l : Nat → Nat) (x : V_ref06_Check_L1) : V_ref06_Check_L1 := V_ref06_Check_L1.mk (IntKind.wrap .i64 (x.v0 + (1 : Int)))
def go_ref06_Check_L1 (j : Nat) (m l : Nat → Nat) (x : V_ref06_Check_L1) : Bool := let x0 := !(ilt x.v0 (Int.ofNat j)); let x1 := (L_ref06_Check_L0 j m l x.v0 (V_ref06_Check_L0.mk (0 : Int))).v0; let x2 := Int.toNat x1; (bif (bif x0 then false else ((!(fle 4472074429978902528 (s_ref02_Length_0 (s_ref06_way_0 j m l x.v0) (s_ref06_way_1 j m l x.v0)))) || (bif (!(ilt x1 (Int.ofNat j))) then false else (((!(ieq x1 x.v0)) && (!(ieq x1 (s_ref06_next_0 j m l x.v0)))) && (!(flt 0 (s_ref06_left_0 j m l x.v0 (m x2) (l x2)))))))) then false else (bif x0 then false else true))
def ok_ref06_Check_L1 (j : Nat) (m l : Nat → Nat) (x : V_ref06_Check_L1) : Bool := let x0 := s_ref06_next_0 j m l x.v0; let x1 := (allB fun _ => true) && (((ile (0 : Int) x0) && (Nat.blt (Int.toNat x0) j)) && ((!(ieq (Int.ofNat j) (0 : Int))) && ((ile (0 : Int) x.v0) && (Nat.blt (Int.toNat x.v0) j)))); let x2 := x1 && ((allB fun _ => true) && (E_ref06_Check_L0 j m l x.v0 (V_ref06_Check_L0.mk (0 : Int)))); let x3 := !(ilt x.v0 (Int.ofNat j)); let x4 := !(fle 4472074429978902528 (s_ref02_Length_0 (s_ref06_way_0 j m l x.v0) (s_ref06_way_1 j m l x.v0))); let x5 := (L_ref06_Check_L0 j m l x.v0 (V_ref06_Check_L0.mk (0 : Int))).v0; let x6 := Int.toNat x5; (mrgB (bif x3 then false else (x4 || (bif (!(ilt x5 (Int.ofNat j))) then false else (((!(ieq x5 x.v0)) && (!(ieq x5 x0))) && (!(flt 0 (s_ref06_left_0 j m l x.v0 (m x6) (l x6)))))))) (mrgB x4 x1 x2) (mrgB x3 true x2))
def L_ref06_Check_L1 (j : Nat) (m l : Nat → Nat) (x : V_ref06_Check_L1) : V_ref06_Check_L1 := lastL (ok_ref06_Check_L1 j m l) (go_ref06_Check_L1 j m l) (step_ref06_Check_L1 j m l) x
def E_ref06_Check_L1 (j : Nat) (m l : Nat → Nat) (x : V_ref06_Check_L1) : Bool := endsL (ok_ref06_Check_L1 j m l) (go_ref06_Check_L1 j m l) (step_ref06_Check_L1 j m l) x
theorem all_ref06_Check_L1 (j : Nat) (m l : Nat → Nat) (x : V_ref06_Check_L1) : rnd Tryz.prog false menv104 [] [] 96 (Ann.two Ann.no (Ann.two (Ann.one (Ann.two Ann.no (Ann.two Ann.no (Ann.one (Ann.loop F_ref06_Check_L0))))) Ann.no)) (subC [1, 1, 1, 1, 0, 1, 0, 0] (codeOf Tryz.f57)) 0 [] tpl_ref06_Check_L1 cts_ref06_Check_L1 (false :: tpB 52 ([])) [] (sh_ref06_Check_L1 j m l x) = (true, true, go_ref06_Check_L1 j m l x, ok_ref06_Check_L1 j m l x, true, sh_ref06_Check_L1 j m l (step_ref06_Check_L1 j m l x), true) := by kernel_rfl
def fam_ref06_Check_L1 (j : Nat) (m l : Nat → Nat) : Fam Tryz.prog false menv104 [] [] 96 0 (Ann.two Ann.no (Ann.two (Ann.one (Ann.two Ann.no (Ann.two Ann.no (Ann.one (Ann.loop F_ref06_Check_L0))))) Ann.no)) (subC [1, 1, 1, 1, 0, 1, 0, 0] (codeOf Tryz.f57)) V_ref06_Check_L1 where
  sh := sh_ref06_Check_L1 j m l
  ok := ok_ref06_Check_L1 j m l
  go := go_ref06_Check_L1 j m l
  step := step_ref06_Check_L1 j m l
  chg := (false :: tpB 52 ([]))
  chgH := []
  tpl := tpl_ref06_Check_L1
  cts := cts_ref06_Check_L1
  keep := 0
  srcs := []
  ann := (annSeq (a := (subC [1, 1, 1, 1, 0, 1, 0, 0, 0] (codeOf Tryz.f57))) (b := (subC [1, 1, 1, 1, 0, 1, 0, 0, 1] (codeOf Tryz.f57))) (by kernel_rfl) (annNo (subC [1, 1, 1, 1, 0, 1, 0, 0, 0] (codeOf Tryz.f57))) (annSeq (a := (subC [1, 1, 1, 1, 0, 1, 0, 0, 1, 0] (codeOf Tryz.f57))) (b := (subC [1, 1, 1, 1, 0, 1, 0, 0, 1, 1] (codeOf Tryz.f57))) (by kernel_rfl) (annBlock (a := (subC [1, 1, 1, 1, 0, 1, 0, 0, 1, 0, 0] (codeOf Tryz.f57))) (i := 1) (by kernel_rfl) (annSeq (a := (subC [1, 1, 1, 1, 0, 1, 0, 0, 1, 0, 0, 0] (codeOf Tryz.f57))) (b := (subC [1, 1, 1, 1, 0, 1, 0, 0, 1, 0, 0, 1] (codeOf Tryz.f57))) (by kernel_rfl) (annNo (subC [1, 1, 1, 1, 0, 1, 0, 0, 1, 0, 0, 0] (codeOf Tryz.f57))) (annSeq (a := (subC [1, 1, 1, 1, 0, 1, 0, 0, 1, 0, 0, 1, 0] (codeOf Tryz.f57))) (b := (subC [1, 1, 1, 1, 0, 1, 0, 0, 1, 0, 0, 1, 1] (codeOf Tryz.f57))) (by kernel_rfl) (annNo (subC [1, 1, 1, 1, 0, 1, 0, 0, 1, 0, 0, 1, 0] (codeOf Tryz.f57))) (annBlock (a := (subC [1, 1, 1, 1, 0, 1, 0, 0, 1, 0, 0, 1, 1, 0] (codeOf Tryz.f57))) (i := 2) (by kernel_rfl) (annLoop (a := (subC [1, 1, 1, 1, 0, 1, 0, 0, 1, 0, 0, 1, 1, 0, 0] (codeOf Tryz.f57))) (by kernel_rfl) F_ref06_Check_L0_ok))))) (annNo (subC [1, 1, 1, 1, 0, 1, 0, 0, 1, 1] (codeOf Tryz.f57)))))
  le := by kernel_rfl
  kept := by kernel_rfl
  keptB := by kernel_rfl
  all := all_ref06_Check_L1 j m l
  len := fun x => by kernel_rfl
  head := fun x y => by kernel_rfl
  con := fun x y => by kernel_rfl
  conH := fun x y => by kernel_rfl
def F_ref06_Check_L1 : St → Option Ch := fun s => cond (Nat.beq s.tm.length 53 && Nat.beq s.H.length 0) (tkCons (alL tpl_ref06_Check_L1 s.tm) fun d t0 => tkView 2 d fun s0 f0 => tkTops 3 t0 fun t1 => tkCons t1 fun u t2 => tkI .i64 u fun s3 => tkTops 48 t2 fun t3 => tkNil t3 <| tkNil (alH cts_ref06_Check_L1 (s.H ++ List.map phan phs_ref06_Check_L1)) <| Fam.out (fam_ref06_Check_L1 s0 (fL f0 0) (fL f0 1)) s (allB fun i => isNrm [Ck.f, Ck.f] (f0 i)) (V_ref06_Check_L1.mk s3)) none
theorem F_ref06_Check_L1_ok : ∀ s ch, F_ref06_Check_L1 s = some ch → AllI s ch ∧ LoopSpec Tryz.prog false 0 (subC [1, 1, 1, 1, 0, 1, 0, 0] (codeOf Tryz.f57)) s (sel ch) := by
  intro s ch h
  unfold F_ref06_Check_L1 at h
  obtain ⟨hl, h0⟩ := cond_some h rfl
  clear h
  obtain ⟨hl, hb⟩ := and_beq2 hl
  obtain ⟨d, t0, e0, h1⟩ := tkCons_some h0
  obtain ⟨s0, f0, rfl, h2⟩ := tkView_some h1
  obtain ⟨t1, rfl, h3⟩ := tkTops_some h2
  obtain ⟨u, t2, rfl, h4⟩ := tkCons_some h3
  obtain ⟨s3, rfl, h5⟩ := tkI_some h4
  obtain ⟨t3, rfl, h6⟩ := tkTops_some h5
  obtain ⟨rfl, h7⟩ := tkNil_some h6
  obtain ⟨eH, h8⟩ := tkNil_some h7
  refine Fam.spec menv104_ok (fam_ref06_Check_L1 s0 (fL f0 0) (fL f0 1)) (phs := phs_ref06_Check_L1) (hl.trans (by kernel_rfl)) (hb.trans (by kernel_rfl)) ?_ ?_ h8
  · rw [← hdr_alH cts_ref06_Check_L1 (s.H ++ List.map phan phs_ref06_Check_L1), eH]; kernel_rfl
  · intro hq
    have hq0 := hq
    have n0 := nrm_fun hq0
    show sh_ref06_Check_L1 s0 (fL f0 0) (fL f0 1) (V_ref06_Check_L1.mk s3) = (alL tpl_ref06_Check_L1 s.tm, alH cts_ref06_Check_L1 (s.H ++ List.map phan phs_ref06_Check_L1))
    rw [e0, eH]
    refine Eq.trans (show sh_ref06_Check_L1 s0 (fL f0 0) (fL f0 1) (V_ref06_Check_L1.mk s3) = T_ref06_Check_L1 s0 (fL f0 0) (fL f0 1) (V_ref06_Check_L1.mk s3) (fun i => mkN [Ck.f, Ck.f] (f0 i) 0) by kernel_rfl) ?_
    rw [n0]
    kernel_rfl
theorem ann_ref06_Check : FnOk Tryz.prog false 0 Tryz.f57 (Ann.two Ann.no (Ann.two Ann.no (Ann.two Ann.no (Ann.two Ann.no (Ann.two (Ann.two Ann.no (Ann.one (Ann.loop F_ref06_Check_L1))) Ann.no))))) := (fnOk_of (c := codeOf Tryz.f57) (by kernel_rfl) (annSeq (a := (subC [0] (codeOf Tryz.f57))) (b := (subC [1] (codeOf Tryz.f57))) (by kernel_rfl) (annNo (subC [0] (codeOf Tryz.f57))) (annSeq (a := (subC [1, 0] (codeOf Tryz.f57))) (b := (subC [1, 1] (codeOf Tryz.f57))) (by kernel_rfl) (annNo (subC [1, 0] (codeOf Tryz.f57))) (annSeq (a := (subC [1, 1, 0] (codeOf Tryz.f57))) (b := (subC [1, 1, 1] (codeOf Tryz.f57))) (by kernel_rfl) (annNo (subC [1, 1, 0] (codeOf Tryz.f57))) (annSeq (a := (subC [1, 1, 1, 0] (codeOf Tryz.f57))) (b := (subC [1, 1, 1, 1] (codeOf Tryz.f57))) (by kernel_rfl) (annNo (subC [1, 1, 1, 0] (codeOf Tryz.f57))) (annSeq (a := (subC [1, 1, 1, 1, 0] (codeOf Tryz.f57))) (b := (subC [1, 1, 1, 1, 1] (codeOf Tryz.f57))) (by kernel_rfl) (annSeq (a := (subC [1, 1, 1, 1, 0, 0] (codeOf Tryz.f57))) (b := (subC [1, 1, 1, 1, 0, 1] (codeOf Tryz.f57))) (by kernel_rfl) (annNo (subC [1, 1, 1, 1, 0, 0] (codeOf Tryz.f57))) (annBlock (a := (subC [1, 1, 1, 1, 0, 1, 0] (codeOf Tryz.f57))) (i := 0) (by kernel_rfl) (annLoop (a := (subC [1, 1, 1, 1, 0, 1, 0, 0] (codeOf Tryz.f57))) (by kernel_rfl) F_ref06_Check_L1_ok))) (annNo (subC [1, 1, 1, 1, 1] (codeOf Tryz.f57)))))))))
def s_ref06_Check_0 (g : Nat) (n p : Nat → Nat) : Int := let x0 := (L_ref06_Check_L1 g n p (V_ref06_Check_L1.mk (0 : Int))).v0; let x1 := !(fle 4472074429978902528 (s_ref02_Length_0 (s_ref06_way_0 g n p x0) (s_ref06_way_1 g n p x0))); let x2 := (L_ref06_Check_L0 g n p x0 (V_ref06_Check_L0.mk (0 : Int))).v0; let x3 := Int.toNat x2; let x4 := s_ref06_Reals_0 g n p; (bif (!(ieq x4 (0 : Int))) then x4 else (bif (ilt (Int.ofNat g) (3 : Int)) then (60 : Int) else (bif (bif (!(ilt x0 (Int.ofNat g))) then false else (x1 || (bif (!(ilt x2 (Int.ofNat g))) then false else (((!(ieq x2 x0)) && (!(ieq x2 (s_ref06_next_0 g n p x0)))) && (!(flt 0 (s_ref06_left_0 g n p x0 (n x3) (p x3)))))))) then (bif x1 then (60 : Int) else (60 : Int)) else (0 : Int))))
def q_ref06_Check (g : Nat) (n p : Nat → Nat) : Bool := (let x0 := (allB fun _ => true) && (o_ref06_Reals g n p); let x1 := x0 && ((allB fun _ => true) && (E_ref06_Check_L1 g n p (V_ref06_Check_L1.mk (0 : Int)))); let x2 := (L_ref06_Check_L1 g n p (V_ref06_Check_L1.mk (0 : Int))).v0; let x3 := (L_ref06_Check_L0 g n p x2 (V_ref06_Check_L0.mk (0 : Int))).v0; let x4 := Int.toNat x3; (mrgB (!(ieq (s_ref06_Reals_0 g n p) (0 : Int))) x0 (mrgB (ilt (Int.ofNat g) (3 : Int)) x0 (mrgB (bif (!(ilt x2 (Int.ofNat g))) then false else ((!(fle 4472074429978902528 (s_ref02_Length_0 (s_ref06_way_0 g n p x2) (s_ref06_way_1 g n p x2)))) || (bif (!(ilt x3 (Int.ofNat g))) then false else (((!(ieq x3 x2)) && (!(ieq x3 (s_ref06_next_0 g n p x2)))) && (!(flt 0 (s_ref06_left_0 g n p x2 (n x4) (p x4)))))))) x1 x1))))
theorem e_ref06_Check (g : Nat) (n p : Nat → Nat) : outB (evFnM Tryz.prog false menv104 [] [] 96 (Ann.two Ann.no (Ann.two Ann.no (Ann.two Ann.no (Ann.two Ann.no (Ann.two (Ann.two Ann.no (Ann.one (Ann.loop F_ref06_Check_L1))) Ann.no))))) Tryz.f57 [AV.view g 2 (fun i0 => [AV.float (n i0), AV.float (p i0)])] []) = some (q_ref06_Check g n p, AV.int .i64 (s_ref06_Check_0 g n p)) := by kernel_rfl
def o_ref06_Check (g : Nat) (n p : Nat → Nat) : Bool := let x0 := o_ref06_Reals g n p; let x1 := x0 && (E_ref06_Check_L1 g n p (V_ref06_Check_L1.mk (0 : Int))); let x2 := (L_ref06_Check_L1 g n p (V_ref06_Check_L1.mk (0 : Int))).v0; let x3 := (L_ref06_Check_L0 g n p x2 (V_ref06_Check_L0.mk (0 : Int))).v0; let x4 := Int.toNat x3; (mrgB (!(ieq (s_ref06_Reals_0 g n p) (0 : Int))) x0 (mrgB (ilt (Int.ofNat g) (3 : Int)) x0 (mrgB (bif (!(ilt x2 (Int.ofNat g))) then false else ((!(fle 4472074429978902528 (s_ref02_Length_0 (s_ref06_way_0 g n p x2) (s_ref06_way_1 g n p x2)))) || (bif (!(ilt x3 (Int.ofNat g))) then false else (((!(ieq x3 x2)) && (!(ieq x3 (s_ref06_next_0 g n p x2)))) && (!(flt 0 (s_ref06_left_0 g n p x2 (n x4) (p x4)))))))) x1 x1)))
def S_ref06_Check : List AV → Option (Ob × AV)
  | [AV.view g 2 t] => some (Ob.both (Ob.bit (allB fun i => isNrm [Ck.f, Ck.f] (t i))) (Ob.bit (o_ref06_Check g (fL t 0) (fL t 1))), AV.int .i64 (s_ref06_Check_0 g (fL t 0) (fL t 1)))
  | _ => none
theorem ob_ref06_Check (g : Nat) (n p : Nat → Nat) (ho : o_ref06_Check g n p = true) : q_ref06_Check g n p = true := by
  unfold q_ref06_Check
  unfold o_ref06_Check at ho
  simp only [allB_true, eqT_self, mrgB_self, Bool.true_and, Bool.and_true] at ho ⊢
  exact ho
theorem t_ref06_Check : SOkM Tryz.prog false (57, fun args => match S_ref06_Check args with | some (o, v) => some (o, v, []) | none => none) := SOkM.flat (N := 96) menv104_ok Tryz.func57 ann_ref06_Check Tryz.call57 fun args o v h ho => by
  unfold S_ref06_Check at h
  split at h
  · rename_i g t
    cases h
    rw [Ob.both_ok, Bool.and_eq_true] at ho
    obtain ⟨hn, ho2⟩ := ho
    have n0 := hn
    simp only [Ob.ok] at n0
    replace n0 := nrm_fun n0
    have this := show outB (evFnM Tryz.prog false menv104 [] [] 96 (Ann.two Ann.no (Ann.two Ann.no (Ann.two Ann.no (Ann.two Ann.no (Ann.two (Ann.two Ann.no (Ann.one (Ann.loop F_ref06_Check_L1))) Ann.no))))) Tryz.f57 [AV.view g 2 (fun i => mkN [Ck.f, Ck.f] (t i) 0)] []) = _ from e_ref06_Check g (fL t 0) (fL t 1)
    rw [(ob_ref06_Check g (fL t 0) (fL t 1) ho2)] at this
    rw [n0] at this
    exact ⟨this, rfl⟩
  · cases h
def c_ref06_Check : SFM := fun args => match S_ref06_Check args with | some (o, v) => some (o, v, []) | none => none
theorem c_ref06_Check_ok : SOkM Tryz.prog false (57, c_ref06_Check) := t_ref06_Check
def mss101 : List (FuncId × SFM) := (57, c_ref06_Check) :: mss100
def menv105 : EnvM := mkEnvM mxs mss101 mws5
theorem mss101_ok : All (SOkM Tryz.prog false) mss101 := All.cons c_ref06_Check_ok mss100_ok
theorem menv105_ok : menv105.Ok Tryz.prog false := mkEnvM_ok mxs_ok mss101_ok mws5_ok
-- tumble/tumbleref01.place
theorem ann_ref01_place : FnOk Tryz.prog false 0 Tryz.f97 Ann.no := (fnNo _)
def s_ref01_place_0 (d : Nat) : Int := (bif (ieq (Int.fdiv (Int.ofNat d) (9223372036854775808 : Int)) (1 : Int)) then (IntKind.wrap .i64 ((IntKind.wrap .i64 ((0 : Int) - (IntKind.wrap .i64 (Int.fdiv (IntKind.wrap .u64 ((Int.ofNat d) * (2 : Int))) (2 : Int))))) - (1 : Int))) else (IntKind.wrap .i64 (Int.fdiv (IntKind.wrap .u64 ((Int.ofNat d) * (2 : Int))) (2 : Int))))
def o_ref01_place (d : Nat) : Bool := (mrgB (ieq (Int.fdiv (Int.ofNat d) (9223372036854775808 : Int)) (1 : Int)) ((!(nanb d)) && (!(nanb d))) ((!(nanb d)) && (!(nanb d))))
theorem e_ref01_place (d : Nat) : outB (evFnM Tryz.prog false menv105 [] [] 96 Ann.no Tryz.f97 [AV.float d] []) = some (o_ref01_place d, AV.int .i64 (s_ref01_place_0 d)) := by kernel_rfl
def S_ref01_place : List AV → Option (Ob × AV)
  | [AV.float d] => some (Ob.bit (o_ref01_place d), AV.int .i64 (s_ref01_place_0 d))
  | _ => none
theorem t_ref01_place : SOkM Tryz.prog false (97, fun args => match S_ref01_place args with | some (o, v) => some (o, v, []) | none => none) := SOkM.flat (N := 96) menv105_ok Tryz.func97 ann_ref01_place Tryz.call97 fun args o v h ho => by
  unfold S_ref01_place at h
  split at h
  · rename_i d
    cases h
    have ho2 := ho
    have this := show outB (evFnM Tryz.prog false menv105 [] [] 96 Ann.no Tryz.f97 [AV.float d] []) = _ from e_ref01_place d
    rw [show o_ref01_place d = true from ho2] at this
    exact ⟨this, rfl⟩
  · cases h
def c_ref01_place : SFM := fun args => match S_ref01_place args with | some (o, v) => some (o, v, []) | none => none
theorem c_ref01_place_ok : SOkM Tryz.prog false (97, c_ref01_place) := t_ref01_place
def mss102 : List (FuncId × SFM) := (97, c_ref01_place) :: mss101
def menv106 : EnvM := mkEnvM mxs mss102 mws5
theorem mss102_ok : All (SOkM Tryz.prog false) mss102 := All.cons c_ref01_place_ok mss101_ok
theorem menv106_ok : menv106.Ok Tryz.prog false := mkEnvM_ok mxs_ok mss102_ok mws5_ok
-- tumble/tumbleref01.worth
theorem ann_ref01_worth : FnOk Tryz.prog false 0 Tryz.f96 Ann.no := (fnNo _)
def s_ref01_worth_0 (d : Nat) : Int := (bif (ieq (s_ref01_place_0 d) (-1 : Int)) then (0 : Int) else (s_ref01_place_0 d))
def o_ref01_worth (d : Nat) : Bool := (mrgB (ieq (s_ref01_place_0 d) (-1 : Int)) (mrgB (ieq (Int.fdiv (Int.ofNat d) (9223372036854775808 : Int)) (1 : Int)) ((!(nanb d)) && (!(nanb d))) ((!(nanb d)) && (!(nanb d)))) (mrgB (ieq (Int.fdiv (Int.ofNat d) (9223372036854775808 : Int)) (1 : Int)) ((!(nanb d)) && (!(nanb d))) ((!(nanb d)) && (!(nanb d)))))
theorem e_ref01_worth (d : Nat) : outB (evFnM Tryz.prog false menv106 [] [] 96 Ann.no Tryz.f96 [AV.float d] []) = some (o_ref01_worth d, AV.int .i64 (s_ref01_worth_0 d)) := by kernel_rfl
def S_ref01_worth : List AV → Option (Ob × AV)
  | [AV.float d] => some (Ob.bit (o_ref01_worth d), AV.int .i64 (s_ref01_worth_0 d))
  | _ => none
theorem t_ref01_worth : SOkM Tryz.prog false (96, fun args => match S_ref01_worth args with | some (o, v) => some (o, v, []) | none => none) := SOkM.flat (N := 96) menv106_ok Tryz.func96 ann_ref01_worth Tryz.call96 fun args o v h ho => by
  unfold S_ref01_worth at h
  split at h
  · rename_i d
    cases h
    have ho2 := ho
    have this := show outB (evFnM Tryz.prog false menv106 [] [] 96 Ann.no Tryz.f96 [AV.float d] []) = _ from e_ref01_worth d
    rw [show o_ref01_worth d = true from ho2] at this
    exact ⟨this, rfl⟩
  · cases h
def c_ref01_worth : SFM := fun args => match S_ref01_worth args with | some (o, v) => some (o, v, []) | none => none
theorem c_ref01_worth_ok : SOkM Tryz.prog false (96, c_ref01_worth) := t_ref01_worth
def mss103 : List (FuncId × SFM) := (96, c_ref01_worth) :: mss102
def menv107 : EnvM := mkEnvM mxs mss103 mws5
theorem mss103_ok : All (SOkM Tryz.prog false) mss103 := All.cons c_ref01_worth_ok mss102_ok
theorem menv107_ok : menv107.Ok Tryz.prog false := mkEnvM_ok mxs_ok mss103_ok mws5_ok
-- tumble/tumbleref01.above
theorem ann_ref01_above : FnOk Tryz.prog false 0 Tryz.f95 Ann.no := (fnNo _)
def s_ref01_above_0 (d e : Nat) : Bool := (((!(nanb d)) && (!(nanb e))) && (ilt (s_ref01_worth_0 e) (s_ref01_worth_0 d)))
theorem e_ref01_above (d e : Nat) : outB (evFnM Tryz.prog false menv107 [] [] 96 Ann.no Tryz.f95 [AV.float d, AV.float e] []) = some ((let x0 := (!(nanb d)) && (!(nanb d)); let x1 := mrgB (ieq (Int.fdiv (Int.ofNat d) (9223372036854775808 : Int)) (1 : Int)) x0 x0; let x2 := (!(nanb e)) && (!(nanb e)); let x3 := mrgB (ieq (Int.fdiv (Int.ofNat e) (9223372036854775808 : Int)) (1 : Int)) x2 x2; (mrgB ((!(nanb d)) && (!(nanb e))) ((mrgB (ieq (s_ref01_place_0 e) (-1 : Int)) x3 x3) && (mrgB (ieq (s_ref01_place_0 d) (-1 : Int)) x1 x1)) true)), AV.bool (s_ref01_above_0 d e)) := by kernel_rfl
def S_ref01_above : List AV → Option (Ob × AV)
  | [AV.float d, AV.float e] => some (Ob.tt, AV.bool (s_ref01_above_0 d e))
  | _ => none
theorem ob_ref01_above (d e : Nat) : (let x0 := (!(nanb d)) && (!(nanb d)); let x1 := mrgB (ieq (Int.fdiv (Int.ofNat d) (9223372036854775808 : Int)) (1 : Int)) x0 x0; let x2 := (!(nanb e)) && (!(nanb e)); let x3 := mrgB (ieq (Int.fdiv (Int.ofNat e) (9223372036854775808 : Int)) (1 : Int)) x2 x2; (mrgB ((!(nanb d)) && (!(nanb e))) ((mrgB (ieq (s_ref01_place_0 e) (-1 : Int)) x3 x3) && (mrgB (ieq (s_ref01_place_0 d) (-1 : Int)) x1 x1)) true)) = true := by show ((mrgB ((!(nanb d)) && (!(nanb e))) ((mrgB (ieq (s_ref01_place_0 e) (-1 : Int)) (mrgB (ieq (Int.fdiv (Int.ofNat e) (9223372036854775808 : Int)) (1 : Int)) ((!(nanb e)) && (!(nanb e))) ((!(nanb e)) && (!(nanb e)))) (mrgB (ieq (Int.fdiv (Int.ofNat e) (9223372036854775808 : Int)) (1 : Int)) ((!(nanb e)) && (!(nanb e))) ((!(nanb e)) && (!(nanb e))))) && (mrgB (ieq (s_ref01_place_0 d) (-1 : Int)) (mrgB (ieq (Int.fdiv (Int.ofNat d) (9223372036854775808 : Int)) (1 : Int)) ((!(nanb d)) && (!(nanb d))) ((!(nanb d)) && (!(nanb d)))) (mrgB (ieq (Int.fdiv (Int.ofNat d) (9223372036854775808 : Int)) (1 : Int)) ((!(nanb d)) && (!(nanb d))) ((!(nanb d)) && (!(nanb d)))))) true)) = true; (generalize (ieq (Int.fdiv (Int.ofNat e) (9223372036854775808 : Int)) (1 : Int)) = q0; generalize (ieq (Int.fdiv (Int.ofNat d) (9223372036854775808 : Int)) (1 : Int)) = q1; generalize (ieq (s_ref01_place_0 e) (-1 : Int)) = q2; generalize (ieq (s_ref01_place_0 d) (-1 : Int)) = q3; generalize (nanb d) = q4; generalize (nanb e) = q5; cases q0 <;> cases q1 <;> cases q2 <;> cases q3 <;> cases q4 <;> cases q5 <;> rfl)
theorem t_ref01_above : SOkM Tryz.prog false (95, fun args => match S_ref01_above args with | some (o, v) => some (o, v, []) | none => none) := SOkM.flat (N := 96) menv107_ok Tryz.func95 ann_ref01_above Tryz.call95 fun args o v h ho => by
  unfold S_ref01_above at h
  split at h
  · rename_i d e
    cases h
    have ho2 := ho
    have this := show outB (evFnM Tryz.prog false menv107 [] [] 96 Ann.no Tryz.f95 [AV.float d, AV.float e] []) = _ from e_ref01_above d e
    rw [(ob_ref01_above d e)] at this
    exact ⟨this, rfl⟩
  · cases h
def c_ref01_above : SFM := fun args => match S_ref01_above args with | some (o, v) => some (o, v, []) | none => none
theorem c_ref01_above_ok : SOkM Tryz.prog false (95, c_ref01_above) := t_ref01_above
def mss104 : List (FuncId × SFM) := (95, c_ref01_above) :: mss103
def menv108 : EnvM := mkEnvM mxs mss104 mws5
theorem mss104_ok : All (SOkM Tryz.prog false) mss104 := All.cons c_ref01_above_ok mss103_ok
theorem menv108_ok : menv108.Ok Tryz.prog false := mkEnvM_ok mxs_ok mss104_ok mws5_ok
-- tumble/tumbleref01.Within
theorem ann_ref01_Within : FnOk Tryz.prog false 0 Tryz.f92 Ann.no := (fnNo _)
def s_ref01_Within_0 (d e : Nat) : Bool := ((((!(nanb d)) && (!(nanb e))) && (!(s_ref01_above_0 d e))) && (!(s_ref01_above_0 (fneg e) d)))
theorem e_ref01_Within (d e : Nat) : outB (evFnM Tryz.prog false menv108 [] [] 96 Ann.no Tryz.f92 [AV.float d, AV.float e] []) = some (true, AV.bool (s_ref01_Within_0 d e)) := by kernel_rfl
def S_ref01_Within : List AV → Option (Ob × AV)
  | [AV.float d, AV.float e] => some (Ob.tt, AV.bool (s_ref01_Within_0 d e))
  | _ => none
theorem t_ref01_Within : SOkM Tryz.prog false (92, fun args => match S_ref01_Within args with | some (o, v) => some (o, v, []) | none => none) := SOkM.flat (N := 96) menv108_ok Tryz.func92 ann_ref01_Within Tryz.call92 fun args o v h ho => by
  unfold S_ref01_Within at h
  split at h
  · rename_i d e
    cases h
    have ho2 := ho
    have this := show outB (evFnM Tryz.prog false menv108 [] [] 96 Ann.no Tryz.f92 [AV.float d, AV.float e] []) = _ from e_ref01_Within d e
    exact ⟨this, rfl⟩
  · cases h
def c_ref01_Within : SFM := fun args => match S_ref01_Within args with | some (o, v) => some (o, v, []) | none => none
theorem c_ref01_Within_ok : SOkM Tryz.prog false (92, c_ref01_Within) := t_ref01_Within
def mss105 : List (FuncId × SFM) := (92, c_ref01_Within) :: mss104
def menv109 : EnvM := mkEnvM mxs mss105 mws5
theorem mss105_ok : All (SOkM Tryz.prog false) mss105 := All.cons c_ref01_Within_ok mss104_ok
theorem menv109_ok : menv109.Ok Tryz.prog false := mkEnvM_ok mxs_ok mss105_ok mws5_ok
end Go.Proofs.YtbkogihigehjlaaGreat
end
