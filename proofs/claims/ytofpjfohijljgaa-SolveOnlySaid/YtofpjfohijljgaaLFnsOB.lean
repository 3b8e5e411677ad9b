/- The contracts of the functions that these laws reach, loops too, printed by a program of this work: each says what the Go function gives, up to which NaN. -/
import Derived.Test.YtofpjfohijljgaaLFnsOA
set_option linter.unusedVariables false
set_option linter.unusedSimpArgs false
set_option maxRecDepth 100000
set_option maxHeartbeats 4000000
noncomputable section
namespace Go.Proofs.Ytofpjfohijljgaa
open Go.Lst
open Go.Sim (fadd fsub fmul fdiv fneg feq flt fle fsqrt cn nanb fabs fcps fsame feq_self cps_cn fabs_cn)
-- tumble/solve.may
theorem ann_solve_may : FnOk Try.prog false 0 Try.f64 Ann.no := (fnNo _)
def s_solve_may_0 (m j l q C : Nat) : Bool := ((((s_num_Finite_float64__0 m) && (fle 0 m)) && (s_num_Finite_float64__0 j)) && (fle 0 j))
theorem e_solve_may (m j l q C : Nat) : outB (evFnM Try.prog false menv55 [] [] 96 Ann.no Try.f64 [AV.agg [AV.float m, AV.float j, AV.float l, AV.float q, AV.float C]] []) = some (true, AV.bool (s_solve_may_0 m j l q C)) := by kernel_rfl
def S_solve_may : List AV → Option (Ob × AV)
  | [AV.agg [AV.float m, AV.float j, AV.float l, AV.float q, AV.float C]] => some (Ob.tt, AV.bool (s_solve_may_0 m j l q C))
  | _ => none
theorem t_solve_may : SOkM Try.prog false (64, fun args => match S_solve_may args with | some (o, v) => some (o, v, []) | none => none) := SOkM.flat (N := 96) menv55_ok Try.func64 ann_solve_may Try.call64 fun args o v h ho => by
  unfold S_solve_may at h
  split at h
  · rename_i m j l q C
    cases h
    have ho2 := ho
    have this := show outB (evFnM Try.prog false menv55 [] [] 96 Ann.no Try.f64 [AV.agg [AV.float m, AV.float j, AV.float l, AV.float q, AV.float C]] []) = _ from e_solve_may m j l q C
    exact ⟨this, rfl⟩
  · cases h
def c_solve_may : SFM := fun args => match S_solve_may args with | some (o, v) => some (o, v, []) | none => none
theorem c_solve_may_ok : SOkM Try.prog false (64, c_solve_may) := t_solve_may
def mss56 : List (FuncId × SFM) := (64, c_solve_may) :: mss55
def menv56 : EnvM := mkEnvM mxs mss56 mws1
theorem mss56_ok : All (SOkM Try.prog false) mss56 := All.cons c_solve_may_ok mss55_ok
theorem menv56_ok : menv56.Ok Try.prog false := mkEnvM_ok mxs_ok mss56_ok mws1_ok
-- tumble/solve.asked$1
theorem ann_solve_asked_1 : FnOk Try.prog false 0 Try.f63 Ann.no := (fnNo _)
def s_solve_asked_1_0 (m j l q C : Nat) : Bool := (!(s_solve_may_0 m j l q C))
theorem e_solve_asked_1 (m j l q C : Nat) : outB (evFnM Try.prog false menv56 [] [] 96 Ann.no Try.f63 [AV.agg [AV.float m, AV.float j, AV.float l, AV.float q, AV.float C]] []) = some (true, AV.bool (s_solve_asked_1_0 m j l q C)) := by kernel_rfl
def S_solve_asked_1 : List AV → Option (Ob × AV)
  | [AV.agg [AV.float m, AV.float j, AV.float l, AV.float q, AV.float C]] => some (Ob.tt, AV.bool (s_solve_asked_1_0 m j l q C))
  | _ => none
theorem t_solve_asked_1 : SOkM Try.prog false (63, fun args => match S_solve_asked_1 args with | some (o, v) => some (o, v, []) | none => none) := SOkM.flat (N := 96) menv56_ok Try.func63 ann_solve_asked_1 Try.call63 fun args o v h ho => by
  unfold S_solve_asked_1 at h
  split at h
  · rename_i m j l q C
    cases h
    have ho2 := ho
    have this := show outB (evFnM Try.prog false menv56 [] [] 96 Ann.no Try.f63 [AV.agg [AV.float m, AV.float j, AV.float l, AV.float q, AV.float C]] []) = _ from e_solve_asked_1 m j l q C
    exact ⟨this, rfl⟩
  · cases h
def c_solve_asked_1 : SFM := fun args => match S_solve_asked_1 args with | some (o, v) => some (o, v, []) | none => none
theorem c_solve_asked_1_ok : SOkM Try.prog false (63, c_solve_asked_1) := t_solve_asked_1
def mss57 : List (FuncId × SFM) := (63, c_solve_asked_1) :: mss56
def menv57 : EnvM := mkEnvM mxs mss57 mws1
theorem mss57_ok : All (SOkM Try.prog false) mss57 := All.cons c_solve_asked_1_ok mss56_ok
theorem menv57_ok : menv57.Ok Try.prog false := mkEnvM_ok mxs_ok mss57_ok mws1_ok
-- slices.IndexFunc[[]tumble/api.Still,tumble/api.Still]
-- a loop of slices.IndexFunc[[]tumble/api.Still,tumble/api.Still]
structure V_slices_IndexFunc___api_Still_api_Still__L0 where
  v0 : Int
def tpl_slices_IndexFunc___api_Still_api_Still__L0 : List AV := (AV.nul :: AV.nul :: AV.top :: AV.top :: AV.top :: AV.top :: AV.top :: AV.nul :: AV.nul :: tpA 10 ([]))
def cts_slices_IndexFunc___api_Still_api_Still__L0 : List CT := []
def phs_slices_IndexFunc___api_Still_api_Still__L0 : List Src := []
def T_slices_IndexFunc___api_Still_api_Still__L0 (u : Nat) (F aa ac ah au : Nat → Nat) (ar : Int) (x : V_slices_IndexFunc___api_Still_api_Still__L0) (F0 : Nat → List AV) : List AV × Heap := ((AV.view u 5 F0 :: AV.func 63 [] [] :: AV.top :: AV.top :: AV.top :: AV.top :: AV.top :: AV.int .i64 ar :: AV.int .i64 x.v0 :: tpA 10 ([])), [])
def sh_slices_IndexFunc___api_Still_api_Still__L0 (u : Nat) (F aa ac ah au : Nat → Nat) (ar : Int) (x : V_slices_IndexFunc___api_Still_api_Still__L0) : List AV × Heap := T_slices_IndexFunc___api_Still_api_Still__L0 u F aa ac ah au ar x (fun j0 => [AV.float (F j0), AV.float (aa j0), AV.float (ac j0), AV.float (ah j0), AV.float (au j0)])
def step_slices_IndexFunc___api_Still_api_Still__L0 (u : Nat) (F aa ac ah au : Nat → Nat) (ar : Int) (x : V_slices_IndexFunc___api_Still_api_Still__L0) : V_slices_IndexFunc___api_Still_api_Still__L0 := V_slices_IndexFunc___api_Still_api_Still__L0.mk (IntKind.wrap .i64 (x.v0 + (1 : Int)))
def go_slices_IndexFunc___api_Still_api_Still__L0 (u : Nat) (F aa ac ah au : Nat → Nat) (ar : Int) (x : V_slices_IndexFunc___api_Still_api_Still__L0) : Bool := (bif (bif (!(ilt x.v0 ar)) then false else (s_solve_asked_1_0 (F (Int.toNat x.v0)) (aa (Int.toNat x.v0)) (ac (Int.toNat x.v0)) (ah (Int.toNat x.v0)) (au (Int.toNat x.v0)))) then false else (bif (!(ilt x.v0 ar)) then false else true))
def ok_slices_IndexFunc___api_Still_api_Still__L0 (u : Nat) (F aa ac ah au : Nat → Nat) (ar : Int) (x : V_slices_IndexFunc___api_Still_api_Still__L0) : Bool := (mrgB (bif (!(ilt x.v0 ar)) then false else (s_solve_asked_1_0 (F (Int.toNat x.v0)) (aa (Int.toNat x.v0)) (ac (Int.toNat x.v0)) (ah (Int.toNat x.v0)) (au (Int.toNat x.v0)))) ((ile (0 : Int) x.v0) && (Nat.blt (Int.toNat x.v0) u)) (mrgB (!(ilt x.v0 ar)) true ((ile (0 : Int) x.v0) && (Nat.blt (Int.toNat x.v0) u))))
def L_slices_IndexFunc___api_Still_api_Still__L0 (u : Nat) (F aa ac ah au : Nat → Nat) (ar : Int) (x : V_slices_IndexFunc___api_Still_api_Still__L0) : V_slices_IndexFunc___api_Still_api_Still__L0 := lastL (ok_slices_IndexFunc___api_Still_api_Still__L0 u F aa ac ah au ar) (go_slices_IndexFunc___api_Still_api_Still__L0 u F aa ac ah au ar) (step_slices_IndexFunc___api_Still_api_Still__L0 u F aa ac ah au ar) x
def E_slices_IndexFunc___api_Still_api_Still__L0 (u : Nat) (F aa ac ah au : Nat → Nat) (ar : Int) (x : V_slices_IndexFunc___api_Still_api_Still__L0) : Bool := endsL (ok_slices_IndexFunc___api_Still_api_Still__L0 u F aa ac ah au ar) (go_slices_IndexFunc___api_Still_api_Still__L0 u F aa ac ah au ar) (step_slices_IndexFunc___api_Still_api_Still__L0 u F aa ac ah au ar) x
theorem all_slices_IndexFunc___api_Still_api_Still__L0 (u : Nat) (F aa ac ah au : Nat → Nat) (ar : Int) (x : V_slices_IndexFunc___api_Still_api_Still__L0) : rnd Try.prog false menv57 [] [] 96 Ann.no (subC [1, 0, 1, 0, 0] (codeOf Try.f88)) 0 [] tpl_slices_IndexFunc___api_Still_api_Still__L0 cts_slices_IndexFunc___api_Still_api_Still__L0 (false :: false :: true :: true :: true :: true :: true :: false :: tpB 11 ([])) [] (sh_slices_IndexFunc___api_Still_api_Still__L0 u F aa ac ah au ar x) = (true, true, go_slices_IndexFunc___api_Still_api_Still__L0 u F aa ac ah au ar x, ok_slices_IndexFunc___api_Still_api_Still__L0 u F aa ac ah au ar x, true, sh_slices_IndexFunc___api_Still_api_Still__L0 u F aa ac ah au ar (step_slices_IndexFunc___api_Still_api_Still__L0 u F aa ac ah au ar x), true) := by kernel_rfl
def fam_slices_IndexFunc___api_Still_api_Still__L0 (u : Nat) (F aa ac ah au : Nat → Nat) (ar : Int) : Fam Try.prog false menv57 [] [] 96 0 Ann.no (subC [1, 0, 1, 0, 0] (codeOf Try.f88)) V_slices_IndexFunc___api_Still_api_Still__L0 where
  sh := sh_slices_IndexFunc___api_Still_api_Still__L0 u F aa ac ah au ar
  ok := ok_slices_IndexFunc___api_Still_api_Still__L0 u F aa ac ah au ar
  go := go_slices_IndexFunc___api_Still_api_Still__L0 u F aa ac ah au ar
  step := step_slices_IndexFunc___api_Still_api_Still__L0 u F aa ac ah au ar
  chg := (false :: false :: true :: true :: true :: true :: true :: false :: tpB 11 ([]))
  chgH := []
  tpl := tpl_slices_IndexFunc___api_Still_api_Still__L0
  cts := cts_slices_IndexFunc___api_Still_api_Still__L0
  keep := 0
  srcs := []
  ann := (annNo (subC [1, 0, 1, 0, 0] (codeOf Try.f88)))
  le := by kernel_rfl
  kept := by kernel_rfl
  keptB := by kernel_rfl
  all := all_slices_IndexFunc___api_Still_api_Still__L0 u F aa ac ah au ar
  len := fun x => by kernel_rfl
  head := fun x y => by kernel_rfl
  con := fun x y => by kernel_rfl
  conH := fun x y => by kernel_rfl
def F_slices_IndexFunc___api_Still_api_Still__L0 : St → Option Ch := fun s => cond (Nat.beq s.tm.length 19 && Nat.beq s.H.length 0) (tkCons (alL tpl_slices_IndexFunc___api_Still_api_Still__L0 s.tm) fun m t0 => tkView 5 m fun s0 f0 => tkCons t0 fun j t1 => tkFunc 63 j fun l2 l3 => tkNil l2 <| tkNil l3 <| tkTops 5 t1 fun t4 => tkCons t4 fun E t5 => tkI .i64 E fun s6 => tkCons t5 fun J t6 => tkI .i64 J fun s7 => tkTops 10 t6 fun t7 => tkNil t7 <| tkNil (alH cts_slices_IndexFunc___api_Still_api_Still__L0 (s.H ++ List.map phan phs_slices_IndexFunc___api_Still_api_Still__L0)) <| Fam.out (fam_slices_IndexFunc___api_Still_api_Still__L0 s0 (fL f0 0) (fL f0 1) (fL f0 2) (fL f0 3) (fL f0 4) s6) s (allB fun i => isNrm [Ck.f, Ck.f, Ck.f, Ck.f, Ck.f] (f0 i)) (V_slices_IndexFunc___api_Still_api_Still__L0.mk s7)) none
theorem F_slices_IndexFunc___api_Still_api_Still__L0_ok : ∀ s ch, F_slices_IndexFunc___api_Still_api_Still__L0 s = some ch → AllI s ch ∧ LoopSpec Try.prog false 0 (subC [1, 0, 1, 0, 0] (codeOf Try.f88)) s (sel ch) := by
  intro s ch h
  unfold F_slices_IndexFunc___api_Still_api_Still__L0 at h
  obtain ⟨hl, h0⟩ := cond_some h rfl
  clear h
  obtain ⟨hl, hb⟩ := and_beq2 hl
  obtain ⟨m, t0, e0, h1⟩ := tkCons_some h0
  obtain ⟨s0, f0, rfl, h2⟩ := tkView_some h1
  obtain ⟨j, t1, rfl, h3⟩ := tkCons_some h2
  obtain ⟨l2, l3, rfl, h4⟩ := tkFunc_some h3
  obtain ⟨rfl, h5⟩ := tkNil_some h4
  obtain ⟨rfl, h6⟩ := tkNil_some h5
  obtain ⟨t4, rfl, h7⟩ := tkTops_some h6
  obtain ⟨E, t5, rfl, h8⟩ := tkCons_some h7
  obtain ⟨s6, rfl, h9⟩ := tkI_some h8
  obtain ⟨J, t6, rfl, h10⟩ := tkCons_some h9
  obtain ⟨s7, rfl, h11⟩ := tkI_some h10
  obtain ⟨t7, rfl, h12⟩ := tkTops_some h11
  obtain ⟨rfl, h13⟩ := tkNil_some h12
  obtain ⟨eH, h14⟩ := tkNil_some h13
  refine Fam.spec menv57_ok (fam_slices_IndexFunc___api_Still_api_Still__L0 s0 (fL f0 0) (fL f0 1) (fL f0 2) (fL f0 3) (fL f0 4) s6) (phs := phs_slices_IndexFunc___api_Still_api_Still__L0) (hl.trans (by kernel_rfl)) (hb.trans (by kernel_rfl)) ?_ ?_ h14
  · rw [← hdr_alH cts_slices_IndexFunc___api_Still_api_Still__L0 (s.H ++ List.map phan phs_slices_IndexFunc___api_Still_api_Still__L0), eH]; kernel_rfl
  · intro hq
    have hq0 := hq
    have n0 := nrm_fun hq0
    show sh_slices_IndexFunc___api_Still_api_Still__L0 s0 (fL f0 0) (fL f0 1) (fL f0 2) (fL f0 3) (fL f0 4) s6 (V_slices_IndexFunc___api_Still_api_Still__L0.mk s7) = (alL tpl_slices_IndexFunc___api_Still_api_Still__L0 s.tm, alH cts_slices_IndexFunc___api_Still_api_Still__L0 (s.H ++ List.map phan phs_slices_IndexFunc___api_Still_api_Still__L0))
    rw [e0, eH]
    refine Eq.trans (show sh_slices_IndexFunc___api_Still_api_Still__L0 s0 (fL f0 0) (fL f0 1) (fL f0 2) (fL f0 3) (fL f0 4) s6 (V_slices_IndexFunc___api_Still_api_Still__L0.mk s7) = T_slices_IndexFunc___api_Still_api_Still__L0 s0 (fL f0 0) (fL f0 1) (fL f0 2) (fL f0 3) (fL f0 4) s6 (V_slices_IndexFunc___api_Still_api_Still__L0.mk s7) (fun i => mkN [Ck.f, Ck.f, Ck.f, Ck.f, Ck.f] (f0 i) 0) by kernel_rfl) ?_
    rw [n0]
    kernel_rfl
theorem ann_slices_IndexFunc___api_Still_api_Still_ : FnOk Try.prog false 0 Try.f88 (Ann.two Ann.no (Ann.two (Ann.two Ann.no (Ann.one (Ann.loop F_slices_IndexFunc___api_Still_api_Still__L0))) Ann.no)) := (fnOk_of (c := codeOf Try.f88) (by kernel_rfl) (annSeq (a := (subC [0] (codeOf Try.f88))) (b := (subC [1] (codeOf Try.f88))) (by kernel_rfl) (annNo (subC [0] (codeOf Try.f88))) (annSeq (a := (subC [1, 0] (codeOf Try.f88))) (b := (subC [1, 1] (codeOf Try.f88))) (by kernel_rfl) (annSeq (a := (subC [1, 0, 0] (codeOf Try.f88))) (b := (subC [1, 0, 1] (codeOf Try.f88))) (by kernel_rfl) (annNo (subC [1, 0, 0] (codeOf Try.f88))) (annBlock (a := (subC [1, 0, 1, 0] (codeOf Try.f88))) (i := 0) (by kernel_rfl) (annLoop (a := (subC [1, 0, 1, 0, 0] (codeOf Try.f88))) (by kernel_rfl) F_slices_IndexFunc___api_Still_api_Still__L0_ok))) (annNo (subC [1, 1] (codeOf Try.f88))))))
def s_slices_IndexFunc___api_Still_api_Still__0 (k : Nat) (Z ad ae af ag : Nat → Nat) : Int := let x0 := (L_slices_IndexFunc___api_Still_api_Still__L0 k Z ad ae af ag (Int.ofNat k) (V_slices_IndexFunc___api_Still_api_Still__L0.mk (0 : Int))).v0; let x1 := Int.toNat x0; (bif (bif (!(ilt x0 (Int.ofNat k))) then false else (s_solve_asked_1_0 (Z x1) (ad x1) (ae x1) (af x1) (ag x1))) then x0 else (-1 : Int))
def q_slices_IndexFunc___api_Still_api_Still_ (k : Nat) (Z ad ae af ag : Nat → Nat) : Bool := (let x0 := (allB fun _ => true) && (E_slices_IndexFunc___api_Still_api_Still__L0 k Z ad ae af ag (Int.ofNat k) (V_slices_IndexFunc___api_Still_api_Still__L0.mk (0 : Int))); let x1 := (L_slices_IndexFunc___api_Still_api_Still__L0 k Z ad ae af ag (Int.ofNat k) (V_slices_IndexFunc___api_Still_api_Still__L0.mk (0 : Int))).v0; let x2 := Int.toNat x1; (mrgB (bif (!(ilt x1 (Int.ofNat k))) then false else (s_solve_asked_1_0 (Z x2) (ad x2) (ae x2) (af x2) (ag x2))) x0 x0))
theorem e_slices_IndexFunc___api_Still_api_Still_ (k : Nat) (Z ad ae af ag : Nat → Nat) : outB (evFnM Try.prog false menv57 [] [] 96 (Ann.two Ann.no (Ann.two (Ann.two Ann.no (Ann.one (Ann.loop F_slices_IndexFunc___api_Still_api_Still__L0))) Ann.no)) Try.f88 [AV.view k 5 (fun i0 => [AV.float (Z i0), AV.float (ad i0), AV.float (ae i0), AV.float (af i0), AV.float (ag i0)]), AV.func 63 [] []] []) = some (q_slices_IndexFunc___api_Still_api_Still_ k Z ad ae af ag, AV.int .i64 (s_slices_IndexFunc___api_Still_api_Still__0 k Z ad ae af ag)) := by kernel_rfl
def o_slices_IndexFunc___api_Still_api_Still_ (k : Nat) (Z ad ae af ag : Nat → Nat) : Bool := let x0 := E_slices_IndexFunc___api_Still_api_Still__L0 k Z ad ae af ag (Int.ofNat k) (V_slices_IndexFunc___api_Still_api_Still__L0.mk (0 : Int)); let x1 := (L_slices_IndexFunc___api_Still_api_Still__L0 k Z ad ae af ag (Int.ofNat k) (V_slices_IndexFunc___api_Still_api_Still__L0.mk (0 : Int))).v0; let x2 := Int.toNat x1; (mrgB (bif (!(ilt x1 (Int.ofNat k))) then false else (s_solve_asked_1_0 (Z x2) (ad x2) (ae x2) (af x2) (ag x2))) x0 x0)
def S_slices_IndexFunc___api_Still_api_Still_ : List AV → Option (Ob × AV)
  | [AV.view k 5 e, AV.func 63 [] []] => some (Ob.both (Ob.bit (allB fun i => isNrm [Ck.f, Ck.f, Ck.f, Ck.f, Ck.f] (e i))) (Ob.bit (o_slices_IndexFunc___api_Still_api_Still_ k (fL e 0) (fL e 1) (fL e 2) (fL e 3) (fL e 4))), AV.int .i64 (s_slices_IndexFunc___api_Still_api_Still__0 k (fL e 0) (fL e 1) (fL e 2) (fL e 3) (fL e 4)))
  | _ => none
theorem ob_slices_IndexFunc___api_Still_api_Still_ (k : Nat) (Z ad ae af ag : Nat → Nat) (ho : o_slices_IndexFunc___api_Still_api_Still_ k Z ad ae af ag = true) : q_slices_IndexFunc___api_Still_api_Still_ k Z ad ae af ag = true := by
  unfold q_slices_IndexFunc___api_Still_api_Still_
  unfold o_slices_IndexFunc___api_Still_api_Still_ at ho
  simp only [allB_true, eqT_self, mrgB_self, Bool.true_and, Bool.and_true] at ho ⊢
  exact ho
theorem t_slices_IndexFunc___api_Still_api_Still_ : SOkM Try.prog false (88, fun args => match S_slices_IndexFunc___api_Still_api_Still_ args with | some (o, v) => some (o, v, []) | none => none) := SOkM.flat (N := 96) menv57_ok Try.func88 ann_slices_IndexFunc___api_Still_api_Still_ Try.call88 fun args o v h ho => by
  unfold S_slices_IndexFunc___api_Still_api_Still_ at h
  split at h
  · rename_i k e
    cases h
    rw [Ob.both_ok, Bool.and_eq_true] at ho
    obtain ⟨hn, ho2⟩ := ho
    have n0 := hn
    simp only [Ob.ok] at n0
    replace n0 := nrm_fun n0
    have this := show outB (evFnM Try.prog false menv57 [] [] 96 (Ann.two Ann.no (Ann.two (Ann.two Ann.no (Ann.one (Ann.loop F_slices_IndexFunc___api_Still_api_Still__L0))) Ann.no)) Try.f88 [AV.view k 5 (fun i => mkN [Ck.f, Ck.f, Ck.f, Ck.f, Ck.f] (e i) 0), AV.func 63 [] []] []) = _ from e_slices_IndexFunc___api_Still_api_Still_ k (fL e 0) (fL e 1) (fL e 2) (fL e 3) (fL e 4)
    rw [(ob_slices_IndexFunc___api_Still_api_Still_ k (fL e 0) (fL e 1) (fL e 2) (fL e 3) (fL e 4) ho2)] at this
    rw [n0] at this
    exact ⟨this, rfl⟩
  · cases h
def c_slices_IndexFunc___api_Still_api_Still_ : SFM := fun args => match S_slices_IndexFunc___api_Still_api_Still_ args with | some (o, v) => some (o, v, []) | none => none
theorem c_slices_IndexFunc___api_Still_api_Still__ok : SOkM Try.prog false (88, c_slices_IndexFunc___api_Still_api_Still_) := t_slices_IndexFunc___api_Still_api_Still_
def mss58 : List (FuncId × SFM) := (88, c_slices_IndexFunc___api_Still_api_Still_) :: mss57
def menv58 : EnvM := mkEnvM mxs mss58 mws1
theorem mss58_ok : All (SOkM Try.prog false) mss58 := All.cons c_slices_IndexFunc___api_Still_api_Still__ok mss57_ok
theorem menv58_ok : menv58.Ok Try.prog false := mkEnvM_ok mxs_ok mss58_ok mws1_ok
-- slices.ContainsFunc[[]tumble/api.Still,tumble/api.Still]
theorem ann_slices_ContainsFunc___api_Still_api_Still_ : FnOk Try.prog false 0 Try.f62 Ann.no := (fnNo _)
def s_slices_ContainsFunc___api_Still_api_Still__0 (k : Nat) (Z ad ae af ag : Nat → Nat) : Bool := (ile (0 : Int) (s_slices_IndexFunc___api_Still_api_Still__0 k Z ad ae af ag))
theorem e_slices_ContainsFunc___api_Still_api_Still_ (k : Nat) (Z ad ae af ag : Nat → Nat) : outB (evFnM Try.prog false menv58 [] [] 96 Ann.no Try.f62 [AV.view k 5 (fun i0 => [AV.float (Z i0), AV.float (ad i0), AV.float (ae i0), AV.float (af i0), AV.float (ag i0)]), AV.func 63 [] []] []) = some (((allB fun _ => true) && (o_slices_IndexFunc___api_Still_api_Still_ k Z ad ae af ag)), AV.bool (s_slices_ContainsFunc___api_Still_api_Still__0 k Z ad ae af ag)) := by kernel_rfl
def o_slices_ContainsFunc___api_Still_api_Still_ (k : Nat) (Z ad ae af ag : Nat → Nat) : Bool := (o_slices_IndexFunc___api_Still_api_Still_ k Z ad ae af ag)
def S_slices_ContainsFunc___api_Still_api_Still_ : List AV → Option (Ob × AV)
  | [AV.view k 5 e, AV.func 63 [] []] => some (Ob.both (Ob.bit (allB fun i => isNrm [Ck.f, Ck.f, Ck.f, Ck.f, Ck.f] (e i))) (Ob.bit (o_slices_ContainsFunc___api_Still_api_Still_ k (fL e 0) (fL e 1) (fL e 2) (fL e 3) (fL e 4))), AV.bool (s_slices_ContainsFunc___api_Still_api_Still__0 k (fL e 0) (fL e 1) (fL e 2) (fL e 3) (fL e 4)))
  | _ => none
theorem ob_slices_ContainsFunc___api_Still_api_Still_ (k : Nat) (Z ad ae af ag : Nat → Nat) (ho : o_slices_ContainsFunc___api_Still_api_Still_ k Z ad ae af ag = true) : ((allB fun _ => true) && (o_slices_IndexFunc___api_Still_api_Still_ k Z ad ae af ag)) = true := by
  unfold o_slices_ContainsFunc___api_Still_api_Still_ at ho
  simp only [allB_true, eqT_self, mrgB_self, Bool.true_and, Bool.and_true] at ho ⊢
  exact ho
theorem t_slices_ContainsFunc___api_Still_api_Still_ : SOkM Try.prog false (62, fun args => match S_slices_ContainsFunc___api_Still_api_Still_ args with | some (o, v) => some (o, v, []) | none => none) := SOkM.flat (N := 96) menv58_ok Try.func62 ann_slices_ContainsFunc___api_Still_api_Still_ Try.call62 fun args o v h ho => by
  unfold S_slices_ContainsFunc___api_Still_api_Still_ at h
  split at h
  · rename_i k e
    cases h
    rw [Ob.both_ok, Bool.and_eq_true] at ho
    obtain ⟨hn, ho2⟩ := ho
    have n0 := hn
    simp only [Ob.ok] at n0
    replace n0 := nrm_fun n0
    have this := show outB (evFnM Try.prog false menv58 [] [] 96 Ann.no Try.f62 [AV.view k 5 (fun i => mkN [Ck.f, Ck.f, Ck.f, Ck.f, Ck.f] (e i) 0), AV.func 63 [] []] []) = _ from e_slices_ContainsFunc___api_Still_api_Still_ k (fL e 0) (fL e 1) (fL e 2) (fL e 3) (fL e 4)
    rw [(ob_slices_ContainsFunc___api_Still_api_Still_ k (fL e 0) (fL e 1) (fL e 2) (fL e 3) (fL e 4) ho2)] at this
    rw [n0] at this
    exact ⟨this, rfl⟩
  · cases h
def c_slices_ContainsFunc___api_Still_api_Still_ : SFM := fun args => match S_slices_ContainsFunc___api_Still_api_Still_ args with | some (o, v) => some (o, v, []) | none => none
theorem c_slices_ContainsFunc___api_Still_api_Still__ok : SOkM Try.prog false (62, c_slices_ContainsFunc___api_Still_api_Still_) := t_slices_ContainsFunc___api_Still_api_Still_
def mss59 : List (FuncId × SFM) := (62, c_slices_ContainsFunc___api_Still_api_Still_) :: mss58
def menv59 : EnvM := mkEnvM mxs mss59 mws1
theorem mss59_ok : All (SOkM Try.prog false) mss59 := All.cons c_slices_ContainsFunc___api_Still_api_Still__ok mss58_ok
theorem menv59_ok : menv59.Ok Try.prog false := mkEnvM_ok mxs_ok mss59_ok mws1_ok
-- tumble/solve.asked
-- a loop of tumble/solve.asked
structure V_solve_asked_L0 where
  v0 : Int
def tpl_solve_asked_L0 : List AV := (AV.nul :: AV.nul :: tpA 14 (AV.nul :: AV.nul :: AV.nul :: tpA 16 ([])))
def cts_solve_asked_L0 : List CT := []
def phs_solve_asked_L0 : List Src := []
def T_solve_asked_L0 (u : Nat) (F aa : Nat → Int) (ac ah au ar av ay aC aD aA aE : Nat → Nat) (az : Nat → Int) (aB : Nat → Nat) (aG : Nat) (aN aM bz bA bB : Nat → Nat) (aV : Int) (x : V_solve_asked_L0) (F0 F1 F2 : Nat → List AV) : List AV × Heap := ((AV.view u 14 F0 :: AV.view aG 5 F1 :: tpA 14 (AV.view u 14 F2 :: AV.int .i64 aV :: AV.int .i64 x.v0 :: tpA 16 ([]))), [])
def sh_solve_asked_L0 (u : Nat) (F aa : Nat → Int) (ac ah au ar av ay aC aD aA aE : Nat → Nat) (az : Nat → Int) (aB : Nat → Nat) (aG : Nat) (aN aM bz bA bB : Nat → Nat) (aV : Int) (x : V_solve_asked_L0) : List AV × Heap := T_solve_asked_L0 u F aa ac ah au ar av ay aC aD aA aE az aB aG aN aM bz bA bB aV x (fun j0 => [AV.int .i64 (F j0), AV.int .i64 (aa j0), AV.float (ac j0), AV.float (ah j0), AV.float (au j0), AV.float (ar j0), AV.float (av j0), AV.float (ay j0), AV.float (aC j0), AV.float (aD j0), AV.float (aA j0), AV.float (aE j0), AV.int .i64 (az j0), AV.float (aB j0)]) (fun j0 => [AV.float (aN j0), AV.float (aM j0), AV.float (bz j0), AV.float (bA j0), AV.float (bB j0)]) (fun j0 => [AV.int .i64 (F j0), AV.int .i64 (aa j0), AV.float (ac j0), AV.float (ah j0), AV.float (au j0), AV.float (ar j0), AV.float (av j0), AV.float (ay j0), AV.float (aC j0), AV.float (aD j0), AV.float (aA j0), AV.float (aE j0), AV.int .i64 (az j0), AV.float (aB j0)])
def step_solve_asked_L0 (u : Nat) (F aa : Nat → Int) (ac ah au ar av ay aC aD aA aE : Nat → Nat) (az : Nat → Int) (aB : Nat → Nat) (aG : Nat) (aV : Int) (x : V_solve_asked_L0) : V_solve_asked_L0 := V_solve_asked_L0.mk (IntKind.wrap .i64 (x.v0 + (1 : Int)))
def go_solve_asked_L0 (u : Nat) (F aa : Nat → Int) (ac ah au ar av ay aC aD aA aE : Nat → Nat) (az : Nat → Int) (aB : Nat → Nat) (aG : Nat) (aV : Int) (x : V_solve_asked_L0) : Bool := let x0 := !(ilt x.v0 aV); (bif (bif x0 then false else (!(ieq (s_rows_Check_0 (F (Int.toNat x.v0)) (aa (Int.toNat x.v0)) (ac (Int.toNat x.v0)) (ah (Int.toNat x.v0)) (au (Int.toNat x.v0)) (ar (Int.toNat x.v0)) (av (Int.toNat x.v0)) (ay (Int.toNat x.v0)) (aC (Int.toNat x.v0)) (aD (Int.toNat x.v0)) (aA (Int.toNat x.v0)) (aE (Int.toNat x.v0)) (az (Int.toNat x.v0)) (aB (Int.toNat x.v0)) (Int.ofNat u) (Int.ofNat aG)) (0 : Int)))) then false else (bif x0 then false else true))
def ok_solve_asked_L0 (u : Nat) (F aa : Nat → Int) (ac ah au ar av ay aC aD aA aE : Nat → Nat) (az : Nat → Int) (aB : Nat → Nat) (aG : Nat) (aV : Int) (x : V_solve_asked_L0) : Bool := let x0 := (ile (0 : Int) x.v0) && (Nat.blt (Int.toNat x.v0) u); let x1 := !(ilt x.v0 aV); (mrgB (bif x1 then false else (!(ieq (s_rows_Check_0 (F (Int.toNat x.v0)) (aa (Int.toNat x.v0)) (ac (Int.toNat x.v0)) (ah (Int.toNat x.v0)) (au (Int.toNat x.v0)) (ar (Int.toNat x.v0)) (av (Int.toNat x.v0)) (ay (Int.toNat x.v0)) (aC (Int.toNat x.v0)) (aD (Int.toNat x.v0)) (aA (Int.toNat x.v0)) (aE (Int.toNat x.v0)) (az (Int.toNat x.v0)) (aB (Int.toNat x.v0)) (Int.ofNat u) (Int.ofNat aG)) (0 : Int)))) x0 (mrgB x1 true x0))
def L_solve_asked_L0 (u : Nat) (F aa : Nat → Int) (ac ah au ar av ay aC aD aA aE : Nat → Nat) (az : Nat → Int) (aB : Nat → Nat) (aG : Nat) (aV : Int) (x : V_solve_asked_L0) : V_solve_asked_L0 := lastL (ok_solve_asked_L0 u F aa ac ah au ar av ay aC aD aA aE az aB aG aV) (go_solve_asked_L0 u F aa ac ah au ar av ay aC aD aA aE az aB aG aV) (step_solve_asked_L0 u F aa ac ah au ar av ay aC aD aA aE az aB aG aV) x
def E_solve_asked_L0 (u : Nat) (F aa : Nat → Int) (ac ah au ar av ay aC aD aA aE : Nat → Nat) (az : Nat → Int) (aB : Nat → Nat) (aG : Nat) (aV : Int) (x : V_solve_asked_L0) : Bool := endsL (ok_solve_asked_L0 u F aa ac ah au ar av ay aC aD aA aE az aB aG aV) (go_solve_asked_L0 u F aa ac ah au ar av ay aC aD aA aE az aB aG aV) (step_solve_asked_L0 u F aa ac ah au ar av ay aC aD aA aE az aB aG aV) x
theorem all_solve_asked_L0 (u : Nat) (F aa : Nat → Int) (ac ah au ar av ay aC aD aA aE : Nat → Nat) (az : Nat → Int) (aB : Nat → Nat) (aG : Nat) (aN aM bz bA bB : Nat → Nat) (aV : Int) (x : V_solve_asked_L0) : rnd Try.prog false menv59 [] [] 96 Ann.no (subC [1, 1, 0, 1, 0, 0] (codeOf Try.f36)) 0 [] tpl_solve_asked_L0 cts_solve_asked_L0 (false :: false :: tpB 14 (false :: false :: tpB 17 ([]))) [] (sh_solve_asked_L0 u F aa ac ah au ar av ay aC aD aA aE az aB aG aN aM bz bA bB aV x) = (true, true, go_solve_asked_L0 u F aa ac ah au ar av ay aC aD aA aE az aB aG aV x, ok_solve_asked_L0 u F aa ac ah au ar av ay aC aD aA aE az aB aG aV x, true, sh_solve_asked_L0 u F aa ac ah au ar av ay aC aD aA aE az aB aG aN aM bz bA bB aV (step_solve_asked_L0 u F aa ac ah au ar av ay aC aD aA aE az aB aG aV x), true) := by kernel_rfl
def fam_solve_asked_L0 (u : Nat) (F aa : Nat → Int) (ac ah au ar av ay aC aD aA aE : Nat → Nat) (az : Nat → Int) (aB : Nat → Nat) (aG : Nat) (aN aM bz bA bB : Nat → Nat) (aV : Int) : Fam Try.prog false menv59 [] [] 96 0 Ann.no (subC [1, 1, 0, 1, 0, 0] (codeOf Try.f36)) V_solve_asked_L0 where
  sh := sh_solve_asked_L0 u F aa ac ah au ar av ay aC aD aA aE az aB aG aN aM bz bA bB aV
  ok := ok_solve_asked_L0 u F aa ac ah au ar av ay aC aD aA aE az aB aG aV
  go := go_solve_asked_L0 u F aa ac ah au ar av ay aC aD aA aE az aB aG aV
  step := step_solve_asked_L0 u F aa ac ah au ar av ay aC aD aA aE az aB aG aV
  chg := (false :: false :: tpB 14 (false :: false :: tpB 17 ([])))
  chgH := []
  tpl := tpl_solve_asked_L0
  cts := cts_solve_asked_L0
  keep := 0
  srcs := []
  ann := (annNo (subC [1, 1, 0, 1, 0, 0] (codeOf Try.f36)))
  le := by kernel_rfl
  kept := by kernel_rfl
  keptB := by kernel_rfl
  all := all_solve_asked_L0 u F aa ac ah au ar av ay aC aD aA aE az aB aG aN aM bz bA bB aV
  len := fun x => by kernel_rfl
  head := fun x y => by kernel_rfl
  con := fun x y => by kernel_rfl
  conH := fun x y => by kernel_rfl
def F_solve_asked_L0 : St → Option Ch := fun s => cond (Nat.beq s.tm.length 35 && Nat.beq s.H.length 0) (tkCons (alL tpl_solve_asked_L0 s.tm) fun m t0 => tkView 14 m fun s0 f0 => tkCons t0 fun j t1 => tkView 5 j fun s15 f1 => tkTops 14 t1 fun t2 => tkCons t2 fun q t3 => tkView 14 q fun s21 f2 => tkCons t3 fun C t4 => tkI .i64 C fun s36 => tkCons t4 fun E t5 => tkI .i64 E fun s37 => tkTops 16 t5 fun t6 => tkNil t6 <| tkNil (alH cts_solve_asked_L0 (s.H ++ List.map phan phs_solve_asked_L0)) <| Fam.out (fam_solve_asked_L0 s0 (iL f0 0) (iL f0 1) (fL f0 2) (fL f0 3) (fL f0 4) (fL f0 5) (fL f0 6) (fL f0 7) (fL f0 8) (fL f0 9) (fL f0 10) (fL f0 11) (iL f0 12) (fL f0 13) s15 (fL f1 0) (fL f1 1) (fL f1 2) (fL f1 3) (fL f1 4) s36) s ((((allB fun i => isNrm [Ck.i .i64, Ck.i .i64, Ck.f, Ck.f, Ck.f, Ck.f, Ck.f, Ck.f, Ck.f, Ck.f, Ck.f, Ck.f, Ck.i .i64, Ck.f] (f0 i)) && (allB fun i => isNrm [Ck.f, Ck.f, Ck.f, Ck.f, Ck.f] (f1 i))) && (eqT f2 f0)) && (eqT s21 s0)) (V_solve_asked_L0.mk s37)) none
theorem F_solve_asked_L0_ok : ∀ s ch, F_solve_asked_L0 s = some ch → AllI s ch ∧ LoopSpec Try.prog false 0 (subC [1, 1, 0, 1, 0, 0] (codeOf Try.f36)) s (sel ch) := by
  intro s ch h
  unfold F_solve_asked_L0 at h
  obtain ⟨hl, h0⟩ := cond_some h rfl
  clear h
  obtain ⟨hl, hb⟩ := and_beq2 hl
  obtain ⟨m, t0, e0, h1⟩ := tkCons_some h0
  obtain ⟨s0, f0, rfl, h2⟩ := tkView_some h1
  obtain ⟨j, t1, rfl, h3⟩ := tkCons_some h2
  obtain ⟨s15, f1, rfl, h4⟩ := tkView_some h3
  obtain ⟨t2, rfl, h5⟩ := tkTops_some h4
  obtain ⟨q, t3, rfl, h6⟩ := tkCons_some h5
  obtain ⟨s21, f2, rfl, h7⟩ := tkView_some h6
  obtain ⟨C, t4, rfl, h8⟩ := tkCons_some h7
  obtain ⟨s36, rfl, h9⟩ := tkI_some h8
  obtain ⟨E, t5, rfl, h10⟩ := tkCons_some h9
  obtain ⟨s37, rfl, h11⟩ := tkI_some h10
  obtain ⟨t6, rfl, h12⟩ := tkTops_some h11
  obtain ⟨rfl, h13⟩ := tkNil_some h12
  obtain ⟨eH, h14⟩ := tkNil_some h13
  refine Fam.spec menv59_ok (fam_solve_asked_L0 s0 (iL f0 0) (iL f0 1) (fL f0 2) (fL f0 3) (fL f0 4) (fL f0 5) (fL f0 6) (fL f0 7) (fL f0 8) (fL f0 9) (fL f0 10) (fL f0 11) (iL f0 12) (fL f0 13) s15 (fL f1 0) (fL f1 1) (fL f1 2) (fL f1 3) (fL f1 4) s36) (phs := phs_solve_asked_L0) (hl.trans (by kernel_rfl)) (hb.trans (by kernel_rfl)) ?_ ?_ h14
  · rw [← hdr_alH cts_solve_asked_L0 (s.H ++ List.map phan phs_solve_asked_L0), eH]; kernel_rfl
  · intro hq
    simp only [Bool.and_eq_true] at hq
    obtain ⟨⟨⟨hq0, hq1⟩, hq2⟩, hq3⟩ := hq
    have n0 := nrm_fun hq0
    have n1 := nrm_fun hq1
    have hx := eqT_eq hq2; subst f2
    have hx := eqT_eq hq3; subst s21
    show sh_solve_asked_L0 s0 (iL f0 0) (iL f0 1) (fL f0 2) (fL f0 3) (fL f0 4) (fL f0 5) (fL f0 6) (fL f0 7) (fL f0 8) (fL f0 9) (fL f0 10) (fL f0 11) (iL f0 12) (fL f0 13) s15 (fL f1 0) (fL f1 1) (fL f1 2) (fL f1 3) (fL f1 4) s36 (V_solve_asked_L0.mk s37) = (alL tpl_solve_asked_L0 s.tm, alH cts_solve_asked_L0 (s.H ++ List.map phan phs_solve_asked_L0))
    rw [e0, eH]
    refine Eq.trans (show sh_solve_asked_L0 s0 (iL f0 0) (iL f0 1) (fL f0 2) (fL f0 3) (fL f0 4) (fL f0 5) (fL f0 6) (fL f0 7) (fL f0 8) (fL f0 9) (fL f0 10) (fL f0 11) (iL f0 12) (fL f0 13) s15 (fL f1 0) (fL f1 1) (fL f1 2) (fL f1 3) (fL f1 4) s36 (V_solve_asked_L0.mk s37) = T_solve_asked_L0 s0 (iL f0 0) (iL f0 1) (fL f0 2) (fL f0 3) (fL f0 4) (fL f0 5) (fL f0 6) (fL f0 7) (fL f0 8) (fL f0 9) (fL f0 10) (fL f0 11) (iL f0 12) (fL f0 13) s15 (fL f1 0) (fL f1 1) (fL f1 2) (fL f1 3) (fL f1 4) s36 (V_solve_asked_L0.mk s37) (fun i => mkN [Ck.i .i64, Ck.i .i64, Ck.f, Ck.f, Ck.f, Ck.f, Ck.f, Ck.f, Ck.f, Ck.f, Ck.f, Ck.f, Ck.i .i64, Ck.f] (f0 i) 0) (fun i => mkN [Ck.f, Ck.f, Ck.f, Ck.f, Ck.f] (f1 i) 0) (fun i => mkN [Ck.i .i64, Ck.i .i64, Ck.f, Ck.f, Ck.f, Ck.f, Ck.f, Ck.f, Ck.f, Ck.f, Ck.f, Ck.f, Ck.i .i64, Ck.f] (f0 i) 0) by kernel_rfl) ?_
    rw [n0, n1]
    kernel_rfl
theorem ann_solve_asked : FnOk Try.prog false 0 Try.f36 (Ann.two Ann.no (Ann.two Ann.no (Ann.two (Ann.two Ann.no (Ann.one (Ann.loop F_solve_asked_L0))) Ann.no))) := (fnOk_of (c := codeOf Try.f36) (by kernel_rfl) (annSeq (a := (subC [0] (codeOf Try.f36))) (b := (subC [1] (codeOf Try.f36))) (by kernel_rfl) (annNo (subC [0] (codeOf Try.f36))) (annSeq (a := (subC [1, 0] (codeOf Try.f36))) (b := (subC [1, 1] (codeOf Try.f36))) (by kernel_rfl) (annNo (subC [1, 0] (codeOf Try.f36))) (annSeq (a := (subC [1, 1, 0] (codeOf Try.f36))) (b := (subC [1, 1, 1] (codeOf Try.f36))) (by kernel_rfl) (annSeq (a := (subC [1, 1, 0, 0] (codeOf Try.f36))) (b := (subC [1, 1, 0, 1] (codeOf Try.f36))) (by kernel_rfl) (annNo (subC [1, 1, 0, 0] (codeOf Try.f36))) (annBlock (a := (subC [1, 1, 0, 1, 0] (codeOf Try.f36))) (i := 0) (by kernel_rfl) (annLoop (a := (subC [1, 1, 0, 1, 0, 0] (codeOf Try.f36))) (by kernel_rfl) F_solve_asked_L0_ok))) (annNo (subC [1, 1, 1] (codeOf Try.f36)))))))
def s_solve_asked_0 (k : Nat) (Z ad : Nat → Int) (ae af ag ai aj ak al am an ao : Nat → Nat) (ap : Nat → Int) (aq : Nat → Nat) (X : Nat) (aw aH aI aJ aK : Nat → Nat) : Int := let x0 := (L_solve_asked_L0 k Z ad ae af ag ai aj ak al am an ao ap aq X (Int.ofNat k) (V_solve_asked_L0.mk (0 : Int))).v0; let x1 := Int.toNat x0; let x2 := s_rows_Check_0 (Z x1) (ad x1) (ae x1) (af x1) (ag x1) (ai x1) (aj x1) (ak x1) (al x1) (am x1) (an x1) (ao x1) (ap x1) (aq x1) (Int.ofNat k) (Int.ofNat X); (bif ((ilt (1048576 : Int) (Int.ofNat k)) || (ilt (1024 : Int) (Int.ofNat X))) then (4 : Int) else (bif (bif (!(ilt x0 (Int.ofNat k))) then false else (!(ieq x2 (0 : Int)))) then x2 else (bif (!(s_slices_ContainsFunc___api_Still_api_Still__0 X aw aH aI aJ aK)) then (0 : Int) else (200 : Int))))
def q_solve_asked (k : Nat) (Z ad : Nat → Int) (ae af ag ai aj ak al am an ao : Nat → Nat) (ap : Nat → Int) (aq : Nat → Nat) (X : Nat) (aw aH aI aJ aK : Nat → Nat) : Bool := (let x0 := ((((allB fun _ => true) && (allB fun _ => true)) && (eqT (fun i => [AV.int .i64 (Z i), AV.int .i64 (ad i), AV.float (ae i), AV.float (af i), AV.float (ag i), AV.float (ai i), AV.float (aj i), AV.float (ak i), AV.float (al i), AV.float (am i), AV.float (an i), AV.float (ao i), AV.int .i64 (ap i), AV.float (aq i)]) (fun i => [AV.int .i64 (Z i), AV.int .i64 (ad i), AV.float (ae i), AV.float (af i), AV.float (ag i), AV.float (ai i), AV.float (aj i), AV.float (ak i), AV.float (al i), AV.float (am i), AV.float (an i), AV.float (ao i), AV.int .i64 (ap i), AV.float (aq i)]))) && (eqT k k)) && (E_solve_asked_L0 k Z ad ae af ag ai aj ak al am an ao ap aq X (Int.ofNat k) (V_solve_asked_L0.mk (0 : Int))); let x1 := ((allB fun _ => true) && (o_slices_ContainsFunc___api_Still_api_Still_ X aw aH aI aJ aK)) && x0; let x2 := (L_solve_asked_L0 k Z ad ae af ag ai aj ak al am an ao ap aq X (Int.ofNat k) (V_solve_asked_L0.mk (0 : Int))).v0; let x3 := Int.toNat x2; (mrgB ((ilt (1048576 : Int) (Int.ofNat k)) || (ilt (1024 : Int) (Int.ofNat X))) true (mrgB (bif (!(ilt x2 (Int.ofNat k))) then false else (!(ieq (s_rows_Check_0 (Z x3) (ad x3) (ae x3) (af x3) (ag x3) (ai x3) (aj x3) (ak x3) (al x3) (am x3) (an x3) (ao x3) (ap x3) (aq x3) (Int.ofNat k) (Int.ofNat X)) (0 : Int)))) x0 (mrgB (!(s_slices_ContainsFunc___api_Still_api_Still__0 X aw aH aI aJ aK)) x1 x1))))
theorem e_solve_asked (k : Nat) (Z ad : Nat → Int) (ae af ag ai aj ak al am an ao : Nat → Nat) (ap : Nat → Int) (aq : Nat → Nat) (X : Nat) (aw aH aI aJ aK : Nat → Nat) : outB (evFnM Try.prog false menv59 [] [] 96 (Ann.two Ann.no (Ann.two Ann.no (Ann.two (Ann.two Ann.no (Ann.one (Ann.loop F_solve_asked_L0))) Ann.no))) Try.f36 [AV.view k 14 (fun i0 => [AV.int .i64 (Z i0), AV.int .i64 (ad i0), AV.float (ae i0), AV.float (af i0), AV.float (ag i0), AV.float (ai i0), AV.float (aj i0), AV.float (ak i0), AV.float (al i0), AV.float (am i0), AV.float (an i0), AV.float (ao i0), AV.int .i64 (ap i0), AV.float (aq i0)]), AV.view X 5 (fun i0 => [AV.float (aw i0), AV.float (aH i0), AV.float (aI i0), AV.float (aJ i0), AV.float (aK i0)])] []) = some (q_solve_asked k Z ad ae af ag ai aj ak al am an ao ap aq X aw aH aI aJ aK, AV.int .i64 (s_solve_asked_0 k Z ad ae af ag ai aj ak al am an ao ap aq X aw aH aI aJ aK)) := by kernel_rfl
def o_solve_asked (k : Nat) (Z ad : Nat → Int) (ae af ag ai aj ak al am an ao : Nat → Nat) (ap : Nat → Int) (aq : Nat → Nat) (X : Nat) (aw aH aI aJ aK : Nat → Nat) : Bool := let x0 := E_solve_asked_L0 k Z ad ae af ag ai aj ak al am an ao ap aq X (Int.ofNat k) (V_solve_asked_L0.mk (0 : Int)); let x1 := (o_slices_ContainsFunc___api_Still_api_Still_ X aw aH aI aJ aK) && x0; let x2 := (L_solve_asked_L0 k Z ad ae af ag ai aj ak al am an ao ap aq X (Int.ofNat k) (V_solve_asked_L0.mk (0 : Int))).v0; let x3 := Int.toNat x2; (mrgB ((ilt (1048576 : Int) (Int.ofNat k)) || (ilt (1024 : Int) (Int.ofNat X))) true (mrgB (bif (!(ilt x2 (Int.ofNat k))) then false else (!(ieq (s_rows_Check_0 (Z x3) (ad x3) (ae x3) (af x3) (ag x3) (ai x3) (aj x3) (ak x3) (al x3) (am x3) (an x3) (ao x3) (ap x3) (aq x3) (Int.ofNat k) (Int.ofNat X)) (0 : Int)))) x0 (mrgB (!(s_slices_ContainsFunc___api_Still_api_Still__0 X aw aH aI aJ aK)) x1 x1)))
def S_solve_asked : List AV → Option (Ob × AV)
  | [AV.view k 14 e, AV.view X 5 ab] => some (Ob.both (Ob.bit ((allB fun i => isNrm [Ck.i .i64, Ck.i .i64, Ck.f, Ck.f, Ck.f, Ck.f, Ck.f, Ck.f, Ck.f, Ck.f, Ck.f, Ck.f, Ck.i .i64, Ck.f] (e i)) && (allB fun i => isNrm [Ck.f, Ck.f, Ck.f, Ck.f, Ck.f] (ab i)))) (Ob.bit (o_solve_asked k (iL e 0) (iL e 1) (fL e 2) (fL e 3) (fL e 4) (fL e 5) (fL e 6) (fL e 7) (fL e 8) (fL e 9) (fL e 10) (fL e 11) (iL e 12) (fL e 13) X (fL ab 0) (fL ab 1) (fL ab 2) (fL ab 3) (fL ab 4))), AV.int .i64 (s_solve_asked_0 k (iL e 0) (iL e 1) (fL e 2) (fL e 3) (fL e 4) (fL e 5) (fL e 6) (fL e 7) (fL e 8) (fL e 9) (fL e 10) (fL e 11) (iL e 12) (fL e 13) X (fL ab 0) (fL ab 1) (fL ab 2) (fL ab 3) (fL ab 4)))
  | _ => none
theorem ob_solve_asked (k : Nat) (Z ad : Nat → Int) (ae af ag ai aj ak al am an ao : Nat → Nat) (ap : Nat → Int) (aq : Nat → Nat) (X : Nat) (aw aH aI aJ aK : Nat → Nat) (ho : o_solve_asked k Z ad ae af ag ai aj ak al am an ao ap aq X aw aH aI aJ aK = true) : q_solve_asked k Z ad ae af ag ai aj ak al am an ao ap aq X aw aH aI aJ aK = true := by
  unfold q_solve_asked
  unfold o_solve_asked at ho
  simp only [allB_true, eqT_self, mrgB_self, Bool.true_and, Bool.and_true] at ho ⊢
  exact ho
theorem t_solve_asked : SOkM Try.prog false (36, fun args => match S_solve_asked args with | some (o, v) => some (o, v, []) | none => none) := SOkM.flat (N := 96) menv59_ok Try.func36 ann_solve_asked Try.call36 fun args o v h ho => by
  unfold S_solve_asked at h
  split at h
  · rename_i k e X ab
    cases h
    rw [Ob.both_ok, Bool.and_eq_true] at ho
    obtain ⟨hn, ho2⟩ := ho
    simp only [Ob.ok, Bool.and_eq_true] at hn
    obtain ⟨n0, n1⟩ := hn
    replace n0 := nrm_fun n0
    replace n1 := nrm_fun n1
    have this := show outB (evFnM Try.prog false menv59 [] [] 96 (Ann.two Ann.no (Ann.two Ann.no (Ann.two (Ann.two Ann.no (Ann.one (Ann.loop F_solve_asked_L0))) Ann.no))) Try.f36 [AV.view k 14 (fun i => mkN [Ck.i .i64, Ck.i .i64, Ck.f, Ck.f, Ck.f, Ck.f, Ck.f, Ck.f, Ck.f, Ck.f, Ck.f, Ck.f, Ck.i .i64, Ck.f] (e i) 0), AV.view X 5 (fun i => mkN [Ck.f, Ck.f, Ck.f, Ck.f, Ck.f] (ab i) 0)] []) = _ from e_solve_asked k (iL e 0) (iL e 1) (fL e 2) (fL e 3) (fL e 4) (fL e 5) (fL e 6) (fL e 7) (fL e 8) (fL e 9) (fL e 10) (fL e 11) (iL e 12) (fL e 13) X (fL ab 0) (fL ab 1) (fL ab 2) (fL ab 3) (fL ab 4)
    rw [(ob_solve_asked k (iL e 0) (iL e 1) (fL e 2) (fL e 3) (fL e 4) (fL e 5) (fL e 6) (fL e 7) (fL e 8) (fL e 9) (fL e 10) (fL e 11) (iL e 12) (fL e 13) X (fL ab 0) (fL ab 1) (fL ab 2) (fL ab 3) (fL ab 4) ho2)] at this
    rw [n0, n1] at this
    exact ⟨this, rfl⟩
  · cases h
def c_solve_asked : SFM := fun args => match S_solve_asked args with | some (o, v) => some (o, v, []) | none => none
theorem c_solve_asked_ok : SOkM Try.prog false (36, c_solve_asked) := t_solve_asked
def mss60 : List (FuncId × SFM) := (36, c_solve_asked) :: mss59
def menv60 : EnvM := mkEnvM mxs mss60 mws1
theorem mss60_ok : All (SOkM Try.prog false) mss60 := All.cons c_solve_asked_ok mss59_ok
theorem menv60_ok : menv60.Ok Try.prog false := mkEnvM_ok mxs_ok mss60_ok mws1_ok
-- slices.IndexFunc[[]float64,float64]
theorem ann_slices_IndexFunc___float64_float64__v1 : FnOk Try.prog false 0 Try.f105 Ann.no := (fnNo _)
def s_slices_IndexFunc___float64_float64__v1_0 (Z : Nat → Nat) : Int := (bif ((s_rows_finite_1_0 (Z 0)) || (s_rows_finite_1_0 (Z 1))) then (bif (s_rows_finite_1_0 (Z 0)) then (0 : Int) else (1 : Int)) else (-1 : Int))
theorem e_slices_IndexFunc___float64_float64__v1 (Z : Nat → Nat) : outB (evFnM Try.prog false menv60 [9] [] 96 Ann.no Try.f105 [AV.view 2 1 (fun i0 => [AV.float (Z i0)]), AV.func 102 [] []] []) = some (true, AV.int .i64 (s_slices_IndexFunc___float64_float64__v1_0 Z)) := by kernel_rfl
def S_slices_IndexFunc___float64_float64__v1 : List AV → Option (Ob × AV)
  | [AV.view 2 1 e, AV.func 102 [] []] => some (Ob.bit (allB fun i => isNrm [Ck.f] (e i)), AV.int .i64 (s_slices_IndexFunc___float64_float64__v1_0 (fL e 0)))
  | _ => none
theorem t_slices_IndexFunc___float64_float64__v1 : SOkM Try.prog false (105, fun args => match S_slices_IndexFunc___float64_float64__v1 args with | some (o, v) => some (o, v, []) | none => none) := SOkM.flat (N := 96) menv60_ok Try.func105 ann_slices_IndexFunc___float64_float64__v1 Try.call105 fun args o v h ho => by
  unfold S_slices_IndexFunc___float64_float64__v1 at h
  split at h
  · rename_i e
    cases h
    have hn := ho
    have n0 := hn
    simp only [Ob.ok] at n0
    replace n0 := nrm_fun n0
    have this := show outB (evFnM Try.prog false menv60 [9] [] 96 Ann.no Try.f105 [AV.view 2 1 (fun i => mkN [Ck.f] (e i) 0), AV.func 102 [] []] []) = _ from e_slices_IndexFunc___float64_float64__v1 (fL e 0)
    rw [n0] at this
    exact ⟨this, rfl⟩
  · cases h
def c_slices_IndexFunc___float64_float64__v1 : SFM := altS (fun args => match S_slices_IndexFunc___float64_float64__v1 args with | some (o, v) => some (o, v, []) | none => none) (c_slices_IndexFunc___float64_float64_)
theorem c_slices_IndexFunc___float64_float64__v1_ok : SOkM Try.prog false (105, c_slices_IndexFunc___float64_float64__v1) := (SOkM.alt t_slices_IndexFunc___float64_float64__v1 c_slices_IndexFunc___float64_float64__ok)
def mss61 : List (FuncId × SFM) := (105, c_slices_IndexFunc___float64_float64__v1) :: mss60
def menv61 : EnvM := mkEnvM mxs mss61 mws1
theorem mss61_ok : All (SOkM Try.prog false) mss61 := All.cons c_slices_IndexFunc___float64_float64__v1_ok mss60_ok
theorem menv61_ok : menv61.Ok Try.prog false := mkEnvM_ok mxs_ok mss61_ok mws1_ok
-- slices.ContainsFunc[[]float64,float64]
theorem ann_slices_ContainsFunc___float64_float64__v1 : FnOk Try.prog false 0 Try.f101 Ann.no := (fnNo _)
def s_slices_ContainsFunc___float64_float64__v1_0 (Z : Nat → Nat) : Bool := (ile (0 : Int) (s_slices_IndexFunc___float64_float64__v1_0 Z))
theorem e_slices_ContainsFunc___float64_float64__v1 (Z : Nat → Nat) : outB (evFnM Try.prog false menv61 [] [] 96 Ann.no Try.f101 [AV.view 2 1 (fun i0 => [AV.float (Z i0)]), AV.func 102 [] []] []) = some ((allB fun _ => true), AV.bool (s_slices_ContainsFunc___float64_float64__v1_0 Z)) := by kernel_rfl
def S_slices_ContainsFunc___float64_float64__v1 : List AV → Option (Ob × AV)
  | [AV.view 2 1 e, AV.func 102 [] []] => some (Ob.bit (allB fun i => isNrm [Ck.f] (e i)), AV.bool (s_slices_ContainsFunc___float64_float64__v1_0 (fL e 0)))
  | _ => none
theorem ob_slices_ContainsFunc___float64_float64__v1 (Z : Nat → Nat) : (allB fun _ => true) = true := by (try simp only [allB_true, eqT_self, mrgB_self, Bool.true_and, Bool.and_true]) <;> first | rfl | simp
theorem t_slices_ContainsFunc___float64_float64__v1 : SOkM Try.prog false (101, fun args => match S_slices_ContainsFunc___float64_float64__v1 args with | some (o, v) => some (o, v, []) | none => none) := SOkM.flat (N := 96) menv61_ok Try.func101 ann_slices_ContainsFunc___float64_float64__v1 Try.call101 fun args o v h ho => by
  unfold S_slices_ContainsFunc___float64_float64__v1 at h
  split at h
  · rename_i e
    cases h
    have hn := ho
    have n0 := hn
    simp only [Ob.ok] at n0
    replace n0 := nrm_fun n0
    have this := show outB (evFnM Try.prog false menv61 [] [] 96 Ann.no Try.f101 [AV.view 2 1 (fun i => mkN [Ck.f] (e i) 0), AV.func 102 [] []] []) = _ from e_slices_ContainsFunc___float64_float64__v1 (fL e 0)
    rw [(ob_slices_ContainsFunc___float64_float64__v1 (fL e 0))] at this
    rw [n0] at this
    exact ⟨this, rfl⟩
  · cases h
def c_slices_ContainsFunc___float64_float64__v1 : SFM := altS (fun args => match S_slices_ContainsFunc___float64_float64__v1 args with | some (o, v) => some (o, v, []) | none => none) (c_slices_ContainsFunc___float64_float64_)
theorem c_slices_ContainsFunc___float64_float64__v1_ok : SOkM Try.prog false (101, c_slices_ContainsFunc___float64_float64__v1) := (SOkM.alt t_slices_ContainsFunc___float64_float64__v1 c_slices_ContainsFunc___float64_float64__ok)
def mss62 : List (FuncId × SFM) := (101, c_slices_ContainsFunc___float64_float64__v1) :: mss61
def menv62 : EnvM := mkEnvM mxs mss62 mws1
theorem mss62_ok : All (SOkM Try.prog false) mss62 := All.cons c_slices_ContainsFunc___float64_float64__v1_ok mss61_ok
theorem menv62_ok : menv62.Ok Try.prog false := mkEnvM_ok mxs_ok mss62_ok mws1_ok
-- tumble/rows.finite
theorem ann_rows_finite_v1 : FnOk Try.prog false 0 Try.f91 Ann.no := (fnNo _)
def s_rows_finite_v1_0 (Z : Nat → Nat) : Bool := (!(s_slices_ContainsFunc___float64_float64__v1_0 Z))
theorem e_rows_finite_v1 (Z : Nat → Nat) : outB (evFnM Try.prog false menv62 [] [] 96 Ann.no Try.f91 [AV.view 2 1 (fun i0 => [AV.float (Z i0)])] []) = some ((allB fun _ => true), AV.bool (s_rows_finite_v1_0 Z)) := by kernel_rfl
def S_rows_finite_v1 : List AV → Option (Ob × AV)
  | [AV.view 2 1 e] => some (Ob.bit (allB fun i => isNrm [Ck.f] (e i)), AV.bool (s_rows_finite_v1_0 (fL e 0)))
  | _ => none
theorem ob_rows_finite_v1 (Z : Nat → Nat) : (allB fun _ => true) = true := by (try simp only [allB_true, eqT_self, mrgB_self, Bool.true_and, Bool.and_true]) <;> first | rfl | simp
theorem t_rows_finite_v1 : SOkM Try.prog false (91, fun args => match S_rows_finite_v1 args with | some (o, v) => some (o, v, []) | none => none) := SOkM.flat (N := 96) menv62_ok Try.func91 ann_rows_finite_v1 Try.call91 fun args o v h ho => by
  unfold S_rows_finite_v1 at h
  split at h
  · rename_i e
    cases h
    have hn := ho
    have n0 := hn
    simp only [Ob.ok] at n0
    replace n0 := nrm_fun n0
    have this := show outB (evFnM Try.prog false menv62 [] [] 96 Ann.no Try.f91 [AV.view 2 1 (fun i => mkN [Ck.f] (e i) 0)] []) = _ from e_rows_finite_v1 (fL e 0)
    rw [(ob_rows_finite_v1 (fL e 0))] at this
    rw [n0] at this
    exact ⟨this, rfl⟩
  · cases h
def c_rows_finite_v1 : SFM := altS (fun args => match S_rows_finite_v1 args with | some (o, v) => some (o, v, []) | none => none) (c_rows_finite)
theorem c_rows_finite_v1_ok : SOkM Try.prog false (91, c_rows_finite_v1) := (SOkM.alt t_rows_finite_v1 c_rows_finite_ok)
def mss63 : List (FuncId × SFM) := (91, c_rows_finite_v1) :: mss62
def menv63 : EnvM := mkEnvM mxs mss63 mws1
theorem mss63_ok : All (SOkM Try.prog false) mss63 := All.cons c_rows_finite_v1_ok mss62_ok
theorem menv63_ok : menv63.Ok Try.prog false := mkEnvM_ok mxs_ok mss63_ok mws1_ok
-- tumble/rows.rests
theorem ann_rows_rests : FnOk Try.prog false 0 Try.f86 Ann.no := (fnNo _)
def s_rows_rests_0 (m j l q C : Nat) : Bool := (((s_rows_finite_v1_0 (fun j0 => (bif (Nat.beq j0 0) then m else j))) && (fle 0 m)) && (fle 0 j))
theorem e_rows_rests (m j l q C : Nat) : outB (evFnM Try.prog false menv63 [] [] 96 Ann.no Try.f86 [AV.agg [AV.float m, AV.float j, AV.float l, AV.float q, AV.float C]] []) = some ((mrgB ((s_rows_finite_v1_0 (fun j0 => (bif (Nat.beq j0 0) then m else j))) && (fle 0 m)) (mrgB (s_rows_finite_v1_0 (fun j0 => (bif (Nat.beq j0 0) then m else j))) (allB fun _ => true) (allB fun _ => true)) (mrgB (s_rows_finite_v1_0 (fun j0 => (bif (Nat.beq j0 0) then m else j))) (allB fun _ => true) (allB fun _ => true))), AV.bool (s_rows_rests_0 m j l q C)) := by kernel_rfl
def S_rows_rests : List AV → Option (Ob × AV)
  | [AV.agg [AV.float m, AV.float j, AV.float l, AV.float q, AV.float C]] => some (Ob.tt, AV.bool (s_rows_rests_0 m j l q C))
  | _ => none
theorem ob_rows_rests (m j l q C : Nat) : (mrgB ((s_rows_finite_v1_0 (fun j0 => (bif (Nat.beq j0 0) then m else j))) && (fle 0 m)) (mrgB (s_rows_finite_v1_0 (fun j0 => (bif (Nat.beq j0 0) then m else j))) (allB fun _ => true) (allB fun _ => true)) (mrgB (s_rows_finite_v1_0 (fun j0 => (bif (Nat.beq j0 0) then m else j))) (allB fun _ => true) (allB fun _ => true))) = true := by (try simp only [allB_true, eqT_self, mrgB_self, Bool.true_and, Bool.and_true]) <;> first | rfl | simp
theorem t_rows_rests : SOkM Try.prog false (86, fun args => match S_rows_rests args with | some (o, v) => some (o, v, []) | none => none) := SOkM.flat (N := 96) menv63_ok Try.func86 ann_rows_rests Try.call86 fun args o v h ho => by
  unfold S_rows_rests at h
  split at h
  · rename_i m j l q C
    cases h
    have ho2 := ho
    have this := show outB (evFnM Try.prog false menv63 [] [] 96 Ann.no Try.f86 [AV.agg [AV.float m, AV.float j, AV.float l, AV.float q, AV.float C]] []) = _ from e_rows_rests m j l q C
    rw [(ob_rows_rests m j l q C)] at this
    exact ⟨this, rfl⟩
  · cases h
def c_rows_rests : SFM := fun args => match S_rows_rests args with | some (o, v) => some (o, v, []) | none => none
theorem c_rows_rests_ok : SOkM Try.prog false (86, c_rows_rests) := t_rows_rests
def mss64 : List (FuncId × SFM) := (86, c_rows_rests) :: mss63
def menv64 : EnvM := mkEnvM mxs mss64 mws1
theorem mss64_ok : All (SOkM Try.prog false) mss64 := All.cons c_rows_rests_ok mss63_ok
theorem menv64_ok : menv64.Ok Try.prog false := mkEnvM_ok mxs_ok mss64_ok mws1_ok
-- tumble/rows.asked
theorem ann_rows_asked : FnOk Try.prog false 0 Try.f60 Ann.no := (fnNo _)
def s_rows_asked_0 (m j : Int) (l q C E J K z D I r : Nat) (O : Int) (L M P S T U Q R V W Y : Nat) : Int := (bif (((!(s_rows_fits_0 m j l q C E J K z D I r O L)) || (!(s_rows_rests_0 M P S T U))) || (!(s_rows_rests_0 Q R V W Y))) then (200 : Int) else (0 : Int))
theorem e_rows_asked (m j : Int) (l q C E J K z D I r : Nat) (O : Int) (L M P S T U Q R V W Y : Nat) : outB (evFnM Try.prog false menv64 [] [] 96 Ann.no Try.f60 [AV.agg [AV.int .i64 m, AV.int .i64 j, AV.float l, AV.float q, AV.float C, AV.float E, AV.float J, AV.float K, AV.float z, AV.float D, AV.float I, AV.float r, AV.int .i64 O, AV.float L], AV.agg [AV.float M, AV.float P, AV.float S, AV.float T, AV.float U], AV.agg [AV.float Q, AV.float R, AV.float V, AV.float W, AV.float Y]] []) = some (true, AV.int .i64 (s_rows_asked_0 m j l q C E J K z D I r O L M P S T U Q R V W Y)) := by kernel_rfl
def S_rows_asked : List AV → Option (Ob × AV)
  | [AV.agg [AV.int .i64 m, AV.int .i64 j, AV.float l, AV.float q, AV.float C, AV.float E, AV.float J, AV.float K, AV.float z, AV.float D, AV.float I, AV.float r, AV.int .i64 O, AV.float L], AV.agg [AV.float M, AV.float P, AV.float S, AV.float T, AV.float U], AV.agg [AV.float Q, AV.float R, AV.float V, AV.float W, AV.float Y]] => some (Ob.tt, AV.int .i64 (s_rows_asked_0 m j l q C E J K z D I r O L M P S T U Q R V W Y))
  | _ => none
theorem t_rows_asked : SOkM Try.prog false (60, fun args => match S_rows_asked args with | some (o, v) => some (o, v, []) | none => none) := SOkM.flat (N := 96) menv64_ok Try.func60 ann_rows_asked Try.call60 fun args o v h ho => by
  unfold S_rows_asked at h
  split at h
  · rename_i m j l q C E J K z D I r O L M P S T U Q R V W Y
    cases h
    have ho2 := ho
    have this := show outB (evFnM Try.prog false menv64 [] [] 96 Ann.no Try.f60 [AV.agg [AV.int .i64 m, AV.int .i64 j, AV.float l, AV.float q, AV.float C, AV.float E, AV.float J, AV.float K, AV.float z, AV.float D, AV.float I, AV.float r, AV.int .i64 O, AV.float L], AV.agg [AV.float M, AV.float P, AV.float S, AV.float T, AV.float U], AV.agg [AV.float Q, AV.float R, AV.float V, AV.float W, AV.float Y]] []) = _ from e_rows_asked m j l q C E J K z D I r O L M P S T U Q R V W Y
    exact ⟨this, rfl⟩
  · cases h
def c_rows_asked : SFM := fun args => match S_rows_asked args with | some (o, v) => some (o, v, []) | none => none
theorem c_rows_asked_ok : SOkM Try.prog false (60, c_rows_asked) := t_rows_asked
def mss65 : List (FuncId × SFM) := (60, c_rows_asked) :: mss64
def menv65 : EnvM := mkEnvM mxs mss65 mws1
theorem mss65_ok : All (SOkM Try.prog false) mss65 := All.cons c_rows_asked_ok mss64_ok
theorem menv65_ok : menv65.Ok Try.prog false := mkEnvM_ok mxs_ok mss65_ok mws1_ok
-- tumble/vec.More
theorem ann_vec_More : FnOk Try.prog false 0 Try.f90 Ann.no := (fnNo _)
def s_vec_More_0 (m j l q C : Nat) : Nat := (fadd m (fmul l q))
def s_vec_More_1 (m j l q C : Nat) : Nat := (fadd j (fmul l C))
theorem e_vec_More (m j l q C : Nat) : outB (evFnM Try.prog false menv65 [] [] 96 Ann.no Try.f90 [AV.agg [AV.float m, AV.float j], AV.float l, AV.agg [AV.float q, AV.float C]] []) = some (true, AV.agg [AV.float (s_vec_More_0 m j l q C), AV.float (s_vec_More_1 m j l q C)]) := by kernel_rfl
def S_vec_More : List AV → Option (Ob × AV)
  | [AV.agg [AV.float m, AV.float j], AV.float l, AV.agg [AV.float q, AV.float C]] => some (Ob.tt, AV.agg [AV.float (s_vec_More_0 m j l q C), AV.float (s_vec_More_1 m j l q C)])
  | _ => none
theorem t_vec_More : SOkM Try.prog false (90, fun args => match S_vec_More args with | some (o, v) => some (o, v, []) | none => none) := SOkM.flat (N := 96) menv65_ok Try.func90 ann_vec_More Try.call90 fun args o v h ho => by
  unfold S_vec_More at h
  split at h
  · rename_i m j l q C
    cases h
    have ho2 := ho
    have this := show outB (evFnM Try.prog false menv65 [] [] 96 Ann.no Try.f90 [AV.agg [AV.float m, AV.float j], AV.float l, AV.agg [AV.float q, AV.float C]] []) = _ from e_vec_More m j l q C
    exact ⟨this, rfl⟩
  · cases h
def c_vec_More : SFM := fun args => match S_vec_More args with | some (o, v) => some (o, v, []) | none => none
theorem c_vec_More_ok : SOkM Try.prog false (90, c_vec_More) := t_vec_More
def mss66 : List (FuncId × SFM) := (90, c_vec_More) :: mss65
def menv66 : EnvM := mkEnvM mxs mss66 mws1
theorem mss66_ok : All (SOkM Try.prog false) mss66 := All.cons c_vec_More_ok mss65_ok
theorem menv66_ok : menv66.Ok Try.prog false := mkEnvM_ok mxs_ok mss66_ok mws1_ok
-- tumble/rows.pushed
theorem ann_rows_pushed : FnOk Try.prog false 0 Try.f65 Ann.no := (fnNo _)
def s_rows_pushed_0 (m j : Int) (l q C E J K z D I r : Nat) (O : Int) (L M P S T U Q R V W Y bt : Nat) : Nat := M
def s_rows_pushed_1 (m j : Int) (l q C E J K z D I r : Nat) (O : Int) (L M P S T U Q R V W Y bt : Nat) : Nat := P
def s_rows_pushed_2 (m j : Int) (l q C E J K z D I r : Nat) (O : Int) (L M P S T U Q R V W Y bt : Nat) : Nat := (bif (!(feq (bif (!(feq P 0)) then (bif (!(feq M 0)) then Q else Q) else (bif (!(feq M 0)) then Q else Q)) 0)) then (bif (!(feq M 0)) then (s_vec_More_0 S T (fmul M bt) l q) else S) else (bif (!(feq M 0)) then (s_vec_More_0 S T (fmul M bt) l q) else S))
def s_rows_pushed_3 (m j : Int) (l q C E J K z D I r : Nat) (O : Int) (L M P S T U Q R V W Y bt : Nat) : Nat := (bif (!(feq (bif (!(feq P 0)) then (bif (!(feq M 0)) then Q else Q) else (bif (!(feq M 0)) then Q else Q)) 0)) then (bif (!(feq M 0)) then (s_vec_More_1 S T (fmul M bt) l q) else T) else (bif (!(feq M 0)) then (s_vec_More_1 S T (fmul M bt) l q) else T))
def s_rows_pushed_4 (m j : Int) (l q C E J K z D I r : Nat) (O : Int) (L M P S T U Q R V W Y bt : Nat) : Nat := let x0 := !(feq M 0); let x1 := bif x0 then U else U; let x2 := !(feq P 0); let x3 := bif x2 then (fadd x1 (fmul P (fmul bt J))) else x1; let x4 := bif x0 then Q else Q; let x5 := !(feq (bif x2 then x4 else x4) 0); let x6 := bif x5 then x3 else x3; let x7 := bif x0 then R else R; let x8 := bif x2 then x7 else x7; (bif (!(feq (bif x5 then x8 else x8) 0)) then x6 else x6)
def s_rows_pushed_5 (m j : Int) (l q C E J K z D I r : Nat) (O : Int) (L M P S T U Q R V W Y bt : Nat) : Nat := let x0 := !(feq M 0); let x1 := bif x0 then Q else Q; let x2 := !(feq P 0); let x3 := bif x2 then x1 else x1; let x4 := !(feq x3 0); let x5 := bif x4 then x3 else x3; let x6 := bif x0 then R else R; let x7 := bif x2 then x6 else x6; (bif (!(feq (bif x4 then x7 else x7) 0)) then x5 else x5)
def s_rows_pushed_6 (m j : Int) (l q C E J K z D I r : Nat) (O : Int) (L M P S T U Q R V W Y bt : Nat) : Nat := let x0 := !(feq M 0); let x1 := bif x0 then R else R; let x2 := !(feq P 0); let x3 := bif x2 then x1 else x1; let x4 := bif x0 then Q else Q; let x5 := bif (!(feq (bif x2 then x4 else x4) 0)) then x3 else x3; (bif (!(feq x5 0)) then x5 else x5)
def s_rows_pushed_7 (m j : Int) (l q C E J K z D I r : Nat) (O : Int) (L M P S T U Q R V W Y bt : Nat) : Nat := let x0 := !(feq M 0); let x1 := bif x0 then V else V; let x2 := !(feq P 0); let x3 := bif x2 then x1 else x1; let x4 := bif x0 then Q else Q; let x5 := bif x2 then x4 else x4; let x6 := bif x0 then W else W; let x7 := !(feq x5 0); let x8 := bif x7 then (s_vec_More_0 x3 (bif x2 then x6 else x6) (fmul x5 bt) C E) else x3; let x9 := bif x0 then R else R; let x10 := bif x2 then x9 else x9; (bif (!(feq (bif x7 then x10 else x10) 0)) then x8 else x8)
def s_rows_pushed_8 (m j : Int) (l q C E J K z D I r : Nat) (O : Int) (L M P S T U Q R V W Y bt : Nat) : Nat := let x0 := !(feq M 0); let x1 := bif x0 then W else W; let x2 := !(feq P 0); let x3 := bif x2 then x1 else x1; let x4 := bif x0 then Q else Q; let x5 := bif x2 then x4 else x4; let x6 := bif x0 then V else V; let x7 := !(feq x5 0); let x8 := bif x7 then (s_vec_More_1 (bif x2 then x6 else x6) x3 (fmul x5 bt) C E) else x3; let x9 := bif x0 then R else R; let x10 := bif x2 then x9 else x9; (bif (!(feq (bif x7 then x10 else x10) 0)) then x8 else x8)
def s_rows_pushed_9 (m j : Int) (l q C E J K z D I r : Nat) (O : Int) (L M P S T U Q R V W Y bt : Nat) : Nat := let x0 := !(feq M 0); let x1 := bif x0 then Y else Y; let x2 := !(feq P 0); let x3 := bif x2 then x1 else x1; let x4 := bif x0 then Q else Q; let x5 := !(feq (bif x2 then x4 else x4) 0); let x6 := bif x5 then x3 else x3; let x7 := bif x0 then R else R; let x8 := bif x2 then x7 else x7; let x9 := bif x5 then x8 else x8; (bif (!(feq x9 0)) then (fadd x6 (fmul x9 (fmul bt K))) else x6)
theorem e_rows_pushed (m j : Int) (l q C E J K z D I r : Nat) (O : Int) (L M P S T U Q R V W Y bt : Nat) : outB (evFnM Try.prog false menv66 [23] [] 96 Ann.no Try.f65 [AV.agg [AV.int .i64 m, AV.int .i64 j, AV.float l, AV.float q, AV.float C, AV.float E, AV.float J, AV.float K, AV.float z, AV.float D, AV.float I, AV.float r, AV.int .i64 O, AV.float L], AV.agg [AV.float M, AV.float P, AV.float S, AV.float T, AV.float U, AV.float Q, AV.float R, AV.float V, AV.float W, AV.float Y], AV.float bt] []) = some (true, AV.tup [AV.agg [AV.float (s_rows_pushed_0 m j l q C E J K z D I r O L M P S T U Q R V W Y bt), AV.float (s_rows_pushed_1 m j l q C E J K z D I r O L M P S T U Q R V W Y bt), AV.float (s_rows_pushed_2 m j l q C E J K z D I r O L M P S T U Q R V W Y bt), AV.float (s_rows_pushed_3 m j l q C E J K z D I r O L M P S T U Q R V W Y bt), AV.float (s_rows_pushed_4 m j l q C E J K z D I r O L M P S T U Q R V W Y bt)], AV.agg [AV.float (s_rows_pushed_5 m j l q C E J K z D I r O L M P S T U Q R V W Y bt), AV.float (s_rows_pushed_6 m j l q C E J K z D I r O L M P S T U Q R V W Y bt), AV.float (s_rows_pushed_7 m j l q C E J K z D I r O L M P S T U Q R V W Y bt), AV.float (s_rows_pushed_8 m j l q C E J K z D I r O L M P S T U Q R V W Y bt), AV.float (s_rows_pushed_9 m j l q C E J K z D I r O L M P S T U Q R V W Y bt)]]) := by kernel_rfl
def S_rows_pushed : List AV → Option (Ob × AV)
  | [AV.agg [AV.int .i64 m, AV.int .i64 j, AV.float l, AV.float q, AV.float C, AV.float E, AV.float J, AV.float K, AV.float z, AV.float D, AV.float I, AV.float r, AV.int .i64 O, AV.float L], AV.agg [AV.float M, AV.float P, AV.float S, AV.float T, AV.float U, AV.float Q, AV.float R, AV.float V, AV.float W, AV.float Y], AV.float bt] => some (Ob.tt, AV.tup [AV.agg [AV.float (s_rows_pushed_0 m j l q C E J K z D I r O L M P S T U Q R V W Y bt), AV.float (s_rows_pushed_1 m j l q C E J K z D I r O L M P S T U Q R V W Y bt), AV.float (s_rows_pushed_2 m j l q C E J K z D I r O L M P S T U Q R V W Y bt), AV.float (s_rows_pushed_3 m j l q C E J K z D I r O L M P S T U Q R V W Y bt), AV.float (s_rows_pushed_4 m j l q C E J K z D I r O L M P S T U Q R V W Y bt)], AV.agg [AV.float (s_rows_pushed_5 m j l q C E J K z D I r O L M P S T U Q R V W Y bt), AV.float (s_rows_pushed_6 m j l q C E J K z D I r O L M P S T U Q R V W Y bt), AV.float (s_rows_pushed_7 m j l q C E J K z D I r O L M P S T U Q R V W Y bt), AV.float (s_rows_pushed_8 m j l q C E J K z D I r O L M P S T U Q R V W Y bt), AV.float (s_rows_pushed_9 m j l q C E J K z D I r O L M P S T U Q R V W Y bt)]])
  | _ => none
theorem t_rows_pushed : SOkM Try.prog false (65, fun args => match S_rows_pushed args with | some (o, v) => some (o, v, []) | none => none) := SOkM.flat (N := 96) menv66_ok Try.func65 ann_rows_pushed Try.call65 fun args o v h ho => by
  unfold S_rows_pushed at h
  split at h
  · rename_i m j l q C E J K z D I r O L M P S T U Q R V W Y bt
    cases h
    have ho2 := ho
    have this := show outB (evFnM Try.prog false menv66 [23] [] 96 Ann.no Try.f65 [AV.agg [AV.int .i64 m, AV.int .i64 j, AV.float l, AV.float q, AV.float C, AV.float E, AV.float J, AV.float K, AV.float z, AV.float D, AV.float I, AV.float r, AV.int .i64 O, AV.float L], AV.agg [AV.float M, AV.float P, AV.float S, AV.float T, AV.float U, AV.float Q, AV.float R, AV.float V, AV.float W, AV.float Y], AV.float bt] []) = _ from e_rows_pushed m j l q C E J K z D I r O L M P S T U Q R V W Y bt
    exact ⟨this, rfl⟩
  · cases h
def c_rows_pushed : SFM := fun args => match S_rows_pushed args with | some (o, v) => some (o, v, []) | none => none
theorem c_rows_pushed_ok : SOkM Try.prog false (65, c_rows_pushed) := t_rows_pushed
def mss67 : List (FuncId × SFM) := (65, c_rows_pushed) :: mss66
def menv67 : EnvM := mkEnvM mxs mss67 mws1
theorem mss67_ok : All (SOkM Try.prog false) mss67 := All.cons c_rows_pushed_ok mss66_ok
theorem menv67_ok : menv67.Ok Try.prog false := mkEnvM_ok mxs_ok mss67_ok mws1_ok
-- tumble/rows.Warm
theorem ann_rows_Warm : FnOk Try.prog false 0 Try.f39 Ann.no := (fnNo _)
def s_rows_Warm_0 (m j : Int) (l q C E J K z D I r : Nat) (O : Int) (L M P S T U Q R V W Y : Nat) : Nat := (bif (!(ieq (s_rows_asked_0 m j l q C E J K z D I r O L M P S T U Q R V W Y) (0 : Int))) then 0 else (s_rows_pushed_0 m j l q C E J K z D I r O L M P S T U Q R V W Y r))
def s_rows_Warm_1 (m j : Int) (l q C E J K z D I r : Nat) (O : Int) (L M P S T U Q R V W Y : Nat) : Nat := (bif (!(ieq (s_rows_asked_0 m j l q C E J K z D I r O L M P S T U Q R V W Y) (0 : Int))) then 0 else (s_rows_pushed_1 m j l q C E J K z D I r O L M P S T U Q R V W Y r))
def s_rows_Warm_2 (m j : Int) (l q C E J K z D I r : Nat) (O : Int) (L M P S T U Q R V W Y : Nat) : Nat := (bif (!(ieq (s_rows_asked_0 m j l q C E J K z D I r O L M P S T U Q R V W Y) (0 : Int))) then 0 else (s_rows_pushed_2 m j l q C E J K z D I r O L M P S T U Q R V W Y r))
def s_rows_Warm_3 (m j : Int) (l q C E J K z D I r : Nat) (O : Int) (L M P S T U Q R V W Y : Nat) : Nat := (bif (!(ieq (s_rows_asked_0 m j l q C E J K z D I r O L M P S T U Q R V W Y) (0 : Int))) then 0 else (s_rows_pushed_3 m j l q C E J K z D I r O L M P S T U Q R V W Y r))
def s_rows_Warm_4 (m j : Int) (l q C E J K z D I r : Nat) (O : Int) (L M P S T U Q R V W Y : Nat) : Nat := (bif (!(ieq (s_rows_asked_0 m j l q C E J K z D I r O L M P S T U Q R V W Y) (0 : Int))) then 0 else (s_rows_pushed_4 m j l q C E J K z D I r O L M P S T U Q R V W Y r))
def s_rows_Warm_5 (m j : Int) (l q C E J K z D I r : Nat) (O : Int) (L M P S T U Q R V W Y : Nat) : Nat := (bif (!(ieq (s_rows_asked_0 m j l q C E J K z D I r O L M P S T U Q R V W Y) (0 : Int))) then 0 else (s_rows_pushed_5 m j l q C E J K z D I r O L M P S T U Q R V W Y r))
def s_rows_Warm_6 (m j : Int) (l q C E J K z D I r : Nat) (O : Int) (L M P S T U Q R V W Y : Nat) : Nat := (bif (!(ieq (s_rows_asked_0 m j l q C E J K z D I r O L M P S T U Q R V W Y) (0 : Int))) then 0 else (s_rows_pushed_6 m j l q C E J K z D I r O L M P S T U Q R V W Y r))
def s_rows_Warm_7 (m j : Int) (l q C E J K z D I r : Nat) (O : Int) (L M P S T U Q R V W Y : Nat) : Nat := (bif (!(ieq (s_rows_asked_0 m j l q C E J K z D I r O L M P S T U Q R V W Y) (0 : Int))) then 0 else (s_rows_pushed_7 m j l q C E J K z D I r O L M P S T U Q R V W Y r))
def s_rows_Warm_8 (m j : Int) (l q C E J K z D I r : Nat) (O : Int) (L M P S T U Q R V W Y : Nat) : Nat := (bif (!(ieq (s_rows_asked_0 m j l q C E J K z D I r O L M P S T U Q R V W Y) (0 : Int))) then 0 else (s_rows_pushed_8 m j l q C E J K z D I r O L M P S T U Q R V W Y r))
def s_rows_Warm_9 (m j : Int) (l q C E J K z D I r : Nat) (O : Int) (L M P S T U Q R V W Y : Nat) : Nat := (bif (!(ieq (s_rows_asked_0 m j l q C E J K z D I r O L M P S T U Q R V W Y) (0 : Int))) then 0 else (s_rows_pushed_9 m j l q C E J K z D I r O L M P S T U Q R V W Y r))
def s_rows_Warm_10 (m j : Int) (l q C E J K z D I r : Nat) (O : Int) (L M P S T U Q R V W Y : Nat) : Int := (bif (!(ieq (s_rows_asked_0 m j l q C E J K z D I r O L M P S T U Q R V W Y) (0 : Int))) then (s_rows_asked_0 m j l q C E J K z D I r O L M P S T U Q R V W Y) else (0 : Int))
theorem e_rows_Warm (m j : Int) (l q C E J K z D I r : Nat) (O : Int) (L M P S T U Q R V W Y : Nat) : outB (evFnM Try.prog false menv67 [] [] 96 Ann.no Try.f39 [AV.agg [AV.int .i64 m, AV.int .i64 j, AV.float l, AV.float q, AV.float C, AV.float E, AV.float J, AV.float K, AV.float z, AV.float D, AV.float I, AV.float r, AV.int .i64 O, AV.float L], AV.agg [AV.float M, AV.float P, AV.float S, AV.float T, AV.float U], AV.agg [AV.float Q, AV.float R, AV.float V, AV.float W, AV.float Y]] []) = some (true, AV.tup [AV.agg [AV.float (s_rows_Warm_0 m j l q C E J K z D I r O L M P S T U Q R V W Y), AV.float (s_rows_Warm_1 m j l q C E J K z D I r O L M P S T U Q R V W Y), AV.float (s_rows_Warm_2 m j l q C E J K z D I r O L M P S T U Q R V W Y), AV.float (s_rows_Warm_3 m j l q C E J K z D I r O L M P S T U Q R V W Y), AV.float (s_rows_Warm_4 m j l q C E J K z D I r O L M P S T U Q R V W Y)], AV.agg [AV.float (s_rows_Warm_5 m j l q C E J K z D I r O L M P S T U Q R V W Y), AV.float (s_rows_Warm_6 m j l q C E J K z D I r O L M P S T U Q R V W Y), AV.float (s_rows_Warm_7 m j l q C E J K z D I r O L M P S T U Q R V W Y), AV.float (s_rows_Warm_8 m j l q C E J K z D I r O L M P S T U Q R V W Y), AV.float (s_rows_Warm_9 m j l q C E J K z D I r O L M P S T U Q R V W Y)], AV.int .i64 (s_rows_Warm_10 m j l q C E J K z D I r O L M P S T U Q R V W Y)]) := by kernel_rfl
def S_rows_Warm : List AV → Option (Ob × AV)
  | [AV.agg [AV.int .i64 m, AV.int .i64 j, AV.float l, AV.float q, AV.float C, AV.float E, AV.float J, AV.float K, AV.float z, AV.float D, AV.float I, AV.float r, AV.int .i64 O, AV.float L], AV.agg [AV.float M, AV.float P, AV.float S, AV.float T, AV.float U], AV.agg [AV.float Q, AV.float R, AV.float V, AV.float W, AV.float Y]] => some (Ob.tt, AV.tup [AV.agg [AV.float (s_rows_Warm_0 m j l q C E J K z D I r O L M P S T U Q R V W Y), AV.float (s_rows_Warm_1 m j l q C E J K z D I r O L M P S T U Q R V W Y), AV.float (s_rows_Warm_2 m j l q C E J K z D I r O L M P S T U Q R V W Y), AV.float (s_rows_Warm_3 m j l q C E J K z D I r O L M P S T U Q R V W Y), AV.float (s_rows_Warm_4 m j l q C E J K z D I r O L M P S T U Q R V W Y)], AV.agg [AV.float (s_rows_Warm_5 m j l q C E J K z D I r O L M P S T U Q R V W Y), AV.float (s_rows_Warm_6 m j l q C E J K z D I r O L M P S T U Q R V W Y), AV.float (s_rows_Warm_7 m j l q C E J K z D I r O L M P S T U Q R V W Y), AV.float (s_rows_Warm_8 m j l q C E J K z D I r O L M P S T U Q R V W Y), AV.float (s_rows_Warm_9 m j l q C E J K z D I r O L M P S T U Q R V W Y)], AV.int .i64 (s_rows_Warm_10 m j l q C E J K z D I r O L M P S T U Q R V W Y)])
  | _ => none
theorem t_rows_Warm : SOkM Try.prog false (39, fun args => match S_rows_Warm args with | some (o, v) => some (o, v, []) | none => none) := SOkM.flat (N := 96) menv67_ok Try.func39 ann_rows_Warm Try.call39 fun args o v h ho => by
  unfold S_rows_Warm at h
  split at h
  · rename_i m j l q C E J K z D I r O L M P S T U Q R V W Y
    cases h
    have ho2 := ho
    have this := show outB (evFnM Try.prog false menv67 [] [] 96 Ann.no Try.f39 [AV.agg [AV.int .i64 m, AV.int .i64 j, AV.float l, AV.float q, AV.float C, AV.float E, AV.float J, AV.float K, AV.float z, AV.float D, AV.float I, AV.float r, AV.int .i64 O, AV.float L], AV.agg [AV.float M, AV.float P, AV.float S, AV.float T, AV.float U], AV.agg [AV.float Q, AV.float R, AV.float V, AV.float W, AV.float Y]] []) = _ from e_rows_Warm m j l q C E J K z D I r O L M P S T U Q R V W Y
    exact ⟨this, rfl⟩
  · cases h
def c_rows_Warm : SFM := fun args => match S_rows_Warm args with | some (o, v) => some (o, v, []) | none => none
theorem c_rows_Warm_ok : SOkM Try.prog false (39, c_rows_Warm) := t_rows_Warm
def mss68 : List (FuncId × SFM) := (39, c_rows_Warm) :: mss67
def menv68 : EnvM := mkEnvM mxs mss68 mws1
theorem mss68_ok : All (SOkM Try.prog false) mss68 := All.cons c_rows_Warm_ok mss67_ok
theorem menv68_ok : menv68.Ok Try.prog false := mkEnvM_ok mxs_ok mss68_ok mws1_ok
-- tumble/vec.Dot
theorem ann_vec_Dot : FnOk Try.prog false 0 Try.f98 Ann.no := (fnNo _)
def s_vec_Dot_0 (m j l q : Nat) : Nat := (fadd (fmul m l) (fmul j q))
theorem e_vec_Dot (m j l q : Nat) : outB (evFnM Try.prog false menv68 [] [] 96 Ann.no Try.f98 [AV.agg [AV.float m, AV.float j], AV.agg [AV.float l, AV.float q]] []) = some (true, AV.float (s_vec_Dot_0 m j l q)) := by kernel_rfl
def S_vec_Dot : List AV → Option (Ob × AV)
  | [AV.agg [AV.float m, AV.float j], AV.agg [AV.float l, AV.float q]] => some (Ob.tt, AV.float (s_vec_Dot_0 m j l q))
  | _ => none
theorem t_vec_Dot : SOkM Try.prog false (98, fun args => match S_vec_Dot args with | some (o, v) => some (o, v, []) | none => none) := SOkM.flat (N := 96) menv68_ok Try.func98 ann_vec_Dot Try.call98 fun args o v h ho => by
  unfold S_vec_Dot at h
  split at h
  · rename_i m j l q
    cases h
    have ho2 := ho
    have this := show outB (evFnM Try.prog false menv68 [] [] 96 Ann.no Try.f98 [AV.agg [AV.float m, AV.float j], AV.agg [AV.float l, AV.float q]] []) = _ from e_vec_Dot m j l q
    exact ⟨this, rfl⟩
  · cases h
def c_vec_Dot : SFM := fun args => match S_vec_Dot args with | some (o, v) => some (o, v, []) | none => none
theorem c_vec_Dot_ok : SOkM Try.prog false (98, c_vec_Dot) := t_vec_Dot
def mss69 : List (FuncId × SFM) := (98, c_vec_Dot) :: mss68
def menv69 : EnvM := mkEnvM mxs mss69 mws1
theorem mss69_ok : All (SOkM Try.prog false) mss69 := All.cons c_vec_Dot_ok mss68_ok
theorem menv69_ok : menv69.Ok Try.prog false := mkEnvM_ok mxs_ok mss69_ok mws1_ok
-- tumble/vec.Square
theorem ann_vec_Square : FnOk Try.prog false 0 Try.f87 Ann.no := (fnNo _)
def s_vec_Square_0 (m j : Nat) : Nat := (s_vec_Dot_0 m j m j)
theorem e_vec_Square (m j : Nat) : outB (evFnM Try.prog false menv69 [] [] 96 Ann.no Try.f87 [AV.agg [AV.float m, AV.float j]] []) = some (true, AV.float (s_vec_Square_0 m j)) := by kernel_rfl
def S_vec_Square : List AV → Option (Ob × AV)
  | [AV.agg [AV.float m, AV.float j]] => some (Ob.tt, AV.float (s_vec_Square_0 m j))
  | _ => none
theorem t_vec_Square : SOkM Try.prog false (87, fun args => match S_vec_Square args with | some (o, v) => some (o, v, []) | none => none) := SOkM.flat (N := 96) menv69_ok Try.func87 ann_vec_Square Try.call87 fun args o v h ho => by
  unfold S_vec_Square at h
  split at h
  · rename_i m j
    cases h
    have ho2 := ho
    have this := show outB (evFnM Try.prog false menv69 [] [] 96 Ann.no Try.f87 [AV.agg [AV.float m, AV.float j]] []) = _ from e_vec_Square m j
    exact ⟨this, rfl⟩
  · cases h
def c_vec_Square : SFM := fun args => match S_vec_Square args with | some (o, v) => some (o, v, []) | none => none
theorem c_vec_Square_ok : SOkM Try.prog false (87, c_vec_Square) := t_vec_Square
def mss70 : List (FuncId × SFM) := (87, c_vec_Square) :: mss69
def menv70 : EnvM := mkEnvM mxs mss70 mws1
theorem mss70_ok : All (SOkM Try.prog false) mss70 := All.cons c_vec_Square_ok mss69_ok
theorem menv70_ok : menv70.Ok Try.prog false := mkEnvM_ok mxs_ok mss70_ok mws1_ok
-- tumble/rows.weight
theorem ann_rows_weight : FnOk Try.prog false 0 Try.f61 Ann.no := (fnNo _)
def s_rows_weight_0 (m j : Int) (l q C E J K z D I r : Nat) (O : Int) (L M P S T U Q R V W Y : Nat) : Nat := (fadd (fadd (fadd (fmul M (s_vec_Square_0 l q)) (fmul P (fmul J J))) (fmul Q (s_vec_Square_0 C E))) (fmul R (fmul K K)))
theorem e_rows_weight (m j : Int) (l q C E J K z D I r : Nat) (O : Int) (L M P S T U Q R V W Y : Nat) : outB (evFnM Try.prog false menv70 [] [] 96 Ann.no Try.f61 [AV.agg [AV.int .i64 m, AV.int .i64 j, AV.float l, AV.float q, AV.float C, AV.float E, AV.float J, AV.float K, AV.float z, AV.float D, AV.float I, AV.float r, AV.int .i64 O, AV.float L], AV.agg [AV.float M, AV.float P, AV.float S, AV.float T, AV.float U], AV.agg [AV.float Q, AV.float R, AV.float V, AV.float W, AV.float Y]] []) = some (true, AV.float (s_rows_weight_0 m j l q C E J K z D I r O L M P S T U Q R V W Y)) := by kernel_rfl
def S_rows_weight : List AV → Option (Ob × AV)
  | [AV.agg [AV.int .i64 m, AV.int .i64 j, AV.float l, AV.float q, AV.float C, AV.float E, AV.float J, AV.float K, AV.float z, AV.float D, AV.float I, AV.float r, AV.int .i64 O, AV.float L], AV.agg [AV.float M, AV.float P, AV.float S, AV.float T, AV.float U], AV.agg [AV.float Q, AV.float R, AV.float V, AV.float W, AV.float Y]] => some (Ob.tt, AV.float (s_rows_weight_0 m j l q C E J K z D I r O L M P S T U Q R V W Y))
  | _ => none
theorem t_rows_weight : SOkM Try.prog false (61, fun args => match S_rows_weight args with | some (o, v) => some (o, v, []) | none => none) := SOkM.flat (N := 96) menv70_ok Try.func61 ann_rows_weight Try.call61 fun args o v h ho => by
  unfold S_rows_weight at h
  split at h
  · rename_i m j l q C E J K z D I r O L M P S T U Q R V W Y
    cases h
    have ho2 := ho
    have this := show outB (evFnM Try.prog false menv70 [] [] 96 Ann.no Try.f61 [AV.agg [AV.int .i64 m, AV.int .i64 j, AV.float l, AV.float q, AV.float C, AV.float E, AV.float J, AV.float K, AV.float z, AV.float D, AV.float I, AV.float r, AV.int .i64 O, AV.float L], AV.agg [AV.float M, AV.float P, AV.float S, AV.float T, AV.float U], AV.agg [AV.float Q, AV.float R, AV.float V, AV.float W, AV.float Y]] []) = _ from e_rows_weight m j l q C E J K z D I r O L M P S T U Q R V W Y
    exact ⟨this, rfl⟩
  · cases h
def c_rows_weight : SFM := fun args => match S_rows_weight args with | some (o, v) => some (o, v, []) | none => none
theorem c_rows_weight_ok : SOkM Try.prog false (61, c_rows_weight) := t_rows_weight
def mss71 : List (FuncId × SFM) := (61, c_rows_weight) :: mss70
def menv71 : EnvM := mkEnvM mxs mss71 mws1
theorem mss71_ok : All (SOkM Try.prog false) mss71 := All.cons c_rows_weight_ok mss70_ok
theorem menv71_ok : menv71.Ok Try.prog false := mkEnvM_ok mxs_ok mss71_ok mws1_ok
-- tumble/rows.speed
theorem ann_rows_speed : FnOk Try.prog false 0 Try.f74 Ann.no := (fnNo _)
def s_rows_speed_0 (m j : Int) (l q C E J K z D I r : Nat) (O : Int) (L M P S T U Q R V W Y : Nat) : Nat := (fadd (fadd (fadd (s_vec_Dot_0 l q S T) (fmul J U)) (s_vec_Dot_0 C E V W)) (fmul K Y))
theorem e_rows_speed (m j : Int) (l q C E J K z D I r : Nat) (O : Int) (L M P S T U Q R V W Y : Nat) : outB (evFnM Try.prog false menv71 [] [] 96 Ann.no Try.f74 [AV.agg [AV.int .i64 m, AV.int .i64 j, AV.float l, AV.float q, AV.float C, AV.float E, AV.float J, AV.float K, AV.float z, AV.float D, AV.float I, AV.float r, AV.int .i64 O, AV.float L], AV.agg [AV.float M, AV.float P, AV.float S, AV.float T, AV.float U], AV.agg [AV.float Q, AV.float R, AV.float V, AV.float W, AV.float Y]] []) = some (true, AV.float (s_rows_speed_0 m j l q C E J K z D I r O L M P S T U Q R V W Y)) := by kernel_rfl
def S_rows_speed : List AV → Option (Ob × AV)
  | [AV.agg [AV.int .i64 m, AV.int .i64 j, AV.float l, AV.float q, AV.float C, AV.float E, AV.float J, AV.float K, AV.float z, AV.float D, AV.float I, AV.float r, AV.int .i64 O, AV.float L], AV.agg [AV.float M, AV.float P, AV.float S, AV.float T, AV.float U], AV.agg [AV.float Q, AV.float R, AV.float V, AV.float W, AV.float Y]] => some (Ob.tt, AV.float (s_rows_speed_0 m j l q C E J K z D I r O L M P S T U Q R V W Y))
  | _ => none
theorem t_rows_speed : SOkM Try.prog false (74, fun args => match S_rows_speed args with | some (o, v) => some (o, v, []) | none => none) := SOkM.flat (N := 96) menv71_ok Try.func74 ann_rows_speed Try.call74 fun args o v h ho => by
  unfold S_rows_speed at h
  split at h
  · rename_i m j l q C E J K z D I r O L M P S T U Q R V W Y
    cases h
    have ho2 := ho
    have this := show outB (evFnM Try.prog false menv71 [] [] 96 Ann.no Try.f74 [AV.agg [AV.int .i64 m, AV.int .i64 j, AV.float l, AV.float q, AV.float C, AV.float E, AV.float J, AV.float K, AV.float z, AV.float D, AV.float I, AV.float r, AV.int .i64 O, AV.float L], AV.agg [AV.float M, AV.float P, AV.float S, AV.float T, AV.float U], AV.agg [AV.float Q, AV.float R, AV.float V, AV.float W, AV.float Y]] []) = _ from e_rows_speed m j l q C E J K z D I r O L M P S T U Q R V W Y
    exact ⟨this, rfl⟩
  · cases h
def c_rows_speed : SFM := fun args => match S_rows_speed args with | some (o, v) => some (o, v, []) | none => none
theorem c_rows_speed_ok : SOkM Try.prog false (74, c_rows_speed) := t_rows_speed
def mss72 : List (FuncId × SFM) := (74, c_rows_speed) :: mss71
def menv72 : EnvM := mkEnvM mxs mss72 mws1
theorem mss72_ok : All (SOkM Try.prog false) mss72 := All.cons c_rows_speed_ok mss71_ok
theorem menv72_ok : menv72.Ok Try.prog false := mkEnvM_ok mxs_ok mss72_ok mws1_ok
-- tumble/num.Clamp[float64]
theorem ann_num_Clamp_float64_ : FnOk Try.prog false 0 Try.f92 Ann.no := (fnNo _)
def s_num_Clamp_float64__0 (m j l : Nat) : Nat := (bif ((!(flt j m)) || (flt l m)) then (bif (!(flt j m)) then j else l) else m)
theorem e_num_Clamp_float64_ (m j l : Nat) : outB (evFnM Try.prog false menv72 [] [] 96 Ann.no Try.f92 [AV.float m, AV.float j, AV.float l] []) = some (true, AV.float (s_num_Clamp_float64__0 m j l)) := by kernel_rfl
def S_num_Clamp_float64_ : List AV → Option (Ob × AV)
  | [AV.float m, AV.float j, AV.float l] => some (Ob.tt, AV.float (s_num_Clamp_float64__0 m j l))
  | _ => none
theorem t_num_Clamp_float64_ : SOkM Try.prog false (92, fun args => match S_num_Clamp_float64_ args with | some (o, v) => some (o, v, []) | none => none) := SOkM.flat (N := 96) menv72_ok Try.func92 ann_num_Clamp_float64_ Try.call92 fun args o v h ho => by
  unfold S_num_Clamp_float64_ at h
  split at h
  · rename_i m j l
    cases h
    have ho2 := ho
    have this := show outB (evFnM Try.prog false menv72 [] [] 96 Ann.no Try.f92 [AV.float m, AV.float j, AV.float l] []) = _ from e_num_Clamp_float64_ m j l
    exact ⟨this, rfl⟩
  · cases h
def c_num_Clamp_float64_ : SFM := fun args => match S_num_Clamp_float64_ args with | some (o, v) => some (o, v, []) | none => none
theorem c_num_Clamp_float64__ok : SOkM Try.prog false (92, c_num_Clamp_float64_) := t_num_Clamp_float64_
def mss73 : List (FuncId × SFM) := (92, c_num_Clamp_float64_) :: mss72
def menv73 : EnvM := mkEnvM mxs mss73 mws1
theorem mss73_ok : All (SOkM Try.prog false) mss73 := All.cons c_num_Clamp_float64__ok mss72_ok
theorem menv73_ok : menv73.Ok Try.prog false := mkEnvM_ok mxs_ok mss73_ok mws1_ok
-- tumble/rows.One
theorem ann_rows_One : FnOk Try.prog false 0 Try.f66 Ann.no := (fnNo _)
def s_rows_One_0 (m j : Int) (l q C E J K z D I r : Nat) (O : Int) (L M P S T U Q R V W Y : Nat) : Int := (bif (!(ieq (s_rows_asked_0 m j l q C E J K z D I r O L M P S T U Q R V W Y) (0 : Int))) then (0 : Int) else (bif ((!(flt 0 (s_rows_weight_0 m j l q C E J K z D I r O L M P S T U Q R V W Y))) || (!(s_rows_finite_v1_0 (fun j0 => (bif (Nat.beq j0 0) then (s_rows_weight_0 m j l q C E J K z D I r O L M P S T U Q R V W Y) else (fsub z (s_rows_speed_0 m j l q C E J K z D I r O L M P S T U Q R V W Y))))))) then m else (bif (!(s_rows_finite_v1_0 (fun j0 => let x0 := s_num_Clamp_float64__0 (fadd r (fdiv (fsub z (s_rows_speed_0 m j l q C E J K z D I r O L M P S T U Q R V W Y)) (s_rows_weight_0 m j l q C E J K z D I r O L M P S T U Q R V W Y))) D I; (bif (Nat.beq j0 0) then x0 else (fsub x0 r))))) then m else m)))
def s_rows_One_1 (m j : Int) (l q C E J K z D I r : Nat) (O : Int) (L M P S T U Q R V W Y : Nat) : Int := (bif (!(ieq (s_rows_asked_0 m j l q C E J K z D I r O L M P S T U Q R V W Y) (0 : Int))) then (0 : Int) else (bif ((!(flt 0 (s_rows_weight_0 m j l q C E J K z D I r O L M P S T U Q R V W Y))) || (!(s_rows_finite_v1_0 (fun j0 => (bif (Nat.beq j0 0) then (s_rows_weight_0 m j l q C E J K z D I r O L M P S T U Q R V W Y) else (fsub z (s_rows_speed_0 m j l q C E J K z D I r O L M P S T U Q R V W Y))))))) then j else (bif (!(s_rows_finite_v1_0 (fun j0 => let x0 := s_num_Clamp_float64__0 (fadd r (fdiv (fsub z (s_rows_speed_0 m j l q C E J K z D I r O L M P S T U Q R V W Y)) (s_rows_weight_0 m j l q C E J K z D I r O L M P S T U Q R V W Y))) D I; (bif (Nat.beq j0 0) then x0 else (fsub x0 r))))) then j else j)))
def s_rows_One_2 (m j : Int) (l q C E J K z D I r : Nat) (O : Int) (L M P S T U Q R V W Y : Nat) : Nat := (bif (!(ieq (s_rows_asked_0 m j l q C E J K z D I r O L M P S T U Q R V W Y) (0 : Int))) then 0 else (bif ((!(flt 0 (s_rows_weight_0 m j l q C E J K z D I r O L M P S T U Q R V W Y))) || (!(s_rows_finite_v1_0 (fun j0 => (bif (Nat.beq j0 0) then (s_rows_weight_0 m j l q C E J K z D I r O L M P S T U Q R V W Y) else (fsub z (s_rows_speed_0 m j l q C E J K z D I r O L M P S T U Q R V W Y))))))) then l else (bif (!(s_rows_finite_v1_0 (fun j0 => let x0 := s_num_Clamp_float64__0 (fadd r (fdiv (fsub z (s_rows_speed_0 m j l q C E J K z D I r O L M P S T U Q R V W Y)) (s_rows_weight_0 m j l q C E J K z D I r O L M P S T U Q R V W Y))) D I; (bif (Nat.beq j0 0) then x0 else (fsub x0 r))))) then l else l)))
def s_rows_One_3 (m j : Int) (l q C E J K z D I r : Nat) (O : Int) (L M P S T U Q R V W Y : Nat) : Nat := (bif (!(ieq (s_rows_asked_0 m j l q C E J K z D I r O L M P S T U Q R V W Y) (0 : Int))) then 0 else (bif ((!(flt 0 (s_rows_weight_0 m j l q C E J K z D I r O L M P S T U Q R V W Y))) || (!(s_rows_finite_v1_0 (fun j0 => (bif (Nat.beq j0 0) then (s_rows_weight_0 m j l q C E J K z D I r O L M P S T U Q R V W Y) else (fsub z (s_rows_speed_0 m j l q C E J K z D I r O L M P S T U Q R V W Y))))))) then q else (bif (!(s_rows_finite_v1_0 (fun j0 => let x0 := s_num_Clamp_float64__0 (fadd r (fdiv (fsub z (s_rows_speed_0 m j l q C E J K z D I r O L M P S T U Q R V W Y)) (s_rows_weight_0 m j l q C E J K z D I r O L M P S T U Q R V W Y))) D I; (bif (Nat.beq j0 0) then x0 else (fsub x0 r))))) then q else q)))
def s_rows_One_4 (m j : Int) (l q C E J K z D I r : Nat) (O : Int) (L M P S T U Q R V W Y : Nat) : Nat := (bif (!(ieq (s_rows_asked_0 m j l q C E J K z D I r O L M P S T U Q R V W Y) (0 : Int))) then 0 else (bif ((!(flt 0 (s_rows_weight_0 m j l q C E J K z D I r O L M P S T U Q R V W Y))) || (!(s_rows_finite_v1_0 (fun j0 => (bif (Nat.beq j0 0) then (s_rows_weight_0 m j l q C E J K z D I r O L M P S T U Q R V W Y) else (fsub z (s_rows_speed_0 m j l q C E J K z D I r O L M P S T U Q R V W Y))))))) then C else (bif (!(s_rows_finite_v1_0 (fun j0 => let x0 := s_num_Clamp_float64__0 (fadd r (fdiv (fsub z (s_rows_speed_0 m j l q C E J K z D I r O L M P S T U Q R V W Y)) (s_rows_weight_0 m j l q C E J K z D I r O L M P S T U Q R V W Y))) D I; (bif (Nat.beq j0 0) then x0 else (fsub x0 r))))) then C else C)))
def s_rows_One_5 (m j : Int) (l q C E J K z D I r : Nat) (O : Int) (L M P S T U Q R V W Y : Nat) : Nat := (bif (!(ieq (s_rows_asked_0 m j l q C E J K z D I r O L M P S T U Q R V W Y) (0 : Int))) then 0 else (bif ((!(flt 0 (s_rows_weight_0 m j l q C E J K z D I r O L M P S T U Q R V W Y))) || (!(s_rows_finite_v1_0 (fun j0 => (bif (Nat.beq j0 0) then (s_rows_weight_0 m j l q C E J K z D I r O L M P S T U Q R V W Y) else (fsub z (s_rows_speed_0 m j l q C E J K z D I r O L M P S T U Q R V W Y))))))) then E else (bif (!(s_rows_finite_v1_0 (fun j0 => let x0 := s_num_Clamp_float64__0 (fadd r (fdiv (fsub z (s_rows_speed_0 m j l q C E J K z D I r O L M P S T U Q R V W Y)) (s_rows_weight_0 m j l q C E J K z D I r O L M P S T U Q R V W Y))) D I; (bif (Nat.beq j0 0) then x0 else (fsub x0 r))))) then E else E)))
def s_rows_One_6 (m j : Int) (l q C E J K z D I r : Nat) (O : Int) (L M P S T U Q R V W Y : Nat) : Nat := (bif (!(ieq (s_rows_asked_0 m j l q C E J K z D I r O L M P S T U Q R V W Y) (0 : Int))) then 0 else (bif ((!(flt 0 (s_rows_weight_0 m j l q C E J K z D I r O L M P S T U Q R V W Y))) || (!(s_rows_finite_v1_0 (fun j0 => (bif (Nat.beq j0 0) then (s_rows_weight_0 m j l q C E J K z D I r O L M P S T U Q R V W Y) else (fsub z (s_rows_speed_0 m j l q C E J K z D I r O L M P S T U Q R V W Y))))))) then J else (bif (!(s_rows_finite_v1_0 (fun j0 => let x0 := s_num_Clamp_float64__0 (fadd r (fdiv (fsub z (s_rows_speed_0 m j l q C E J K z D I r O L M P S T U Q R V W Y)) (s_rows_weight_0 m j l q C E J K z D I r O L M P S T U Q R V W Y))) D I; (bif (Nat.beq j0 0) then x0 else (fsub x0 r))))) then J else J)))
def s_rows_One_7 (m j : Int) (l q C E J K z D I r : Nat) (O : Int) (L M P S T U Q R V W Y : Nat) : Nat := (bif (!(ieq (s_rows_asked_0 m j l q C E J K z D I r O L M P S T U Q R V W Y) (0 : Int))) then 0 else (bif ((!(flt 0 (s_rows_weight_0 m j l q C E J K z D I r O L M P S T U Q R V W Y))) || (!(s_rows_finite_v1_0 (fun j0 => (bif (Nat.beq j0 0) then (s_rows_weight_0 m j l q C E J K z D I r O L M P S T U Q R V W Y) else (fsub z (s_rows_speed_0 m j l q C E J K z D I r O L M P S T U Q R V W Y))))))) then K else (bif (!(s_rows_finite_v1_0 (fun j0 => let x0 := s_num_Clamp_float64__0 (fadd r (fdiv (fsub z (s_rows_speed_0 m j l q C E J K z D I r O L M P S T U Q R V W Y)) (s_rows_weight_0 m j l q C E J K z D I r O L M P S T U Q R V W Y))) D I; (bif (Nat.beq j0 0) then x0 else (fsub x0 r))))) then K else K)))
def s_rows_One_8 (m j : Int) (l q C E J K z D I r : Nat) (O : Int) (L M P S T U Q R V W Y : Nat) : Nat := (bif (!(ieq (s_rows_asked_0 m j l q C E J K z D I r O L M P S T U Q R V W Y) (0 : Int))) then 0 else (bif ((!(flt 0 (s_rows_weight_0 m j l q C E J K z D I r O L M P S T U Q R V W Y))) || (!(s_rows_finite_v1_0 (fun j0 => (bif (Nat.beq j0 0) then (s_rows_weight_0 m j l q C E J K z D I r O L M P S T U Q R V W Y) else (fsub z (s_rows_speed_0 m j l q C E J K z D I r O L M P S T U Q R V W Y))))))) then z else (bif (!(s_rows_finite_v1_0 (fun j0 => let x0 := s_num_Clamp_float64__0 (fadd r (fdiv (fsub z (s_rows_speed_0 m j l q C E J K z D I r O L M P S T U Q R V W Y)) (s_rows_weight_0 m j l q C E J K z D I r O L M P S T U Q R V W Y))) D I; (bif (Nat.beq j0 0) then x0 else (fsub x0 r))))) then z else z)))
def s_rows_One_9 (m j : Int) (l q C E J K z D I r : Nat) (O : Int) (L M P S T U Q R V W Y : Nat) : Nat := (bif (!(ieq (s_rows_asked_0 m j l q C E J K z D I r O L M P S T U Q R V W Y) (0 : Int))) then 0 else (bif ((!(flt 0 (s_rows_weight_0 m j l q C E J K z D I r O L M P S T U Q R V W Y))) || (!(s_rows_finite_v1_0 (fun j0 => (bif (Nat.beq j0 0) then (s_rows_weight_0 m j l q C E J K z D I r O L M P S T U Q R V W Y) else (fsub z (s_rows_speed_0 m j l q C E J K z D I r O L M P S T U Q R V W Y))))))) then D else (bif (!(s_rows_finite_v1_0 (fun j0 => let x0 := s_num_Clamp_float64__0 (fadd r (fdiv (fsub z (s_rows_speed_0 m j l q C E J K z D I r O L M P S T U Q R V W Y)) (s_rows_weight_0 m j l q C E J K z D I r O L M P S T U Q R V W Y))) D I; (bif (Nat.beq j0 0) then x0 else (fsub x0 r))))) then D else D)))
def s_rows_One_10 (m j : Int) (l q C E J K z D I r : Nat) (O : Int) (L M P S T U Q R V W Y : Nat) : Nat := (bif (!(ieq (s_rows_asked_0 m j l q C E J K z D I r O L M P S T U Q R V W Y) (0 : Int))) then 0 else (bif ((!(flt 0 (s_rows_weight_0 m j l q C E J K z D I r O L M P S T U Q R V W Y))) || (!(s_rows_finite_v1_0 (fun j0 => (bif (Nat.beq j0 0) then (s_rows_weight_0 m j l q C E J K z D I r O L M P S T U Q R V W Y) else (fsub z (s_rows_speed_0 m j l q C E J K z D I r O L M P S T U Q R V W Y))))))) then I else (bif (!(s_rows_finite_v1_0 (fun j0 => let x0 := s_num_Clamp_float64__0 (fadd r (fdiv (fsub z (s_rows_speed_0 m j l q C E J K z D I r O L M P S T U Q R V W Y)) (s_rows_weight_0 m j l q C E J K z D I r O L M P S T U Q R V W Y))) D I; (bif (Nat.beq j0 0) then x0 else (fsub x0 r))))) then I else I)))
def s_rows_One_11 (m j : Int) (l q C E J K z D I r : Nat) (O : Int) (L M P S T U Q R V W Y : Nat) : Nat := let x0 := s_rows_weight_0 m j l q C E J K z D I r O L M P S T U Q R V W Y; (bif (!(ieq (s_rows_asked_0 m j l q C E J K z D I r O L M P S T U Q R V W Y) (0 : Int))) then 0 else (bif ((!(flt 0 x0)) || (!(s_rows_finite_v1_0 (fun j0 => (bif (Nat.beq j0 0) then (s_rows_weight_0 m j l q C E J K z D I r O L M P S T U Q R V W Y) else (fsub z (s_rows_speed_0 m j l q C E J K z D I r O L M P S T U Q R V W Y))))))) then r else (bif (!(s_rows_finite_v1_0 (fun j0 => let x0 := s_num_Clamp_float64__0 (fadd r (fdiv (fsub z (s_rows_speed_0 m j l q C E J K z D I r O L M P S T U Q R V W Y)) (s_rows_weight_0 m j l q C E J K z D I r O L M P S T U Q R V W Y))) D I; (bif (Nat.beq j0 0) then x0 else (fsub x0 r))))) then r else (s_num_Clamp_float64__0 (fadd r (fdiv (fsub z (s_rows_speed_0 m j l q C E J K z D I r O L M P S T U Q R V W Y)) x0)) D I))))
def s_rows_One_12 (m j : Int) (l q C E J K z D I r : Nat) (O : Int) (L M P S T U Q R V W Y : Nat) : Int := (bif (!(ieq (s_rows_asked_0 m j l q C E J K z D I r O L M P S T U Q R V W Y) (0 : Int))) then (0 : Int) else (bif ((!(flt 0 (s_rows_weight_0 m j l q C E J K z D I r O L M P S T U Q R V W Y))) || (!(s_rows_finite_v1_0 (fun j0 => (bif (Nat.beq j0 0) then (s_rows_weight_0 m j l q C E J K z D I r O L M P S T U Q R V W Y) else (fsub z (s_rows_speed_0 m j l q C E J K z D I r O L M P S T U Q R V W Y))))))) then O else (bif (!(s_rows_finite_v1_0 (fun j0 => let x0 := s_num_Clamp_float64__0 (fadd r (fdiv (fsub z (s_rows_speed_0 m j l q C E J K z D I r O L M P S T U Q R V W Y)) (s_rows_weight_0 m j l q C E J K z D I r O L M P S T U Q R V W Y))) D I; (bif (Nat.beq j0 0) then x0 else (fsub x0 r))))) then O else O)))
def s_rows_One_13 (m j : Int) (l q C E J K z D I r : Nat) (O : Int) (L M P S T U Q R V W Y : Nat) : Nat := (bif (!(ieq (s_rows_asked_0 m j l q C E J K z D I r O L M P S T U Q R V W Y) (0 : Int))) then 0 else (bif ((!(flt 0 (s_rows_weight_0 m j l q C E J K z D I r O L M P S T U Q R V W Y))) || (!(s_rows_finite_v1_0 (fun j0 => (bif (Nat.beq j0 0) then (s_rows_weight_0 m j l q C E J K z D I r O L M P S T U Q R V W Y) else (fsub z (s_rows_speed_0 m j l q C E J K z D I r O L M P S T U Q R V W Y))))))) then L else (bif (!(s_rows_finite_v1_0 (fun j0 => let x0 := s_num_Clamp_float64__0 (fadd r (fdiv (fsub z (s_rows_speed_0 m j l q C E J K z D I r O L M P S T U Q R V W Y)) (s_rows_weight_0 m j l q C E J K z D I r O L M P S T U Q R V W Y))) D I; (bif (Nat.beq j0 0) then x0 else (fsub x0 r))))) then L else L)))
def s_rows_One_14 (m j : Int) (l q C E J K z D I r : Nat) (O : Int) (L M P S T U Q R V W Y : Nat) : Nat := let x0 := s_rows_weight_0 m j l q C E J K z D I r O L M P S T U Q R V W Y; (bif (!(ieq (s_rows_asked_0 m j l q C E J K z D I r O L M P S T U Q R V W Y) (0 : Int))) then 0 else (bif ((!(flt 0 x0)) || (!(s_rows_finite_v1_0 (fun j0 => (bif (Nat.beq j0 0) then (s_rows_weight_0 m j l q C E J K z D I r O L M P S T U Q R V W Y) else (fsub z (s_rows_speed_0 m j l q C E J K z D I r O L M P S T U Q R V W Y))))))) then M else (bif (!(s_rows_finite_v1_0 (fun j0 => let x0 := s_num_Clamp_float64__0 (fadd r (fdiv (fsub z (s_rows_speed_0 m j l q C E J K z D I r O L M P S T U Q R V W Y)) (s_rows_weight_0 m j l q C E J K z D I r O L M P S T U Q R V W Y))) D I; (bif (Nat.beq j0 0) then x0 else (fsub x0 r))))) then M else (s_rows_pushed_0 m j l q C E J K z D I r O L M P S T U Q R V W Y (fsub (s_num_Clamp_float64__0 (fadd r (fdiv (fsub z (s_rows_speed_0 m j l q C E J K z D I r O L M P S T U Q R V W Y)) x0)) D I) r)))))
def s_rows_One_15 (m j : Int) (l q C E J K z D I r : Nat) (O : Int) (L M P S T U Q R V W Y : Nat) : Nat := let x0 := s_rows_weight_0 m j l q C E J K z D I r O L M P S T U Q R V W Y; (bif (!(ieq (s_rows_asked_0 m j l q C E J K z D I r O L M P S T U Q R V W Y) (0 : Int))) then 0 else (bif ((!(flt 0 x0)) || (!(s_rows_finite_v1_0 (fun j0 => (bif (Nat.beq j0 0) then (s_rows_weight_0 m j l q C E J K z D I r O L M P S T U Q R V W Y) else (fsub z (s_rows_speed_0 m j l q C E J K z D I r O L M P S T U Q R V W Y))))))) then P else (bif (!(s_rows_finite_v1_0 (fun j0 => let x0 := s_num_Clamp_float64__0 (fadd r (fdiv (fsub z (s_rows_speed_0 m j l q C E J K z D I r O L M P S T U Q R V W Y)) (s_rows_weight_0 m j l q C E J K z D I r O L M P S T U Q R V W Y))) D I; (bif (Nat.beq j0 0) then x0 else (fsub x0 r))))) then P else (s_rows_pushed_1 m j l q C E J K z D I r O L M P S T U Q R V W Y (fsub (s_num_Clamp_float64__0 (fadd r (fdiv (fsub z (s_rows_speed_0 m j l q C E J K z D I r O L M P S T U Q R V W Y)) x0)) D I) r)))))
def s_rows_One_16 (m j : Int) (l q C E J K z D I r : Nat) (O : Int) (L M P S T U Q R V W Y : Nat) : Nat := let x0 := s_rows_weight_0 m j l q C E J K z D I r O L M P S T U Q R V W Y; (bif (!(ieq (s_rows_asked_0 m j l q C E J K z D I r O L M P S T U Q R V W Y) (0 : Int))) then 0 else (bif ((!(flt 0 x0)) || (!(s_rows_finite_v1_0 (fun j0 => (bif (Nat.beq j0 0) then (s_rows_weight_0 m j l q C E J K z D I r O L M P S T U Q R V W Y) else (fsub z (s_rows_speed_0 m j l q C E J K z D I r O L M P S T U Q R V W Y))))))) then S else (bif (!(s_rows_finite_v1_0 (fun j0 => let x0 := s_num_Clamp_float64__0 (fadd r (fdiv (fsub z (s_rows_speed_0 m j l q C E J K z D I r O L M P S T U Q R V W Y)) (s_rows_weight_0 m j l q C E J K z D I r O L M P S T U Q R V W Y))) D I; (bif (Nat.beq j0 0) then x0 else (fsub x0 r))))) then S else (s_rows_pushed_2 m j l q C E J K z D I r O L M P S T U Q R V W Y (fsub (s_num_Clamp_float64__0 (fadd r (fdiv (fsub z (s_rows_speed_0 m j l q C E J K z D I r O L M P S T U Q R V W Y)) x0)) D I) r)))))
def s_rows_One_17 (m j : Int) (l q C E J K z D I r : Nat) (O : Int) (L M P S T U Q R V W Y : Nat) : Nat := let x0 := s_rows_weight_0 m j l q C E J K z D I r O L M P S T U Q R V W Y; (bif (!(ieq (s_rows_asked_0 m j l q C E J K z D I r O L M P S T U Q R V W Y) (0 : Int))) then 0 else (bif ((!(flt 0 x0)) || (!(s_rows_finite_v1_0 (fun j0 => (bif (Nat.beq j0 0) then (s_rows_weight_0 m j l q C E J K z D I r O L M P S T U Q R V W Y) else (fsub z (s_rows_speed_0 m j l q C E J K z D I r O L M P S T U Q R V W Y))))))) then T else (bif (!(s_rows_finite_v1_0 (fun j0 => let x0 := s_num_Clamp_float64__0 (fadd r (fdiv (fsub z (s_rows_speed_0 m j l q C E J K z D I r O L M P S T U Q R V W Y)) (s_rows_weight_0 m j l q C E J K z D I r O L M P S T U Q R V W Y))) D I; (bif (Nat.beq j0 0) then x0 else (fsub x0 r))))) then T else (s_rows_pushed_3 m j l q C E J K z D I r O L M P S T U Q R V W Y (fsub (s_num_Clamp_float64__0 (fadd r (fdiv (fsub z (s_rows_speed_0 m j l q C E J K z D I r O L M P S T U Q R V W Y)) x0)) D I) r)))))
def s_rows_One_18 (m j : Int) (l q C E J K z D I r : Nat) (O : Int) (L M P S T U Q R V W Y : Nat) : Nat := let x0 := s_rows_weight_0 m j l q C E J K z D I r O L M P S T U Q R V W Y; (bif (!(ieq (s_rows_asked_0 m j l q C E J K z D I r O L M P S T U Q R V W Y) (0 : Int))) then 0 else (bif ((!(flt 0 x0)) || (!(s_rows_finite_v1_0 (fun j0 => (bif (Nat.beq j0 0) then (s_rows_weight_0 m j l q C E J K z D I r O L M P S T U Q R V W Y) else (fsub z (s_rows_speed_0 m j l q C E J K z D I r O L M P S T U Q R V W Y))))))) then U else (bif (!(s_rows_finite_v1_0 (fun j0 => let x0 := s_num_Clamp_float64__0 (fadd r (fdiv (fsub z (s_rows_speed_0 m j l q C E J K z D I r O L M P S T U Q R V W Y)) (s_rows_weight_0 m j l q C E J K z D I r O L M P S T U Q R V W Y))) D I; (bif (Nat.beq j0 0) then x0 else (fsub x0 r))))) then U else (s_rows_pushed_4 m j l q C E J K z D I r O L M P S T U Q R V W Y (fsub (s_num_Clamp_float64__0 (fadd r (fdiv (fsub z (s_rows_speed_0 m j l q C E J K z D I r O L M P S T U Q R V W Y)) x0)) D I) r)))))
def s_rows_One_19 (m j : Int) (l q C E J K z D I r : Nat) (O : Int) (L M P S T U Q R V W Y : Nat) : Nat := let x0 := s_rows_weight_0 m j l q C E J K z D I r O L M P S T U Q R V W Y; (bif (!(ieq (s_rows_asked_0 m j l q C E J K z D I r O L M P S T U Q R V W Y) (0 : Int))) then 0 else (bif ((!(flt 0 x0)) || (!(s_rows_finite_v1_0 (fun j0 => (bif (Nat.beq j0 0) then (s_rows_weight_0 m j l q C E J K z D I r O L M P S T U Q R V W Y) else (fsub z (s_rows_speed_0 m j l q C E J K z D I r O L M P S T U Q R V W Y))))))) then Q else (bif (!(s_rows_finite_v1_0 (fun j0 => let x0 := s_num_Clamp_float64__0 (fadd r (fdiv (fsub z (s_rows_speed_0 m j l q C E J K z D I r O L M P S T U Q R V W Y)) (s_rows_weight_0 m j l q C E J K z D I r O L M P S T U Q R V W Y))) D I; (bif (Nat.beq j0 0) then x0 else (fsub x0 r))))) then Q else (s_rows_pushed_5 m j l q C E J K z D I r O L M P S T U Q R V W Y (fsub (s_num_Clamp_float64__0 (fadd r (fdiv (fsub z (s_rows_speed_0 m j l q C E J K z D I r O L M P S T U Q R V W Y)) x0)) D I) r)))))
def s_rows_One_20 (m j : Int) (l q C E J K z D I r : Nat) (O : Int) (L M P S T U Q R V W Y : Nat) : Nat := let x0 := s_rows_weight_0 m j l q C E J K z D I r O L M P S T U Q R V W Y; (bif (!(ieq (s_rows_asked_0 m j l q C E J K z D I r O L M P S T U Q R V W Y) (0 : Int))) then 0 else (bif ((!(flt 0 x0)) || (!(s_rows_finite_v1_0 (fun j0 => (bif (Nat.beq j0 0) then (s_rows_weight_0 m j l q C E J K z D I r O L M P S T U Q R V W Y) else (fsub z (s_rows_speed_0 m j l q C E J K z D I r O L M P S T U Q R V W Y))))))) then R else (bif (!(s_rows_finite_v1_0 (fun j0 => let x0 := s_num_Clamp_float64__0 (fadd r (fdiv (fsub z (s_rows_speed_0 m j l q C E J K z D I r O L M P S T U Q R V W Y)) (s_rows_weight_0 m j l q C E J K z D I r O L M P S T U Q R V W Y))) D I; (bif (Nat.beq j0 0) then x0 else (fsub x0 r))))) then R else (s_rows_pushed_6 m j l q C E J K z D I r O L M P S T U Q R V W Y (fsub (s_num_Clamp_float64__0 (fadd r (fdiv (fsub z (s_rows_speed_0 m j l q C E J K z D I r O L M P S T U Q R V W Y)) x0)) D I) r)))))
def s_rows_One_21 (m j : Int) (l q C E J K z D I r : Nat) (O : Int) (L M P S T U Q R V W Y : Nat) : Nat := let x0 := s_rows_weight_0 m j l q C E J K z D I r O L M P S T U Q R V W Y; (bif (!(ieq (s_rows_asked_0 m j l q C E J K z D I r O L M P S T U Q R V W Y) (0 : Int))) then 0 else (bif ((!(flt 0 x0)) || (!(s_rows_finite_v1_0 (fun j0 => (bif (Nat.beq j0 0) then (s_rows_weight_0 m j l q C E J K z D I r O L M P S T U Q R V W Y) else (fsub z (s_rows_speed_0 m j l q C E J K z D I r O L M P S T U Q R V W Y))))))) then V else (bif (!(s_rows_finite_v1_0 (fun j0 => let x0 := s_num_Clamp_float64__0 (fadd r (fdiv (fsub z (s_rows_speed_0 m j l q C E J K z D I r O L M P S T U Q R V W Y)) (s_rows_weight_0 m j l q C E J K z D I r O L M P S T U Q R V W Y))) D I; (bif (Nat.beq j0 0) then x0 else (fsub x0 r))))) then V else (s_rows_pushed_7 m j l q C E J K z D I r O L M P S T U Q R V W Y (fsub (s_num_Clamp_float64__0 (fadd r (fdiv (fsub z (s_rows_speed_0 m j l q C E J K z D I r O L M P S T U Q R V W Y)) x0)) D I) r)))))
def s_rows_One_22 (m j : Int) (l q C E J K z D I r : Nat) (O : Int) (L M P S T U Q R V W Y : Nat) : Nat := let x0 := s_rows_weight_0 m j l q C E J K z D I r O L M P S T U Q R V W Y; (bif (!(ieq (s_rows_asked_0 m j l q C E J K z D I r O L M P S T U Q R V W Y) (0 : Int))) then 0 else (bif ((!(flt 0 x0)) || (!(s_rows_finite_v1_0 (fun j0 => (bif (Nat.beq j0 0) then (s_rows_weight_0 m j l q C E J K z D I r O L M P S T U Q R V W Y) else (fsub z (s_rows_speed_0 m j l q C E J K z D I r O L M P S T U Q R V W Y))))))) then W else (bif (!(s_rows_finite_v1_0 (fun j0 => let x0 := s_num_Clamp_float64__0 (fadd r (fdiv (fsub z (s_rows_speed_0 m j l q C E J K z D I r O L M P S T U Q R V W Y)) (s_rows_weight_0 m j l q C E J K z D I r O L M P S T U Q R V W Y))) D I; (bif (Nat.beq j0 0) then x0 else (fsub x0 r))))) then W else (s_rows_pushed_8 m j l q C E J K z D I r O L M P S T U Q R V W Y (fsub (s_num_Clamp_float64__0 (fadd r (fdiv (fsub z (s_rows_speed_0 m j l q C E J K z D I r O L M P S T U Q R V W Y)) x0)) D I) r)))))
def s_rows_One_23 (m j : Int) (l q C E J K z D I r : Nat) (O : Int) (L M P S T U Q R V W Y : Nat) : Nat := let x0 := s_rows_weight_0 m j l q C E J K z D I r O L M P S T U Q R V W Y; (bif (!(ieq (s_rows_asked_0 m j l q C E J K z D I r O L M P S T U Q R V W Y) (0 : Int))) then 0 else (bif ((!(flt 0 x0)) || (!(s_rows_finite_v1_0 (fun j0 => (bif (Nat.beq j0 0) then (s_rows_weight_0 m j l q C E J K z D I r O L M P S T U Q R V W Y) else (fsub z (s_rows_speed_0 m j l q C E J K z D I r O L M P S T U Q R V W Y))))))) then Y else (bif (!(s_rows_finite_v1_0 (fun j0 => let x0 := s_num_Clamp_float64__0 (fadd r (fdiv (fsub z (s_rows_speed_0 m j l q C E J K z D I r O L M P S T U Q R V W Y)) (s_rows_weight_0 m j l q C E J K z D I r O L M P S T U Q R V W Y))) D I; (bif (Nat.beq j0 0) then x0 else (fsub x0 r))))) then Y else (s_rows_pushed_9 m j l q C E J K z D I r O L M P S T U Q R V W Y (fsub (s_num_Clamp_float64__0 (fadd r (fdiv (fsub z (s_rows_speed_0 m j l q C E J K z D I r O L M P S T U Q R V W Y)) x0)) D I) r)))))
def s_rows_One_24 (m j : Int) (l q C E J K z D I r : Nat) (O : Int) (L M P S T U Q R V W Y : Nat) : Int := let x0 := s_rows_asked_0 m j l q C E J K z D I r O L M P S T U Q R V W Y; (bif (!(ieq x0 (0 : Int))) then x0 else (bif ((!(flt 0 (s_rows_weight_0 m j l q C E J K z D I r O L M P S T U Q R V W Y))) || (!(s_rows_finite_v1_0 (fun j0 => (bif (Nat.beq j0 0) then (s_rows_weight_0 m j l q C E J K z D I r O L M P S T U Q R V W Y) else (fsub z (s_rows_speed_0 m j l q C E J K z D I r O L M P S T U Q R V W Y))))))) then (0 : Int) else (bif (!(s_rows_finite_v1_0 (fun j0 => let x0 := s_num_Clamp_float64__0 (fadd r (fdiv (fsub z (s_rows_speed_0 m j l q C E J K z D I r O L M P S T U Q R V W Y)) (s_rows_weight_0 m j l q C E J K z D I r O L M P S T U Q R V W Y))) D I; (bif (Nat.beq j0 0) then x0 else (fsub x0 r))))) then (0 : Int) else (0 : Int))))
theorem e_rows_One (m j : Int) (l q C E J K z D I r : Nat) (O : Int) (L M P S T U Q R V W Y : Nat) : outB (evFnM Try.prog false menv73 [] [] 96 Ann.no Try.f66 [AV.agg [AV.int .i64 m, AV.int .i64 j, AV.float l, AV.float q, AV.float C, AV.float E, AV.float J, AV.float K, AV.float z, AV.float D, AV.float I, AV.float r, AV.int .i64 O, AV.float L], AV.agg [AV.float M, AV.float P, AV.float S, AV.float T, AV.float U], AV.agg [AV.float Q, AV.float R, AV.float V, AV.float W, AV.float Y]] []) = some ((let x0 := !(flt 0 (s_rows_weight_0 m j l q C E J K z D I r O L M P S T U Q R V W Y)); let x1 := mrgB x0 true (allB fun _ => true); let x2 := (allB fun _ => true) && x1; (mrgB (!(ieq (s_rows_asked_0 m j l q C E J K z D I r O L M P S T U Q R V W Y) (0 : Int))) true (mrgB (x0 || (!(s_rows_finite_v1_0 (fun j0 => (bif (Nat.beq j0 0) then (s_rows_weight_0 m j l q C E J K z D I r O L M P S T U Q R V W Y) else (fsub z (s_rows_speed_0 m j l q C E J K z D I r O L M P S T U Q R V W Y))))))) x1 (mrgB (!(s_rows_finite_v1_0 (fun j0 => let x0 := s_num_Clamp_float64__0 (fadd r (fdiv (fsub z (s_rows_speed_0 m j l q C E J K z D I r O L M P S T U Q R V W Y)) (s_rows_weight_0 m j l q C E J K z D I r O L M P S T U Q R V W Y))) D I; (bif (Nat.beq j0 0) then x0 else (fsub x0 r))))) x2 x2)))), AV.tup [AV.agg [AV.int .i64 (s_rows_One_0 m j l q C E J K z D I r O L M P S T U Q R V W Y), AV.int .i64 (s_rows_One_1 m j l q C E J K z D I r O L M P S T U Q R V W Y), AV.float (s_rows_One_2 m j l q C E J K z D I r O L M P S T U Q R V W Y), AV.float (s_rows_One_3 m j l q C E J K z D I r O L M P S T U Q R V W Y), AV.float (s_rows_One_4 m j l q C E J K z D I r O L M P S T U Q R V W Y), AV.float (s_rows_One_5 m j l q C E J K z D I r O L M P S T U Q R V W Y), AV.float (s_rows_One_6 m j l q C E J K z D I r O L M P S T U Q R V W Y), AV.float (s_rows_One_7 m j l q C E J K z D I r O L M P S T U Q R V W Y), AV.float (s_rows_One_8 m j l q C E J K z D I r O L M P S T U Q R V W Y), AV.float (s_rows_One_9 m j l q C E J K z D I r O L M P S T U Q R V W Y), AV.float (s_rows_One_10 m j l q C E J K z D I r O L M P S T U Q R V W Y), AV.float (s_rows_One_11 m j l q C E J K z D I r O L M P S T U Q R V W Y), AV.int .i64 (s_rows_One_12 m j l q C E J K z D I r O L M P S T U Q R V W Y), AV.float (s_rows_One_13 m j l q C E J K z D I r O L M P S T U Q R V W Y)], AV.agg [AV.float (s_rows_One_14 m j l q C E J K z D I r O L M P S T U Q R V W Y), AV.float (s_rows_One_15 m j l q C E J K z D I r O L M P S T U Q R V W Y), AV.float (s_rows_One_16 m j l q C E J K z D I r O L M P S T U Q R V W Y), AV.float (s_rows_One_17 m j l q C E J K z D I r O L M P S T U Q R V W Y), AV.float (s_rows_One_18 m j l q C E J K z D I r O L M P S T U Q R V W Y)], AV.agg [AV.float (s_rows_One_19 m j l q C E J K z D I r O L M P S T U Q R V W Y), AV.float (s_rows_One_20 m j l q C E J K z D I r O L M P S T U Q R V W Y), AV.float (s_rows_One_21 m j l q C E J K z D I r O L M P S T U Q R V W Y), AV.float (s_rows_One_22 m j l q C E J K z D I r O L M P S T U Q R V W Y), AV.float (s_rows_One_23 m j l q C E J K z D I r O L M P S T U Q R V W Y)], AV.int .i64 (s_rows_One_24 m j l q C E J K z D I r O L M P S T U Q R V W Y)]) := by kernel_rfl
def S_rows_One : List AV → Option (Ob × AV)
  | [AV.agg [AV.int .i64 m, AV.int .i64 j, AV.float l, AV.float q, AV.float C, AV.float E, AV.float J, AV.float K, AV.float z, AV.float D, AV.float I, AV.float r, AV.int .i64 O, AV.float L], AV.agg [AV.float M, AV.float P, AV.float S, AV.float T, AV.float U], AV.agg [AV.float Q, AV.float R, AV.float V, AV.float W, AV.float Y]] => some (Ob.tt, AV.tup [AV.agg [AV.int .i64 (s_rows_One_0 m j l q C E J K z D I r O L M P S T U Q R V W Y), AV.int .i64 (s_rows_One_1 m j l q C E J K z D I r O L M P S T U Q R V W Y), AV.float (s_rows_One_2 m j l q C E J K z D I r O L M P S T U Q R V W Y), AV.float (s_rows_One_3 m j l q C E J K z D I r O L M P S T U Q R V W Y), AV.float (s_rows_One_4 m j l q C E J K z D I r O L M P S T U Q R V W Y), AV.float (s_rows_One_5 m j l q C E J K z D I r O L M P S T U Q R V W Y), AV.float (s_rows_One_6 m j l q C E J K z D I r O L M P S T U Q R V W Y), AV.float (s_rows_One_7 m j l q C E J K z D I r O L M P S T U Q R V W Y), AV.float (s_rows_One_8 m j l q C E J K z D I r O L M P S T U Q R V W Y), AV.float (s_rows_One_9 m j l q C E J K z D I r O L M P S T U Q R V W Y), AV.float (s_rows_One_10 m j l q C E J K z D I r O L M P S T U Q R V W Y), AV.float (s_rows_One_11 m j l q C E J K z D I r O L M P S T U Q R V W Y), AV.int .i64 (s_rows_One_12 m j l q C E J K z D I r O L M P S T U Q R V W Y), AV.float (s_rows_One_13 m j l q C E J K z D I r O L M P S T U Q R V W Y)], AV.agg [AV.float (s_rows_One_14 m j l q C E J K z D I r O L M P S T U Q R V W Y), AV.float (s_rows_One_15 m j l q C E J K z D I r O L M P S T U Q R V W Y), AV.float (s_rows_One_16 m j l q C E J K z D I r O L M P S T U Q R V W Y), AV.float (s_rows_One_17 m j l q C E J K z D I r O L M P S T U Q R V W Y), AV.float (s_rows_One_18 m j l q C E J K z D I r O L M P S T U Q R V W Y)], AV.agg [AV.float (s_rows_One_19 m j l q C E J K z D I r O L M P S T U Q R V W Y), AV.float (s_rows_One_20 m j l q C E J K z D I r O L M P S T U Q R V W Y), AV.float (s_rows_One_21 m j l q C E J K z D I r O L M P S T U Q R V W Y), AV.float (s_rows_One_22 m j l q C E J K z D I r O L M P S T U Q R V W Y), AV.float (s_rows_One_23 m j l q C E J K z D I r O L M P S T U Q R V W Y)], AV.int .i64 (s_rows_One_24 m j l q C E J K z D I r O L M P S T U Q R V W Y)])
  | _ => none
theorem ob_rows_One (m j : Int) (l q C E J K z D I r : Nat) (O : Int) (L M P S T U Q R V W Y : Nat) : (let x0 := !(flt 0 (s_rows_weight_0 m j l q C E J K z D I r O L M P S T U Q R V W Y)); let x1 := mrgB x0 true (allB fun _ => true); let x2 := (allB fun _ => true) && x1; (mrgB (!(ieq (s_rows_asked_0 m j l q C E J K z D I r O L M P S T U Q R V W Y) (0 : Int))) true (mrgB (x0 || (!(s_rows_finite_v1_0 (fun j0 => (bif (Nat.beq j0 0) then (s_rows_weight_0 m j l q C E J K z D I r O L M P S T U Q R V W Y) else (fsub z (s_rows_speed_0 m j l q C E J K z D I r O L M P S T U Q R V W Y))))))) x1 (mrgB (!(s_rows_finite_v1_0 (fun j0 => let x0 := s_num_Clamp_float64__0 (fadd r (fdiv (fsub z (s_rows_speed_0 m j l q C E J K z D I r O L M P S T U Q R V W Y)) (s_rows_weight_0 m j l q C E J K z D I r O L M P S T U Q R V W Y))) D I; (bif (Nat.beq j0 0) then x0 else (fsub x0 r))))) x2 x2)))) = true := by (try simp only [allB_true, eqT_self, mrgB_self, Bool.true_and, Bool.and_true]) <;> first | rfl | simp
theorem t_rows_One : SOkM Try.prog false (66, fun args => match S_rows_One args with | some (o, v) => some (o, v, []) | none => none) := SOkM.flat (N := 96) menv73_ok Try.func66 ann_rows_One Try.call66 fun args o v h ho => by
  unfold S_rows_One at h
  split at h
  · rename_i m j l q C E J K z D I r O L M P S T U Q R V W Y
    cases h
    have ho2 := ho
    have this := show outB (evFnM Try.prog false menv73 [] [] 96 Ann.no Try.f66 [AV.agg [AV.int .i64 m, AV.int .i64 j, AV.float l, AV.float q, AV.float C, AV.float E, AV.float J, AV.float K, AV.float z, AV.float D, AV.float I, AV.float r, AV.int .i64 O, AV.float L], AV.agg [AV.float M, AV.float P, AV.float S, AV.float T, AV.float U], AV.agg [AV.float Q, AV.float R, AV.float V, AV.float W, AV.float Y]] []) = _ from e_rows_One m j l q C E J K z D I r O L M P S T U Q R V W Y
    rw [(ob_rows_One m j l q C E J K z D I r O L M P S T U Q R V W Y)] at this
    exact ⟨this, rfl⟩
  · cases h
def c_rows_One : SFM := fun args => match S_rows_One args with | some (o, v) => some (o, v, []) | none => none
theorem c_rows_One_ok : SOkM Try.prog false (66, c_rows_One) := t_rows_One
def mss74 : List (FuncId × SFM) := (66, c_rows_One) :: mss73
def menv74 : EnvM := mkEnvM mxs mss74 mws1
theorem mss74_ok : All (SOkM Try.prog false) mss74 := All.cons c_rows_One_ok mss73_ok
theorem menv74_ok : menv74.Ok Try.prog false := mkEnvM_ok mxs_ok mss74_ok mws1_ok
end Go.Proofs.Ytofpjfohijljgaa
end
