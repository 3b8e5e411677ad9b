/- The contracts of the functions that these laws reach, loops too, printed by a program of this work: each says what the Go function gives, up to which NaN. -/
import Derived.Test.YtofpjfohijljgaaLFnsPA
set_option linter.unusedVariables false
set_option linter.unusedSimpArgs false
set_option maxRecDepth 100000
set_option maxHeartbeats 4000000
noncomputable section
namespace Go.Proofs.Ytofpjfohijljgaa
open Go.Lst
open Go.Sim (fadd fsub fmul fdiv fneg feq flt fle fsqrt cn nanb fabs fcps fsame feq_self cps_cn fabs_cn)
-- tumble/solve.Apart
-- a loop of tumble/solve.Apart
structure V_solve_Apart_L0 where
  v0 : Int
def tpl_solve_Apart_L0 : List AV := [AV.top, AV.top, AV.top, AV.top, AV.top, AV.top, AV.top, AV.top, AV.top, AV.top, AV.top, AV.nul, AV.nul, AV.nul, AV.top, AV.top, AV.top, AV.top, AV.top, AV.top, AV.top, AV.top, AV.top, AV.top, AV.top, AV.top, AV.top, AV.top, AV.top, AV.top, AV.top, AV.top, AV.top, AV.top, AV.top, AV.nul, AV.nul, AV.top, AV.top, AV.top, AV.top, AV.top, AV.top, AV.top, AV.top, AV.top, AV.top, AV.top, AV.top, AV.top, AV.top]
def cts_solve_Apart_L0 : List CT := [CT.keep, CT.keep]
def phs_solve_Apart_L0 : List Src := []
def T_solve_Apart_L0 (l p q u : Nat) (F : Int) (I : Nat) (J : Nat → Bool) (M : Nat) (L : Nat → Bool) (x : V_solve_Apart_L0) (F0 F1 : Nat → List AV) : List AV × Heap := ([AV.top, AV.top, AV.top, AV.top, AV.top, AV.top, AV.top, AV.top, AV.top, AV.top, AV.top, AV.lst 0 0 1 l p, AV.lst 1 0 1 q u, AV.bool true, AV.top, AV.top, AV.top, AV.top, AV.top, AV.top, AV.top, AV.top, AV.top, AV.top, AV.top, AV.top, AV.top, AV.top, AV.top, AV.top, AV.top, AV.top, AV.top, AV.top, AV.top, AV.int .i64 F, AV.int .i64 x.v0, AV.top, AV.top, AV.top, AV.top, AV.top, AV.top, AV.top, AV.top, AV.top, AV.top, AV.top, AV.top, AV.top, AV.top], [⟨.sym I 1 F0, 4, 0⟩, ⟨.sym M 1 F1, 4, 0⟩])
def sh_solve_Apart_L0 (l p q u : Nat) (F : Int) (I : Nat) (J : Nat → Bool) (M : Nat) (L : Nat → Bool) (x : V_solve_Apart_L0) : List AV × Heap := T_solve_Apart_L0 l p q u F I J M L x (fun j0 => [AV.bool (J j0)]) (fun j0 => [AV.bool (L j0)])
def step_solve_Apart_L0 (l q : Nat) (F : Int) (I : Nat) (J : Nat → Bool) (M : Nat) (L : Nat → Bool) (x : V_solve_Apart_L0) : V_solve_Apart_L0 := V_solve_Apart_L0.mk (IntKind.wrap .i64 (x.v0 + (1 : Int)))
def go_solve_Apart_L0 (l q : Nat) (F : Int) (I : Nat) (J : Nat → Bool) (M : Nat) (L : Nat → Bool) (x : V_solve_Apart_L0) : Bool := (bif ((!(ilt x.v0 F)) || ((J (Int.toNat x.v0)) && (L (Int.toNat x.v0)))) then false else true)
def ok_solve_Apart_L0 (l q : Nat) (F : Int) (I : Nat) (J : Nat → Bool) (M : Nat) (L : Nat → Bool) (x : V_solve_Apart_L0) : Bool := let x0 := (Nat.blt (Int.toNat x.v0) I) && ((ile (0 : Int) x.v0) && (Nat.blt (Int.toNat x.v0) l)); let x1 := J (Int.toNat x.v0); let x2 := mrgB x1 ((Nat.blt (Int.toNat x.v0) M) && (((ile (0 : Int) x.v0) && (Nat.blt (Int.toNat x.v0) q)) && x0)) x0; let x3 := !(ilt x.v0 F); (mrgB (x3 || (x1 && (L (Int.toNat x.v0)))) (mrgB x3 true x2) x2)
def L_solve_Apart_L0 (l q : Nat) (F : Int) (I : Nat) (J : Nat → Bool) (M : Nat) (L : Nat → Bool) (x : V_solve_Apart_L0) : V_solve_Apart_L0 := lastL (ok_solve_Apart_L0 l q F I J M L) (go_solve_Apart_L0 l q F I J M L) (step_solve_Apart_L0 l q F I J M L) x
def E_solve_Apart_L0 (l q : Nat) (F : Int) (I : Nat) (J : Nat → Bool) (M : Nat) (L : Nat → Bool) (x : V_solve_Apart_L0) : Bool := endsL (ok_solve_Apart_L0 l q F I J M L) (go_solve_Apart_L0 l q F I J M L) (step_solve_Apart_L0 l q F I J M L) x
theorem all_solve_Apart_L0 (l p q u : Nat) (F : Int) (I : Nat) (J : Nat → Bool) (M : Nat) (L : Nat → Bool) (x : V_solve_Apart_L0) : rnd Try.prog false menv61 [19] [] 96 Ann.no (subC [1, 0, 1, 1, 1, 1, 0, 1, 0, 0] (codeOf Try.f21)) 0 [⟨some 0, 0, 0, []⟩, ⟨some 1, 0, 0, []⟩] tpl_solve_Apart_L0 cts_solve_Apart_L0 [true, true, true, true, true, true, true, true, true, true, true, false, false, true, true, true, true, true, true, true, true, true, true, true, true, true, true, true, true, true, true, true, true, true, true, false, true, true, true, true, true, true, true, true, true, true, true, true, true, true, true] [false, false] (sh_solve_Apart_L0 l p q u F I J M L x) = (true, true, go_solve_Apart_L0 l q F I J M L x, ok_solve_Apart_L0 l q F I J M L x, true, sh_solve_Apart_L0 l p q u F I J M L (step_solve_Apart_L0 l q F I J M L x), true) := by kernel_rfl
def fam_solve_Apart_L0 (l p q u : Nat) (F : Int) (I : Nat) (J : Nat → Bool) (M : Nat) (L : Nat → Bool) : Fam Try.prog false menv61 [19] [] 96 0 Ann.no (subC [1, 0, 1, 1, 1, 1, 0, 1, 0, 0] (codeOf Try.f21)) V_solve_Apart_L0 where
  sh := sh_solve_Apart_L0 l p q u F I J M L
  ok := ok_solve_Apart_L0 l q F I J M L
  go := go_solve_Apart_L0 l q F I J M L
  step := step_solve_Apart_L0 l q F I J M L
  chg := [true, true, true, true, true, true, true, true, true, true, true, false, false, true, true, true, true, true, true, true, true, true, true, true, true, true, true, true, true, true, true, true, true, true, true, false, true, true, true, true, true, true, true, true, true, true, true, true, true, true, true]
  chgH := [false, false]
  tpl := tpl_solve_Apart_L0
  cts := cts_solve_Apart_L0
  keep := 0
  srcs := [⟨some 0, 0, 0, []⟩, ⟨some 1, 0, 0, []⟩]
  ann := (annNo (subC [1, 0, 1, 1, 1, 1, 0, 1, 0, 0] (codeOf Try.f21)))
  le := by kernel_rfl
  kept := by kernel_rfl
  keptB := by kernel_rfl
  all := all_solve_Apart_L0 l p q u F I J M L
  len := fun x => by kernel_rfl
  head := fun x y => by kernel_rfl
  con := fun x y => by kernel_rfl
  conH := fun x y => by kernel_rfl
def F_solve_Apart_L0 : St → Option Ch := fun s => cond (Nat.beq s.tm.length 51 && Nat.beq s.H.length 2) (tkTops 11 (alL tpl_solve_Apart_L0 s.tm) fun t0 => tkCons t0 fun Y t1 => tkLst 0 0 1 Y fun s0 s1 => tkCons t1 fun aA t2 => tkLst 1 0 1 aA fun s2 s3 => tkCons t2 fun am t3 => tkBL true am <| tkTops 21 t3 fun t4 => tkCons t4 fun aF t5 => tkI .i64 aF fun s5 => tkCons t5 fun aJ t6 => tkI .i64 aJ fun s6 => tkTops 14 t6 fun t7 => tkNil t7 <| tkCons (alH cts_solve_Apart_L0 (s.H ++ List.map phan phs_solve_Apart_L0)) fun b8 t8 => tkSym 4 0 1 b8 fun s7 f0 => tkCons t8 fun b9 t9 => tkSym 4 0 1 b9 fun s9 f1 => tkNil t9 <| Fam.out (fam_solve_Apart_L0 s0 s1 s2 s3 s5 s7 (fun i => blO (atL (f0 i) 0)) s9 (fun i => blO (atL (f1 i) 0))) s ((allB fun i => isNrm [Ck.b] (f0 i)) && (allB fun i => isNrm [Ck.b] (f1 i))) (V_solve_Apart_L0.mk s6)) none
theorem F_solve_Apart_L0_ok : ∀ s ch, F_solve_Apart_L0 s = some ch → AllI s ch ∧ LoopSpec Try.prog false 0 (subC [1, 0, 1, 1, 1, 1, 0, 1, 0, 0] (codeOf Try.f21)) s (sel ch) := by
  intro s ch h
  unfold F_solve_Apart_L0 at h
  obtain ⟨hl, h0⟩ := cond_some h rfl
  clear h
  obtain ⟨hl, hb⟩ := and_beq2 hl
  obtain ⟨t0, e0, h1⟩ := tkTops_some h0
  obtain ⟨Y, t1, rfl, h2⟩ := tkCons_some h1
  obtain ⟨s0, s1, rfl, h3⟩ := tkLst_some h2
  obtain ⟨aA, t2, rfl, h4⟩ := tkCons_some h3
  obtain ⟨s2, s3, rfl, h5⟩ := tkLst_some h4
  obtain ⟨am, t3, rfl, h6⟩ := tkCons_some h5
  obtain ⟨rfl, h7⟩ := tkBL_some h6
  obtain ⟨t4, rfl, h8⟩ := tkTops_some h7
  obtain ⟨aF, t5, rfl, h9⟩ := tkCons_some h8
  obtain ⟨s5, rfl, h10⟩ := tkI_some h9
  obtain ⟨aJ, t6, rfl, h11⟩ := tkCons_some h10
  obtain ⟨s6, rfl, h12⟩ := tkI_some h11
  obtain ⟨t7, rfl, h13⟩ := tkTops_some h12
  obtain ⟨rfl, h14⟩ := tkNil_some h13
  obtain ⟨b8, t8, eH, h15⟩ := tkCons_some h14
  obtain ⟨s7, f0, rfl, h16⟩ := tkSym_some h15
  obtain ⟨b9, t9, rfl, h17⟩ := tkCons_some h16
  obtain ⟨s9, f1, rfl, h18⟩ := tkSym_some h17
  obtain ⟨rfl, h19⟩ := tkNil_some h18
  refine Fam.spec menv61_ok (fam_solve_Apart_L0 s0 s1 s2 s3 s5 s7 (fun i => blO (atL (f0 i) 0)) s9 (fun i => blO (atL (f1 i) 0))) (phs := phs_solve_Apart_L0) (hl.trans (by kernel_rfl)) (hb.trans (by kernel_rfl)) ?_ ?_ h19
  · rw [← hdr_alH cts_solve_Apart_L0 (s.H ++ List.map phan phs_solve_Apart_L0), eH]; kernel_rfl
  · intro hq
    simp only [Bool.and_eq_true] at hq
    obtain ⟨hq0, hq1⟩ := hq
    have n0 := nrm_fun hq0
    have n1 := nrm_fun hq1
    show sh_solve_Apart_L0 s0 s1 s2 s3 s5 s7 (fun i => blO (atL (f0 i) 0)) s9 (fun i => blO (atL (f1 i) 0)) (V_solve_Apart_L0.mk s6) = (alL tpl_solve_Apart_L0 s.tm, alH cts_solve_Apart_L0 (s.H ++ List.map phan phs_solve_Apart_L0))
    rw [e0, eH]
    refine Eq.trans (show sh_solve_Apart_L0 s0 s1 s2 s3 s5 s7 (fun i => blO (atL (f0 i) 0)) s9 (fun i => blO (atL (f1 i) 0)) (V_solve_Apart_L0.mk s6) = T_solve_Apart_L0 s0 s1 s2 s3 s5 s7 (fun i => blO (atL (f0 i) 0)) s9 (fun i => blO (atL (f1 i) 0)) (V_solve_Apart_L0.mk s6) (fun i => mkN [Ck.b] (f0 i) 0) (fun i => mkN [Ck.b] (f1 i) 0) by kernel_rfl) ?_
    rw [n0, n1]
    kernel_rfl
theorem ann_solve_Apart : FnOk Try.prog false 0 Try.f21 (Ann.two Ann.no (Ann.one (Ann.two Ann.no (Ann.two Ann.no (Ann.two Ann.no (Ann.two Ann.no (Ann.two (Ann.two Ann.no (Ann.one (Ann.loop F_solve_Apart_L0))) Ann.no))))))) := (fnOk_of (c := codeOf Try.f21) (by kernel_rfl) (annSeq (a := (subC [0] (codeOf Try.f21))) (b := (subC [1] (codeOf Try.f21))) (by kernel_rfl) (annNo (subC [0] (codeOf Try.f21))) (annScope (a := (subC [1, 0] (codeOf Try.f21))) (by kernel_rfl) (annSeq (a := (subC [1, 0, 0] (codeOf Try.f21))) (b := (subC [1, 0, 1] (codeOf Try.f21))) (by kernel_rfl) (annNo (subC [1, 0, 0] (codeOf Try.f21))) (annSeq (a := (subC [1, 0, 1, 0] (codeOf Try.f21))) (b := (subC [1, 0, 1, 1] (codeOf Try.f21))) (by kernel_rfl) (annNo (subC [1, 0, 1, 0] (codeOf Try.f21))) (annSeq (a := (subC [1, 0, 1, 1, 0] (codeOf Try.f21))) (b := (subC [1, 0, 1, 1, 1] (codeOf Try.f21))) (by kernel_rfl) (annNo (subC [1, 0, 1, 1, 0] (codeOf Try.f21))) (annSeq (a := (subC [1, 0, 1, 1, 1, 0] (codeOf Try.f21))) (b := (subC [1, 0, 1, 1, 1, 1] (codeOf Try.f21))) (by kernel_rfl) (annNo (subC [1, 0, 1, 1, 1, 0] (codeOf Try.f21))) (annSeq (a := (subC [1, 0, 1, 1, 1, 1, 0] (codeOf Try.f21))) (b := (subC [1, 0, 1, 1, 1, 1, 1] (codeOf Try.f21))) (by kernel_rfl) (annSeq (a := (subC [1, 0, 1, 1, 1, 1, 0, 0] (codeOf Try.f21))) (b := (subC [1, 0, 1, 1, 1, 1, 0, 1] (codeOf Try.f21))) (by kernel_rfl) (annNo (subC [1, 0, 1, 1, 1, 1, 0, 0] (codeOf Try.f21))) (annBlock (a := (subC [1, 0, 1, 1, 1, 1, 0, 1, 0] (codeOf Try.f21))) (i := 2) (by kernel_rfl) (annLoop (a := (subC [1, 0, 1, 1, 1, 1, 0, 1, 0, 0] (codeOf Try.f21))) (by kernel_rfl) F_solve_Apart_L0_ok))) (annNo (subC [1, 0, 1, 1, 1, 1, 1] (codeOf Try.f21)))))))))))
def s_solve_Apart_0 (j : Nat) (r z : Nat → Int) (C D E O P Q R S T U : Nat → Nat) (V : Nat → Int) (W : Nat → Nat) (m : Nat) (K ah : Nat → Int) (ai aj ak an ao ap aq ar au av : Nat → Nat) (aw : Nat → Int) (ax : Nat → Nat) (aC : Nat) (aK aL aM aN aO : Nat → Nat) : Bool := let x0 := !(ieq (s_solve_asked_0 j r z C D E O P Q R S T U V W aC aK aL aM aN aO) (0 : Int)); (bif (x0 || (!(ieq (s_solve_asked_0 m K ah ai aj ak an ao ap aq ar au av aw ax aC aK aL aM aN aO) (0 : Int)))) then (x0 && false) else ((!(ilt ((L_solve_Apart_L0 (s_solve_held_0 j r z C D E O P Q R S T U V W aC aK aL aM aN aO) (s_solve_held_0 m K ah ai aj ak an ao ap aq ar au av aw ax aC aK aL aM aN aO) (Int.ofNat aC) (s_solve_held_2 j r z C D E O P Q R S T U V W aC aK aL aM aN aO) (s_solve_held_3 j r z C D E O P Q R S T U V W aC aK aL aM aN aO) (s_solve_held_2 m K ah ai aj ak an ao ap aq ar au av aw ax aC aK aL aM aN aO) (s_solve_held_3 m K ah ai aj ak an ao ap aq ar au av aw ax aC aK aL aM aN aO) (V_solve_Apart_L0.mk (0 : Int))).v0) (Int.ofNat aC))) && true))
def s_solve_Apart_1 (j : Nat) (r z : Nat → Int) (C D E O P Q R S T U : Nat → Nat) (V : Nat → Int) (W : Nat → Nat) (m : Nat) (K ah : Nat → Int) (ai aj ak an ao ap aq ar au av : Nat → Nat) (aw : Nat → Int) (ax : Nat → Nat) (aC : Nat) (aK aL aM aN aO : Nat → Nat) : Int := let x0 := s_solve_asked_0 m K ah ai aj ak an ao ap aq ar au av aw ax aC aK aL aM aN aO; let x1 := s_solve_asked_0 j r z C D E O P Q R S T U V W aC aK aL aM aN aO; let x2 := !(ieq x1 (0 : Int)); (bif (x2 || (!(ieq x0 (0 : Int)))) then (bif x2 then x1 else x0) else (0 : Int))
def q_solve_Apart (j : Nat) (r z : Nat → Int) (C D E O P Q R S T U : Nat → Nat) (V : Nat → Int) (W : Nat → Nat) (m : Nat) (K ah : Nat → Int) (ai aj ak an ao ap aq ar au av : Nat → Nat) (aw : Nat → Int) (ax : Nat → Nat) (aC : Nat) (aK aL aM aN aO : Nat → Nat) : Bool := (let x0 := ((allB fun _ => true) && (allB fun _ => true)) && (o_solve_asked j r z C D E O P Q R S T U V W aC aK aL aM aN aO); let x1 := (((allB fun _ => true) && (allB fun _ => true)) && (o_solve_asked m K ah ai aj ak an ao ap aq ar au av aw ax aC aK aL aM aN aO)) && x0; let x2 := !(ieq (s_solve_asked_0 j r z C D E O P Q R S T U V W aC aK aL aM aN aO) (0 : Int)); (mrgB (x2 || (!(ieq (s_solve_asked_0 m K ah ai aj ak an ao ap aq ar au av aw ax aC aK aL aM aN aO) (0 : Int)))) (mrgB x2 x0 x1) (((((allB fun _ => true) && (allB fun _ => true)) && (o_solve_held m K ah ai aj ak an ao ap aq ar au av aw ax aC aK aL aM aN aO)) && ((((allB fun _ => true) && (allB fun _ => true)) && (o_solve_held j r z C D E O P Q R S T U V W aC aK aL aM aN aO)) && x1)) && (((allB fun _ => true) && (allB fun _ => true)) && (E_solve_Apart_L0 (s_solve_held_0 j r z C D E O P Q R S T U V W aC aK aL aM aN aO) (s_solve_held_0 m K ah ai aj ak an ao ap aq ar au av aw ax aC aK aL aM aN aO) (Int.ofNat aC) (s_solve_held_2 j r z C D E O P Q R S T U V W aC aK aL aM aN aO) (s_solve_held_3 j r z C D E O P Q R S T U V W aC aK aL aM aN aO) (s_solve_held_2 m K ah ai aj ak an ao ap aq ar au av aw ax aC aK aL aM aN aO) (s_solve_held_3 m K ah ai aj ak an ao ap aq ar au av aw ax aC aK aL aM aN aO) (V_solve_Apart_L0.mk (0 : Int)))))))
theorem e_solve_Apart (j : Nat) (r z : Nat → Int) (C D E O P Q R S T U : Nat → Nat) (V : Nat → Int) (W : Nat → Nat) (m : Nat) (K ah : Nat → Int) (ai aj ak an ao ap aq ar au av : Nat → Nat) (aw : Nat → Int) (ax : Nat → Nat) (aC : Nat) (aK aL aM aN aO : Nat → Nat) : outB (evFnM Try.prog false menv61 [19] [] 96 (Ann.two Ann.no (Ann.one (Ann.two Ann.no (Ann.two Ann.no (Ann.two Ann.no (Ann.two Ann.no (Ann.two (Ann.two Ann.no (Ann.one (Ann.loop F_solve_Apart_L0))) Ann.no))))))) Try.f21 [AV.view j 14 (fun i0 => [AV.int .i64 (r i0), AV.int .i64 (z i0), AV.float (C i0), AV.float (D i0), AV.float (E i0), AV.float (O i0), AV.float (P i0), AV.float (Q i0), AV.float (R i0), AV.float (S i0), AV.float (T i0), AV.float (U i0), AV.int .i64 (V i0), AV.float (W i0)]), AV.view m 14 (fun i0 => [AV.int .i64 (K i0), AV.int .i64 (ah i0), AV.float (ai i0), AV.float (aj i0), AV.float (ak i0), AV.float (an i0), AV.float (ao i0), AV.float (ap i0), AV.float (aq i0), AV.float (ar i0), AV.float (au i0), AV.float (av i0), AV.int .i64 (aw i0), AV.float (ax i0)]), AV.view aC 5 (fun i0 => [AV.float (aK i0), AV.float (aL i0), AV.float (aM i0), AV.float (aN i0), AV.float (aO i0)])] []) = some (q_solve_Apart j r z C D E O P Q R S T U V W m K ah ai aj ak an ao ap aq ar au av aw ax aC aK aL aM aN aO, AV.tup [AV.bool (s_solve_Apart_0 j r z C D E O P Q R S T U V W m K ah ai aj ak an ao ap aq ar au av aw ax aC aK aL aM aN aO), AV.int .i64 (s_solve_Apart_1 j r z C D E O P Q R S T U V W m K ah ai aj ak an ao ap aq ar au av aw ax aC aK aL aM aN aO)]) := by kernel_rfl
def o_solve_Apart (j : Nat) (r z : Nat → Int) (C D E O P Q R S T U : Nat → Nat) (V : Nat → Int) (W : Nat → Nat) (m : Nat) (K ah : Nat → Int) (ai aj ak an ao ap aq ar au av : Nat → Nat) (aw : Nat → Int) (ax : Nat → Nat) (aC : Nat) (aK aL aM aN aO : Nat → Nat) : Bool := let x0 := o_solve_asked j r z C D E O P Q R S T U V W aC aK aL aM aN aO; let x1 := (o_solve_asked m K ah ai aj ak an ao ap aq ar au av aw ax aC aK aL aM aN aO) && x0; let x2 := !(ieq (s_solve_asked_0 j r z C D E O P Q R S T U V W aC aK aL aM aN aO) (0 : Int)); (mrgB (x2 || (!(ieq (s_solve_asked_0 m K ah ai aj ak an ao ap aq ar au av aw ax aC aK aL aM aN aO) (0 : Int)))) (mrgB x2 x0 x1) (((o_solve_held m K ah ai aj ak an ao ap aq ar au av aw ax aC aK aL aM aN aO) && ((o_solve_held j r z C D E O P Q R S T U V W aC aK aL aM aN aO) && x1)) && (E_solve_Apart_L0 (s_solve_held_0 j r z C D E O P Q R S T U V W aC aK aL aM aN aO) (s_solve_held_0 m K ah ai aj ak an ao ap aq ar au av aw ax aC aK aL aM aN aO) (Int.ofNat aC) (s_solve_held_2 j r z C D E O P Q R S T U V W aC aK aL aM aN aO) (s_solve_held_3 j r z C D E O P Q R S T U V W aC aK aL aM aN aO) (s_solve_held_2 m K ah ai aj ak an ao ap aq ar au av aw ax aC aK aL aM aN aO) (s_solve_held_3 m K ah ai aj ak an ao ap aq ar au av aw ax aC aK aL aM aN aO) (V_solve_Apart_L0.mk (0 : Int)))))
def S_solve_Apart : List AV → Option (Ob × AV)
  | [AV.view j 14 e, AV.view m 14 k, AV.view aC 5 bg] => some (Ob.both (Ob.bit (((allB fun i => isNrm [Ck.i .i64, Ck.i .i64, Ck.f, Ck.f, Ck.f, Ck.f, Ck.f, Ck.f, Ck.f, Ck.f, Ck.f, Ck.f, Ck.i .i64, Ck.f] (e i)) && (allB fun i => isNrm [Ck.i .i64, Ck.i .i64, Ck.f, Ck.f, Ck.f, Ck.f, Ck.f, Ck.f, Ck.f, Ck.f, Ck.f, Ck.f, Ck.i .i64, Ck.f] (k i))) && (allB fun i => isNrm [Ck.f, Ck.f, Ck.f, Ck.f, Ck.f] (bg i)))) (Ob.bit (o_solve_Apart j (iL e 0) (iL e 1) (fL e 2) (fL e 3) (fL e 4) (fL e 5) (fL e 6) (fL e 7) (fL e 8) (fL e 9) (fL e 10) (fL e 11) (iL e 12) (fL e 13) m (iL k 0) (iL k 1) (fL k 2) (fL k 3) (fL k 4) (fL k 5) (fL k 6) (fL k 7) (fL k 8) (fL k 9) (fL k 10) (fL k 11) (iL k 12) (fL k 13) aC (fL bg 0) (fL bg 1) (fL bg 2) (fL bg 3) (fL bg 4))), AV.tup [AV.bool (s_solve_Apart_0 j (iL e 0) (iL e 1) (fL e 2) (fL e 3) (fL e 4) (fL e 5) (fL e 6) (fL e 7) (fL e 8) (fL e 9) (fL e 10) (fL e 11) (iL e 12) (fL e 13) m (iL k 0) (iL k 1) (fL k 2) (fL k 3) (fL k 4) (fL k 5) (fL k 6) (fL k 7) (fL k 8) (fL k 9) (fL k 10) (fL k 11) (iL k 12) (fL k 13) aC (fL bg 0) (fL bg 1) (fL bg 2) (fL bg 3) (fL bg 4)), AV.int .i64 (s_solve_Apart_1 j (iL e 0) (iL e 1) (fL e 2) (fL e 3) (fL e 4) (fL e 5) (fL e 6) (fL e 7) (fL e 8) (fL e 9) (fL e 10) (fL e 11) (iL e 12) (fL e 13) m (iL k 0) (iL k 1) (fL k 2) (fL k 3) (fL k 4) (fL k 5) (fL k 6) (fL k 7) (fL k 8) (fL k 9) (fL k 10) (fL k 11) (iL k 12) (fL k 13) aC (fL bg 0) (fL bg 1) (fL bg 2) (fL bg 3) (fL bg 4))])
  | _ => none
theorem ob_solve_Apart (j : Nat) (r z : Nat → Int) (C D E O P Q R S T U : Nat → Nat) (V : Nat → Int) (W : Nat → Nat) (m : Nat) (K ah : Nat → Int) (ai aj ak an ao ap aq ar au av : Nat → Nat) (aw : Nat → Int) (ax : Nat → Nat) (aC : Nat) (aK aL aM aN aO : Nat → Nat) (ho : o_solve_Apart j r z C D E O P Q R S T U V W m K ah ai aj ak an ao ap aq ar au av aw ax aC aK aL aM aN aO = true) : q_solve_Apart j r z C D E O P Q R S T U V W m K ah ai aj ak an ao ap aq ar au av aw ax aC aK aL aM aN aO = true := by
  unfold q_solve_Apart
  unfold o_solve_Apart at ho
  simp only [allB_true, eqT_self, mrgB_self, Bool.true_and, Bool.and_true] at ho ⊢
  exact ho
theorem t_solve_Apart : SOkM Try.prog false (21, fun args => match S_solve_Apart args with | some (o, v) => some (o, v, []) | none => none) := SOkM.flat (N := 96) menv61_ok Try.func21 ann_solve_Apart Try.call21 fun args o v h ho => by
  unfold S_solve_Apart at h
  split at h
  · rename_i j e m k aC bg
    cases h
    rw [Ob.both_ok, Bool.and_eq_true] at ho
    obtain ⟨hn, ho2⟩ := ho
    simp only [Ob.ok, Bool.and_eq_true] at hn
    obtain ⟨⟨n0, n1⟩, n2⟩ := hn
    replace n0 := nrm_fun n0
    replace n1 := nrm_fun n1
    replace n2 := nrm_fun n2
    have this := show outB (evFnM Try.prog false menv61 [19] [] 96 (Ann.two Ann.no (Ann.one (Ann.two Ann.no (Ann.two Ann.no (Ann.two Ann.no (Ann.two Ann.no (Ann.two (Ann.two Ann.no (Ann.one (Ann.loop F_solve_Apart_L0))) Ann.no))))))) Try.f21 [AV.view j 14 (fun i => mkN [Ck.i .i64, Ck.i .i64, Ck.f, Ck.f, Ck.f, Ck.f, Ck.f, Ck.f, Ck.f, Ck.f, Ck.f, Ck.f, Ck.i .i64, Ck.f] (e i) 0), AV.view m 14 (fun i => mkN [Ck.i .i64, Ck.i .i64, Ck.f, Ck.f, Ck.f, Ck.f, Ck.f, Ck.f, Ck.f, Ck.f, Ck.f, Ck.f, Ck.i .i64, Ck.f] (k i) 0), AV.view aC 5 (fun i => mkN [Ck.f, Ck.f, Ck.f, Ck.f, Ck.f] (bg i) 0)] []) = _ from e_solve_Apart j (iL e 0) (iL e 1) (fL e 2) (fL e 3) (fL e 4) (fL e 5) (fL e 6) (fL e 7) (fL e 8) (fL e 9) (fL e 10) (fL e 11) (iL e 12) (fL e 13) m (iL k 0) (iL k 1) (fL k 2) (fL k 3) (fL k 4) (fL k 5) (fL k 6) (fL k 7) (fL k 8) (fL k 9) (fL k 10) (fL k 11) (iL k 12) (fL k 13) aC (fL bg 0) (fL bg 1) (fL bg 2) (fL bg 3) (fL bg 4)
    rw [(ob_solve_Apart j (iL e 0) (iL e 1) (fL e 2) (fL e 3) (fL e 4) (fL e 5) (fL e 6) (fL e 7) (fL e 8) (fL e 9) (fL e 10) (fL e 11) (iL e 12) (fL e 13) m (iL k 0) (iL k 1) (fL k 2) (fL k 3) (fL k 4) (fL k 5) (fL k 6) (fL k 7) (fL k 8) (fL k 9) (fL k 10) (fL k 11) (iL k 12) (fL k 13) aC (fL bg 0) (fL bg 1) (fL bg 2) (fL bg 3) (fL bg 4) ho2)] at this
    rw [n0, n1, n2] at this
    exact ⟨this, rfl⟩
  · cases h
def c_solve_Apart : SFM := fun args => match S_solve_Apart args with | some (o, v) => some (o, v, []) | none => none
theorem c_solve_Apart_ok : SOkM Try.prog false (21, c_solve_Apart) := t_solve_Apart
def mss62 : List (FuncId × SFM) := (21, c_solve_Apart) :: mss61
def menv62 : EnvM := mkEnvM mxs mss62 mws1
theorem mss62_ok : All (SOkM Try.prog false) mss62 := All.cons c_solve_Apart_ok mss61_ok
theorem menv62_ok : menv62.Ok Try.prog false := mkEnvM_ok mxs_ok mss62_ok mws1_ok
-- tumble/tumbleref02.End
theorem ann_ref02_End : FnOk Try.prog false 0 Try.f73 Ann.no := (fnNo _)
def s_ref02_End_0 (af : Nat) : Bool := (feq (fsub af af) 0)
theorem e_ref02_End (af : Nat) : outB (evFnM Try.prog false menv62 [] [] 96 Ann.no Try.f73 [AV.float af] []) = some (true, AV.bool (s_ref02_End_0 af)) := by kernel_rfl
def S_ref02_End : List AV → Option (Ob × AV)
  | [AV.float af] => some (Ob.tt, AV.bool (s_ref02_End_0 af))
  | _ => none
theorem t_ref02_End : SOkM Try.prog false (73, fun args => match S_ref02_End args with | some (o, v) => some (o, v, []) | none => none) := SOkM.flat (N := 96) menv62_ok Try.func73 ann_ref02_End Try.call73 fun args o v h ho => by
  unfold S_ref02_End at h
  split at h
  · rename_i af
    cases h
    have ho2 := ho
    have this := show outB (evFnM Try.prog false menv62 [] [] 96 Ann.no Try.f73 [AV.float af] []) = _ from e_ref02_End af
    exact ⟨this, rfl⟩
  · cases h
def c_ref02_End : SFM := fun args => match S_ref02_End args with | some (o, v) => some (o, v, []) | none => none
theorem c_ref02_End_ok : SOkM Try.prog false (73, c_ref02_End) := t_ref02_End
def mss63 : List (FuncId × SFM) := (73, c_ref02_End) :: mss62
def menv63 : EnvM := mkEnvM mxs mss63 mws1
theorem mss63_ok : All (SOkM Try.prog false) mss63 := All.cons c_ref02_End_ok mss62_ok
theorem menv63_ok : menv63.Ok Try.prog false := mkEnvM_ok mxs_ok mss63_ok mws1_ok
-- tumble/tumbleref02.Finite
theorem ann_ref02_Finite : FnOk Try.prog false 0 Try.f100 Ann.no := (fnNo _)
def s_ref02_Finite_0 (af Y : Nat) : Bool := ((s_ref02_End_0 af) && (s_ref02_End_0 Y))
theorem e_ref02_Finite (af Y : Nat) : outB (evFnM Try.prog false menv63 [] [] 96 Ann.no Try.f100 [AV.agg [AV.float af, AV.float Y]] []) = some (true, AV.bool (s_ref02_Finite_0 af Y)) := by kernel_rfl
def S_ref02_Finite : List AV → Option (Ob × AV)
  | [AV.agg [AV.float af, AV.float Y]] => some (Ob.tt, AV.bool (s_ref02_Finite_0 af Y))
  | _ => none
theorem t_ref02_Finite : SOkM Try.prog false (100, fun args => match S_ref02_Finite args with | some (o, v) => some (o, v, []) | none => none) := SOkM.flat (N := 96) menv63_ok Try.func100 ann_ref02_Finite Try.call100 fun args o v h ho => by
  unfold S_ref02_Finite at h
  split at h
  · rename_i af Y
    cases h
    have ho2 := ho
    have this := show outB (evFnM Try.prog false menv63 [] [] 96 Ann.no Try.f100 [AV.agg [AV.float af, AV.float Y]] []) = _ from e_ref02_Finite af Y
    exact ⟨this, rfl⟩
  · cases h
def c_ref02_Finite : SFM := fun args => match S_ref02_Finite args with | some (o, v) => some (o, v, []) | none => none
theorem c_ref02_Finite_ok : SOkM Try.prog false (100, c_ref02_Finite) := t_ref02_Finite
def mss64 : List (FuncId × SFM) := (100, c_ref02_Finite) :: mss63
def menv64 : EnvM := mkEnvM mxs mss64 mws1
theorem mss64_ok : All (SOkM Try.prog false) mss64 := All.cons c_ref02_Finite_ok mss63_ok
theorem menv64_ok : menv64.Ok Try.prog false := mkEnvM_ok mxs_ok mss64_ok mws1_ok
-- tumble/tumbleref20.May
theorem ann_ref20_May : FnOk Try.prog false 0 Try.f84 Ann.no := (fnNo _)
def s_ref20_May_0 (af Y : Int) (aA am az aF aJ aX aZ ba be bf : Nat) (bd : Int) (bc : Nat) : Bool := ((((((((((s_ref02_Finite_0 aA am) && (s_ref02_Finite_0 az aF)) && ((s_ref02_End_0 aJ) && (s_ref02_End_0 aX))) && (((s_ref02_End_0 aZ) && (s_ref02_End_0 bf)) && (s_ref02_End_0 bc))) && (ile (0 : Int) af)) && (ile (0 : Int) Y)) && (!(ieq af Y))) && (fle 0 bc)) && (fle ba be)) && (ile (-1 : Int) bd))
theorem e_ref20_May (af Y : Int) (aA am az aF aJ aX aZ ba be bf : Nat) (bd : Int) (bc : Nat) : outB (evFnM Try.prog false menv64 [] [] 96 Ann.no Try.f84 [AV.agg [AV.int .i64 af, AV.int .i64 Y, AV.float aA, AV.float am, AV.float az, AV.float aF, AV.float aJ, AV.float aX, AV.float aZ, AV.float ba, AV.float be, AV.float bf, AV.int .i64 bd, AV.float bc]] []) = some (true, AV.bool (s_ref20_May_0 af Y aA am az aF aJ aX aZ ba be bf bd bc)) := by kernel_rfl
def S_ref20_May : List AV → Option (Ob × AV)
  | [AV.agg [AV.int .i64 af, AV.int .i64 Y, AV.float aA, AV.float am, AV.float az, AV.float aF, AV.float aJ, AV.float aX, AV.float aZ, AV.float ba, AV.float be, AV.float bf, AV.int .i64 bd, AV.float bc]] => some (Ob.tt, AV.bool (s_ref20_May_0 af Y aA am az aF aJ aX aZ ba be bf bd bc))
  | _ => none
theorem t_ref20_May : SOkM Try.prog false (84, fun args => match S_ref20_May args with | some (o, v) => some (o, v, []) | none => none) := SOkM.flat (N := 96) menv64_ok Try.func84 ann_ref20_May Try.call84 fun args o v h ho => by
  unfold S_ref20_May at h
  split at h
  · rename_i af Y aA am az aF aJ aX aZ ba be bf bd bc
    cases h
    have ho2 := ho
    have this := show outB (evFnM Try.prog false menv64 [] [] 96 Ann.no Try.f84 [AV.agg [AV.int .i64 af, AV.int .i64 Y, AV.float aA, AV.float am, AV.float az, AV.float aF, AV.float aJ, AV.float aX, AV.float aZ, AV.float ba, AV.float be, AV.float bf, AV.int .i64 bd, AV.float bc]] []) = _ from e_ref20_May af Y aA am az aF aJ aX aZ ba be bf bd bc
    exact ⟨this, rfl⟩
  · cases h
def c_ref20_May : SFM := fun args => match S_ref20_May args with | some (o, v) => some (o, v, []) | none => none
theorem c_ref20_May_ok : SOkM Try.prog false (84, c_ref20_May) := t_ref20_May
def mss65 : List (FuncId × SFM) := (84, c_ref20_May) :: mss64
def menv65 : EnvM := mkEnvM mxs mss65 mws1
theorem mss65_ok : All (SOkM Try.prog false) mss65 := All.cons c_ref20_May_ok mss64_ok
theorem menv65_ok : menv65.Ok Try.prog false := mkEnvM_ok mxs_ok mss65_ok mws1_ok
-- tumble/tumbleref20.Check
theorem ann_ref20_Check : FnOk Try.prog false 0 Try.f55 Ann.no := (fnNo _)
def s_ref20_Check_0 (af Y : Int) (aA am az aF aJ aX aZ ba be bf : Nat) (bd : Int) (bc : Nat) (bo bn : Int) : Int := (bif ((((!(s_ref20_May_0 af Y aA am az aF aJ aX aZ ba be bf bd bc)) || (ile bn af)) || (ile bn Y)) || (ile bo bd)) then (200 : Int) else (0 : Int))
theorem e_ref20_Check (af Y : Int) (aA am az aF aJ aX aZ ba be bf : Nat) (bd : Int) (bc : Nat) (bo bn : Int) : outB (evFnM Try.prog false menv65 [] [] 96 Ann.no Try.f55 [AV.agg [AV.int .i64 af, AV.int .i64 Y, AV.float aA, AV.float am, AV.float az, AV.float aF, AV.float aJ, AV.float aX, AV.float aZ, AV.float ba, AV.float be, AV.float bf, AV.int .i64 bd, AV.float bc], AV.int .i64 bo, AV.int .i64 bn] []) = some (true, AV.int .i64 (s_ref20_Check_0 af Y aA am az aF aJ aX aZ ba be bf bd bc bo bn)) := by kernel_rfl
def S_ref20_Check : List AV → Option (Ob × AV)
  | [AV.agg [AV.int .i64 af, AV.int .i64 Y, AV.float aA, AV.float am, AV.float az, AV.float aF, AV.float aJ, AV.float aX, AV.float aZ, AV.float ba, AV.float be, AV.float bf, AV.int .i64 bd, AV.float bc], AV.int .i64 bo, AV.int .i64 bn] => some (Ob.tt, AV.int .i64 (s_ref20_Check_0 af Y aA am az aF aJ aX aZ ba be bf bd bc bo bn))
  | _ => none
theorem t_ref20_Check : SOkM Try.prog false (55, fun args => match S_ref20_Check args with | some (o, v) => some (o, v, []) | none => none) := SOkM.flat (N := 96) menv65_ok Try.func55 ann_ref20_Check Try.call55 fun args o v h ho => by
  unfold S_ref20_Check at h
  split at h
  · rename_i af Y aA am az aF aJ aX aZ ba be bf bd bc bo bn
    cases h
    have ho2 := ho
    have this := show outB (evFnM Try.prog false menv65 [] [] 96 Ann.no Try.f55 [AV.agg [AV.int .i64 af, AV.int .i64 Y, AV.float aA, AV.float am, AV.float az, AV.float aF, AV.float aJ, AV.float aX, AV.float aZ, AV.float ba, AV.float be, AV.float bf, AV.int .i64 bd, AV.float bc], AV.int .i64 bo, AV.int .i64 bn] []) = _ from e_ref20_Check af Y aA am az aF aJ aX aZ ba be bf bd bc bo bn
    exact ⟨this, rfl⟩
  · cases h
def c_ref20_Check : SFM := fun args => match S_ref20_Check args with | some (o, v) => some (o, v, []) | none => none
theorem c_ref20_Check_ok : SOkM Try.prog false (55, c_ref20_Check) := t_ref20_Check
def mss66 : List (FuncId × SFM) := (55, c_ref20_Check) :: mss65
def menv66 : EnvM := mkEnvM mxs mss66 mws1
theorem mss66_ok : All (SOkM Try.prog false) mss66 := All.cons c_ref20_Check_ok mss65_ok
theorem menv66_ok : menv66.Ok Try.prog false := mkEnvM_ok mxs_ok mss66_ok mws1_ok
-- tumble/tumbleref21.still
theorem ann_ref21_still : FnOk Try.prog false 0 Try.f67 Ann.no := (fnNo _)
def s_ref21_still_0 (af Y aA am az : Nat) : Bool := ((((fle 0 af) && (fle af 9218868437227405311)) && (fle 0 Y)) && (fle Y 9218868437227405311))
theorem e_ref21_still (af Y aA am az : Nat) : outB (evFnM Try.prog false menv66 [] [] 96 Ann.no Try.f67 [AV.agg [AV.float af, AV.float Y, AV.float aA, AV.float am, AV.float az]] []) = some (true, AV.bool (s_ref21_still_0 af Y aA am az)) := by kernel_rfl
def S_ref21_still : List AV → Option (Ob × AV)
  | [AV.agg [AV.float af, AV.float Y, AV.float aA, AV.float am, AV.float az]] => some (Ob.tt, AV.bool (s_ref21_still_0 af Y aA am az))
  | _ => none
theorem t_ref21_still : SOkM Try.prog false (67, fun args => match S_ref21_still args with | some (o, v) => some (o, v, []) | none => none) := SOkM.flat (N := 96) menv66_ok Try.func67 ann_ref21_still Try.call67 fun args o v h ho => by
  unfold S_ref21_still at h
  split at h
  · rename_i af Y aA am az
    cases h
    have ho2 := ho
    have this := show outB (evFnM Try.prog false menv66 [] [] 96 Ann.no Try.f67 [AV.agg [AV.float af, AV.float Y, AV.float aA, AV.float am, AV.float az]] []) = _ from e_ref21_still af Y aA am az
    exact ⟨this, rfl⟩
  · cases h
def c_ref21_still : SFM := fun args => match S_ref21_still args with | some (o, v) => some (o, v, []) | none => none
theorem c_ref21_still_ok : SOkM Try.prog false (67, c_ref21_still) := t_ref21_still
def mss67 : List (FuncId × SFM) := (67, c_ref21_still) :: mss66
def menv67 : EnvM := mkEnvM mxs mss67 mws1
theorem mss67_ok : All (SOkM Try.prog false) mss67 := All.cons c_ref21_still_ok mss66_ok
theorem menv67_ok : menv67.Ok Try.prog false := mkEnvM_ok mxs_ok mss67_ok mws1_ok
-- tumble/tumbleref21.Asked
-- a loop of tumble/tumbleref21.Asked
structure V_ref21_Asked_L0 where
  v0 : Int
def tpl_ref21_Asked_L0 : List AV := [AV.nul, AV.nul, AV.top, AV.top, AV.top, AV.nul, AV.top, AV.top, AV.top, AV.top, AV.top, AV.top, AV.top, AV.top, AV.top, AV.top, AV.top, AV.top, AV.top, AV.top, AV.top, AV.top, AV.top, AV.top, AV.top, AV.top, AV.top, AV.top, AV.top, AV.top, AV.top, AV.top, AV.top, AV.top, AV.top, AV.top, AV.top, AV.top, AV.top, AV.top, AV.top, AV.top, AV.top]
def cts_ref21_Asked_L0 : List CT := []
def phs_ref21_Asked_L0 : List Src := []
def T_ref21_Asked_L0 (l : Nat) (p q : Nat → Int) (u F I J M L Z aa ab ad : Nat → Nat) (ae : Nat → Int) (X : Nat → Nat) (ac : Nat) (ag al aB aD aE : Nat → Nat) (x : V_ref21_Asked_L0) (F0 F1 : Nat → List AV) : List AV × Heap := ([AV.view l 14 F0, AV.view ac 5 F1, AV.top, AV.top, AV.top, AV.int .i64 x.v0, AV.top, AV.top, AV.top, AV.top, AV.top, AV.top, AV.top, AV.top, AV.top, AV.top, AV.top, AV.top, AV.top, AV.top, AV.top, AV.top, AV.top, AV.top, AV.top, AV.top, AV.top, AV.top, AV.top, AV.top, AV.top, AV.top, AV.top, AV.top, AV.top, AV.top, AV.top, AV.top, AV.top, AV.top, AV.top, AV.top, AV.top], [])
def sh_ref21_Asked_L0 (l : Nat) (p q : Nat → Int) (u F I J M L Z aa ab ad : Nat → Nat) (ae : Nat → Int) (X : Nat → Nat) (ac : Nat) (ag al aB aD aE : Nat → Nat) (x : V_ref21_Asked_L0) : List AV × Heap := T_ref21_Asked_L0 l p q u F I J M L Z aa ab ad ae X ac ag al aB aD aE x (fun j0 => [AV.int .i64 (p j0), AV.int .i64 (q j0), AV.float (u j0), AV.float (F j0), AV.float (I j0), AV.float (J j0), AV.float (M j0), AV.float (L j0), AV.float (Z j0), AV.float (aa j0), AV.float (ab j0), AV.float (ad j0), AV.int .i64 (ae j0), AV.float (X j0)]) (fun j0 => [AV.float (ag j0), AV.float (al j0), AV.float (aB j0), AV.float (aD j0), AV.float (aE j0)])
def step_ref21_Asked_L0 (l : Nat) (p q : Nat → Int) (u F I J M L Z aa ab ad : Nat → Nat) (ae : Nat → Int) (X : Nat → Nat) (ac : Nat) (x : V_ref21_Asked_L0) : V_ref21_Asked_L0 := V_ref21_Asked_L0.mk (IntKind.wrap .i64 (x.v0 + (1 : Int)))
def go_ref21_Asked_L0 (l : Nat) (p q : Nat → Int) (u F I J M L Z aa ab ad : Nat → Nat) (ae : Nat → Int) (X : Nat → Nat) (ac : Nat) (x : V_ref21_Asked_L0) : Bool := let x0 := !(ilt x.v0 (Int.ofNat l)); (bif (bif x0 then false else (!(ieq (s_ref20_Check_0 (p (Int.toNat x.v0)) (q (Int.toNat x.v0)) (u (Int.toNat x.v0)) (F (Int.toNat x.v0)) (I (Int.toNat x.v0)) (J (Int.toNat x.v0)) (M (Int.toNat x.v0)) (L (Int.toNat x.v0)) (Z (Int.toNat x.v0)) (aa (Int.toNat x.v0)) (ab (Int.toNat x.v0)) (ad (Int.toNat x.v0)) (ae (Int.toNat x.v0)) (X (Int.toNat x.v0)) (Int.ofNat l) (Int.ofNat ac)) (0 : Int)))) then false else (bif x0 then false else true))
def ok_ref21_Asked_L0 (l : Nat) (p q : Nat → Int) (u F I J M L Z aa ab ad : Nat → Nat) (ae : Nat → Int) (X : Nat → Nat) (ac : Nat) (x : V_ref21_Asked_L0) : Bool := let x0 := (ile (0 : Int) x.v0) && (Nat.blt (Int.toNat x.v0) l); let x1 := !(ilt x.v0 (Int.ofNat l)); (mrgB (bif x1 then false else (!(ieq (s_ref20_Check_0 (p (Int.toNat x.v0)) (q (Int.toNat x.v0)) (u (Int.toNat x.v0)) (F (Int.toNat x.v0)) (I (Int.toNat x.v0)) (J (Int.toNat x.v0)) (M (Int.toNat x.v0)) (L (Int.toNat x.v0)) (Z (Int.toNat x.v0)) (aa (Int.toNat x.v0)) (ab (Int.toNat x.v0)) (ad (Int.toNat x.v0)) (ae (Int.toNat x.v0)) (X (Int.toNat x.v0)) (Int.ofNat l) (Int.ofNat ac)) (0 : Int)))) x0 (mrgB x1 true x0))
def L_ref21_Asked_L0 (l : Nat) (p q : Nat → Int) (u F I J M L Z aa ab ad : Nat → Nat) (ae : Nat → Int) (X : Nat → Nat) (ac : Nat) (x : V_ref21_Asked_L0) : V_ref21_Asked_L0 := lastL (ok_ref21_Asked_L0 l p q u F I J M L Z aa ab ad ae X ac) (go_ref21_Asked_L0 l p q u F I J M L Z aa ab ad ae X ac) (step_ref21_Asked_L0 l p q u F I J M L Z aa ab ad ae X ac) x
def E_ref21_Asked_L0 (l : Nat) (p q : Nat → Int) (u F I J M L Z aa ab ad : Nat → Nat) (ae : Nat → Int) (X : Nat → Nat) (ac : Nat) (x : V_ref21_Asked_L0) : Bool := endsL (ok_ref21_Asked_L0 l p q u F I J M L Z aa ab ad ae X ac) (go_ref21_Asked_L0 l p q u F I J M L Z aa ab ad ae X ac) (step_ref21_Asked_L0 l p q u F I J M L Z aa ab ad ae X ac) x
theorem all_ref21_Asked_L0 (l : Nat) (p q : Nat → Int) (u F I J M L Z aa ab ad : Nat → Nat) (ae : Nat → Int) (X : Nat → Nat) (ac : Nat) (ag al aB aD aE : Nat → Nat) (x : V_ref21_Asked_L0) : rnd Try.prog false menv67 [] [] 96 Ann.no (subC [1, 1, 0, 1, 0, 0] (codeOf Try.f41)) 0 [] tpl_ref21_Asked_L0 cts_ref21_Asked_L0 [false, false, true, true, true, true, true, true, true, true, true, true, true, true, true, true, true, true, true, true, true, true, true, true, true, true, true, true, true, true, true, true, true, true, true, true, true, true, true, true, true, true, true] [] (sh_ref21_Asked_L0 l p q u F I J M L Z aa ab ad ae X ac ag al aB aD aE x) = (true, true, go_ref21_Asked_L0 l p q u F I J M L Z aa ab ad ae X ac x, ok_ref21_Asked_L0 l p q u F I J M L Z aa ab ad ae X ac x, true, sh_ref21_Asked_L0 l p q u F I J M L Z aa ab ad ae X ac ag al aB aD aE (step_ref21_Asked_L0 l p q u F I J M L Z aa ab ad ae X ac x), true) := by kernel_rfl
def fam_ref21_Asked_L0 (l : Nat) (p q : Nat → Int) (u F I J M L Z aa ab ad : Nat → Nat) (ae : Nat → Int) (X : Nat → Nat) (ac : Nat) (ag al aB aD aE : Nat → Nat) : Fam Try.prog false menv67 [] [] 96 0 Ann.no (subC [1, 1, 0, 1, 0, 0] (codeOf Try.f41)) V_ref21_Asked_L0 where
  sh := sh_ref21_Asked_L0 l p q u F I J M L Z aa ab ad ae X ac ag al aB aD aE
  ok := ok_ref21_Asked_L0 l p q u F I J M L Z aa ab ad ae X ac
  go := go_ref21_Asked_L0 l p q u F I J M L Z aa ab ad ae X ac
  step := step_ref21_Asked_L0 l p q u F I J M L Z aa ab ad ae X ac
  chg := [false, false, true, true, true, true, true, true, true, true, true, true, true, true, true, true, true, true, true, true, true, true, true, true, true, true, true, true, true, true, true, true, true, true, true, true, true, true, true, true, true, true, true]
  chgH := []
  tpl := tpl_ref21_Asked_L0
  cts := cts_ref21_Asked_L0
  keep := 0
  srcs := []
  ann := (annNo (subC [1, 1, 0, 1, 0, 0] (codeOf Try.f41)))
  le := by kernel_rfl
  kept := by kernel_rfl
  keptB := by kernel_rfl
  all := all_ref21_Asked_L0 l p q u F I J M L Z aa ab ad ae X ac ag al aB aD aE
  len := fun x => by kernel_rfl
  head := fun x y => by kernel_rfl
  con := fun x y => by kernel_rfl
  conH := fun x y => by kernel_rfl
def F_ref21_Asked_L0 : St → Option Ch := fun s => cond (Nat.beq s.tm.length 43 && Nat.beq s.H.length 0) (tkCons (alL tpl_ref21_Asked_L0 s.tm) fun af t0 => tkView 14 af fun s0 f0 => tkCons t0 fun Y t1 => tkView 5 Y fun s15 f1 => tkTops 3 t1 fun t2 => tkCons t2 fun am t3 => tkI .i64 am fun s21 => tkTops 37 t3 fun t4 => tkNil t4 <| tkNil (alH cts_ref21_Asked_L0 (s.H ++ List.map phan phs_ref21_Asked_L0)) <| Fam.out (fam_ref21_Asked_L0 s0 (iL f0 0) (iL f0 1) (fL f0 2) (fL f0 3) (fL f0 4) (fL f0 5) (fL f0 6) (fL f0 7) (fL f0 8) (fL f0 9) (fL f0 10) (fL f0 11) (iL f0 12) (fL f0 13) s15 (fL f1 0) (fL f1 1) (fL f1 2) (fL f1 3) (fL f1 4)) s ((allB fun i => isNrm [Ck.i .i64, Ck.i .i64, Ck.f, Ck.f, Ck.f, Ck.f, Ck.f, Ck.f, Ck.f, Ck.f, Ck.f, Ck.f, Ck.i .i64, Ck.f] (f0 i)) && (allB fun i => isNrm [Ck.f, Ck.f, Ck.f, Ck.f, Ck.f] (f1 i))) (V_ref21_Asked_L0.mk s21)) none
theorem F_ref21_Asked_L0_ok : ∀ s ch, F_ref21_Asked_L0 s = some ch → AllI s ch ∧ LoopSpec Try.prog false 0 (subC [1, 1, 0, 1, 0, 0] (codeOf Try.f41)) s (sel ch) := by
  intro s ch h
  unfold F_ref21_Asked_L0 at h
  obtain ⟨hl, h0⟩ := cond_some h rfl
  clear h
  obtain ⟨hl, hb⟩ := and_beq2 hl
  obtain ⟨af, t0, e0, h1⟩ := tkCons_some h0
  obtain ⟨s0, f0, rfl, h2⟩ := tkView_some h1
  obtain ⟨Y, t1, rfl, h3⟩ := tkCons_some h2
  obtain ⟨s15, f1, rfl, h4⟩ := tkView_some h3
  obtain ⟨t2, rfl, h5⟩ := tkTops_some h4
  obtain ⟨am, t3, rfl, h6⟩ := tkCons_some h5
  obtain ⟨s21, rfl, h7⟩ := tkI_some h6
  obtain ⟨t4, rfl, h8⟩ := tkTops_some h7
  obtain ⟨rfl, h9⟩ := tkNil_some h8
  obtain ⟨eH, h10⟩ := tkNil_some h9
  refine Fam.spec menv67_ok (fam_ref21_Asked_L0 s0 (iL f0 0) (iL f0 1) (fL f0 2) (fL f0 3) (fL f0 4) (fL f0 5) (fL f0 6) (fL f0 7) (fL f0 8) (fL f0 9) (fL f0 10) (fL f0 11) (iL f0 12) (fL f0 13) s15 (fL f1 0) (fL f1 1) (fL f1 2) (fL f1 3) (fL f1 4)) (phs := phs_ref21_Asked_L0) (hl.trans (by kernel_rfl)) (hb.trans (by kernel_rfl)) ?_ ?_ h10
  · rw [← hdr_alH cts_ref21_Asked_L0 (s.H ++ List.map phan phs_ref21_Asked_L0), eH]; kernel_rfl
  · intro hq
    simp only [Bool.and_eq_true] at hq
    obtain ⟨hq0, hq1⟩ := hq
    have n0 := nrm_fun hq0
    have n1 := nrm_fun hq1
    show sh_ref21_Asked_L0 s0 (iL f0 0) (iL f0 1) (fL f0 2) (fL f0 3) (fL f0 4) (fL f0 5) (fL f0 6) (fL f0 7) (fL f0 8) (fL f0 9) (fL f0 10) (fL f0 11) (iL f0 12) (fL f0 13) s15 (fL f1 0) (fL f1 1) (fL f1 2) (fL f1 3) (fL f1 4) (V_ref21_Asked_L0.mk s21) = (alL tpl_ref21_Asked_L0 s.tm, alH cts_ref21_Asked_L0 (s.H ++ List.map phan phs_ref21_Asked_L0))
    rw [e0, eH]
    refine Eq.trans (show sh_ref21_Asked_L0 s0 (iL f0 0) (iL f0 1) (fL f0 2) (fL f0 3) (fL f0 4) (fL f0 5) (fL f0 6) (fL f0 7) (fL f0 8) (fL f0 9) (fL f0 10) (fL f0 11) (iL f0 12) (fL f0 13) s15 (fL f1 0) (fL f1 1) (fL f1 2) (fL f1 3) (fL f1 4) (V_ref21_Asked_L0.mk s21) = T_ref21_Asked_L0 s0 (iL f0 0) (iL f0 1) (fL f0 2) (fL f0 3) (fL f0 4) (fL f0 5) (fL f0 6) (fL f0 7) (fL f0 8) (fL f0 9) (fL f0 10) (fL f0 11) (iL f0 12) (fL f0 13) s15 (fL f1 0) (fL f1 1) (fL f1 2) (fL f1 3) (fL f1 4) (V_ref21_Asked_L0.mk s21) (fun i => mkN [Ck.i .i64, Ck.i .i64, Ck.f, Ck.f, Ck.f, Ck.f, Ck.f, Ck.f, Ck.f, Ck.f, Ck.f, Ck.f, Ck.i .i64, Ck.f] (f0 i) 0) (fun i => mkN [Ck.f, Ck.f, Ck.f, Ck.f, Ck.f] (f1 i) 0) by kernel_rfl) ?_
    rw [n0, n1]
    kernel_rfl
-- a loop of tumble/tumbleref21.Asked
structure V_ref21_Asked_L1 where
  v0 : Int
def tpl_ref21_Asked_L1 : List AV := [AV.top, AV.nul, AV.top, AV.top, AV.top, AV.top, AV.nul, AV.top, AV.top, AV.top, AV.top, AV.top, AV.top, AV.top, AV.top, AV.top, AV.top, AV.top, AV.top, AV.top, AV.top, AV.top, AV.top, AV.top, AV.top, AV.top, AV.top, AV.top, AV.top, AV.top, AV.top, AV.top, AV.top, AV.top, AV.top, AV.top, AV.top, AV.top, AV.top, AV.top, AV.top, AV.top, AV.top]
def cts_ref21_Asked_L1 : List CT := []
def phs_ref21_Asked_L1 : List Src := []
def T_ref21_Asked_L1 (l : Nat) (p q u F I : Nat → Nat) (x : V_ref21_Asked_L1) (F0 : Nat → List AV) : List AV × Heap := ([AV.top, AV.view l 5 F0, AV.top, AV.top, AV.top, AV.top, AV.int .i64 x.v0, AV.top, AV.top, AV.top, AV.top, AV.top, AV.top, AV.top, AV.top, AV.top, AV.top, AV.top, AV.top, AV.top, AV.top, AV.top, AV.top, AV.top, AV.top, AV.top, AV.top, AV.top, AV.top, AV.top, AV.top, AV.top, AV.top, AV.top, AV.top, AV.top, AV.top, AV.top, AV.top, AV.top, AV.top, AV.top, AV.top], [])
def sh_ref21_Asked_L1 (l : Nat) (p q u F I : Nat → Nat) (x : V_ref21_Asked_L1) : List AV × Heap := T_ref21_Asked_L1 l p q u F I x (fun j0 => [AV.float (p j0), AV.float (q j0), AV.float (u j0), AV.float (F j0), AV.float (I j0)])
def step_ref21_Asked_L1 (l : Nat) (p q u F I : Nat → Nat) (x : V_ref21_Asked_L1) : V_ref21_Asked_L1 := V_ref21_Asked_L1.mk (IntKind.wrap .i64 (x.v0 + (1 : Int)))
def go_ref21_Asked_L1 (l : Nat) (p q u F I : Nat → Nat) (x : V_ref21_Asked_L1) : Bool := (bif (bif (!(ilt x.v0 (Int.ofNat l))) then false else (!(s_ref21_still_0 (p (Int.toNat x.v0)) (q (Int.toNat x.v0)) (u (Int.toNat x.v0)) (F (Int.toNat x.v0)) (I (Int.toNat x.v0))))) then false else (bif (!(ilt x.v0 (Int.ofNat l))) then false else true))
def ok_ref21_Asked_L1 (l : Nat) (p q u F I : Nat → Nat) (x : V_ref21_Asked_L1) : Bool := (mrgB (bif (!(ilt x.v0 (Int.ofNat l))) then false else (!(s_ref21_still_0 (p (Int.toNat x.v0)) (q (Int.toNat x.v0)) (u (Int.toNat x.v0)) (F (Int.toNat x.v0)) (I (Int.toNat x.v0))))) ((ile (0 : Int) x.v0) && (Nat.blt (Int.toNat x.v0) l)) (mrgB (!(ilt x.v0 (Int.ofNat l))) true ((ile (0 : Int) x.v0) && (Nat.blt (Int.toNat x.v0) l))))
def L_ref21_Asked_L1 (l : Nat) (p q u F I : Nat → Nat) (x : V_ref21_Asked_L1) : V_ref21_Asked_L1 := lastL (ok_ref21_Asked_L1 l p q u F I) (go_ref21_Asked_L1 l p q u F I) (step_ref21_Asked_L1 l p q u F I) x
def E_ref21_Asked_L1 (l : Nat) (p q u F I : Nat → Nat) (x : V_ref21_Asked_L1) : Bool := endsL (ok_ref21_Asked_L1 l p q u F I) (go_ref21_Asked_L1 l p q u F I) (step_ref21_Asked_L1 l p q u F I) x
theorem all_ref21_Asked_L1 (l : Nat) (p q u F I : Nat → Nat) (x : V_ref21_Asked_L1) : rnd Try.prog false menv67 [] [] 96 Ann.no (subC [1, 1, 1, 0, 1, 0, 0] (codeOf Try.f41)) 0 [] tpl_ref21_Asked_L1 cts_ref21_Asked_L1 [true, false, true, true, true, true, true, true, true, true, true, true, true, true, true, true, true, true, true, true, true, true, true, true, true, true, true, true, true, true, true, true, true, true, true, true, true, true, true, true, true, true, true] [] (sh_ref21_Asked_L1 l p q u F I x) = (true, true, go_ref21_Asked_L1 l p q u F I x, ok_ref21_Asked_L1 l p q u F I x, true, sh_ref21_Asked_L1 l p q u F I (step_ref21_Asked_L1 l p q u F I x), true) := by kernel_rfl
def fam_ref21_Asked_L1 (l : Nat) (p q u F I : Nat → Nat) : Fam Try.prog false menv67 [] [] 96 0 Ann.no (subC [1, 1, 1, 0, 1, 0, 0] (codeOf Try.f41)) V_ref21_Asked_L1 where
  sh := sh_ref21_Asked_L1 l p q u F I
  ok := ok_ref21_Asked_L1 l p q u F I
  go := go_ref21_Asked_L1 l p q u F I
  step := step_ref21_Asked_L1 l p q u F I
  chg := [true, false, true, true, true, true, true, true, true, true, true, true, true, true, true, true, true, true, true, true, true, true, true, true, true, true, true, true, true, true, true, true, true, true, true, true, true, true, true, true, true, true, true]
  chgH := []
  tpl := tpl_ref21_Asked_L1
  cts := cts_ref21_Asked_L1
  keep := 0
  srcs := []
  ann := (annNo (subC [1, 1, 1, 0, 1, 0, 0] (codeOf Try.f41)))
  le := by kernel_rfl
  kept := by kernel_rfl
  keptB := by kernel_rfl
  all := all_ref21_Asked_L1 l p q u F I
  len := fun x => by kernel_rfl
  head := fun x y => by kernel_rfl
  con := fun x y => by kernel_rfl
  conH := fun x y => by kernel_rfl
def F_ref21_Asked_L1 : St → Option Ch := fun s => cond (Nat.beq s.tm.length 43 && Nat.beq s.H.length 0) (tkTops 1 (alL tpl_ref21_Asked_L1 s.tm) fun t0 => tkCons t0 fun Y t1 => tkView 5 Y fun s0 f0 => tkTops 4 t1 fun t2 => tkCons t2 fun am t3 => tkI .i64 am fun s6 => tkTops 36 t3 fun t4 => tkNil t4 <| tkNil (alH cts_ref21_Asked_L1 (s.H ++ List.map phan phs_ref21_Asked_L1)) <| Fam.out (fam_ref21_Asked_L1 s0 (fL f0 0) (fL f0 1) (fL f0 2) (fL f0 3) (fL f0 4)) s (allB fun i => isNrm [Ck.f, Ck.f, Ck.f, Ck.f, Ck.f] (f0 i)) (V_ref21_Asked_L1.mk s6)) none
theorem F_ref21_Asked_L1_ok : ∀ s ch, F_ref21_Asked_L1 s = some ch → AllI s ch ∧ LoopSpec Try.prog false 0 (subC [1, 1, 1, 0, 1, 0, 0] (codeOf Try.f41)) s (sel ch) := by
  intro s ch h
  unfold F_ref21_Asked_L1 at h
  obtain ⟨hl, h0⟩ := cond_some h rfl
  clear h
  obtain ⟨hl, hb⟩ := and_beq2 hl
  obtain ⟨t0, e0, h1⟩ := tkTops_some h0
  obtain ⟨Y, t1, rfl, h2⟩ := tkCons_some h1
  obtain ⟨s0, f0, rfl, h3⟩ := tkView_some h2
  obtain ⟨t2, rfl, h4⟩ := tkTops_some h3
  obtain ⟨am, t3, rfl, h5⟩ := tkCons_some h4
  obtain ⟨s6, rfl, h6⟩ := tkI_some h5
  obtain ⟨t4, rfl, h7⟩ := tkTops_some h6
  obtain ⟨rfl, h8⟩ := tkNil_some h7
  obtain ⟨eH, h9⟩ := tkNil_some h8
  refine Fam.spec menv67_ok (fam_ref21_Asked_L1 s0 (fL f0 0) (fL f0 1) (fL f0 2) (fL f0 3) (fL f0 4)) (phs := phs_ref21_Asked_L1) (hl.trans (by kernel_rfl)) (hb.trans (by kernel_rfl)) ?_ ?_ h9
  · rw [← hdr_alH cts_ref21_Asked_L1 (s.H ++ List.map phan phs_ref21_Asked_L1), eH]; kernel_rfl
  · intro hq
    have hq0 := hq
    have n0 := nrm_fun hq0
    show sh_ref21_Asked_L1 s0 (fL f0 0) (fL f0 1) (fL f0 2) (fL f0 3) (fL f0 4) (V_ref21_Asked_L1.mk s6) = (alL tpl_ref21_Asked_L1 s.tm, alH cts_ref21_Asked_L1 (s.H ++ List.map phan phs_ref21_Asked_L1))
    rw [e0, eH]
    refine Eq.trans (show sh_ref21_Asked_L1 s0 (fL f0 0) (fL f0 1) (fL f0 2) (fL f0 3) (fL f0 4) (V_ref21_Asked_L1.mk s6) = T_ref21_Asked_L1 s0 (fL f0 0) (fL f0 1) (fL f0 2) (fL f0 3) (fL f0 4) (V_ref21_Asked_L1.mk s6) (fun i => mkN [Ck.f, Ck.f, Ck.f, Ck.f, Ck.f] (f0 i) 0) by kernel_rfl) ?_
    rw [n0]
    kernel_rfl
theorem ann_ref21_Asked : FnOk Try.prog false 0 Try.f41 (Ann.two Ann.no (Ann.two Ann.no (Ann.two (Ann.two Ann.no (Ann.one (Ann.loop F_ref21_Asked_L0))) (Ann.two (Ann.two Ann.no (Ann.one (Ann.loop F_ref21_Asked_L1))) Ann.no)))) := (fnOk_of (c := codeOf Try.f41) (by kernel_rfl) (annSeq (a := (subC [0] (codeOf Try.f41))) (b := (subC [1] (codeOf Try.f41))) (by kernel_rfl) (annNo (subC [0] (codeOf Try.f41))) (annSeq (a := (subC [1, 0] (codeOf Try.f41))) (b := (subC [1, 1] (codeOf Try.f41))) (by kernel_rfl) (annNo (subC [1, 0] (codeOf Try.f41))) (annSeq (a := (subC [1, 1, 0] (codeOf Try.f41))) (b := (subC [1, 1, 1] (codeOf Try.f41))) (by kernel_rfl) (annSeq (a := (subC [1, 1, 0, 0] (codeOf Try.f41))) (b := (subC [1, 1, 0, 1] (codeOf Try.f41))) (by kernel_rfl) (annNo (subC [1, 1, 0, 0] (codeOf Try.f41))) (annBlock (a := (subC [1, 1, 0, 1, 0] (codeOf Try.f41))) (i := 0) (by kernel_rfl) (annLoop (a := (subC [1, 1, 0, 1, 0, 0] (codeOf Try.f41))) (by kernel_rfl) F_ref21_Asked_L0_ok))) (annSeq (a := (subC [1, 1, 1, 0] (codeOf Try.f41))) (b := (subC [1, 1, 1, 1] (codeOf Try.f41))) (by kernel_rfl) (annSeq (a := (subC [1, 1, 1, 0, 0] (codeOf Try.f41))) (b := (subC [1, 1, 1, 0, 1] (codeOf Try.f41))) (by kernel_rfl) (annNo (subC [1, 1, 1, 0, 0] (codeOf Try.f41))) (annBlock (a := (subC [1, 1, 1, 0, 1, 0] (codeOf Try.f41))) (i := 2) (by kernel_rfl) (annLoop (a := (subC [1, 1, 1, 0, 1, 0, 0] (codeOf Try.f41))) (by kernel_rfl) F_ref21_Asked_L1_ok))) (annNo (subC [1, 1, 1, 1] (codeOf Try.f41))))))))
def s_ref21_Asked_0 (j : Nat) (r z : Nat → Int) (C D E O P Q R S T U : Nat → Nat) (V : Nat → Int) (W : Nat → Nat) (m : Nat) (K ah ai aj ak : Nat → Nat) : Int := let x0 := (L_ref21_Asked_L1 m K ah ai aj ak (V_ref21_Asked_L1.mk (0 : Int))).v0; let x1 := Int.toNat x0; let x2 := (L_ref21_Asked_L0 j r z C D E O P Q R S T U V W m (V_ref21_Asked_L0.mk (0 : Int))).v0; let x3 := Int.toNat x2; (bif ((ilt (1048576 : Int) (Int.ofNat j)) || (ilt (1024 : Int) (Int.ofNat m))) then (4 : Int) else (bif (bif (!(ilt x2 (Int.ofNat j))) then false else (!(ieq (s_ref20_Check_0 (r x3) (z x3) (C x3) (D x3) (E x3) (O x3) (P x3) (Q x3) (R x3) (S x3) (T x3) (U x3) (V x3) (W x3) (Int.ofNat j) (Int.ofNat m)) (0 : Int)))) then (200 : Int) else (bif (bif (!(ilt x0 (Int.ofNat m))) then false else (!(s_ref21_still_0 (K x1) (ah x1) (ai x1) (aj x1) (ak x1)))) then (200 : Int) else (0 : Int))))
def q_ref21_Asked (j : Nat) (r z : Nat → Int) (C D E O P Q R S T U : Nat → Nat) (V : Nat → Int) (W : Nat → Nat) (m : Nat) (K ah ai aj ak : Nat → Nat) : Bool := (let x0 := ((allB fun _ => true) && (allB fun _ => true)) && (E_ref21_Asked_L0 j r z C D E O P Q R S T U V W m (V_ref21_Asked_L0.mk (0 : Int))); let x1 := x0 && ((allB fun _ => true) && (E_ref21_Asked_L1 m K ah ai aj ak (V_ref21_Asked_L1.mk (0 : Int)))); let x2 := (L_ref21_Asked_L1 m K ah ai aj ak (V_ref21_Asked_L1.mk (0 : Int))).v0; let x3 := Int.toNat x2; let x4 := (L_ref21_Asked_L0 j r z C D E O P Q R S T U V W m (V_ref21_Asked_L0.mk (0 : Int))).v0; let x5 := Int.toNat x4; (mrgB ((ilt (1048576 : Int) (Int.ofNat j)) || (ilt (1024 : Int) (Int.ofNat m))) true (mrgB (bif (!(ilt x4 (Int.ofNat j))) then false else (!(ieq (s_ref20_Check_0 (r x5) (z x5) (C x5) (D x5) (E x5) (O x5) (P x5) (Q x5) (R x5) (S x5) (T x5) (U x5) (V x5) (W x5) (Int.ofNat j) (Int.ofNat m)) (0 : Int)))) x0 (mrgB (bif (!(ilt x2 (Int.ofNat m))) then false else (!(s_ref21_still_0 (K x3) (ah x3) (ai x3) (aj x3) (ak x3)))) x1 x1))))
theorem e_ref21_Asked (j : Nat) (r z : Nat → Int) (C D E O P Q R S T U : Nat → Nat) (V : Nat → Int) (W : Nat → Nat) (m : Nat) (K ah ai aj ak : Nat → Nat) : outB (evFnM Try.prog false menv67 [] [] 96 (Ann.two Ann.no (Ann.two Ann.no (Ann.two (Ann.two Ann.no (Ann.one (Ann.loop F_ref21_Asked_L0))) (Ann.two (Ann.two Ann.no (Ann.one (Ann.loop F_ref21_Asked_L1))) Ann.no)))) Try.f41 [AV.view j 14 (fun i0 => [AV.int .i64 (r i0), AV.int .i64 (z i0), AV.float (C i0), AV.float (D i0), AV.float (E i0), AV.float (O i0), AV.float (P i0), AV.float (Q i0), AV.float (R i0), AV.float (S i0), AV.float (T i0), AV.float (U i0), AV.int .i64 (V i0), AV.float (W i0)]), AV.view m 5 (fun i0 => [AV.float (K i0), AV.float (ah i0), AV.float (ai i0), AV.float (aj i0), AV.float (ak i0)])] []) = some (q_ref21_Asked j r z C D E O P Q R S T U V W m K ah ai aj ak, AV.int .i64 (s_ref21_Asked_0 j r z C D E O P Q R S T U V W m K ah ai aj ak)) := by kernel_rfl
def o_ref21_Asked (j : Nat) (r z : Nat → Int) (C D E O P Q R S T U : Nat → Nat) (V : Nat → Int) (W : Nat → Nat) (m : Nat) (K ah ai aj ak : Nat → Nat) : Bool := let x0 := E_ref21_Asked_L0 j r z C D E O P Q R S T U V W m (V_ref21_Asked_L0.mk (0 : Int)); let x1 := x0 && (E_ref21_Asked_L1 m K ah ai aj ak (V_ref21_Asked_L1.mk (0 : Int))); let x2 := (L_ref21_Asked_L1 m K ah ai aj ak (V_ref21_Asked_L1.mk (0 : Int))).v0; let x3 := Int.toNat x2; let x4 := (L_ref21_Asked_L0 j r z C D E O P Q R S T U V W m (V_ref21_Asked_L0.mk (0 : Int))).v0; let x5 := Int.toNat x4; (mrgB ((ilt (1048576 : Int) (Int.ofNat j)) || (ilt (1024 : Int) (Int.ofNat m))) true (mrgB (bif (!(ilt x4 (Int.ofNat j))) then false else (!(ieq (s_ref20_Check_0 (r x5) (z x5) (C x5) (D x5) (E x5) (O x5) (P x5) (Q x5) (R x5) (S x5) (T x5) (U x5) (V x5) (W x5) (Int.ofNat j) (Int.ofNat m)) (0 : Int)))) x0 (mrgB (bif (!(ilt x2 (Int.ofNat m))) then false else (!(s_ref21_still_0 (K x3) (ah x3) (ai x3) (aj x3) (ak x3)))) x1 x1)))
def S_ref21_Asked : List AV → Option (Ob × AV)
  | [AV.view j 14 e, AV.view m 5 k] => some (Ob.both (Ob.bit ((allB fun i => isNrm [Ck.i .i64, Ck.i .i64, Ck.f, Ck.f, Ck.f, Ck.f, Ck.f, Ck.f, Ck.f, Ck.f, Ck.f, Ck.f, Ck.i .i64, Ck.f] (e i)) && (allB fun i => isNrm [Ck.f, Ck.f, Ck.f, Ck.f, Ck.f] (k i)))) (Ob.bit (o_ref21_Asked j (iL e 0) (iL e 1) (fL e 2) (fL e 3) (fL e 4) (fL e 5) (fL e 6) (fL e 7) (fL e 8) (fL e 9) (fL e 10) (fL e 11) (iL e 12) (fL e 13) m (fL k 0) (fL k 1) (fL k 2) (fL k 3) (fL k 4))), AV.int .i64 (s_ref21_Asked_0 j (iL e 0) (iL e 1) (fL e 2) (fL e 3) (fL e 4) (fL e 5) (fL e 6) (fL e 7) (fL e 8) (fL e 9) (fL e 10) (fL e 11) (iL e 12) (fL e 13) m (fL k 0) (fL k 1) (fL k 2) (fL k 3) (fL k 4)))
  | _ => none
theorem ob_ref21_Asked (j : Nat) (r z : Nat → Int) (C D E O P Q R S T U : Nat → Nat) (V : Nat → Int) (W : Nat → Nat) (m : Nat) (K ah ai aj ak : Nat → Nat) (ho : o_ref21_Asked j r z C D E O P Q R S T U V W m K ah ai aj ak = true) : q_ref21_Asked j r z C D E O P Q R S T U V W m K ah ai aj ak = true := by
  unfold q_ref21_Asked
  unfold o_ref21_Asked at ho
  simp only [allB_true, eqT_self, mrgB_self, Bool.true_and, Bool.and_true] at ho ⊢
  exact ho
theorem t_ref21_Asked : SOkM Try.prog false (41, fun args => match S_ref21_Asked args with | some (o, v) => some (o, v, []) | none => none) := SOkM.flat (N := 96) menv67_ok Try.func41 ann_ref21_Asked Try.call41 fun args o v h ho => by
  unfold S_ref21_Asked at h
  split at h
  · rename_i j e m k
    cases h
    rw [Ob.both_ok, Bool.and_eq_true] at ho
    obtain ⟨hn, ho2⟩ := ho
    simp only [Ob.ok, Bool.and_eq_true] at hn
    obtain ⟨n0, n1⟩ := hn
    replace n0 := nrm_fun n0
    replace n1 := nrm_fun n1
    have this := show outB (evFnM Try.prog false menv67 [] [] 96 (Ann.two Ann.no (Ann.two Ann.no (Ann.two (Ann.two Ann.no (Ann.one (Ann.loop F_ref21_Asked_L0))) (Ann.two (Ann.two Ann.no (Ann.one (Ann.loop F_ref21_Asked_L1))) Ann.no)))) Try.f41 [AV.view j 14 (fun i => mkN [Ck.i .i64, Ck.i .i64, Ck.f, Ck.f, Ck.f, Ck.f, Ck.f, Ck.f, Ck.f, Ck.f, Ck.f, Ck.f, Ck.i .i64, Ck.f] (e i) 0), AV.view m 5 (fun i => mkN [Ck.f, Ck.f, Ck.f, Ck.f, Ck.f] (k i) 0)] []) = _ from e_ref21_Asked j (iL e 0) (iL e 1) (fL e 2) (fL e 3) (fL e 4) (fL e 5) (fL e 6) (fL e 7) (fL e 8) (fL e 9) (fL e 10) (fL e 11) (iL e 12) (fL e 13) m (fL k 0) (fL k 1) (fL k 2) (fL k 3) (fL k 4)
    rw [(ob_ref21_Asked j (iL e 0) (iL e 1) (fL e 2) (fL e 3) (fL e 4) (fL e 5) (fL e 6) (fL e 7) (fL e 8) (fL e 9) (fL e 10) (fL e 11) (iL e 12) (fL e 13) m (fL k 0) (fL k 1) (fL k 2) (fL k 3) (fL k 4) ho2)] at this
    rw [n0, n1] at this
    exact ⟨this, rfl⟩
  · cases h
def c_ref21_Asked : SFM := fun args => match S_ref21_Asked args with | some (o, v) => some (o, v, []) | none => none
theorem c_ref21_Asked_ok : SOkM Try.prog false (41, c_ref21_Asked) := t_ref21_Asked
def mss68 : List (FuncId × SFM) := (41, c_ref21_Asked) :: mss67
def menv68 : EnvM := mkEnvM mxs mss68 mws1
theorem mss68_ok : All (SOkM Try.prog false) mss68 := All.cons c_ref21_Asked_ok mss67_ok
theorem menv68_ok : menv68.Ok Try.prog false := mkEnvM_ok mxs_ok mss68_ok mws1_ok
-- tumble/tumbleref21.Moved
theorem ann_ref21_Moved : FnOk Try.prog false 0 Try.f51 Ann.no := (fnNo _)
def s_ref21_Moved_0 (af Y aA am az : Nat) : Bool := ((flt 0 af) || (flt 0 Y))
theorem e_ref21_Moved (af Y aA am az : Nat) : outB (evFnM Try.prog false menv68 [] [] 96 Ann.no Try.f51 [AV.agg [AV.float af, AV.float Y, AV.float aA, AV.float am, AV.float az]] []) = some (true, AV.bool (s_ref21_Moved_0 af Y aA am az)) := by kernel_rfl
def S_ref21_Moved : List AV → Option (Ob × AV)
  | [AV.agg [AV.float af, AV.float Y, AV.float aA, AV.float am, AV.float az]] => some (Ob.tt, AV.bool (s_ref21_Moved_0 af Y aA am az))
  | _ => none
theorem t_ref21_Moved : SOkM Try.prog false (51, fun args => match S_ref21_Moved args with | some (o, v) => some (o, v, []) | none => none) := SOkM.flat (N := 96) menv68_ok Try.func51 ann_ref21_Moved Try.call51 fun args o v h ho => by
  unfold S_ref21_Moved at h
  split at h
  · rename_i af Y aA am az
    cases h
    have ho2 := ho
    have this := show outB (evFnM Try.prog false menv68 [] [] 96 Ann.no Try.f51 [AV.agg [AV.float af, AV.float Y, AV.float aA, AV.float am, AV.float az]] []) = _ from e_ref21_Moved af Y aA am az
    exact ⟨this, rfl⟩
  · cases h
def c_ref21_Moved : SFM := fun args => match S_ref21_Moved args with | some (o, v) => some (o, v, []) | none => none
theorem c_ref21_Moved_ok : SOkM Try.prog false (51, c_ref21_Moved) := t_ref21_Moved
def mss69 : List (FuncId × SFM) := (51, c_ref21_Moved) :: mss68
def menv69 : EnvM := mkEnvM mxs mss69 mws1
theorem mss69_ok : All (SOkM Try.prog false) mss69 := All.cons c_ref21_Moved_ok mss68_ok
theorem menv69_ok : menv69.Ok Try.prog false := mkEnvM_ok mxs_ok mss69_ok mws1_ok
-- tumble/tumbleref21.of
-- a loop of tumble/tumbleref21.of
structure V_ref21_of_L0 where
  v0 : Int
def tpl_ref21_of_L0 : List AV := [AV.nul, AV.nul, AV.top, AV.top, AV.top, AV.nul, AV.top, AV.top, AV.top, AV.top, AV.top, AV.top, AV.top, AV.top, AV.top, AV.top, AV.top, AV.top, AV.top, AV.top, AV.top, AV.top, AV.top, AV.top, AV.top, AV.top, AV.top, AV.top]
def cts_ref21_of_L0 : List CT := []
def phs_ref21_of_L0 : List Src := []
def T_ref21_of_L0 (l : Nat) (p q : Nat → Int) (u F I J M L Z aa ab ad : Nat → Nat) (ae : Nat → Int) (X : Nat → Nat) (ac : Int) (x : V_ref21_of_L0) (F0 : Nat → List AV) : List AV × Heap := ([AV.view l 14 F0, AV.int .i64 ac, AV.top, AV.top, AV.top, AV.int .i64 x.v0, AV.top, AV.top, AV.top, AV.top, AV.top, AV.top, AV.top, AV.top, AV.top, AV.top, AV.top, AV.top, AV.top, AV.top, AV.top, AV.top, AV.top, AV.top, AV.top, AV.top, AV.top, AV.top], [])
def sh_ref21_of_L0 (l : Nat) (p q : Nat → Int) (u F I J M L Z aa ab ad : Nat → Nat) (ae : Nat → Int) (X : Nat → Nat) (ac : Int) (x : V_ref21_of_L0) : List AV × Heap := T_ref21_of_L0 l p q u F I J M L Z aa ab ad ae X ac x (fun j0 => [AV.int .i64 (p j0), AV.int .i64 (q j0), AV.float (u j0), AV.float (F j0), AV.float (I j0), AV.float (J j0), AV.float (M j0), AV.float (L j0), AV.float (Z j0), AV.float (aa j0), AV.float (ab j0), AV.float (ad j0), AV.int .i64 (ae j0), AV.float (X j0)])
def step_ref21_of_L0 (l : Nat) (p q : Nat → Int) (ac : Int) (x : V_ref21_of_L0) : V_ref21_of_L0 := V_ref21_of_L0.mk (IntKind.wrap .i64 (x.v0 + (1 : Int)))
def go_ref21_of_L0 (l : Nat) (p q : Nat → Int) (ac : Int) (x : V_ref21_of_L0) : Bool := (bif (bif (!(ilt x.v0 (Int.ofNat l))) then false else ((ieq (p (Int.toNat x.v0)) ac) || (ieq (q (Int.toNat x.v0)) ac))) then false else (bif (!(ilt x.v0 (Int.ofNat l))) then false else true))
def ok_ref21_of_L0 (l : Nat) (p q : Nat → Int) (ac : Int) (x : V_ref21_of_L0) : Bool := let x0 := (ile (0 : Int) x.v0) && (Nat.blt (Int.toNat x.v0) l); let x1 := ieq (p (Int.toNat x.v0)) ac; let x2 := mrgB x1 x0 (x0 && x0); let x3 := !(ilt x.v0 (Int.ofNat l)); (mrgB (bif x3 then false else (x1 || (ieq (q (Int.toNat x.v0)) ac))) x2 (mrgB x3 true x2))
def L_ref21_of_L0 (l : Nat) (p q : Nat → Int) (ac : Int) (x : V_ref21_of_L0) : V_ref21_of_L0 := lastL (ok_ref21_of_L0 l p q ac) (go_ref21_of_L0 l p q ac) (step_ref21_of_L0 l p q ac) x
def E_ref21_of_L0 (l : Nat) (p q : Nat → Int) (ac : Int) (x : V_ref21_of_L0) : Bool := endsL (ok_ref21_of_L0 l p q ac) (go_ref21_of_L0 l p q ac) (step_ref21_of_L0 l p q ac) x
theorem all_ref21_of_L0 (l : Nat) (p q : Nat → Int) (u F I J M L Z aa ab ad : Nat → Nat) (ae : Nat → Int) (X : Nat → Nat) (ac : Int) (x : V_ref21_of_L0) : rnd Try.prog false menv69 [] [] 96 Ann.no (subC [1, 0, 1, 0, 0] (codeOf Try.f52)) 0 [] tpl_ref21_of_L0 cts_ref21_of_L0 [false, false, true, true, true, true, true, true, true, true, true, true, true, true, true, true, true, true, true, true, true, true, true, true, true, true, true, true] [] (sh_ref21_of_L0 l p q u F I J M L Z aa ab ad ae X ac x) = (true, true, go_ref21_of_L0 l p q ac x, ok_ref21_of_L0 l p q ac x, true, sh_ref21_of_L0 l p q u F I J M L Z aa ab ad ae X ac (step_ref21_of_L0 l p q ac x), true) := by kernel_rfl
def fam_ref21_of_L0 (l : Nat) (p q : Nat → Int) (u F I J M L Z aa ab ad : Nat → Nat) (ae : Nat → Int) (X : Nat → Nat) (ac : Int) : Fam Try.prog false menv69 [] [] 96 0 Ann.no (subC [1, 0, 1, 0, 0] (codeOf Try.f52)) V_ref21_of_L0 where
  sh := sh_ref21_of_L0 l p q u F I J M L Z aa ab ad ae X ac
  ok := ok_ref21_of_L0 l p q ac
  go := go_ref21_of_L0 l p q ac
  step := step_ref21_of_L0 l p q ac
  chg := [false, false, true, true, true, true, true, true, true, true, true, true, true, true, true, true, true, true, true, true, true, true, true, true, true, true, true, true]
  chgH := []
  tpl := tpl_ref21_of_L0
  cts := cts_ref21_of_L0
  keep := 0
  srcs := []
  ann := (annNo (subC [1, 0, 1, 0, 0] (codeOf Try.f52)))
  le := by kernel_rfl
  kept := by kernel_rfl
  keptB := by kernel_rfl
  all := all_ref21_of_L0 l p q u F I J M L Z aa ab ad ae X ac
  len := fun x => by kernel_rfl
  head := fun x y => by kernel_rfl
  con := fun x y => by kernel_rfl
  conH := fun x y => by kernel_rfl
def F_ref21_of_L0 : St → Option Ch := fun s => cond (Nat.beq s.tm.length 28 && Nat.beq s.H.length 0) (tkCons (alL tpl_ref21_of_L0 s.tm) fun af t0 => tkView 14 af fun s0 f0 => tkCons t0 fun Y t1 => tkI .i64 Y fun s15 => tkTops 3 t1 fun t2 => tkCons t2 fun am t3 => tkI .i64 am fun s16 => tkTops 22 t3 fun t4 => tkNil t4 <| tkNil (alH cts_ref21_of_L0 (s.H ++ List.map phan phs_ref21_of_L0)) <| Fam.out (fam_ref21_of_L0 s0 (iL f0 0) (iL f0 1) (fL f0 2) (fL f0 3) (fL f0 4) (fL f0 5) (fL f0 6) (fL f0 7) (fL f0 8) (fL f0 9) (fL f0 10) (fL f0 11) (iL f0 12) (fL f0 13) s15) s (allB fun i => isNrm [Ck.i .i64, Ck.i .i64, Ck.f, Ck.f, Ck.f, Ck.f, Ck.f, Ck.f, Ck.f, Ck.f, Ck.f, Ck.f, Ck.i .i64, Ck.f] (f0 i)) (V_ref21_of_L0.mk s16)) none
theorem F_ref21_of_L0_ok : ∀ s ch, F_ref21_of_L0 s = some ch → AllI s ch ∧ LoopSpec Try.prog false 0 (subC [1, 0, 1, 0, 0] (codeOf Try.f52)) s (sel ch) := by
  intro s ch h
  unfold F_ref21_of_L0 at h
  obtain ⟨hl, h0⟩ := cond_some h rfl
  clear h
  obtain ⟨hl, hb⟩ := and_beq2 hl
  obtain ⟨af, t0, e0, h1⟩ := tkCons_some h0
  obtain ⟨s0, f0, rfl, h2⟩ := tkView_some h1
  obtain ⟨Y, t1, rfl, h3⟩ := tkCons_some h2
  obtain ⟨s15, rfl, h4⟩ := tkI_some h3
  obtain ⟨t2, rfl, h5⟩ := tkTops_some h4
  obtain ⟨am, t3, rfl, h6⟩ := tkCons_some h5
  obtain ⟨s16, rfl, h7⟩ := tkI_some h6
  obtain ⟨t4, rfl, h8⟩ := tkTops_some h7
  obtain ⟨rfl, h9⟩ := tkNil_some h8
  obtain ⟨eH, h10⟩ := tkNil_some h9
  refine Fam.spec menv69_ok (fam_ref21_of_L0 s0 (iL f0 0) (iL f0 1) (fL f0 2) (fL f0 3) (fL f0 4) (fL f0 5) (fL f0 6) (fL f0 7) (fL f0 8) (fL f0 9) (fL f0 10) (fL f0 11) (iL f0 12) (fL f0 13) s15) (phs := phs_ref21_of_L0) (hl.trans (by kernel_rfl)) (hb.trans (by kernel_rfl)) ?_ ?_ h10
  · rw [← hdr_alH cts_ref21_of_L0 (s.H ++ List.map phan phs_ref21_of_L0), eH]; kernel_rfl
  · intro hq
    have hq0 := hq
    have n0 := nrm_fun hq0
    show sh_ref21_of_L0 s0 (iL f0 0) (iL f0 1) (fL f0 2) (fL f0 3) (fL f0 4) (fL f0 5) (fL f0 6) (fL f0 7) (fL f0 8) (fL f0 9) (fL f0 10) (fL f0 11) (iL f0 12) (fL f0 13) s15 (V_ref21_of_L0.mk s16) = (alL tpl_ref21_of_L0 s.tm, alH cts_ref21_of_L0 (s.H ++ List.map phan phs_ref21_of_L0))
    rw [e0, eH]
    refine Eq.trans (show sh_ref21_of_L0 s0 (iL f0 0) (iL f0 1) (fL f0 2) (fL f0 3) (fL f0 4) (fL f0 5) (fL f0 6) (fL f0 7) (fL f0 8) (fL f0 9) (fL f0 10) (fL f0 11) (iL f0 12) (fL f0 13) s15 (V_ref21_of_L0.mk s16) = T_ref21_of_L0 s0 (iL f0 0) (iL f0 1) (fL f0 2) (fL f0 3) (fL f0 4) (fL f0 5) (fL f0 6) (fL f0 7) (fL f0 8) (fL f0 9) (fL f0 10) (fL f0 11) (iL f0 12) (fL f0 13) s15 (V_ref21_of_L0.mk s16) (fun i => mkN [Ck.i .i64, Ck.i .i64, Ck.f, Ck.f, Ck.f, Ck.f, Ck.f, Ck.f, Ck.f, Ck.f, Ck.f, Ck.f, Ck.i .i64, Ck.f] (f0 i) 0) by kernel_rfl) ?_
    rw [n0]
    kernel_rfl
theorem ann_ref21_of : FnOk Try.prog false 0 Try.f52 (Ann.two Ann.no (Ann.two (Ann.two Ann.no (Ann.one (Ann.loop F_ref21_of_L0))) Ann.no)) := (fnOk_of (c := codeOf Try.f52) (by kernel_rfl) (annSeq (a := (subC [0] (codeOf Try.f52))) (b := (subC [1] (codeOf Try.f52))) (by kernel_rfl) (annNo (subC [0] (codeOf Try.f52))) (annSeq (a := (subC [1, 0] (codeOf Try.f52))) (b := (subC [1, 1] (codeOf Try.f52))) (by kernel_rfl) (annSeq (a := (subC [1, 0, 0] (codeOf Try.f52))) (b := (subC [1, 0, 1] (codeOf Try.f52))) (by kernel_rfl) (annNo (subC [1, 0, 0] (codeOf Try.f52))) (annBlock (a := (subC [1, 0, 1, 0] (codeOf Try.f52))) (i := 0) (by kernel_rfl) (annLoop (a := (subC [1, 0, 1, 0, 0] (codeOf Try.f52))) (by kernel_rfl) F_ref21_of_L0_ok))) (annNo (subC [1, 1] (codeOf Try.f52))))))
def s_ref21_of_0 (j : Nat) (r z : Nat → Int) (C D E O P Q R S T U : Nat → Nat) (V : Nat → Int) (W : Nat → Nat) (Y : Int) : Bool := ((bif (!(ilt ((L_ref21_of_L0 j r z Y (V_ref21_of_L0.mk (0 : Int))).v0) (Int.ofNat j))) then false else ((ieq (r (Int.toNat ((L_ref21_of_L0 j r z Y (V_ref21_of_L0.mk (0 : Int))).v0))) Y) || (ieq (z (Int.toNat ((L_ref21_of_L0 j r z Y (V_ref21_of_L0.mk (0 : Int))).v0))) Y))) && true)
def q_ref21_of (j : Nat) (r z : Nat → Int) (C D E O P Q R S T U : Nat → Nat) (V : Nat → Int) (W : Nat → Nat) (Y : Int) : Bool := (mrgB (bif (!(ilt ((L_ref21_of_L0 j r z Y (V_ref21_of_L0.mk (0 : Int))).v0) (Int.ofNat j))) then false else ((ieq (r (Int.toNat ((L_ref21_of_L0 j r z Y (V_ref21_of_L0.mk (0 : Int))).v0))) Y) || (ieq (z (Int.toNat ((L_ref21_of_L0 j r z Y (V_ref21_of_L0.mk (0 : Int))).v0))) Y))) ((allB fun _ => true) && (E_ref21_of_L0 j r z Y (V_ref21_of_L0.mk (0 : Int)))) ((allB fun _ => true) && (E_ref21_of_L0 j r z Y (V_ref21_of_L0.mk (0 : Int)))))
theorem e_ref21_of (j : Nat) (r z : Nat → Int) (C D E O P Q R S T U : Nat → Nat) (V : Nat → Int) (W : Nat → Nat) (Y : Int) : outB (evFnM Try.prog false menv69 [] [] 96 (Ann.two Ann.no (Ann.two (Ann.two Ann.no (Ann.one (Ann.loop F_ref21_of_L0))) Ann.no)) Try.f52 [AV.view j 14 (fun i0 => [AV.int .i64 (r i0), AV.int .i64 (z i0), AV.float (C i0), AV.float (D i0), AV.float (E i0), AV.float (O i0), AV.float (P i0), AV.float (Q i0), AV.float (R i0), AV.float (S i0), AV.float (T i0), AV.float (U i0), AV.int .i64 (V i0), AV.float (W i0)]), AV.int .i64 Y] []) = some (q_ref21_of j r z C D E O P Q R S T U V W Y, AV.bool (s_ref21_of_0 j r z C D E O P Q R S T U V W Y)) := by kernel_rfl
def o_ref21_of (j : Nat) (r z : Nat → Int) (C D E O P Q R S T U : Nat → Nat) (V : Nat → Int) (W : Nat → Nat) (Y : Int) : Bool := (mrgB (bif (!(ilt ((L_ref21_of_L0 j r z Y (V_ref21_of_L0.mk (0 : Int))).v0) (Int.ofNat j))) then false else ((ieq (r (Int.toNat ((L_ref21_of_L0 j r z Y (V_ref21_of_L0.mk (0 : Int))).v0))) Y) || (ieq (z (Int.toNat ((L_ref21_of_L0 j r z Y (V_ref21_of_L0.mk (0 : Int))).v0))) Y))) (E_ref21_of_L0 j r z Y (V_ref21_of_L0.mk (0 : Int))) (E_ref21_of_L0 j r z Y (V_ref21_of_L0.mk (0 : Int))))
def S_ref21_of : List AV → Option (Ob × AV)
  | [AV.view j 14 e, AV.int .i64 Y] => some (Ob.both (Ob.bit (allB fun i => isNrm [Ck.i .i64, Ck.i .i64, Ck.f, Ck.f, Ck.f, Ck.f, Ck.f, Ck.f, Ck.f, Ck.f, Ck.f, Ck.f, Ck.i .i64, Ck.f] (e i))) (Ob.bit (o_ref21_of j (iL e 0) (iL e 1) (fL e 2) (fL e 3) (fL e 4) (fL e 5) (fL e 6) (fL e 7) (fL e 8) (fL e 9) (fL e 10) (fL e 11) (iL e 12) (fL e 13) Y)), AV.bool (s_ref21_of_0 j (iL e 0) (iL e 1) (fL e 2) (fL e 3) (fL e 4) (fL e 5) (fL e 6) (fL e 7) (fL e 8) (fL e 9) (fL e 10) (fL e 11) (iL e 12) (fL e 13) Y))
  | _ => none
theorem ob_ref21_of (j : Nat) (r z : Nat → Int) (C D E O P Q R S T U : Nat → Nat) (V : Nat → Int) (W : Nat → Nat) (Y : Int) (ho : o_ref21_of j r z C D E O P Q R S T U V W Y = true) : q_ref21_of j r z C D E O P Q R S T U V W Y = true := by
  unfold q_ref21_of
  unfold o_ref21_of at ho
  simp only [allB_true, eqT_self, mrgB_self, Bool.true_and, Bool.and_true] at ho ⊢
  exact ho
theorem t_ref21_of : SOkM Try.prog false (52, fun args => match S_ref21_of args with | some (o, v) => some (o, v, []) | none => none) := SOkM.flat (N := 96) menv69_ok Try.func52 ann_ref21_of Try.call52 fun args o v h ho => by
  unfold S_ref21_of at h
  split at h
  · rename_i j e Y
    cases h
    rw [Ob.both_ok, Bool.and_eq_true] at ho
    obtain ⟨hn, ho2⟩ := ho
    have n0 := hn
    simp only [Ob.ok] at n0
    replace n0 := nrm_fun n0
    have this := show outB (evFnM Try.prog false menv69 [] [] 96 (Ann.two Ann.no (Ann.two (Ann.two Ann.no (Ann.one (Ann.loop F_ref21_of_L0))) Ann.no)) Try.f52 [AV.view j 14 (fun i => mkN [Ck.i .i64, Ck.i .i64, Ck.f, Ck.f, Ck.f, Ck.f, Ck.f, Ck.f, Ck.f, Ck.f, Ck.f, Ck.f, Ck.i .i64, Ck.f] (e i) 0), AV.int .i64 Y] []) = _ from e_ref21_of j (iL e 0) (iL e 1) (fL e 2) (fL e 3) (fL e 4) (fL e 5) (fL e 6) (fL e 7) (fL e 8) (fL e 9) (fL e 10) (fL e 11) (iL e 12) (fL e 13) Y
    rw [(ob_ref21_of j (iL e 0) (iL e 1) (fL e 2) (fL e 3) (fL e 4) (fL e 5) (fL e 6) (fL e 7) (fL e 8) (fL e 9) (fL e 10) (fL e 11) (iL e 12) (fL e 13) Y ho2)] at this
    rw [n0] at this
    exact ⟨this, rfl⟩
  · cases h
def c_ref21_of : SFM := fun args => match S_ref21_of args with | some (o, v) => some (o, v, []) | none => none
theorem c_ref21_of_ok : SOkM Try.prog false (52, c_ref21_of) := t_ref21_of
def mss70 : List (FuncId × SFM) := (52, c_ref21_of) :: mss69
def menv70 : EnvM := mkEnvM mxs mss70 mws1
theorem mss70_ok : All (SOkM Try.prog false) mss70 := All.cons c_ref21_of_ok mss69_ok
theorem menv70_ok : menv70.Ok Try.prog false := mkEnvM_ok mxs_ok mss70_ok mws1_ok
-- tumble/tumbleref21.Apart
-- a loop of tumble/tumbleref21.Apart
structure V_ref21_Apart_L0 where
  v0 : Int
def tpl_ref21_Apart_L0 : List AV := [AV.nul, AV.nul, AV.nul, AV.top, AV.top, AV.top, AV.top, AV.top, AV.top, AV.nul, AV.top, AV.top, AV.top, AV.top, AV.top, AV.top, AV.top, AV.top, AV.top, AV.top, AV.top, AV.top, AV.top, AV.top, AV.top, AV.top, AV.top, AV.top, AV.top, AV.top, AV.top, AV.top, AV.top, AV.top, AV.top, AV.top, AV.top, AV.top, AV.top, AV.top, AV.top, AV.top, AV.top]
def cts_ref21_Apart_L0 : List CT := []
def phs_ref21_Apart_L0 : List Src := []
def T_ref21_Apart_L0 (l : Nat) (p q : Nat → Int) (u F I J M L Z aa ab ad : Nat → Nat) (ae : Nat → Int) (X : Nat → Nat) (ac : Nat) (ag al : Nat → Int) (aB aD aE ay aP aQ aR aS aT aU : Nat → Nat) (aV : Nat → Int) (aW : Nat → Nat) (bh : Nat) (bi bb bj bk bl : Nat → Nat) (x : V_ref21_Apart_L0) (F0 F1 F2 : Nat → List AV) : List AV × Heap := ([AV.view l 14 F0, AV.view ac 14 F1, AV.view bh 5 F2, AV.top, AV.top, AV.top, AV.top, AV.top, AV.top, AV.int .i64 x.v0, AV.top, AV.top, AV.top, AV.top, AV.top, AV.top, AV.top, AV.top, AV.top, AV.top, AV.top, AV.top, AV.top, AV.top, AV.top, AV.top, AV.top, AV.top, AV.top, AV.top, AV.top, AV.top, AV.top, AV.top, AV.top, AV.top, AV.top, AV.top, AV.top, AV.top, AV.top, AV.top, AV.top], [])
def sh_ref21_Apart_L0 (l : Nat) (p q : Nat → Int) (u F I J M L Z aa ab ad : Nat → Nat) (ae : Nat → Int) (X : Nat → Nat) (ac : Nat) (ag al : Nat → Int) (aB aD aE ay aP aQ aR aS aT aU : Nat → Nat) (aV : Nat → Int) (aW : Nat → Nat) (bh : Nat) (bi bb bj bk bl : Nat → Nat) (x : V_ref21_Apart_L0) : List AV × Heap := T_ref21_Apart_L0 l p q u F I J M L Z aa ab ad ae X ac ag al aB aD aE ay aP aQ aR aS aT aU aV aW bh bi bb bj bk bl x (fun j0 => [AV.int .i64 (p j0), AV.int .i64 (q j0), AV.float (u j0), AV.float (F j0), AV.float (I j0), AV.float (J j0), AV.float (M j0), AV.float (L j0), AV.float (Z j0), AV.float (aa j0), AV.float (ab j0), AV.float (ad j0), AV.int .i64 (ae j0), AV.float (X j0)]) (fun j0 => [AV.int .i64 (ag j0), AV.int .i64 (al j0), AV.float (aB j0), AV.float (aD j0), AV.float (aE j0), AV.float (ay j0), AV.float (aP j0), AV.float (aQ j0), AV.float (aR j0), AV.float (aS j0), AV.float (aT j0), AV.float (aU j0), AV.int .i64 (aV j0), AV.float (aW j0)]) (fun j0 => [AV.float (bi j0), AV.float (bb j0), AV.float (bj j0), AV.float (bk j0), AV.float (bl j0)])
def step_ref21_Apart_L0 (l : Nat) (p q : Nat → Int) (u F I J M L Z aa ab ad : Nat → Nat) (ae : Nat → Int) (X : Nat → Nat) (ac : Nat) (ag al : Nat → Int) (aB aD aE ay aP aQ aR aS aT aU : Nat → Nat) (aV : Nat → Int) (aW : Nat → Nat) (bh : Nat) (bi bb bj bk bl : Nat → Nat) (x : V_ref21_Apart_L0) : V_ref21_Apart_L0 := V_ref21_Apart_L0.mk (IntKind.wrap .i64 (x.v0 + (1 : Int)))
def go_ref21_Apart_L0 (l : Nat) (p q : Nat → Int) (u F I J M L Z aa ab ad : Nat → Nat) (ae : Nat → Int) (X : Nat → Nat) (ac : Nat) (ag al : Nat → Int) (aB aD aE ay aP aQ aR aS aT aU : Nat → Nat) (aV : Nat → Int) (aW : Nat → Nat) (bh : Nat) (bi bb bj bk bl : Nat → Nat) (x : V_ref21_Apart_L0) : Bool := let x0 := !(ilt x.v0 (Int.ofNat bh)); (bif (bif x0 then false else (((s_ref21_Moved_0 (bi (Int.toNat x.v0)) (bb (Int.toNat x.v0)) (bj (Int.toNat x.v0)) (bk (Int.toNat x.v0)) (bl (Int.toNat x.v0))) && (s_ref21_of_0 l p q u F I J M L Z aa ab ad ae X x.v0)) && (s_ref21_of_0 ac ag al aB aD aE ay aP aQ aR aS aT aU aV aW x.v0))) then false else (bif x0 then false else true))
def ok_ref21_Apart_L0 (l : Nat) (p q : Nat → Int) (u F I J M L Z aa ab ad : Nat → Nat) (ae : Nat → Int) (X : Nat → Nat) (ac : Nat) (ag al : Nat → Int) (aB aD aE ay aP aQ aR aS aT aU : Nat → Nat) (aV : Nat → Int) (aW : Nat → Nat) (bh : Nat) (bi bb bj bk bl : Nat → Nat) (x : V_ref21_Apart_L0) : Bool := let x0 := (ile (0 : Int) x.v0) && (Nat.blt (Int.toNat x.v0) bh); let x1 := s_ref21_Moved_0 (bi (Int.toNat x.v0)) (bb (Int.toNat x.v0)) (bj (Int.toNat x.v0)) (bk (Int.toNat x.v0)) (bl (Int.toNat x.v0)); let x2 := mrgB x1 (((allB fun _ => true) && (o_ref21_of l p q u F I J M L Z aa ab ad ae X x.v0)) && x0) x0; let x3 := x1 && (s_ref21_of_0 l p q u F I J M L Z aa ab ad ae X x.v0); let x4 := mrgB x3 (((allB fun _ => true) && (o_ref21_of ac ag al aB aD aE ay aP aQ aR aS aT aU aV aW x.v0)) && x2) x2; let x5 := !(ilt x.v0 (Int.ofNat bh)); (mrgB (bif x5 then false else (x3 && (s_ref21_of_0 ac ag al aB aD aE ay aP aQ aR aS aT aU aV aW x.v0))) x4 (mrgB x5 true x4))
def L_ref21_Apart_L0 (l : Nat) (p q : Nat → Int) (u F I J M L Z aa ab ad : Nat → Nat) (ae : Nat → Int) (X : Nat → Nat) (ac : Nat) (ag al : Nat → Int) (aB aD aE ay aP aQ aR aS aT aU : Nat → Nat) (aV : Nat → Int) (aW : Nat → Nat) (bh : Nat) (bi bb bj bk bl : Nat → Nat) (x : V_ref21_Apart_L0) : V_ref21_Apart_L0 := lastL (ok_ref21_Apart_L0 l p q u F I J M L Z aa ab ad ae X ac ag al aB aD aE ay aP aQ aR aS aT aU aV aW bh bi bb bj bk bl) (go_ref21_Apart_L0 l p q u F I J M L Z aa ab ad ae X ac ag al aB aD aE ay aP aQ aR aS aT aU aV aW bh bi bb bj bk bl) (step_ref21_Apart_L0 l p q u F I J M L Z aa ab ad ae X ac ag al aB aD aE ay aP aQ aR aS aT aU aV aW bh bi bb bj bk bl) x
def E_ref21_Apart_L0 (l : Nat) (p q : Nat → Int) (u F I J M L Z aa ab ad : Nat → Nat) (ae : Nat → Int) (X : Nat → Nat) (ac : Nat) (ag al : Nat → Int) (aB aD aE ay aP aQ aR aS aT aU : Nat → Nat) (aV : Nat → Int) (aW : Nat → Nat) (bh : Nat) (bi bb bj bk bl : Nat → Nat) (x : V_ref21_Apart_L0) : Bool := endsL (ok_ref21_Apart_L0 l p q u F I J M L Z aa ab ad ae X ac ag al aB aD aE ay aP aQ aR aS aT aU aV aW bh bi bb bj bk bl) (go_ref21_Apart_L0 l p q u F I J M L Z aa ab ad ae X ac ag al aB aD aE ay aP aQ aR aS aT aU aV aW bh bi bb bj bk bl) (step_ref21_Apart_L0 l p q u F I J M L Z aa ab ad ae X ac ag al aB aD aE ay aP aQ aR aS aT aU aV aW bh bi bb bj bk bl) x
theorem all_ref21_Apart_L0 (l : Nat) (p q : Nat → Int) (u F I J M L Z aa ab ad : Nat → Nat) (ae : Nat → Int) (X : Nat → Nat) (ac : Nat) (ag al : Nat → Int) (aB aD aE ay aP aQ aR aS aT aU : Nat → Nat) (aV : Nat → Int) (aW : Nat → Nat) (bh : Nat) (bi bb bj bk bl : Nat → Nat) (x : V_ref21_Apart_L0) : rnd Try.prog false menv70 [] [] 96 Ann.no (subC [1, 1, 1, 1, 1, 0, 1, 0, 0] (codeOf Try.f22)) 0 [] tpl_ref21_Apart_L0 cts_ref21_Apart_L0 [false, false, false, true, true, true, true, true, true, true, true, true, true, true, true, true, true, true, true, true, true, true, true, true, true, true, true, true, true, true, true, true, true, true, true, true, true, true, true, true, true, true, true] [] (sh_ref21_Apart_L0 l p q u F I J M L Z aa ab ad ae X ac ag al aB aD aE ay aP aQ aR aS aT aU aV aW bh bi bb bj bk bl x) = (true, true, go_ref21_Apart_L0 l p q u F I J M L Z aa ab ad ae X ac ag al aB aD aE ay aP aQ aR aS aT aU aV aW bh bi bb bj bk bl x, ok_ref21_Apart_L0 l p q u F I J M L Z aa ab ad ae X ac ag al aB aD aE ay aP aQ aR aS aT aU aV aW bh bi bb bj bk bl x, true, sh_ref21_Apart_L0 l p q u F I J M L Z aa ab ad ae X ac ag al aB aD aE ay aP aQ aR aS aT aU aV aW bh bi bb bj bk bl (step_ref21_Apart_L0 l p q u F I J M L Z aa ab ad ae X ac ag al aB aD aE ay aP aQ aR aS aT aU aV aW bh bi bb bj bk bl x), true) := by kernel_rfl
def fam_ref21_Apart_L0 (l : Nat) (p q : Nat → Int) (u F I J M L Z aa ab ad : Nat → Nat) (ae : Nat → Int) (X : Nat → Nat) (ac : Nat) (ag al : Nat → Int) (aB aD aE ay aP aQ aR aS aT aU : Nat → Nat) (aV : Nat → Int) (aW : Nat → Nat) (bh : Nat) (bi bb bj bk bl : Nat → Nat) : Fam Try.prog false menv70 [] [] 96 0 Ann.no (subC [1, 1, 1, 1, 1, 0, 1, 0, 0] (codeOf Try.f22)) V_ref21_Apart_L0 where
  sh := sh_ref21_Apart_L0 l p q u F I J M L Z aa ab ad ae X ac ag al aB aD aE ay aP aQ aR aS aT aU aV aW bh bi bb bj bk bl
  ok := ok_ref21_Apart_L0 l p q u F I J M L Z aa ab ad ae X ac ag al aB aD aE ay aP aQ aR aS aT aU aV aW bh bi bb bj bk bl
  go := go_ref21_Apart_L0 l p q u F I J M L Z aa ab ad ae X ac ag al aB aD aE ay aP aQ aR aS aT aU aV aW bh bi bb bj bk bl
  step := step_ref21_Apart_L0 l p q u F I J M L Z aa ab ad ae X ac ag al aB aD aE ay aP aQ aR aS aT aU aV aW bh bi bb bj bk bl
  chg := [false, false, false, true, true, true, true, true, true, true, true, true, true, true, true, true, true, true, true, true, true, true, true, true, true, true, true, true, true, true, true, true, true, true, true, true, true, true, true, true, true, true, true]
  chgH := []
  tpl := tpl_ref21_Apart_L0
  cts := cts_ref21_Apart_L0
  keep := 0
  srcs := []
  ann := (annNo (subC [1, 1, 1, 1, 1, 0, 1, 0, 0] (codeOf Try.f22)))
  le := by kernel_rfl
  kept := by kernel_rfl
  keptB := by kernel_rfl
  all := all_ref21_Apart_L0 l p q u F I J M L Z aa ab ad ae X ac ag al aB aD aE ay aP aQ aR aS aT aU aV aW bh bi bb bj bk bl
  len := fun x => by kernel_rfl
  head := fun x y => by kernel_rfl
  con := fun x y => by kernel_rfl
  conH := fun x y => by kernel_rfl
def F_ref21_Apart_L0 : St → Option Ch := fun s => cond (Nat.beq s.tm.length 43 && Nat.beq s.H.length 0) (tkCons (alL tpl_ref21_Apart_L0 s.tm) fun af t0 => tkView 14 af fun s0 f0 => tkCons t0 fun Y t1 => tkView 14 Y fun s15 f1 => tkCons t1 fun aA t2 => tkView 5 aA fun s30 f2 => tkTops 6 t2 fun t3 => tkCons t3 fun az t4 => tkI .i64 az fun s36 => tkTops 33 t4 fun t5 => tkNil t5 <| tkNil (alH cts_ref21_Apart_L0 (s.H ++ List.map phan phs_ref21_Apart_L0)) <| Fam.out (fam_ref21_Apart_L0 s0 (iL f0 0) (iL f0 1) (fL f0 2) (fL f0 3) (fL f0 4) (fL f0 5) (fL f0 6) (fL f0 7) (fL f0 8) (fL f0 9) (fL f0 10) (fL f0 11) (iL f0 12) (fL f0 13) s15 (iL f1 0) (iL f1 1) (fL f1 2) (fL f1 3) (fL f1 4) (fL f1 5) (fL f1 6) (fL f1 7) (fL f1 8) (fL f1 9) (fL f1 10) (fL f1 11) (iL f1 12) (fL f1 13) s30 (fL f2 0) (fL f2 1) (fL f2 2) (fL f2 3) (fL f2 4)) s (((allB fun i => isNrm [Ck.i .i64, Ck.i .i64, Ck.f, Ck.f, Ck.f, Ck.f, Ck.f, Ck.f, Ck.f, Ck.f, Ck.f, Ck.f, Ck.i .i64, Ck.f] (f0 i)) && (allB fun i => isNrm [Ck.i .i64, Ck.i .i64, Ck.f, Ck.f, Ck.f, Ck.f, Ck.f, Ck.f, Ck.f, Ck.f, Ck.f, Ck.f, Ck.i .i64, Ck.f] (f1 i))) && (allB fun i => isNrm [Ck.f, Ck.f, Ck.f, Ck.f, Ck.f] (f2 i))) (V_ref21_Apart_L0.mk s36)) none
theorem F_ref21_Apart_L0_ok : ∀ s ch, F_ref21_Apart_L0 s = some ch → AllI s ch ∧ LoopSpec Try.prog false 0 (subC [1, 1, 1, 1, 1, 0, 1, 0, 0] (codeOf Try.f22)) s (sel ch) := by
  intro s ch h
  unfold F_ref21_Apart_L0 at h
  obtain ⟨hl, h0⟩ := cond_some h rfl
  clear h
  obtain ⟨hl, hb⟩ := and_beq2 hl
  obtain ⟨af, t0, e0, h1⟩ := tkCons_some h0
  obtain ⟨s0, f0, rfl, h2⟩ := tkView_some h1
  obtain ⟨Y, t1, rfl, h3⟩ := tkCons_some h2
  obtain ⟨s15, f1, rfl, h4⟩ := tkView_some h3
  obtain ⟨aA, t2, rfl, h5⟩ := tkCons_some h4
  obtain ⟨s30, f2, rfl, h6⟩ := tkView_some h5
  obtain ⟨t3, rfl, h7⟩ := tkTops_some h6
  obtain ⟨az, t4, rfl, h8⟩ := tkCons_some h7
  obtain ⟨s36, rfl, h9⟩ := tkI_some h8
  obtain ⟨t5, rfl, h10⟩ := tkTops_some h9
  obtain ⟨rfl, h11⟩ := tkNil_some h10
  obtain ⟨eH, h12⟩ := tkNil_some h11
  refine Fam.spec menv70_ok (fam_ref21_Apart_L0 s0 (iL f0 0) (iL f0 1) (fL f0 2) (fL f0 3) (fL f0 4) (fL f0 5) (fL f0 6) (fL f0 7) (fL f0 8) (fL f0 9) (fL f0 10) (fL f0 11) (iL f0 12) (fL f0 13) s15 (iL f1 0) (iL f1 1) (fL f1 2) (fL f1 3) (fL f1 4) (fL f1 5) (fL f1 6) (fL f1 7) (fL f1 8) (fL f1 9) (fL f1 10) (fL f1 11) (iL f1 12) (fL f1 13) s30 (fL f2 0) (fL f2 1) (fL f2 2) (fL f2 3) (fL f2 4)) (phs := phs_ref21_Apart_L0) (hl.trans (by kernel_rfl)) (hb.trans (by kernel_rfl)) ?_ ?_ h12
  · rw [← hdr_alH cts_ref21_Apart_L0 (s.H ++ List.map phan phs_ref21_Apart_L0), eH]; kernel_rfl
  · intro hq
    simp only [Bool.and_eq_true] at hq
    obtain ⟨⟨hq0, hq1⟩, hq2⟩ := hq
    have n0 := nrm_fun hq0
    have n1 := nrm_fun hq1
    have n2 := nrm_fun hq2
    show sh_ref21_Apart_L0 s0 (iL f0 0) (iL f0 1) (fL f0 2) (fL f0 3) (fL f0 4) (fL f0 5) (fL f0 6) (fL f0 7) (fL f0 8) (fL f0 9) (fL f0 10) (fL f0 11) (iL f0 12) (fL f0 13) s15 (iL f1 0) (iL f1 1) (fL f1 2) (fL f1 3) (fL f1 4) (fL f1 5) (fL f1 6) (fL f1 7) (fL f1 8) (fL f1 9) (fL f1 10) (fL f1 11) (iL f1 12) (fL f1 13) s30 (fL f2 0) (fL f2 1) (fL f2 2) (fL f2 3) (fL f2 4) (V_ref21_Apart_L0.mk s36) = (alL tpl_ref21_Apart_L0 s.tm, alH cts_ref21_Apart_L0 (s.H ++ List.map phan phs_ref21_Apart_L0))
    rw [e0, eH]
    refine Eq.trans (show sh_ref21_Apart_L0 s0 (iL f0 0) (iL f0 1) (fL f0 2) (fL f0 3) (fL f0 4) (fL f0 5) (fL f0 6) (fL f0 7) (fL f0 8) (fL f0 9) (fL f0 10) (fL f0 11) (iL f0 12) (fL f0 13) s15 (iL f1 0) (iL f1 1) (fL f1 2) (fL f1 3) (fL f1 4) (fL f1 5) (fL f1 6) (fL f1 7) (fL f1 8) (fL f1 9) (fL f1 10) (fL f1 11) (iL f1 12) (fL f1 13) s30 (fL f2 0) (fL f2 1) (fL f2 2) (fL f2 3) (fL f2 4) (V_ref21_Apart_L0.mk s36) = T_ref21_Apart_L0 s0 (iL f0 0) (iL f0 1) (fL f0 2) (fL f0 3) (fL f0 4) (fL f0 5) (fL f0 6) (fL f0 7) (fL f0 8) (fL f0 9) (fL f0 10) (fL f0 11) (iL f0 12) (fL f0 13) s15 (iL f1 0) (iL f1 1) (fL f1 2) (fL f1 3) (fL f1 4) (fL f1 5) (fL f1 6) (fL f1 7) (fL f1 8) (fL f1 9) (fL f1 10) (fL f1 11) (iL f1 12) (fL f1 13) s30 (fL f2 0) (fL f2 1) (fL f2 2) (fL f2 3) (fL f2 4) (V_ref21_Apart_L0.mk s36) (fun i => mkN [Ck.i .i64, Ck.i .i64, Ck.f, Ck.f, Ck.f, Ck.f, Ck.f, Ck.f, Ck.f, Ck.f, Ck.f, Ck.f, Ck.i .i64, Ck.f] (f0 i) 0) (fun i => mkN [Ck.i .i64, Ck.i .i64, Ck.f, Ck.f, Ck.f, Ck.f, Ck.f, Ck.f, Ck.f, Ck.f, Ck.f, Ck.f, Ck.i .i64, Ck.f] (f1 i) 0) (fun i => mkN [Ck.f, Ck.f, Ck.f, Ck.f, Ck.f] (f2 i) 0) by kernel_rfl) ?_
    rw [n0, n1, n2]
    kernel_rfl
theorem ann_ref21_Apart : FnOk Try.prog false 0 Try.f22 (Ann.two Ann.no (Ann.two Ann.no (Ann.two Ann.no (Ann.two Ann.no (Ann.two Ann.no (Ann.two (Ann.two Ann.no (Ann.one (Ann.loop F_ref21_Apart_L0))) Ann.no)))))) := (fnOk_of (c := codeOf Try.f22) (by kernel_rfl) (annSeq (a := (subC [0] (codeOf Try.f22))) (b := (subC [1] (codeOf Try.f22))) (by kernel_rfl) (annNo (subC [0] (codeOf Try.f22))) (annSeq (a := (subC [1, 0] (codeOf Try.f22))) (b := (subC [1, 1] (codeOf Try.f22))) (by kernel_rfl) (annNo (subC [1, 0] (codeOf Try.f22))) (annSeq (a := (subC [1, 1, 0] (codeOf Try.f22))) (b := (subC [1, 1, 1] (codeOf Try.f22))) (by kernel_rfl) (annNo (subC [1, 1, 0] (codeOf Try.f22))) (annSeq (a := (subC [1, 1, 1, 0] (codeOf Try.f22))) (b := (subC [1, 1, 1, 1] (codeOf Try.f22))) (by kernel_rfl) (annNo (subC [1, 1, 1, 0] (codeOf Try.f22))) (annSeq (a := (subC [1, 1, 1, 1, 0] (codeOf Try.f22))) (b := (subC [1, 1, 1, 1, 1] (codeOf Try.f22))) (by kernel_rfl) (annNo (subC [1, 1, 1, 1, 0] (codeOf Try.f22))) (annSeq (a := (subC [1, 1, 1, 1, 1, 0] (codeOf Try.f22))) (b := (subC [1, 1, 1, 1, 1, 1] (codeOf Try.f22))) (by kernel_rfl) (annSeq (a := (subC [1, 1, 1, 1, 1, 0, 0] (codeOf Try.f22))) (b := (subC [1, 1, 1, 1, 1, 0, 1] (codeOf Try.f22))) (by kernel_rfl) (annNo (subC [1, 1, 1, 1, 1, 0, 0] (codeOf Try.f22))) (annBlock (a := (subC [1, 1, 1, 1, 1, 0, 1, 0] (codeOf Try.f22))) (i := 0) (by kernel_rfl) (annLoop (a := (subC [1, 1, 1, 1, 1, 0, 1, 0, 0] (codeOf Try.f22))) (by kernel_rfl) F_ref21_Apart_L0_ok))) (annNo (subC [1, 1, 1, 1, 1, 1] (codeOf Try.f22))))))))))
def s_ref21_Apart_0 (j : Nat) (r z : Nat → Int) (C D E O P Q R S T U : Nat → Nat) (V : Nat → Int) (W : Nat → Nat) (m : Nat) (K ah : Nat → Int) (ai aj ak an ao ap aq ar au av : Nat → Nat) (aw : Nat → Int) (ax : Nat → Nat) (aC : Nat) (aK aL aM aN aO : Nat → Nat) : Bool := let x0 := (L_ref21_Apart_L0 j r z C D E O P Q R S T U V W m K ah ai aj ak an ao ap aq ar au av aw ax aC aK aL aM aN aO (V_ref21_Apart_L0.mk (0 : Int))).v0; let x1 := Int.toNat x0; (bif (!(ieq (s_ref21_Asked_0 j r z C D E O P Q R S T U V W aC aK aL aM aN aO) (0 : Int))) then false else (bif (!(ieq (s_ref21_Asked_0 m K ah ai aj ak an ao ap aq ar au av aw ax aC aK aL aM aN aO) (0 : Int))) then false else (bif (bif (!(ilt x0 (Int.ofNat aC))) then false else (((s_ref21_Moved_0 (aK x1) (aL x1) (aM x1) (aN x1) (aO x1)) && (s_ref21_of_0 j r z C D E O P Q R S T U V W x0)) && (s_ref21_of_0 m K ah ai aj ak an ao ap aq ar au av aw ax x0))) then false else true)))
def s_ref21_Apart_1 (j : Nat) (r z : Nat → Int) (C D E O P Q R S T U : Nat → Nat) (V : Nat → Int) (W : Nat → Nat) (m : Nat) (K ah : Nat → Int) (ai aj ak an ao ap aq ar au av : Nat → Nat) (aw : Nat → Int) (ax : Nat → Nat) (aC : Nat) (aK aL aM aN aO : Nat → Nat) : Int := let x0 := (L_ref21_Apart_L0 j r z C D E O P Q R S T U V W m K ah ai aj ak an ao ap aq ar au av aw ax aC aK aL aM aN aO (V_ref21_Apart_L0.mk (0 : Int))).v0; let x1 := Int.toNat x0; let x2 := s_ref21_Asked_0 m K ah ai aj ak an ao ap aq ar au av aw ax aC aK aL aM aN aO; let x3 := s_ref21_Asked_0 j r z C D E O P Q R S T U V W aC aK aL aM aN aO; (bif (!(ieq x3 (0 : Int))) then x3 else (bif (!(ieq x2 (0 : Int))) then x2 else (bif (bif (!(ilt x0 (Int.ofNat aC))) then false else (((s_ref21_Moved_0 (aK x1) (aL x1) (aM x1) (aN x1) (aO x1)) && (s_ref21_of_0 j r z C D E O P Q R S T U V W x0)) && (s_ref21_of_0 m K ah ai aj ak an ao ap aq ar au av aw ax x0))) then (0 : Int) else (0 : Int))))
def q_ref21_Apart (j : Nat) (r z : Nat → Int) (C D E O P Q R S T U : Nat → Nat) (V : Nat → Int) (W : Nat → Nat) (m : Nat) (K ah : Nat → Int) (ai aj ak an ao ap aq ar au av : Nat → Nat) (aw : Nat → Int) (ax : Nat → Nat) (aC : Nat) (aK aL aM aN aO : Nat → Nat) : Bool := (let x0 := ((allB fun _ => true) && (allB fun _ => true)) && (o_ref21_Asked j r z C D E O P Q R S T U V W aC aK aL aM aN aO); let x1 := (((allB fun _ => true) && (allB fun _ => true)) && (o_ref21_Asked m K ah ai aj ak an ao ap aq ar au av aw ax aC aK aL aM aN aO)) && x0; let x2 := x1 && ((((allB fun _ => true) && (allB fun _ => true)) && (allB fun _ => true)) && (E_ref21_Apart_L0 j r z C D E O P Q R S T U V W m K ah ai aj ak an ao ap aq ar au av aw ax aC aK aL aM aN aO (V_ref21_Apart_L0.mk (0 : Int)))); let x3 := (L_ref21_Apart_L0 j r z C D E O P Q R S T U V W m K ah ai aj ak an ao ap aq ar au av aw ax aC aK aL aM aN aO (V_ref21_Apart_L0.mk (0 : Int))).v0; let x4 := Int.toNat x3; (mrgB (!(ieq (s_ref21_Asked_0 j r z C D E O P Q R S T U V W aC aK aL aM aN aO) (0 : Int))) x0 (mrgB (!(ieq (s_ref21_Asked_0 m K ah ai aj ak an ao ap aq ar au av aw ax aC aK aL aM aN aO) (0 : Int))) x1 (mrgB (bif (!(ilt x3 (Int.ofNat aC))) then false else (((s_ref21_Moved_0 (aK x4) (aL x4) (aM x4) (aN x4) (aO x4)) && (s_ref21_of_0 j r z C D E O P Q R S T U V W x3)) && (s_ref21_of_0 m K ah ai aj ak an ao ap aq ar au av aw ax x3))) x2 x2))))
theorem e_ref21_Apart (j : Nat) (r z : Nat → Int) (C D E O P Q R S T U : Nat → Nat) (V : Nat → Int) (W : Nat → Nat) (m : Nat) (K ah : Nat → Int) (ai aj ak an ao ap aq ar au av : Nat → Nat) (aw : Nat → Int) (ax : Nat → Nat) (aC : Nat) (aK aL aM aN aO : Nat → Nat) : outB (evFnM Try.prog false menv70 [] [] 96 (Ann.two Ann.no (Ann.two Ann.no (Ann.two Ann.no (Ann.two Ann.no (Ann.two Ann.no (Ann.two (Ann.two Ann.no (Ann.one (Ann.loop F_ref21_Apart_L0))) Ann.no)))))) Try.f22 [AV.view j 14 (fun i0 => [AV.int .i64 (r i0), AV.int .i64 (z i0), AV.float (C i0), AV.float (D i0), AV.float (E i0), AV.float (O i0), AV.float (P i0), AV.float (Q i0), AV.float (R i0), AV.float (S i0), AV.float (T i0), AV.float (U i0), AV.int .i64 (V i0), AV.float (W i0)]), AV.view m 14 (fun i0 => [AV.int .i64 (K i0), AV.int .i64 (ah i0), AV.float (ai i0), AV.float (aj i0), AV.float (ak i0), AV.float (an i0), AV.float (ao i0), AV.float (ap i0), AV.float (aq i0), AV.float (ar i0), AV.float (au i0), AV.float (av i0), AV.int .i64 (aw i0), AV.float (ax i0)]), AV.view aC 5 (fun i0 => [AV.float (aK i0), AV.float (aL i0), AV.float (aM i0), AV.float (aN i0), AV.float (aO i0)])] []) = some (q_ref21_Apart j r z C D E O P Q R S T U V W m K ah ai aj ak an ao ap aq ar au av aw ax aC aK aL aM aN aO, AV.tup [AV.bool (s_ref21_Apart_0 j r z C D E O P Q R S T U V W m K ah ai aj ak an ao ap aq ar au av aw ax aC aK aL aM aN aO), AV.int .i64 (s_ref21_Apart_1 j r z C D E O P Q R S T U V W m K ah ai aj ak an ao ap aq ar au av aw ax aC aK aL aM aN aO)]) := by kernel_rfl
def o_ref21_Apart (j : Nat) (r z : Nat → Int) (C D E O P Q R S T U : Nat → Nat) (V : Nat → Int) (W : Nat → Nat) (m : Nat) (K ah : Nat → Int) (ai aj ak an ao ap aq ar au av : Nat → Nat) (aw : Nat → Int) (ax : Nat → Nat) (aC : Nat) (aK aL aM aN aO : Nat → Nat) : Bool := let x0 := o_ref21_Asked j r z C D E O P Q R S T U V W aC aK aL aM aN aO; let x1 := (o_ref21_Asked m K ah ai aj ak an ao ap aq ar au av aw ax aC aK aL aM aN aO) && x0; let x2 := x1 && (E_ref21_Apart_L0 j r z C D E O P Q R S T U V W m K ah ai aj ak an ao ap aq ar au av aw ax aC aK aL aM aN aO (V_ref21_Apart_L0.mk (0 : Int))); let x3 := (L_ref21_Apart_L0 j r z C D E O P Q R S T U V W m K ah ai aj ak an ao ap aq ar au av aw ax aC aK aL aM aN aO (V_ref21_Apart_L0.mk (0 : Int))).v0; let x4 := Int.toNat x3; (mrgB (!(ieq (s_ref21_Asked_0 j r z C D E O P Q R S T U V W aC aK aL aM aN aO) (0 : Int))) x0 (mrgB (!(ieq (s_ref21_Asked_0 m K ah ai aj ak an ao ap aq ar au av aw ax aC aK aL aM aN aO) (0 : Int))) x1 (mrgB (bif (!(ilt x3 (Int.ofNat aC))) then false else (((s_ref21_Moved_0 (aK x4) (aL x4) (aM x4) (aN x4) (aO x4)) && (s_ref21_of_0 j r z C D E O P Q R S T U V W x3)) && (s_ref21_of_0 m K ah ai aj ak an ao ap aq ar au av aw ax x3))) x2 x2)))
def S_ref21_Apart : List AV → Option (Ob × AV)
  | [AV.view j 14 e, AV.view m 14 k, AV.view aC 5 bg] => some (Ob.both (Ob.bit (((allB fun i => isNrm [Ck.i .i64, Ck.i .i64, Ck.f, Ck.f, Ck.f, Ck.f, Ck.f, Ck.f, Ck.f, Ck.f, Ck.f, Ck.f, Ck.i .i64, Ck.f] (e i)) && (allB fun i => isNrm [Ck.i .i64, Ck.i .i64, Ck.f, Ck.f, Ck.f, Ck.f, Ck.f, Ck.f, Ck.f, Ck.f, Ck.f, Ck.f, Ck.i .i64, Ck.f] (k i))) && (allB fun i => isNrm [Ck.f, Ck.f, Ck.f, Ck.f, Ck.f] (bg i)))) (Ob.bit (o_ref21_Apart j (iL e 0) (iL e 1) (fL e 2) (fL e 3) (fL e 4) (fL e 5) (fL e 6) (fL e 7) (fL e 8) (fL e 9) (fL e 10) (fL e 11) (iL e 12) (fL e 13) m (iL k 0) (iL k 1) (fL k 2) (fL k 3) (fL k 4) (fL k 5) (fL k 6) (fL k 7) (fL k 8) (fL k 9) (fL k 10) (fL k 11) (iL k 12) (fL k 13) aC (fL bg 0) (fL bg 1) (fL bg 2) (fL bg 3) (fL bg 4))), AV.tup [AV.bool (s_ref21_Apart_0 j (iL e 0) (iL e 1) (fL e 2) (fL e 3) (fL e 4) (fL e 5) (fL e 6) (fL e 7) (fL e 8) (fL e 9) (fL e 10) (fL e 11) (iL e 12) (fL e 13) m (iL k 0) (iL k 1) (fL k 2) (fL k 3) (fL k 4) (fL k 5) (fL k 6) (fL k 7) (fL k 8) (fL k 9) (fL k 10) (fL k 11) (iL k 12) (fL k 13) aC (fL bg 0) (fL bg 1) (fL bg 2) (fL bg 3) (fL bg 4)), AV.int .i64 (s_ref21_Apart_1 j (iL e 0) (iL e 1) (fL e 2) (fL e 3) (fL e 4) (fL e 5) (fL e 6) (fL e 7) (fL e 8) (fL e 9) (fL e 10) (fL e 11) (iL e 12) (fL e 13) m (iL k 0) (iL k 1) (fL k 2) (fL k 3) (fL k 4) (fL k 5) (fL k 6) (fL k 7) (fL k 8) (fL k 9) (fL k 10) (fL k 11) (iL k 12) (fL k 13) aC (fL bg 0) (fL bg 1) (fL bg 2) (fL bg 3) (fL bg 4))])
  | _ => none
theorem ob_ref21_Apart (j : Nat) (r z : Nat → Int) (C D E O P Q R S T U : Nat → Nat) (V : Nat → Int) (W : Nat → Nat) (m : Nat) (K ah : Nat → Int) (ai aj ak an ao ap aq ar au av : Nat → Nat) (aw : Nat → Int) (ax : Nat → Nat) (aC : Nat) (aK aL aM aN aO : Nat → Nat) (ho : o_ref21_Apart j r z C D E O P Q R S T U V W m K ah ai aj ak an ao ap aq ar au av aw ax aC aK aL aM aN aO = true) : q_ref21_Apart j r z C D E O P Q R S T U V W m K ah ai aj ak an ao ap aq ar au av aw ax aC aK aL aM aN aO = true := by
  unfold q_ref21_Apart
  unfold o_ref21_Apart at ho
  simp only [allB_true, eqT_self, mrgB_self, Bool.true_and, Bool.and_true] at ho ⊢
  exact ho
theorem t_ref21_Apart : SOkM Try.prog false (22, fun args => match S_ref21_Apart args with | some (o, v) => some (o, v, []) | none => none) := SOkM.flat (N := 96) menv70_ok Try.func22 ann_ref21_Apart Try.call22 fun args o v h ho => by
  unfold S_ref21_Apart at h
  split at h
  · rename_i j e m k aC bg
    cases h
    rw [Ob.both_ok, Bool.and_eq_true] at ho
    obtain ⟨hn, ho2⟩ := ho
    simp only [Ob.ok, Bool.and_eq_true] at hn
    obtain ⟨⟨n0, n1⟩, n2⟩ := hn
    replace n0 := nrm_fun n0
    replace n1 := nrm_fun n1
    replace n2 := nrm_fun n2
    have this := show outB (evFnM Try.prog false menv70 [] [] 96 (Ann.two Ann.no (Ann.two Ann.no (Ann.two Ann.no (Ann.two Ann.no (Ann.two Ann.no (Ann.two (Ann.two Ann.no (Ann.one (Ann.loop F_ref21_Apart_L0))) Ann.no)))))) Try.f22 [AV.view j 14 (fun i => mkN [Ck.i .i64, Ck.i .i64, Ck.f, Ck.f, Ck.f, Ck.f, Ck.f, Ck.f, Ck.f, Ck.f, Ck.f, Ck.f, Ck.i .i64, Ck.f] (e i) 0), AV.view m 14 (fun i => mkN [Ck.i .i64, Ck.i .i64, Ck.f, Ck.f, Ck.f, Ck.f, Ck.f, Ck.f, Ck.f, Ck.f, Ck.f, Ck.f, Ck.i .i64, Ck.f] (k i) 0), AV.view aC 5 (fun i => mkN [Ck.f, Ck.f, Ck.f, Ck.f, Ck.f] (bg i) 0)] []) = _ from e_ref21_Apart j (iL e 0) (iL e 1) (fL e 2) (fL e 3) (fL e 4) (fL e 5) (fL e 6) (fL e 7) (fL e 8) (fL e 9) (fL e 10) (fL e 11) (iL e 12) (fL e 13) m (iL k 0) (iL k 1) (fL k 2) (fL k 3) (fL k 4) (fL k 5) (fL k 6) (fL k 7) (fL k 8) (fL k 9) (fL k 10) (fL k 11) (iL k 12) (fL k 13) aC (fL bg 0) (fL bg 1) (fL bg 2) (fL bg 3) (fL bg 4)
    rw [(ob_ref21_Apart j (iL e 0) (iL e 1) (fL e 2) (fL e 3) (fL e 4) (fL e 5) (fL e 6) (fL e 7) (fL e 8) (fL e 9) (fL e 10) (fL e 11) (iL e 12) (fL e 13) m (iL k 0) (iL k 1) (fL k 2) (fL k 3) (fL k 4) (fL k 5) (fL k 6) (fL k 7) (fL k 8) (fL k 9) (fL k 10) (fL k 11) (iL k 12) (fL k 13) aC (fL bg 0) (fL bg 1) (fL bg 2) (fL bg 3) (fL bg 4) ho2)] at this
    rw [n0, n1, n2] at this
    exact ⟨this, rfl⟩
  · cases h
def c_ref21_Apart : SFM := fun args => match S_ref21_Apart args with | some (o, v) => some (o, v, []) | none => none
theorem c_ref21_Apart_ok : SOkM Try.prog false (22, c_ref21_Apart) := t_ref21_Apart
def mss71 : List (FuncId × SFM) := (22, c_ref21_Apart) :: mss70
def menv71 : EnvM := mkEnvM mxs mss71 mws1
theorem mss71_ok : All (SOkM Try.prog false) mss71 := All.cons c_ref21_Apart_ok mss70_ok
theorem menv71_ok : menv71.Ok Try.prog false := mkEnvM_ok mxs_ok mss71_ok mws1_ok
-- slices.Index[[]int,int]
-- a loop of slices.Index[[]int,int]
structure V_slices_Index___int_int__L0 where
  v0 : Int
def tpl_slices_Index___int_int__L0 : List AV := [AV.nul, AV.nul, AV.top, AV.top, AV.top, AV.top, AV.top, AV.nul, AV.nul, AV.top, AV.top, AV.top, AV.top, AV.top, AV.top, AV.top, AV.top, AV.top, AV.top]
def cts_slices_Index___int_int__L0 : List CT := []
def phs_slices_Index___int_int__L0 : List Src := []
def T_slices_Index___int_int__L0 (l : Nat) (p : Nat → Int) (q u : Int) (x : V_slices_Index___int_int__L0) (F0 : Nat → List AV) : List AV × Heap := ([AV.view l 1 F0, AV.int .i64 q, AV.top, AV.top, AV.top, AV.top, AV.top, AV.int .i64 u, AV.int .i64 x.v0, AV.top, AV.top, AV.top, AV.top, AV.top, AV.top, AV.top, AV.top, AV.top, AV.top], [])
def sh_slices_Index___int_int__L0 (l : Nat) (p : Nat → Int) (q u : Int) (x : V_slices_Index___int_int__L0) : List AV × Heap := T_slices_Index___int_int__L0 l p q u x (fun j0 => [AV.int .i64 (p j0)])
def step_slices_Index___int_int__L0 (l : Nat) (p : Nat → Int) (q u : Int) (x : V_slices_Index___int_int__L0) : V_slices_Index___int_int__L0 := V_slices_Index___int_int__L0.mk (IntKind.wrap .i64 (x.v0 + (1 : Int)))
def go_slices_Index___int_int__L0 (l : Nat) (p : Nat → Int) (q u : Int) (x : V_slices_Index___int_int__L0) : Bool := (bif (bif (!(ilt x.v0 u)) then false else (ieq q (p (Int.toNat x.v0)))) then false else (bif (!(ilt x.v0 u)) then false else true))
def ok_slices_Index___int_int__L0 (l : Nat) (p : Nat → Int) (q u : Int) (x : V_slices_Index___int_int__L0) : Bool := (mrgB (bif (!(ilt x.v0 u)) then false else (ieq q (p (Int.toNat x.v0)))) ((ile (0 : Int) x.v0) && (Nat.blt (Int.toNat x.v0) l)) (mrgB (!(ilt x.v0 u)) true ((ile (0 : Int) x.v0) && (Nat.blt (Int.toNat x.v0) l))))
def L_slices_Index___int_int__L0 (l : Nat) (p : Nat → Int) (q u : Int) (x : V_slices_Index___int_int__L0) : V_slices_Index___int_int__L0 := lastL (ok_slices_Index___int_int__L0 l p q u) (go_slices_Index___int_int__L0 l p q u) (step_slices_Index___int_int__L0 l p q u) x
def E_slices_Index___int_int__L0 (l : Nat) (p : Nat → Int) (q u : Int) (x : V_slices_Index___int_int__L0) : Bool := endsL (ok_slices_Index___int_int__L0 l p q u) (go_slices_Index___int_int__L0 l p q u) (step_slices_Index___int_int__L0 l p q u) x
theorem all_slices_Index___int_int__L0 (l : Nat) (p : Nat → Int) (q u : Int) (x : V_slices_Index___int_int__L0) : rnd Try.prog false menv71 [] [] 96 Ann.no (subC [1, 0, 1, 0, 0] (codeOf Try.f83)) 0 [] tpl_slices_Index___int_int__L0 cts_slices_Index___int_int__L0 [false, false, true, true, true, true, true, false, true, true, true, true, true, true, true, true, true, true, true] [] (sh_slices_Index___int_int__L0 l p q u x) = (true, true, go_slices_Index___int_int__L0 l p q u x, ok_slices_Index___int_int__L0 l p q u x, true, sh_slices_Index___int_int__L0 l p q u (step_slices_Index___int_int__L0 l p q u x), true) := by kernel_rfl
def fam_slices_Index___int_int__L0 (l : Nat) (p : Nat → Int) (q u : Int) : Fam Try.prog false menv71 [] [] 96 0 Ann.no (subC [1, 0, 1, 0, 0] (codeOf Try.f83)) V_slices_Index___int_int__L0 where
  sh := sh_slices_Index___int_int__L0 l p q u
  ok := ok_slices_Index___int_int__L0 l p q u
  go := go_slices_Index___int_int__L0 l p q u
  step := step_slices_Index___int_int__L0 l p q u
  chg := [false, false, true, true, true, true, true, false, true, true, true, true, true, true, true, true, true, true, true]
  chgH := []
  tpl := tpl_slices_Index___int_int__L0
  cts := cts_slices_Index___int_int__L0
  keep := 0
  srcs := []
  ann := (annNo (subC [1, 0, 1, 0, 0] (codeOf Try.f83)))
  le := by kernel_rfl
  kept := by kernel_rfl
  keptB := by kernel_rfl
  all := all_slices_Index___int_int__L0 l p q u
  len := fun x => by kernel_rfl
  head := fun x y => by kernel_rfl
  con := fun x y => by kernel_rfl
  conH := fun x y => by kernel_rfl
def F_slices_Index___int_int__L0 : St → Option Ch := fun s => cond (Nat.beq s.tm.length 19 && Nat.beq s.H.length 0) (tkCons (alL tpl_slices_Index___int_int__L0 s.tm) fun af t0 => tkView 1 af fun s0 f0 => tkCons t0 fun Y t1 => tkI .i64 Y fun s2 => tkTops 5 t1 fun t2 => tkCons t2 fun am t3 => tkI .i64 am fun s3 => tkCons t3 fun az t4 => tkI .i64 az fun s4 => tkTops 10 t4 fun t5 => tkNil t5 <| tkNil (alH cts_slices_Index___int_int__L0 (s.H ++ List.map phan phs_slices_Index___int_int__L0)) <| Fam.out (fam_slices_Index___int_int__L0 s0 (iL f0 0) s2 s3) s (allB fun i => isNrm [Ck.i .i64] (f0 i)) (V_slices_Index___int_int__L0.mk s4)) none
theorem F_slices_Index___int_int__L0_ok : ∀ s ch, F_slices_Index___int_int__L0 s = some ch → AllI s ch ∧ LoopSpec Try.prog false 0 (subC [1, 0, 1, 0, 0] (codeOf Try.f83)) s (sel ch) := by
  intro s ch h
  unfold F_slices_Index___int_int__L0 at h
  obtain ⟨hl, h0⟩ := cond_some h rfl
  clear h
  obtain ⟨hl, hb⟩ := and_beq2 hl
  obtain ⟨af, t0, e0, h1⟩ := tkCons_some h0
  obtain ⟨s0, f0, rfl, h2⟩ := tkView_some h1
  obtain ⟨Y, t1, rfl, h3⟩ := tkCons_some h2
  obtain ⟨s2, rfl, h4⟩ := tkI_some h3
  obtain ⟨t2, rfl, h5⟩ := tkTops_some h4
  obtain ⟨am, t3, rfl, h6⟩ := tkCons_some h5
  obtain ⟨s3, rfl, h7⟩ := tkI_some h6
  obtain ⟨az, t4, rfl, h8⟩ := tkCons_some h7
  obtain ⟨s4, rfl, h9⟩ := tkI_some h8
  obtain ⟨t5, rfl, h10⟩ := tkTops_some h9
  obtain ⟨rfl, h11⟩ := tkNil_some h10
  obtain ⟨eH, h12⟩ := tkNil_some h11
  refine Fam.spec menv71_ok (fam_slices_Index___int_int__L0 s0 (iL f0 0) s2 s3) (phs := phs_slices_Index___int_int__L0) (hl.trans (by kernel_rfl)) (hb.trans (by kernel_rfl)) ?_ ?_ h12
  · rw [← hdr_alH cts_slices_Index___int_int__L0 (s.H ++ List.map phan phs_slices_Index___int_int__L0), eH]; kernel_rfl
  · intro hq
    have hq0 := hq
    have n0 := nrm_fun hq0
    show sh_slices_Index___int_int__L0 s0 (iL f0 0) s2 s3 (V_slices_Index___int_int__L0.mk s4) = (alL tpl_slices_Index___int_int__L0 s.tm, alH cts_slices_Index___int_int__L0 (s.H ++ List.map phan phs_slices_Index___int_int__L0))
    rw [e0, eH]
    refine Eq.trans (show sh_slices_Index___int_int__L0 s0 (iL f0 0) s2 s3 (V_slices_Index___int_int__L0.mk s4) = T_slices_Index___int_int__L0 s0 (iL f0 0) s2 s3 (V_slices_Index___int_int__L0.mk s4) (fun i => mkN [Ck.i .i64] (f0 i) 0) by kernel_rfl) ?_
    rw [n0]
    kernel_rfl
theorem ann_slices_Index___int_int_ : FnOk Try.prog false 0 Try.f83 (Ann.two Ann.no (Ann.two (Ann.two Ann.no (Ann.one (Ann.loop F_slices_Index___int_int__L0))) Ann.no)) := (fnOk_of (c := codeOf Try.f83) (by kernel_rfl) (annSeq (a := (subC [0] (codeOf Try.f83))) (b := (subC [1] (codeOf Try.f83))) (by kernel_rfl) (annNo (subC [0] (codeOf Try.f83))) (annSeq (a := (subC [1, 0] (codeOf Try.f83))) (b := (subC [1, 1] (codeOf Try.f83))) (by kernel_rfl) (annSeq (a := (subC [1, 0, 0] (codeOf Try.f83))) (b := (subC [1, 0, 1] (codeOf Try.f83))) (by kernel_rfl) (annNo (subC [1, 0, 0] (codeOf Try.f83))) (annBlock (a := (subC [1, 0, 1, 0] (codeOf Try.f83))) (i := 0) (by kernel_rfl) (annLoop (a := (subC [1, 0, 1, 0, 0] (codeOf Try.f83))) (by kernel_rfl) F_slices_Index___int_int__L0_ok))) (annNo (subC [1, 1] (codeOf Try.f83))))))
def s_slices_Index___int_int__0 (j : Nat) (r : Nat → Int) (Y : Int) : Int := (bif (bif (!(ilt ((L_slices_Index___int_int__L0 j r Y (Int.ofNat j) (V_slices_Index___int_int__L0.mk (0 : Int))).v0) (Int.ofNat j))) then false else (ieq Y (r (Int.toNat ((L_slices_Index___int_int__L0 j r Y (Int.ofNat j) (V_slices_Index___int_int__L0.mk (0 : Int))).v0))))) then ((L_slices_Index___int_int__L0 j r Y (Int.ofNat j) (V_slices_Index___int_int__L0.mk (0 : Int))).v0) else (-1 : Int))
def q_slices_Index___int_int_ (j : Nat) (r : Nat → Int) (Y : Int) : Bool := (mrgB (bif (!(ilt ((L_slices_Index___int_int__L0 j r Y (Int.ofNat j) (V_slices_Index___int_int__L0.mk (0 : Int))).v0) (Int.ofNat j))) then false else (ieq Y (r (Int.toNat ((L_slices_Index___int_int__L0 j r Y (Int.ofNat j) (V_slices_Index___int_int__L0.mk (0 : Int))).v0))))) ((allB fun _ => true) && (E_slices_Index___int_int__L0 j r Y (Int.ofNat j) (V_slices_Index___int_int__L0.mk (0 : Int)))) ((allB fun _ => true) && (E_slices_Index___int_int__L0 j r Y (Int.ofNat j) (V_slices_Index___int_int__L0.mk (0 : Int)))))
theorem e_slices_Index___int_int_ (j : Nat) (r : Nat → Int) (Y : Int) : outB (evFnM Try.prog false menv71 [] [] 96 (Ann.two Ann.no (Ann.two (Ann.two Ann.no (Ann.one (Ann.loop F_slices_Index___int_int__L0))) Ann.no)) Try.f83 [AV.view j 1 (fun i0 => [AV.int .i64 (r i0)]), AV.int .i64 Y] []) = some (q_slices_Index___int_int_ j r Y, AV.int .i64 (s_slices_Index___int_int__0 j r Y)) := by kernel_rfl
def o_slices_Index___int_int_ (j : Nat) (r : Nat → Int) (Y : Int) : Bool := (mrgB (bif (!(ilt ((L_slices_Index___int_int__L0 j r Y (Int.ofNat j) (V_slices_Index___int_int__L0.mk (0 : Int))).v0) (Int.ofNat j))) then false else (ieq Y (r (Int.toNat ((L_slices_Index___int_int__L0 j r Y (Int.ofNat j) (V_slices_Index___int_int__L0.mk (0 : Int))).v0))))) (E_slices_Index___int_int__L0 j r Y (Int.ofNat j) (V_slices_Index___int_int__L0.mk (0 : Int))) (E_slices_Index___int_int__L0 j r Y (Int.ofNat j) (V_slices_Index___int_int__L0.mk (0 : Int))))
def S_slices_Index___int_int_ : List AV → Option (Ob × AV)
  | [AV.view j 1 e, AV.int .i64 Y] => some (Ob.both (Ob.bit (allB fun i => isNrm [Ck.i .i64] (e i))) (Ob.bit (o_slices_Index___int_int_ j (iL e 0) Y)), AV.int .i64 (s_slices_Index___int_int__0 j (iL e 0) Y))
  | _ => none
theorem ob_slices_Index___int_int_ (j : Nat) (r : Nat → Int) (Y : Int) (ho : o_slices_Index___int_int_ j r Y = true) : q_slices_Index___int_int_ j r Y = true := by
  unfold q_slices_Index___int_int_
  unfold o_slices_Index___int_int_ at ho
  simp only [allB_true, eqT_self, mrgB_self, Bool.true_and, Bool.and_true] at ho ⊢
  exact ho
theorem t_slices_Index___int_int_ : SOkM Try.prog false (83, fun args => match S_slices_Index___int_int_ args with | some (o, v) => some (o, v, []) | none => none) := SOkM.flat (N := 96) menv71_ok Try.func83 ann_slices_Index___int_int_ Try.call83 fun args o v h ho => by
  unfold S_slices_Index___int_int_ at h
  split at h
  · rename_i j e Y
    cases h
    rw [Ob.both_ok, Bool.and_eq_true] at ho
    obtain ⟨hn, ho2⟩ := ho
    have n0 := hn
    simp only [Ob.ok] at n0
    replace n0 := nrm_fun n0
    have this := show outB (evFnM Try.prog false menv71 [] [] 96 (Ann.two Ann.no (Ann.two (Ann.two Ann.no (Ann.one (Ann.loop F_slices_Index___int_int__L0))) Ann.no)) Try.f83 [AV.view j 1 (fun i => mkN [Ck.i .i64] (e i) 0), AV.int .i64 Y] []) = _ from e_slices_Index___int_int_ j (iL e 0) Y
    rw [(ob_slices_Index___int_int_ j (iL e 0) Y ho2)] at this
    rw [n0] at this
    exact ⟨this, rfl⟩
  · cases h
def c_slices_Index___int_int_ : SFM := fun args => match S_slices_Index___int_int_ args with | some (o, v) => some (o, v, []) | none => none
theorem c_slices_Index___int_int__ok : SOkM Try.prog false (83, c_slices_Index___int_int_) := t_slices_Index___int_int_
def mss72 : List (FuncId × SFM) := (83, c_slices_Index___int_int_) :: mss71
def menv72 : EnvM := mkEnvM mxs mss72 mws1
theorem mss72_ok : All (SOkM Try.prog false) mss72 := All.cons c_slices_Index___int_int__ok mss71_ok
theorem menv72_ok : menv72.Ok Try.prog false := mkEnvM_ok mxs_ok mss72_ok mws1_ok
end Go.Proofs.Ytofpjfohijljgaa
end
