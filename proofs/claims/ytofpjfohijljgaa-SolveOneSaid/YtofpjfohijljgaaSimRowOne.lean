/- One row alone, solved from no push: how far it is off, in floats. -/
import Derived.Test.YtofpjfohijljgaaSimRowSol2
set_option linter.unusedVariables false
set_option linter.unusedSimpArgs false
set_option maxHeartbeats 4000000
namespace Go.Sim
open Ieee
theorem cf0 : CF 0 := ⟨by decide, fun h => absurd h (by decide)⟩
theorem rv_0 : rv 0 = 0 := by
  have h : sval 0 = 0 := by decide
  unfold rv; rw [h, Rat.div_def]; exact Rat.zero_mul _
theorem u40_0 : U40 0 := by
  refine ⟨by decide, ?_⟩
  have : fabs 0 = 0 := by decide
  rw [this, rv_0]
  exact .inl rfl
theorem one_main {r2 r3 r4 r5 r6 r7 a0 a1 a2 a3 a4 b0 b1 b2 b3 b4 : Nat} (ur2 : U40 r2) (ur3 : U40 r3) (ur4 : U40 r4) (ur5 : U40 r5) (ur6 : U40 r6) (ur7 : U40 r7) (ua0 : U40 a0) (ua1 : U40 a1) (ua2 : U40 a2) (ua3 : U40 a3) (ua4 : U40 a4) (ub0 : U40 b0) (ub1 : U40 b1) (ub2 : U40 b2) (ub3 : U40 b3) (ub4 : U40 b4) (n1 : 0 ≤ rv a0) (n2 : 0 ≤ rv a1) (n3 : 0 ≤ rv b0) (n4 : 0 ≤ rv b1) {s w q p c1 c2 c3 c4 c5 c6 : Nat} (hs : s = (fadd (fadd (fadd (fadd (fmul r2 a2) (fmul r3 a3)) (fmul r6 a4)) (fadd (fmul r4 b2) (fmul r5 b3))) (fmul r7 b4))) (hw : w = (fadd (fadd (fadd (fmul a0 (fadd (fmul r2 r2) (fmul r3 r3))) (fmul a1 (fmul r6 r6))) (fmul b0 (fadd (fmul r4 r4) (fmul r5 r5)))) (fmul b1 (fmul r7 r7)))) (w0 : 0 < rv w)
    (hq : q = fadd 0 (fdiv (fsub 0 s) w)) (hp : p = fsub q 0) (hne : rv s ≠ 0) (hc1 : c1 = (bif !(feq a0 0) then fadd a2 (fmul (fmul a0 p) r2) else a2)) (hc2 : c2 = (bif !(feq a0 0) then fadd a3 (fmul (fmul a0 p) r3) else a3)) (hc3 : c3 = (bif !(feq a1 0) then fadd a4 (fmul a1 (fmul p r6)) else a4)) (hc4 : c4 = (bif !(feq b0 0) then fadd b2 (fmul (fmul b0 p) r4) else b2)) (hc5 : c5 = (bif !(feq b0 0) then fadd b3 (fmul (fmul b0 p) r5) else b3)) (hc6 : c6 = (bif !(feq b1 0) then fadd b4 (fmul b1 (fmul p r7)) else b4)) :
    fin (fadd (fadd (fadd (fadd (fmul r2 c1) (fmul r3 c2)) (fmul r6 c3)) (fadd (fmul r4 c4) (fmul r5 c5))) (fmul r7 c6)) = true ∧ fin (fmul 4472074429978902528 (fadd (fadd (fadd (fadd (fabs (fmul r2 a2)) (fabs (fmul r3 a3))) (fabs (fmul r6 a4))) (fadd (fadd (fabs (fmul r4 b2)) (fabs (fmul r5 b3))) (fabs (fmul r7 b4)))) (fadd (fadd (fadd (fabs (fmul r2 c1)) (fabs (fmul r3 c2))) (fabs (fmul r6 c3))) (fadd (fadd (fabs (fmul r4 c4)) (fabs (fmul r5 c5))) (fabs (fmul r7 c6)))))) = true ∧ fle (fabs (fsub 0 (fadd (fadd (fadd (fadd (fmul r2 c1) (fmul r3 c2)) (fmul r6 c3)) (fadd (fmul r4 c4) (fmul r5 c5))) (fmul r7 c6)))) (fmul 4472074429978902528 (fadd (fadd (fadd (fadd (fabs (fmul r2 a2)) (fabs (fmul r3 a3))) (fabs (fmul r6 a4))) (fadd (fadd (fabs (fmul r4 b2)) (fabs (fmul r5 b3))) (fabs (fmul r7 b4)))) (fadd (fadd (fadd (fabs (fmul r2 c1)) (fabs (fmul r3 c2))) (fabs (fmul r6 c3))) (fadd (fadd (fabs (fmul r4 c4)) (fabs (fmul r5 c5))) (fabs (fmul r7 c6)))))) = true := by
  have c0 : CF 0 := cf0
  have u0 : U40 0 := u40_0
  have r0 : rv 0 = 0 := rv_0
  have z0 : rv (fabs 0) = 0 := by rw [show fabs 0 = 0 from by decide]; exact r0
  have bg := big_800
  have e0 := eta_pos
  have e9 := eta_900
  obtain ⟨fs, fw, wn, fl, rest⟩ := solved_facts c0 c0 ur2 ur3 ur4 ur5 ur6 ur7 u0 u0 ua0 ua1 ua2 ua3 ua4 ub0 ub1 ub2 ub3 ub4 n1 n2 n3 n4 hs hw
  obtain ⟨fd, fq, qab, dab, fp, pab, G, sg, Wt, hsg, hWt, hG, G0, G9, Gz, sl, sh, W0, w9, s1, s2, w1, w2, x1, x2, d1, d2, fg, g1, g2⟩ := rest w0
  rw [← hq] at fq qab fp pab
  rw [← hp] at fp pab
  have hp3 : rv (fabs p) ≤ 2037035976334486086268445688409378161051468393665936250636140449354381299763336706183397376 := by grind
  have t1 : Part a0 p r2 a2 c1 := by rw [hc1]; exact part_way ua0 n1 ur2 ua2 fp hp3
  obtain ⟨fP1, P19, k1, j1⟩ := t1.adds ua0 n1 ur2 ua2 fp hp3
  have fa1 := abs_le fP1
  have t2 : Part a0 p r3 a3 c2 := by rw [hc2]; exact part_way ua0 n1 ur3 ua3 fp hp3
  obtain ⟨fP2, P29, k2, j2⟩ := t2.adds ua0 n1 ur3 ua3 fp hp3
  have fa2 := abs_le fP2
  have t3 : Part a1 p r6 a4 c3 := by rw [hc3]; exact part_turn ua1 n2 ur6 ua4 fp hp3
  obtain ⟨fP3, P39, k3, j3⟩ := t3.adds ua1 n2 ur6 ua4 fp hp3
  have fa3 := abs_le fP3
  have t4 : Part b0 p r4 b2 c4 := by rw [hc4]; exact part_way ub0 n3 ur4 ub2 fp hp3
  obtain ⟨fP4, P49, k4, j4⟩ := t4.adds ub0 n3 ur4 ub2 fp hp3
  have fa4 := abs_le fP4
  have t5 : Part b0 p r5 b3 c5 := by rw [hc5]; exact part_way ub0 n3 ur5 ub3 fp hp3
  obtain ⟨fP5, P59, k5, j5⟩ := t5.adds ub0 n3 ur5 ub3 fp hp3
  have fa5 := abs_le fP5
  have t6 : Part b1 p r7 b4 c6 := by rw [hc6]; exact part_turn ub1 n4 ur7 ub4 fp hp3
  obtain ⟨fP6, P69, k6, j6⟩ := t6.adds ub1 n4 ur7 ub4 fp hp3
  have fa6 := abs_le fP6
  obtain ⟨G', hG'⟩ : ∃ G', G' = rv (fabs (fmul r2 c1)) + rv (fabs (fmul r3 c2)) + rv (fabs (fmul r6 c3)) + rv (fabs (fmul r4 c4)) + rv (fabs (fmul r5 c5)) + rv (fabs (fmul r7 c6)) := ⟨_, rfl⟩
  have G'0 : 0 ≤ G' := by rw [hG']; have := fa1.2.2; have := fa2.2.2; have := fa3.2.2; have := fa4.2.2; have := fa5.2.2; have := fa6.2.2; grind
  have G'9 : G' ≤ 90854840536950861318665475986000566794205170085914757535186274897579911014174740415773881339220445695095315200783272241691825203576832 := by rw [hG']; grind
  obtain ⟨fS, S1, S2⟩ := six_sum (A := G') fP1 fP2 fP3 fP4 fP5 fP6 (by rw [hG']; grind) (by grind)
  obtain ⟨fg', g1', g2'⟩ := six_goes fP1 fP2 fP3 fP4 fP5 fP6 hG' (by grind)
  obtain ⟨ql, qh, qz⟩ := abs_le fq
  have G1 : 1 / 1208925819614629174706176 ≤ G := by
    rcases Gz with h | h
    · exfalso
      rw [h] at sl sh s1 s2
      apply hne
      grind
    · exact h
  obtain ⟨T, T0, T1, T2, T3⟩ := rabs (rv 0 + rv (fdiv (fsub 0 s) w))
  obtain ⟨D, D0, D1, D2, D3⟩ := rabs (rv (fdiv (fsub 0 s) w))
  have T9 : T ≤ 3291009114642412084309938365114701009965471731267159726697218048 := by
    obtain ⟨u1, u2, u3⟩ := abs_le fd
    rcases T3 with h' | h' <;> grind
  obtain ⟨_, h5, h5'⟩ := rv_add (B := T) u0.1 fd (by grind) T1 T2
  rw [← hq] at h5 h5'
  obtain ⟨_, h6, h6'⟩ := rv_sub (B := rv (fabs q) + rv (fabs 0)) c0.lt fq u0.1 (by grind) (by grind) (by grind)
  rw [← hp] at h6 h6'
  obtain ⟨pl, ph, pz⟩ := abs_le fp
  have pc := (abs_cases fp).2.2
  have eS : rv p * Wt = rv p * (rv a0 * (rv r2 * rv r2)) + rv p * (rv a0 * (rv r3 * rv r3)) + rv p * (rv a1 * (rv r6 * rv r6)) + rv p * (rv b0 * (rv r4 * rv r4)) + rv p * (rv b0 * (rv r5 * rv r5)) + rv p * (rv b1 * (rv r7 * rv r7)) := by rw [hWt]; grind
  have eA : rv (fabs p) * Wt = rv (fabs p) * (rv a0 * (rv r2 * rv r2)) + rv (fabs p) * (rv a0 * (rv r3 * rv r3)) + rv (fabs p) * (rv a1 * (rv r6 * rv r6)) + rv (fabs p) * (rv b0 * (rv r4 * rv r4)) + rv (fabs p) * (rv b0 * (rv r5 * rv r5)) + rv (fabs p) * (rv b1 * (rv r7 * rv r7)) := by rw [hWt]; grind
  have core := core_rat (sg := sg) (G := G) (W := Wt) (w := rv w) (s := rv s) (l := rv (fsub 0 s)) (d := rv (fdiv (fsub 0 s) w)) (q := rv q) (pk := rv 0) (p := rv p) (β := rv 0) (e := eta) (Q := rv (fabs q)) (Pk := rv (fabs 0)) (A := rv (fabs p))
    (S' := rv (fmul r2 c1) + rv (fmul r3 c2) + rv (fmul r6 c3) + rv (fmul r4 c4) + rv (fmul r5 c5) + rv (fmul r7 c6)) (G' := G') (s' := rv (fadd (fadd (fadd (fadd (fmul r2 c1) (fmul r3 c2)) (fmul r6 c3)) (fadd (fmul r4 c4) (fmul r5 c5))) (fmul r7 c6))) (b := rv (fabs 0)) (T := T) (D := D)
    e0 G0 W0 w0 ql qh (by grind) (by grind) qz (by grind) pl ph (by rcases pc with h | h; exact .inl h.symm; right; grind) (by grind) (by grind) (by grind) T1 T2 T3 D3 D0 G'0 w9 sl sh s1 s2 w1 w2 x1 x2 d1 d2 h5 h5' h6 h6'
    (by
      rw [eS, eA, hG', hsg]
      exact six_lin k1 k2 k3 k4 k5 k6)
    (by
      rw [eS, eA, hG', hsg]
      exact six_lin' j1 j2 j3 j4 j5 j6) S1 S2
  obtain ⟨cr1, cr2⟩ := core
  -- the weight times the push is what the speed was
  have N0 := Rat.mul_nonneg W0 (show 0 ≤ rv (fabs q) + rv (fabs 0) by grind)
  have ew := Rat.mul_nonneg (show 0 ≤ eta by grind) (show 0 ≤ 42535295865117307932921825928971026432 - rv w by grind)
  have NB : Wt * (rv (fabs q) + rv (fabs 0)) ≤ 2 * G + eta * 170141183460469231731687303715884105728 := by
    have m1 := Rat.mul_nonneg D0 (show 0 ≤ rv w - 999 / 1000 * Wt by grind)
    have m2 := Rat.mul_nonneg W0 (show 0 ≤ 1001 / 1000 * D - rv (fabs q) by
      have ab := abs_bound (B := D + D / 1000) fq (by rcases T3 with h | h <;> rcases D3 with h' | h' <;> grind) (by rcases T3 with h | h <;> rcases D3 with h' | h' <;> grind)
      grind)
    have dw : D * rv w ≤ 101 / 100 * G + eta * rv w := by
      rcases D3 with h | h
      · rw [h]; grind
      · rw [h, Rat.neg_mul]; grind
    have e1 : D * (rv w - 999 / 1000 * Wt) = D * rv w - 999 / 1000 * (Wt * D) := by grind
    have e2 : Wt * (1001 / 1000 * D - rv (fabs q)) = 1001 / 1000 * (Wt * D) - Wt * rv (fabs q) := by grind
    have e3 : Wt * (rv (fabs q) + rv (fabs 0)) = Wt * rv (fabs q) := by rw [z0, Rat.add_zero]
    have e4 : eta * (42535295865117307932921825928971026432 - rv w) = eta * 42535295865117307932921825928971026432 - eta * rv w := by grind
    rw [e1] at m1
    rw [e2] at m2
    rw [e3]
    rw [e4] at ew
    generalize D * rv w = DW at *
    generalize Wt * D = WD at *
    generalize Wt * rv (fabs q) = WQ at *
    generalize eta * rv w = EW at *
    grind
  obtain ⟨K, hK⟩ : ∃ K, K = (G + G' + rv (fabs 0) + Wt * (rv (fabs q) + rv (fabs 0))) / 17592186044416 + eta * 170141183460469231731687303715884105728 := ⟨_, rfl⟩
  rw [← hK] at cr1 cr2
  generalize Wt * (rv (fabs q) + rv (fabs 0)) = N at *
  have K0 : K ≤ (3 * G + G') / 17592186044416 + 2 * (eta * 170141183460469231731687303715884105728) := by rw [hK, z0]; grind
  obtain ⟨ff, ff1, ff2⟩ := rv_sub (a := 0) (b := (fadd (fadd (fadd (fadd (fmul r2 c1) (fmul r3 c2)) (fmul r6 c3)) (fadd (fmul r4 c4) (fmul r5 c5))) (fmul r7 c6))) (B := K) (CF.lt (CF.add _ _)) u0.1 fS (by grind) (by grind) (by grind)
  obtain ⟨fi1, i1, i2⟩ := rv_add (B := 2 * G + 2 * G') fg fg' (by grind) (by grind) (by grind)
  obtain ⟨X, hX⟩ : ∃ X, X = fadd (fadd (fadd (fadd (fabs (fmul r2 a2)) (fabs (fmul r3 a3))) (fabs (fmul r6 a4))) (fadd (fadd (fabs (fmul r4 b2)) (fabs (fmul r5 b3))) (fabs (fmul r7 b4)))) (fadd (fadd (fadd (fabs (fmul r2 c1)) (fabs (fmul r3 c2))) (fabs (fmul r6 c3))) (fadd (fadd (fabs (fmul r4 c4)) (fabs (fmul r5 c5))) (fabs (fmul r7 c6)))) := ⟨_, rfl⟩
  rw [← hX] at fi1 i1 i2 ⊢
  have X0 : 9 / 10 * (G + G') ≤ rv X := by grind
  have X1 : rv X ≤ 11 / 10 * (G + G') := by grind
  have fL : fin 4472074429978902528 = true := by decide
  have el : rv 4472074429978902528 = 1 / 1073741824 := by
    have h := rv_m30
    have k1 : ((1 : Nat) : Rat) = 1 := rfl
    have k2 : ((1073741824 : Nat) : Rat) = 1073741824 := rfl
    rw [k1, k2] at h; exact h
  obtain ⟨fm, m1, m2⟩ := rv_mul (B := rv X / 1073741824 + 4 * eta) fL fi1 (by grind) (by rw [el]; grind) (by rw [el]; grind)
  rw [el] at m1 m2
  have ab := abs_bound (B := K + K / 9007199254740992) ff (by grind) (by grind)
  refine ⟨fS, fm, ?_⟩
  rw [rv_le (abs_cases ff).1 fm, decide_eq_true_eq]
  generalize rv (fabs (fsub 0 (fadd (fadd (fadd (fadd (fmul r2 c1) (fmul r3 c2)) (fmul r6 c3)) (fadd (fmul r4 c4) (fmul r5 c5))) (fmul r7 c6)))) = F at *
  generalize rv (fmul 4472074429978902528 X) = Y at *
  clear cr1 cr2 hK
  grind
theorem fabs_mul_of {j u v : Nat} (fj : fin j = true) (fu : fin u = true) (fv : fin v = true) (h : sval u = sval v) : fabs (fmul j u) = fabs (fmul j v) := by
  have e : magOf (rungOf u) = magOf (rungOf v) := by rw [← sval_abs u, h, sval_abs]
  have k : ∀ s : Bool, ∀ n d : Nat, fabs (double.word s (RN n d)) = RN n d := by
    intro s n d
    rw [fabs_of (nanb_word s (by rw [inf_rung]; exact RN_le _ _)), rung_word s (RN_le _ _)]
  rw [fmul_fin fj fu, fmul_fin fj fv, k, k, e]
theorem mag_ne {w : Nat} (h : rv w ≠ 0) : magOf (rungOf w) ≠ 0 := by
  intro hm
  apply h
  have : sval w = 0 := by
    have := sval_abs w; rw [hm] at this; exact Int.natAbs_eq_zero.1 this
  unfold rv; rw [this, Rat.div_def]; exact Rat.zero_mul _
theorem rv_word0 (s : Bool) : rv (double.word s 0) = 0 := by
  unfold rv; rw [(V.word0 s).2, Rat.div_def]; exact Rat.zero_mul _
theorem sgn_pos {z : Nat} (fz : fin z = true) (h1 : 0 < rv z) : sgnOf z = false := by
  have := rv_sgn fz
  obtain ⟨_, _, h3⟩ := abs_le fz
  cases hs : sgnOf z
  · rfl
  · rw [hs] at this; simp only [if_true] at this; grind
theorem sgn_minus {z : Nat} (fz : fin z = true) (h1 : rv z < 0) : sgnOf z = true := by
  have := rv_sgn fz
  obtain ⟨_, _, h3⟩ := abs_le fz
  cases hs : sgnOf z
  · rw [hs] at this; simp only [Bool.false_eq_true, if_false] at this; grind
  · rfl
theorem div_zero {x w : Nat} (fx : fin x = true) (fw : fin w = true) (w0 : 0 < rv w) (h : rv x = 0) : rv (fdiv x w) = 0 := by
  have hm : magOf (rungOf x) = 0 := by rw [← sval_abs x, rv_zero_sval h]; rfl
  rw [fdiv_zero fx fw hm (mag_ne (by grind))]
  exact rv_word0 _
theorem div_sign {x w : Nat} (fx : fin x = true) (fw : fin w = true) (w0 : 0 < rv w) (fd : fin (fdiv x w) = true) : (0 ≤ rv x → 0 ≤ rv (fdiv x w)) ∧ (rv x ≤ 0 → rv (fdiv x w) ≤ 0) := by
  by_cases h : rv x = 0
  · rw [div_zero fx fw w0 h]; exact ⟨fun _ => by grind, fun _ => by grind⟩
  · obtain ⟨u, hu⟩ : ∃ u, u = 1074 := ⟨_, rfl⟩
    obtain ⟨N, d, e, _⟩ := fdiv_fin hu fx fw (mag_ne (show rv w ≠ 0 by grind))
    have hr := rv_sgn fd
    obtain ⟨_, _, h3⟩ := abs_le fd
    have sw := sgn_pos fw w0
    have sd : sgnOf (fdiv x w) = sgnOf x := by rw [e, sgn_word _ (RN_le _ _), sw, Bool.xor_false]
    constructor
    · intro h1
      rw [sd, sgn_pos fx (by grind)] at hr; simp only [Bool.false_eq_true, if_false] at hr
      rw [hr]; exact h3
    · intro h1
      rw [sd, sgn_minus fx (by grind)] at hr; simp only [if_true] at hr
      rw [hr]; grind
theorem zero_add_word {d : Nat} (fd : fin d = true) (cd : CF d) : fin (fadd 0 d) = true ∧ rv (fadd 0 d) = rv d ∧ (rv d = 0 → fadd 0 d = 0) := by
  have v := V.add (show V 0 0 from ⟨by decide, by decide⟩) (V.self fd) (V.self fd) (Int.zero_add _)
  refine ⟨v.1, rv_of_V v (V.self fd), fun h => ?_⟩
  rw [fadd_fin (by decide) fd, show sval 0 = 0 from by decide, rv_zero_sval h]
  have : sgnOf 0 = false := by decide
  rw [this]
  simp only [Int.add_zero, Int.natAbs_zero, RN_zero, if_true, Bool.false_and]
  decide
/-- What is added a second time, if it is nought, changes nothing more. -/
theorem add_again {u t : Nat} (fu : fin u = true) (ft : fin t = true) (h : sval t = 0) : fadd (fadd u t) t = fadd u t := by
  have v : V (fadd u t) (sval u) := V.add (V.self fu) ⟨ft, h⟩ (V.self fu) (Int.add_zero _)
  have e := fadd_fin fu ft
  rw [fadd_fin v.1 ft, v.2, e, h, Int.add_zero]
  by_cases h0 : sval u = 0
  · rw [if_pos h0, if_pos h0]
    rw [sgn_word _ (RN_le _ _)]
    cases sgnOf u <;> cases sgnOf t <;> rfl
  · rw [if_neg h0, if_neg h0]
theorem one_row {r2 r3 r4 r5 r6 r7 a0 a1 a2 a3 a4 b0 b1 b2 b3 b4 : Nat} (ur2 : U40 r2) (ur3 : U40 r3) (ur4 : U40 r4) (ur5 : U40 r5) (ur6 : U40 r6) (ur7 : U40 r7) (ua0 : U40 a0) (ua1 : U40 a1) (ua2 : U40 a2) (ua3 : U40 a3) (ua4 : U40 a4) (ub0 : U40 b0) (ub1 : U40 b1) (ub2 : U40 b2) (ub3 : U40 b3) (ub4 : U40 b4) (n1 : 0 ≤ rv a0) (n2 : 0 ≤ rv a1) (n3 : 0 ≤ rv b0) (n4 : 0 ≤ rv b1) {s w q cq p c1 c2 c3 c4 c5 c6 S X : Nat} (hs : s = (fadd (fadd (fadd (fadd (fmul r2 a2) (fmul r3 a3)) (fmul r6 a4)) (fadd (fmul r4 b2) (fmul r5 b3))) (fmul r7 b4))) (hw : w = (fadd (fadd (fadd (fmul a0 (fadd (fmul r2 r2) (fmul r3 r3))) (fmul a1 (fmul r6 r6))) (fmul b0 (fadd (fmul r4 r4) (fmul r5 r5)))) (fmul b1 (fmul r7 r7)))) (w0 : 0 < rv w)
    (hq : q = fadd 0 (fdiv (fsub 0 s) w)) (hcq : cq = bif flt 0 q then q else 0) (hp : p = fsub cq 0) (hc1 : c1 = (bif !(feq a0 0) then fadd a2 (fmul (fmul a0 p) r2) else a2)) (hc2 : c2 = (bif !(feq a0 0) then fadd a3 (fmul (fmul a0 p) r3) else a3)) (hc3 : c3 = (bif !(feq a1 0) then fadd a4 (fmul a1 (fmul p r6)) else a4)) (hc4 : c4 = (bif !(feq b0 0) then fadd b2 (fmul (fmul b0 p) r4) else b2)) (hc5 : c5 = (bif !(feq b0 0) then fadd b3 (fmul (fmul b0 p) r5) else b3)) (hc6 : c6 = (bif !(feq b1 0) then fadd b4 (fmul b1 (fmul p r7)) else b4))
    (i1 : (bif !(feq a0 0) then fadd a2 (fmul (fmul a0 0) r2) else a2) = a2) (i2 : (bif !(feq a0 0) then fadd a3 (fmul (fmul a0 0) r3) else a3) = a3) (i3 : (bif !(feq a1 0) then fadd a4 (fmul a1 (fmul 0 r6)) else a4) = a4) (i4 : (bif !(feq b0 0) then fadd b2 (fmul (fmul b0 0) r4) else b2) = b2) (i5 : (bif !(feq b0 0) then fadd b3 (fmul (fmul b0 0) r5) else b3) = b3) (i6 : (bif !(feq b1 0) then fadd b4 (fmul b1 (fmul 0 r7)) else b4) = b4)
    (hS : S = (fadd (fadd (fadd (fadd (fmul r2 c1) (fmul r3 c2)) (fmul r6 c3)) (fadd (fmul r4 c4) (fmul r5 c5))) (fmul r7 c6)))
    (hX : X = fadd (fadd (fadd (fadd (fabs (fmul r2 a2)) (fabs (fmul r3 a3))) (fabs (fmul r6 a4))) (fadd (fadd (fabs (fmul r4 b2)) (fabs (fmul r5 b3))) (fabs (fmul r7 b4)))) (fadd (fadd (fadd (fabs (fmul r2 c1)) (fabs (fmul r3 c2))) (fabs (fmul r6 c3))) (fadd (fadd (fabs (fmul r4 c4)) (fabs (fmul r5 c5))) (fabs (fmul r7 c6))))) :
    fin (fsub 0 s) = true ∧ fin q = true ∧ fin cq = true ∧ CF cq ∧ fin p = true ∧ flt cq 0 = false ∧
    fle (bif ((flt (fsub 0 S) 0 && fle cq 0) || (flt 0 (fsub 0 S) && fle 9218868437227405312 cq)) then 0 else (bif flt 0 (fabs (fsub 0 S)) then fabs (fsub 0 S) else 0)) (fmul 4472074429978902528 X) = true := by
  have c0 : CF 0 := cf0
  have u0 : U40 0 := u40_0
  have r0 : rv 0 = 0 := rv_0
  have f0 : fin 0 = true := by decide
  have z0 : rv (fabs 0) = 0 := by rw [show fabs 0 = 0 from by decide]; exact r0
  have bg := big_800
  have e0 := eta_pos
  have e9 := eta_900
  obtain ⟨fs, fw, wn, fl, rest⟩ := solved_facts c0 c0 ur2 ur3 ur4 ur5 ur6 ur7 u0 u0 ua0 ua1 ua2 ua3 ua4 ub0 ub1 ub2 ub3 ub4 n1 n2 n3 n4 hs hw
  obtain ⟨fd, fq, qab, dab, fp, pab, G, sg, Wt, hsg, hWt, hG, G0, G9, Gz, sl, sh, W0, w9, s1, s2, w1, w2, x1, x2, d1, d2, fg, g1, g2⟩ := rest w0
  obtain ⟨_, zr, zz⟩ := zero_add_word fd (CF.div _ _)
  rw [← hq] at fq fp zr zz
  have cs : CF s := by rw [hs]; exact CF.add _ _
  have cqq : CF q := by rw [hq]; exact CF.add _ _
  obtain ⟨sa, sb, sc⟩ := abs_le fs
  have s9 : rv (fabs s) ≤ 2 * G := abs_bound fs (by grind) (by grind)
  obtain ⟨_, y1, y2⟩ := rv_sub (a := 0) (b := s) (B := rv (fabs s)) cs.lt f0 fs (by grind) (by rw [r0]; grind) (by rw [r0]; grind)
  rw [r0] at y1 y2
  have sgn := rv_sgn fs
  obtain ⟨ds1, ds2⟩ := div_sign fl fw w0 fd
  have lt0 : ∀ {z : Nat}, fin z = true → flt 0 z = !decide (rv z ≤ 0) := fun {z} fz => by rw [flt_rv f0 fz, r0]
  by_cases hneg : rv s < 0
  · -- it asks for a push
    have ea : rv (fabs s) = -rv s := (rv_abs fs).2.2.1 (by grind)
    have q0 : 0 ≤ rv q := by rw [zr]; exact ds1 (by grind)
    have ecq : cq = q := by
      by_cases h : rv q = 0
      · have : q = 0 := zz (by rw [← zr]; exact h)
        rw [hcq, this]; cases flt 0 0 <;> rfl
      · rw [hcq, lt0 fq, decide_eq_false (by grind)]; rfl
    rw [ecq] at hp ⊢
    obtain ⟨fS, fm, hl⟩ := one_main ur2 ur3 ur4 ur5 ur6 ur7 ua0 ua1 ua2 ua3 ua4 ub0 ub1 ub2 ub3 ub4 n1 n2 n3 n4 hs hw w0 hq hp (by grind) hc1 hc2 hc3 hc4 hc5 hc6
    rw [← hS, ← hX] at hl
    rw [← hX] at fm
    rw [← hS] at fS
    have hm0 : fle 0 (fmul 4472074429978902528 X) = true := by
      have cS : S < 18446744073709551616 := by rw [hS]; exact (CF.add _ _).lt
      have fdd : fin (fsub 0 S) = true := (V.sub cS (show V 0 0 from ⟨by decide, by decide⟩) (V.self fS) (V.neg cS (V.self fS)) (by omega)).1
      have fa := (abs_cases fdd).1
      rw [rv_le fa fm, decide_eq_true_eq] at hl
      rw [rv_le f0 fm, decide_eq_true_eq, r0]
      have := (abs_cases fdd).2.1
      grind
    refine ⟨fl, fq, fq, cqq, by rw [hp]; exact fp, by rw [flt_rv fq f0, r0, decide_eq_true q0]; rfl, ?_⟩
    cases ((flt (fsub 0 S) 0 && fle q 0) || (flt 0 (fsub 0 S) && fle 9218868437227405312 q))
    · cases flt 0 (fabs (fsub 0 S))
      · exact hm0
      · exact hl
    · exact hm0
  · have ea : rv (fabs s) = rv s := (rv_abs fs).2.1 (by grind)
    have q0 : rv q ≤ 0 := by rw [zr]; exact ds2 (by grind)
    have ecq : cq = 0 := by rw [hcq, lt0 fq, decide_eq_true q0]; rfl
    have ep : p = 0 := by rw [hp, ecq]; decide
    rw [ep, i1] at hc1; rw [ep, i2] at hc2; rw [ep, i3] at hc3; rw [ep, i4] at hc4; rw [ep, i5] at hc5; rw [ep, i6] at hc6
    subst hc1 hc2 hc3 hc4 hc5 hc6
    have eS : S = s := by rw [hS, hs]
    refine ⟨fl, fq, by rw [ecq]; exact f0, by rw [ecq]; exact c0, by rw [ep]; exact f0, by rw [ecq]; decide, ?_⟩
    rw [eS, ecq]
    obtain ⟨fi1, i1', i2'⟩ := rv_add (B := 4 * G) fg fg (by grind) (by grind) (by grind)
    rw [← hX] at fi1 i1' i2'
    have X0 : 0 ≤ rv X := by grind
    have fL : fin 4472074429978902528 = true := by decide
    have el : rv 4472074429978902528 = 1 / 1073741824 := by
      have h := rv_m30
      have k1 : ((1 : Nat) : Rat) = 1 := rfl
      have k2 : ((1073741824 : Nat) : Rat) = 1073741824 := rfl
      rw [k1, k2] at h; exact h
    obtain ⟨fm, m1, m2⟩ := rv_mul (B := rv X) fL fi1 (by grind) (by rw [el]; grind) (by rw [el]; grind)
    have hm0 : fle 0 (fmul 4472074429978902528 X) = true := by
      rw [rv_le f0 fm, decide_eq_true_eq, r0]
      exact rv_mul_nonneg fL fi1 (by rw [el]; grind) X0 fm
    have e00 : fle 0 0 = true := by decide
    rw [e00, Bool.and_true]
    cases hlt : flt (fsub 0 s) 0
    · have : rv (fsub 0 s) = 0 := by
        rw [flt_rv fl f0, r0] at hlt
        have : 0 ≤ rv (fsub 0 s) := by simpa using hlt
        grind
      have ez : rv (fabs (fsub 0 s)) = 0 := abs_zero fl this
      rw [lt0 fl, lt0 (abs_cases fl).1, this, ez]
      exact hm0
    · exact hm0
end Go.Sim
