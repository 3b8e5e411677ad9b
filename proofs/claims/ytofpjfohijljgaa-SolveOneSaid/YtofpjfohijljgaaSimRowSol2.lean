/- A row solved: the floats. -/
import Derived.Test.YtofpjfohijljgaaSimRowSol
set_option linter.unusedVariables false
set_option linter.unusedSimpArgs false
namespace Go.Sim
theorem cancel_lt {x y u : Rat} (hu : 0 < u) (h : x * u ≤ y * u) : x ≤ y := cancel_le hu h
/-- What the weight, what is lacking, the quotient and the new push are. -/
theorem solved_facts {r2 r3 r4 r5 r6 r7 r8 r11 a0 a1 a2 a3 a4 b0 b1 b2 b3 b4 : Nat} (c8 : CF r8) (c11 : CF r11) (ur2 : U40 r2) (ur3 : U40 r3) (ur4 : U40 r4) (ur5 : U40 r5) (ur6 : U40 r6) (ur7 : U40 r7) (ur8 : U40 r8) (ur11 : U40 r11) (ua0 : U40 a0) (ua1 : U40 a1) (ua2 : U40 a2) (ua3 : U40 a3) (ua4 : U40 a4) (ub0 : U40 b0) (ub1 : U40 b1) (ub2 : U40 b2) (ub3 : U40 b3) (ub4 : U40 b4) (n1 : 0 ≤ rv a0) (n2 : 0 ≤ rv a1) (n3 : 0 ≤ rv b0) (n4 : 0 ≤ rv b1) {s w : Nat} (hs : s = (fadd (fadd (fadd (fadd (fmul r2 a2) (fmul r3 a3)) (fmul r6 a4)) (fadd (fmul r4 b2) (fmul r5 b3))) (fmul r7 b4))) (hw : w = (fadd (fadd (fadd (fmul a0 (fadd (fmul r2 r2) (fmul r3 r3))) (fmul a1 (fmul r6 r6))) (fmul b0 (fadd (fmul r4 r4) (fmul r5 r5)))) (fmul b1 (fmul r7 r7)))) :
    fin s = true ∧ fin w = true ∧ 0 ≤ rv w ∧ fin (fsub r8 s) = true ∧ (0 < rv w → fin (fdiv (fsub r8 s) w) = true ∧ fin (fadd r11 (fdiv (fsub r8 s) w)) = true ∧ rv (fabs (fadd r11 (fdiv (fsub r8 s) w))) ≤ 1645504557321206042154969182557350504982735865633579863348609024 ∧ rv (fabs (fdiv (fsub r8 s) w)) ≤ 822752278660603021077484591278675252491367932816789931674304512 ∧
      fin (fsub (fadd r11 (fdiv (fsub r8 s) w)) r11) = true ∧ rv (fabs (fsub (fadd r11 (fdiv (fsub r8 s) w)) r11)) ≤ 6582018229284824168619876730229402019930943462534319453394436096 ∧
      ∃ (G sg Wt : Rat), sg = rv r2 * rv a2 + rv r3 * rv a3 + rv r6 * rv a4 + rv r4 * rv b2 + rv r5 * rv b3 + rv r7 * rv b4 ∧ Wt = rv a0 * (rv r2 * rv r2 + rv r3 * rv r3) + rv a1 * (rv r6 * rv r6) + rv b0 * (rv r4 * rv r4 + rv r5 * rv r5) + rv b1 * (rv r7 * rv r7) ∧ G = rv (fabs r2) * rv (fabs a2) + rv (fabs r3) * rv (fabs a3) + rv (fabs r6) * rv (fabs a4) + rv (fabs r4) * rv (fabs b2) + rv (fabs r5) * rv (fabs b3) + rv (fabs r7) * rv (fabs b4) ∧ 0 ≤ G ∧ G ≤ 9671406556917033397649408 ∧ (G = 0 ∨ 1 / 1208925819614629174706176 ≤ G) ∧ -G ≤ sg ∧ sg ≤ G ∧ 0 ≤ Wt ∧ rv w ≤ 42535295865117307932921825928971026432 ∧
        -(G / 140737488355328) ≤ rv s - sg ∧ rv s - sg ≤ G / 140737488355328 ∧ -(Wt / 281474976710656) ≤ rv w - Wt ∧ rv w - Wt ≤ Wt / 281474976710656 ∧
        -((rv (fabs r8) + 2 * G) / 9007199254740992) ≤ rv (fsub r8 s) - (rv r8 - rv s) ∧ rv (fsub r8 s) - (rv r8 - rv s) ≤ (rv (fabs r8) + 2 * G) / 9007199254740992 ∧
        -((rv (fabs r8) + 3 * G) / 2251799813685248 + eta * rv w) ≤ rv (fdiv (fsub r8 s) w) * rv w - rv (fsub r8 s) ∧ rv (fdiv (fsub r8 s) w) * rv w - rv (fsub r8 s) ≤ (rv (fabs r8) + 3 * G) / 2251799813685248 + eta * rv w ∧
        fin (fadd (fadd (fadd (fabs (fmul r2 a2)) (fabs (fmul r3 a3))) (fabs (fmul r6 a4))) (fadd (fadd (fabs (fmul r4 b2)) (fabs (fmul r5 b3))) (fabs (fmul r7 b4)))) = true ∧ 99 / 100 * G ≤ rv (fadd (fadd (fadd (fabs (fmul r2 a2)) (fabs (fmul r3 a3))) (fabs (fmul r6 a4))) (fadd (fadd (fabs (fmul r4 b2)) (fabs (fmul r5 b3))) (fabs (fmul r7 b4)))) ∧ rv (fadd (fadd (fadd (fabs (fmul r2 a2)) (fabs (fmul r3 a3))) (fabs (fmul r6 a4))) (fadd (fadd (fabs (fmul r4 b2)) (fabs (fmul r5 b3))) (fabs (fmul r7 b4)))) ≤ 101 / 100 * G) := by
  have bg := big_800
  have e0 := eta_pos
  have e9 := eta_900
  obtain ⟨f1, G0, G9, Gz, sl, sh, s1, s2, f2, g1, g2⟩ := speed_near ur2 ur3 ur6 ur4 ur5 ur7 ua2 ua3 ua4 ub2 ub3 ub4 rfl rfl
  obtain ⟨f3, W0, W9, Wz, w1, w2⟩ := weight_near ua0 ur2 ur3 ua1 ur6 ub0 ur4 ur5 ub1 ur7 n1 n2 n3 n4 rfl rfl
  rw [← hs] at f1 s1 s2
  rw [← hw] at f3 w1 w2
  obtain ⟨G, hG⟩ : ∃ G, G = rv (fabs r2) * rv (fabs a2) + rv (fabs r3) * rv (fabs a3) + rv (fabs r6) * rv (fabs a4) + rv (fabs r4) * rv (fabs b2) + rv (fabs r5) * rv (fabs b3) + rv (fabs r7) * rv (fabs b4) := ⟨_, rfl⟩
  obtain ⟨sg, hsg⟩ : ∃ G, G = rv r2 * rv a2 + rv r3 * rv a3 + rv r6 * rv a4 + rv r4 * rv b2 + rv r5 * rv b3 + rv r7 * rv b4 := ⟨_, rfl⟩
  obtain ⟨Wt, hWt⟩ : ∃ G, G = rv a0 * (rv r2 * rv r2 + rv r3 * rv r3) + rv a1 * (rv r6 * rv r6) + rv b0 * (rv r4 * rv r4 + rv r5 * rv r5) + rv b1 * (rv r7 * rv r7) := ⟨_, rfl⟩
  rw [← hG] at G0 G9 Gz sl sh s1 s2 g1 g2
  rw [← hsg] at sl sh s1 s2
  rw [← hWt] at W0 W9 Wz w1 w2
  obtain ⟨l8, h8, z8⟩ := abs_le ur8.1
  have b8 := ur8.bound.2
  obtain ⟨l11, h11, z11⟩ := abs_le ur11.1
  have b11 := ur11.bound.2
  have ls : s < 18446744073709551616 := by rw [hs]; exact (CF.add _ _).lt
  obtain ⟨f4, x1, x2⟩ := rv_sub (B := rv (fabs r8) + 2 * G) ls ur8.1 f1 (by grind) (by grind) (by grind)
  refine ⟨f1, f3, by grind, f4, fun w0 => ?_⟩
  have wlo : 1 / 5316911983139663491615228241121378304 ≤ rv w := by
    rcases Wz with h | h
    · grind
    · grind
  have labs : rv (fabs (fsub r8 s)) ≤ 2 * rv (fabs r8) + 3 * G := abs_bound f4 (by grind) (by grind)
  have lC : rv (fabs (fsub r8 s)) ≤ 411376139330301510538742295639337626245683966408394965837152256 * rv w := by grind
  obtain ⟨f5, d1, d2⟩ := rv_quo (C := 411376139330301510538742295639337626245683966408394965837152256) f4 f3 w0 (by grind) (by grind) lC
  have dhi : rv (fdiv (fsub r8 s) w) ≤ 822752278660603021077484591278675252491367932816789931674304512 := by
    obtain ⟨k1, k2, k3⟩ := abs_le f4
    have n := Rat.mul_nonneg (show 0 ≤ 1 - eta by grind) (Rat.le_of_lt w0)
    refine cancel_le w0 ?_
    grind
  have dlo : -822752278660603021077484591278675252491367932816789931674304512 ≤ rv (fdiv (fsub r8 s) w) := by
    obtain ⟨k1, k2, k3⟩ := abs_le f4
    have n := Rat.mul_nonneg (show 0 ≤ 1 - eta by grind) (Rat.le_of_lt w0)
    refine cancel_le w0 ?_
    grind
  obtain ⟨f6, q1, q2⟩ := rv_add (B := 822752278660603021077484591278675252491367932816789931674304512 + 1099511627776) ur11.1 f5 (by grind) (by grind) (by grind)
  have qab : rv (fabs (fadd r11 (fdiv (fsub r8 s) w))) ≤ 1645504557321206042154969182557350504982735865633579863348609024 := abs_bound f6 (by grind) (by grind)
  obtain ⟨qa, qb, qc⟩ := abs_le f6
  obtain ⟨f7, p1, p2⟩ := rv_sub (B := 3291009114642412084309938365114701009965471731267159726697218048) c11.lt f6 ur11.1 (by grind) (by grind) (by grind)
  have pab : rv (fabs (fsub (fadd r11 (fdiv (fsub r8 s) w)) r11)) ≤ 6582018229284824168619876730229402019930943462534319453394436096 := abs_bound f7 (by grind) (by grind)
  refine ⟨f5, f6, qab, abs_bound f5 dlo dhi, f7, pab, G, sg, Wt, hsg, hWt, hG, G0, G9, Gz, sl, sh, W0, by grind, s1, s2, w1, w2, x1, x2, by grind, by grind, f2, g1, g2⟩
theorem V_of_rv0 {a : Nat} (fa : fin a = true) (h : rv a = 0) : V a 0 := ⟨fa, rv_zero_sval h⟩
theorem rv_of_V {a b : Nat} {k : Int} (h : V a k) (g : V b k) : rv a = rv b := by unfold rv; rw [h.2, g.2]
theorem still_way {m p w s : Nat} (um : U40 m) (uw : U40 w) (us : U40 s) (fp : fin p = true) (hp : rv p = 0) : V (bif !(feq m 0) then fadd s (fmul (fmul m p) w) else s) (sval s) := by
  cases h : feq m 0
  · show V (fadd s (fmul (fmul m p) w)) (sval s)
    obtain ⟨f1, e1⟩ := rv_mul_zero um.1 fp (by rw [hp]; grind)
    obtain ⟨f2, e2⟩ := rv_mul_zero f1 uw.1 (by rw [e1]; grind)
    exact V.add (V.self us.1) (V_of_rv0 f2 e2) (V.self us.1) (by omega)
  · exact V.self us.1
theorem still_turn {m p w s : Nat} (um : U40 m) (uw : U40 w) (us : U40 s) (fp : fin p = true) (hp : rv p = 0) : V (bif !(feq m 0) then fadd s (fmul m (fmul p w)) else s) (sval s) := by
  cases h : feq m 0
  · show V (fadd s (fmul m (fmul p w))) (sval s)
    obtain ⟨f1, e1⟩ := rv_mul_zero fp uw.1 (by rw [hp]; grind)
    obtain ⟨f2, e2⟩ := rv_mul_zero um.1 f1 (by rw [e1]; grind)
    exact V.add (V.self us.1) (V_of_rv0 f2 e2) (V.self us.1) (by omega)
  · exact V.self us.1
theorem zero_mul' {w s c : Nat} (fw : fin w = true) (fs : fin s = true) (hc : V c (sval s)) (h : rv (fabs w) * rv (fabs s) = 0) : fin (fmul w c) = true ∧ rv (fmul w c) = 0 := by
  have e : rv c = rv s := rv_of_V hc (V.self fs)
  obtain ⟨_, _, k⟩ := abs_cases fw
  obtain ⟨_, _, l⟩ := abs_cases fs
  refine rv_mul_zero fw hc.1 ?_
  rw [e]
  rcases k with k | k <;> rcases l with l | l <;> rw [k, l] <;> grind
theorem abs_zero {a : Nat} (fa : fin a = true) (h : rv a = 0) : rv (fabs a) = 0 := by
  rw [(rv_abs fa).2.1 (by grind), h]
theorem six_lin {x1 x2 x3 x4 x5 x6 y1 y2 y3 y4 y5 y6 z1 z2 z3 z4 z5 z6 n1 n2 n3 n4 n5 n6 a1 a2 a3 a4 a5 a6 e : Rat} (h1 : -(a1 / 1125899906842624 + n1 / 2251799813685248 + e) ≤ x1 - (y1 + z1)) (h2 : -(a2 / 1125899906842624 + n2 / 2251799813685248 + e) ≤ x2 - (y2 + z2)) (h3 : -(a3 / 1125899906842624 + n3 / 2251799813685248 + e) ≤ x3 - (y3 + z3)) (h4 : -(a4 / 1125899906842624 + n4 / 2251799813685248 + e) ≤ x4 - (y4 + z4)) (h5 : -(a5 / 1125899906842624 + n5 / 2251799813685248 + e) ≤ x5 - (y5 + z5)) (h6 : -(a6 / 1125899906842624 + n6 / 2251799813685248 + e) ≤ x6 - (y6 + z6)) :
    -((a1 + a2 + a3 + a4 + a5 + a6) / 1125899906842624 + (n1 + n2 + n3 + n4 + n5 + n6) / 2251799813685248 + 6 * e) ≤ x1 + x2 + x3 + x4 + x5 + x6 - (y1 + y2 + y3 + y4 + y5 + y6 + (z1 + z2 + z3 + z4 + z5 + z6)) := by grind
theorem six_lin' {x1 x2 x3 x4 x5 x6 y1 y2 y3 y4 y5 y6 z1 z2 z3 z4 z5 z6 n1 n2 n3 n4 n5 n6 a1 a2 a3 a4 a5 a6 e : Rat} (h1 : x1 - (y1 + z1) ≤ a1 / 1125899906842624 + n1 / 2251799813685248 + e) (h2 : x2 - (y2 + z2) ≤ a2 / 1125899906842624 + n2 / 2251799813685248 + e) (h3 : x3 - (y3 + z3) ≤ a3 / 1125899906842624 + n3 / 2251799813685248 + e) (h4 : x4 - (y4 + z4) ≤ a4 / 1125899906842624 + n4 / 2251799813685248 + e) (h5 : x5 - (y5 + z5) ≤ a5 / 1125899906842624 + n5 / 2251799813685248 + e) (h6 : x6 - (y6 + z6) ≤ a6 / 1125899906842624 + n6 / 2251799813685248 + e) :
    x1 + x2 + x3 + x4 + x5 + x6 - (y1 + y2 + y3 + y4 + y5 + y6 + (z1 + z2 + z3 + z4 + z5 + z6)) ≤ (a1 + a2 + a3 + a4 + a5 + a6) / 1125899906842624 + (n1 + n2 + n3 + n4 + n5 + n6) / 2251799813685248 + 6 * e := by grind
theorem rv_mul_nonneg {a b : Nat} (fa : fin a = true) (fb : fin b = true) (ha : 0 ≤ rv a) (hb : 0 ≤ rv b) (fm : fin (fmul a b) = true) : 0 ≤ rv (fmul a b) := by
  by_cases h : rv a * rv b = 0
  · rw [(rv_mul_zero fa fb h).2]; grind
  · have ha' : rv a ≠ 0 := by intro h'; rw [h'] at h; grind
    have hb' : rv b ≠ 0 := by intro h'; rw [h'] at h; grind
    have sgn0 : ∀ {z : Nat}, fin z = true → 0 ≤ rv z → rv z ≠ 0 → sgnOf z = false := by
      intro z fz h1 h2
      have := rv_sgn fz
      obtain ⟨_, _, h3⟩ := abs_le fz
      cases hs : sgnOf z
      · rfl
      · rw [hs] at this; simp only [if_true] at this; grind
    have s1 : sgnOf (fmul a b) = false := by
      rw [fmul_fin fa fb, sgn_word _ (RN_le _ _), sgn0 fa ha ha', sgn0 fb hb hb']; rfl
    have := rv_sgn fm
    obtain ⟨_, _, h3⟩ := abs_le fm
    rw [s1] at this; simp only [Bool.false_eq_true, if_false] at this
    rw [this]; exact h3
theorem rv_add_nonneg {a b : Nat} (fa : fin a = true) (fb : fin b = true) (ha : 0 ≤ rv a) (hb : 0 ≤ rv b) : 0 ≤ rv (fadd a b) := by
  have hu := uu_pos
  have h1 : (0 : Rat) ≤ (sval a : Rat) := by rw [rv_mul_uu]; exact Rat.mul_nonneg ha (Rat.le_of_lt hu)
  have h2 : (0 : Rat) ≤ (sval b : Rat) := by rw [rv_mul_uu]; exact Rat.mul_nonneg hb (Rat.le_of_lt hu)
  have h1' : 0 ≤ sval a := Rat.intCast_le_intCast.1 h1
  have h2' : 0 ≤ sval b := Rat.intCast_le_intCast.1 h2
  have h3 : 0 ≤ sval (fadd a b) := by
    rw [fadd_fin fa fb]
    by_cases h : sval a + sval b = 0
    · rw [h, Int.natAbs_zero, RN_zero, (V.word0 _).2]; exact Int.le_refl 0
    · rw [if_neg h, sval_word _ (RN_le _ _), if_neg (by simp; omega)]; omega
  have h4 : (0 : Rat) ≤ (sval (fadd a b) : Rat) := Rat.intCast_le_intCast.2 h3
  rw [rv_mul_uu] at h4
  exact cancel_le hu (by grind)
theorem rv_m30 : rv 4472074429978902528 = ((1 : Nat) : Rat) / ((1073741824 : Nat) : Rat) := rv_lit (by decide) (by decide) (by intro d hd; subst hd; decide +kernel)
set_option maxHeartbeats 2000000 in
theorem solved_main {r2 r3 r4 r5 r6 r7 r8 r11 a0 a1 a2 a3 a4 b0 b1 b2 b3 b4 : Nat} (c8 : CF r8) (c11 : CF r11) (ur2 : U40 r2) (ur3 : U40 r3) (ur4 : U40 r4) (ur5 : U40 r5) (ur6 : U40 r6) (ur7 : U40 r7) (ur8 : U40 r8) (ur11 : U40 r11) (ua0 : U40 a0) (ua1 : U40 a1) (ua2 : U40 a2) (ua3 : U40 a3) (ua4 : U40 a4) (ub0 : U40 b0) (ub1 : U40 b1) (ub2 : U40 b2) (ub3 : U40 b3) (ub4 : U40 b4) (n1 : 0 ≤ rv a0) (n2 : 0 ≤ rv a1) (n3 : 0 ≤ rv b0) (n4 : 0 ≤ rv b1) {s w q p c1 c2 c3 c4 c5 c6 : Nat} (hs : s = (fadd (fadd (fadd (fadd (fmul r2 a2) (fmul r3 a3)) (fmul r6 a4)) (fadd (fmul r4 b2) (fmul r5 b3))) (fmul r7 b4))) (hw : w = (fadd (fadd (fadd (fmul a0 (fadd (fmul r2 r2) (fmul r3 r3))) (fmul a1 (fmul r6 r6))) (fmul b0 (fadd (fmul r4 r4) (fmul r5 r5)))) (fmul b1 (fmul r7 r7)))) (w0 : 0 < rv w)
    (hq : q = fadd r11 (fdiv (fsub r8 s) w)) (hp : p = fsub q r11) (hc1 : c1 = (bif !(feq a0 0) then fadd a2 (fmul (fmul a0 p) r2) else a2)) (hc2 : c2 = (bif !(feq a0 0) then fadd a3 (fmul (fmul a0 p) r3) else a3)) (hc3 : c3 = (bif !(feq a1 0) then fadd a4 (fmul a1 (fmul p r6)) else a4)) (hc4 : c4 = (bif !(feq b0 0) then fadd b2 (fmul (fmul b0 p) r4) else b2)) (hc5 : c5 = (bif !(feq b0 0) then fadd b3 (fmul (fmul b0 p) r5) else b3)) (hc6 : c6 = (bif !(feq b1 0) then fadd b4 (fmul b1 (fmul p r7)) else b4)) :
    fle (fabs (fsub (fadd (fadd (fadd (fadd (fmul r2 c1) (fmul r3 c2)) (fmul r6 c3)) (fadd (fmul r4 c4) (fmul r5 c5))) (fmul r7 c6)) r8)) (fmul 4472074429978902528 (fadd (fadd (fadd (fadd (fadd (fadd (fabs (fmul r2 a2)) (fabs (fmul r3 a3))) (fabs (fmul r6 a4))) (fadd (fadd (fabs (fmul r4 b2)) (fabs (fmul r5 b3))) (fabs (fmul r7 b4)))) (fadd (fadd (fadd (fabs (fmul r2 c1)) (fabs (fmul r3 c2))) (fabs (fmul r6 c3))) (fadd (fadd (fabs (fmul r4 c4)) (fabs (fmul r5 c5))) (fabs (fmul r7 c6))))) (fabs r8)) (fmul w (fadd (fabs r11) (fabs q))))) = true := by
  have bg := big_800
  have e0 := eta_pos
  have e9 := eta_900
  obtain ⟨fs, fw, wn, fl, rest⟩ := solved_facts c8 c11 ur2 ur3 ur4 ur5 ur6 ur7 ur8 ur11 ua0 ua1 ua2 ua3 ua4 ub0 ub1 ub2 ub3 ub4 n1 n2 n3 n4 hs hw
  obtain ⟨fd, fq, qab, dab, fp, pab, G, sg, Wt, hsg, hWt, hG, G0, G9, Gz, sl, sh, W0, w9, s1, s2, w1, w2, x1, x2, d1, d2, fg, g1, g2⟩ := rest w0
  rw [← hq] at fq qab fp pab
  rw [← hp] at fp pab
  have hp3 : rv (fabs p) ≤ 2037035976334486086268445688409378161051468393665936250636140449354381299763336706183397376 := by grind
  have t1 : Part a0 p r2 a2 c1 := by rw [hc1]; exact part_way ua0 n1 ur2 ua2 fp hp3
  obtain ⟨fP1, P19, k1, j1⟩ := t1.adds ua0 n1 ur2 ua2 fp hp3
  have fa1 := abs_le fP1
  have t2 : Part a0 p r3 a3 c2 := by rw [hc2]; exact part_way ua0 n1 ur3 ua3 fp hp3
  obtain ⟨fP2, P29, k2, j2⟩ := t2.adds ua0 n1 ur3 ua3 fp hp3
  have fa2 := abs_le fP2
  have t3 : Part a1 p r6 a4 c3 := by rw [hc3]; exact part_turn ua1 n2 ur6 ua4 fp hp3
  obtain ⟨fP3, P39, k3, j3⟩ := t3.adds ua1 n2 ur6 ua4 fp hp3
  have fa3 := abs_le fP3
  have t4 : Part b0 p r4 b2 c4 := by rw [hc4]; exact part_way ub0 n3 ur4 ub2 fp hp3
  obtain ⟨fP4, P49, k4, j4⟩ := t4.adds ub0 n3 ur4 ub2 fp hp3
  have fa4 := abs_le fP4
  have t5 : Part b0 p r5 b3 c5 := by rw [hc5]; exact part_way ub0 n3 ur5 ub3 fp hp3
  obtain ⟨fP5, P59, k5, j5⟩ := t5.adds ub0 n3 ur5 ub3 fp hp3
  have fa5 := abs_le fP5
  have t6 : Part b1 p r7 b4 c6 := by rw [hc6]; exact part_turn ub1 n4 ur7 ub4 fp hp3
  obtain ⟨fP6, P69, k6, j6⟩ := t6.adds ub1 n4 ur7 ub4 fp hp3
  have fa6 := abs_le fP6
  obtain ⟨G', hG'⟩ : ∃ G', G' = rv (fabs (fmul r2 c1)) + rv (fabs (fmul r3 c2)) + rv (fabs (fmul r6 c3)) + rv (fabs (fmul r4 c4)) + rv (fabs (fmul r5 c5)) + rv (fabs (fmul r7 c6)) := ⟨_, rfl⟩
  have G'0 : 0 ≤ G' := by rw [hG']; have := fa1.2.2; have := fa2.2.2; have := fa3.2.2; have := fa4.2.2; have := fa5.2.2; have := fa6.2.2; grind
  have G'9 : G' ≤ 90854840536950861318665475986000566794205170085914757535186274897579911014174740415773881339220445695095315200783272241691825203576832 := by rw [hG']; grind
  obtain ⟨fS, S1, S2⟩ := six_sum (A := G') fP1 fP2 fP3 fP4 fP5 fP6 (by rw [hG']; grind) (by grind)
  obtain ⟨fg', g1', g2'⟩ := six_goes fP1 fP2 fP3 fP4 fP5 fP6 hG' (by grind)
  obtain ⟨l8, h8, z8⟩ := abs_le ur8.1
  have b8 := ur8.bound.2
  obtain ⟨l11, h11, z11⟩ := abs_le ur11.1
  have b11 := ur11.bound.2
  obtain ⟨ql, qh, qz⟩ := abs_le fq
  -- the weight times the pushes
  have fa8 := (abs_cases ur8.1).1
  have fa11 := (abs_cases ur11.1).1
  have faq := (abs_cases fq).1
  obtain ⟨fpq, y1, y2⟩ := rv_add (B := rv (fabs r11) + rv (fabs q)) fa11 faq (by grind) (by grind) (by grind)
  have pq9 : rv (fadd (fabs r11) (fabs q)) ≤ 6582018229284824168619876730229402019930943462534319453394436096 := by grind
  have wq9 := mul_le (A := 42535295865117307932921825928971026432) (C := 6582018229284824168619876730229402019930943462534319453394436096) (x := rv w) (y := rv (fadd (fabs r11) (fabs q))) (by grind) w9 (by grind) pq9
  have wq0 := Rat.mul_nonneg wn (show 0 ≤ rv (fadd (fabs r11) (fabs q)) by grind)
  obtain ⟨fwq, v1, v2⟩ := rv_mul (B := rv w * rv (fadd (fabs r11) (fabs q))) fw fpq (by grind) (by grind) (by grind)
  obtain ⟨fi1, i1, i2⟩ := rv_add (B := 2 * G + 2 * G') fg fg' (by grind) (by grind) (by grind)
  obtain ⟨fi2, i3, i4⟩ := rv_add (B := 4 * G + 4 * G' + rv (fabs r8)) fi1 fa8 (by grind) (by grind) (by grind)
  have wq := Rat.mul_nonneg W0 (show 0 ≤ rv (fabs r11) + rv (fabs q) by grind)
  -- the product against the exact one
  have pr1 : rv w * rv (fadd (fabs r11) (fabs q)) ≤ 101 / 100 * (Wt * (rv (fabs q) + rv (fabs r11))) ∧ 99 / 100 * (Wt * (rv (fabs q) + rv (fabs r11))) ≤ rv w * rv (fadd (fabs r11) (fabs q)) := by
    have m1 := Rat.mul_nonneg (show 0 ≤ 1001 / 1000 * Wt - rv w by grind) (show 0 ≤ rv (fadd (fabs r11) (fabs q)) by grind)
    have m2 := Rat.mul_nonneg (show 0 ≤ rv w - 999 / 1000 * Wt by grind) (show 0 ≤ rv (fadd (fabs r11) (fabs q)) by grind)
    have m3 := Rat.mul_nonneg W0 (show 0 ≤ 1001 / 1000 * (rv (fabs r11) + rv (fabs q)) - rv (fadd (fabs r11) (fabs q)) by grind)
    have m4 := Rat.mul_nonneg W0 (show 0 ≤ rv (fadd (fabs r11) (fabs q)) - 999 / 1000 * (rv (fabs r11) + rv (fabs q)) by grind)
    generalize rv (fadd (fabs r11) (fabs q)) = Z at *
    constructor <;> grind
  obtain ⟨fi3, i5, i6⟩ := rv_add (B := 8 * G + 8 * G' + 2 * rv (fabs r8) + 2 * (rv w * rv (fadd (fabs r11) (fabs q))) + eta) fi2 fwq (by grind) (by grind) (by grind)
  obtain ⟨X, hX⟩ : ∃ X, X = fadd (fadd (fadd (fadd (fadd (fadd (fabs (fmul r2 a2)) (fabs (fmul r3 a3))) (fabs (fmul r6 a4))) (fadd (fadd (fabs (fmul r4 b2)) (fabs (fmul r5 b3))) (fabs (fmul r7 b4)))) (fadd (fadd (fadd (fabs (fmul r2 c1)) (fabs (fmul r3 c2))) (fabs (fmul r6 c3))) (fadd (fadd (fabs (fmul r4 c4)) (fabs (fmul r5 c5))) (fabs (fmul r7 c6))))) (fabs r8)) (fmul w (fadd (fabs r11) (fabs q))) := ⟨_, rfl⟩
  rw [← hX] at fi3 i5 i6 ⊢
  have X0 : 9 / 10 * (G + G' + rv (fabs r8) + Wt * (rv (fabs q) + rv (fabs r11))) - 2 * eta ≤ rv X := by
    generalize rv w * rv (fadd (fabs r11) (fabs q)) = M at *
    generalize Wt * (rv (fabs q) + rv (fabs r11)) = N at *
    grind
  have n9 := mul_le (A := 85070591730234615865843651857942052864) (C := 13164036458569648337239753460458804039861886925068638906788872192) (x := Wt) (y := rv (fabs q) + rv (fabs r11)) (by grind) (by grind) (by grind) (by grind)
  have X9 : rv X ≤ 2977131414714805823690030317109266572712515013375254774912983855843898524112477893944078543723575564536883288499266264815757728270805630976 := by
    generalize rv w * rv (fadd (fabs r11) (fabs q)) = M at *
    generalize Wt * (rv (fabs q) + rv (fabs r11)) = N at *
    grind
  have kc1 : ((1 : Nat) : Rat) = 1 := rfl
  have kc2 : ((1073741824 : Nat) : Rat) = 1073741824 := rfl
  have el := rv_m30
  rw [kc1, kc2] at el
  have fL : fin 4472074429978902528 = true := by decide
  by_cases hE : G = 0 ∧ rv (fabs r8) = 0
  · obtain ⟨hG0, hb0⟩ := hE
    have r80 : rv r8 = 0 := by grind
    have s0 : rv s = 0 := by grind
    have l0 : rv (fsub r8 s) = 0 := by grind
    have w0' : magOf (rungOf w) ≠ 0 := by
      intro h
      have := rv_abs_mag fw
      rw [h, (rv_abs fw).2.1 wn, show ((0 : Nat) : Rat) = 0 from rfl] at this
      have := Rat.mul_pos w0 uu_pos
      grind
    have d0 : V (fdiv (fsub r8 s) w) 0 := by
      have hm : magOf (rungOf (fsub r8 s)) = 0 := by
        have := rv_zero_sval l0
        rw [sval_sgn] at this
        split at this <;> omega
      rw [fdiv_zero fl fw hm w0']
      exact V.word0 _
    have vq : V q (sval r11) := by rw [hq]; exact V.add (V.self ur11.1) d0 (V.self ur11.1) (by omega)
    have vp : V p 0 := by rw [hp]; exact V.sub c11.lt vq (V.self ur11.1) V.zero (by omega)
    have p0 : rv p = 0 := by
      have := rv_of_V vp V.zero
      rw [this]; unfold rv; rw [show sval 0 = 0 by decide]; grind
    have v1 : V c1 (sval a2) := by rw [hc1]; exact still_way ua0 ur2 ua2 fp p0
    have v2 : V c2 (sval a3) := by rw [hc2]; exact still_way ua0 ur3 ua3 fp p0
    have v3 : V c3 (sval a4) := by rw [hc3]; exact still_turn ua1 ur6 ua4 fp p0
    have v4 : V c4 (sval b2) := by rw [hc4]; exact still_way ub0 ur4 ub2 fp p0
    have v5 : V c5 (sval b3) := by rw [hc5]; exact still_way ub0 ur5 ub3 fp p0
    have v6 : V c6 (sval b4) := by rw [hc6]; exact still_turn ub1 ur7 ub4 fp p0
    have nn : ∀ {x y : Nat}, U40 x → U40 y → 0 ≤ rv (fabs x) * rv (fabs y) := fun a b => Rat.mul_nonneg a.bound.1 b.bound.1
    have nn1 := nn ur2 ua2
    have nn2 := nn ur3 ua3
    have nn3 := nn ur6 ua4
    have nn4 := nn ur4 ub2
    have nn5 := nn ur5 ub3
    have nn6 := nn ur7 ub4
    have o1 := (zero_mul' ur2.1 ua2.1 v1 (by grind)).2
    have oo1 := abs_zero fP1 o1
    have o2 := (zero_mul' ur3.1 ua3.1 v2 (by grind)).2
    have oo2 := abs_zero fP2 o2
    have o3 := (zero_mul' ur6.1 ua4.1 v3 (by grind)).2
    have oo3 := abs_zero fP3 o3
    have o4 := (zero_mul' ur4.1 ub2.1 v4 (by grind)).2
    have oo4 := abs_zero fP4 o4
    have o5 := (zero_mul' ur5.1 ub3.1 v5 (by grind)).2
    have oo5 := abs_zero fP5 o5
    have o6 := (zero_mul' ur7.1 ub4.1 v6 (by grind)).2
    have oo6 := abs_zero fP6 o6
    have G'z : G' = 0 := by rw [hG', oo1, oo2, oo3, oo4, oo5, oo6]; grind
    have S0 : rv (fadd (fadd (fadd (fadd (fmul r2 c1) (fmul r3 c2)) (fmul r6 c3)) (fadd (fmul r4 c4) (fmul r5 c5))) (fmul r7 c6)) = 0 := by rw [o1, o2, o3, o4, o5, o6, G'z] at S1 S2; grind
    obtain ⟨ff, ff1, ff2⟩ := rv_sub (B := 0) c8.lt fS ur8.1 (by grind) (by rw [S0, r80]; grind) (by rw [S0, r80]; grind)
    have ff0 : rv (fsub (fadd (fadd (fadd (fadd (fmul r2 c1) (fmul r3 c2)) (fmul r6 c3)) (fadd (fmul r4 c4) (fmul r5 c5))) (fmul r7 c6)) r8) = 0 := by rw [S0, r80] at ff1 ff2; grind
    have Xn : 0 ≤ rv X := by
      rw [hX]
      have q1 := rv_add_nonneg fg fg' (by grind) (by grind)
      have q2 := rv_add_nonneg fi1 fa8 q1 (by grind)
      have q3 := rv_mul_nonneg fw fpq wn (by grind) fwq
      exact rv_add_nonneg fi2 fwq q2 q3
    obtain ⟨fm, m1, m2⟩ := rv_mul (B := rv X) fL fi3 (by grind) (by rw [el]; grind) (by rw [el]; grind)
    have m0 := rv_mul_nonneg fL fi3 (by rw [el]; grind) Xn fm
    rw [rv_le (abs_cases ff).1 fm, decide_eq_true_eq, abs_zero ff ff0]
    exact m0
  · have hE2 : 1 / 2417851639229258349412352 ≤ G + rv (fabs r8) := by
      rcases Gz with h | h
      · rcases ur8.2 with h' | ⟨h', _⟩
        · exact absurd ⟨h, h'⟩ hE
        · grind
      · grind
    obtain ⟨T, T0, T1, T2, T3⟩ := rabs (rv r11 + rv (fdiv (fsub r8 s) w))
    obtain ⟨D, D0, D1, D2, D3⟩ := rabs (rv (fdiv (fsub r8 s) w))
    have T9 : T ≤ 3291009114642412084309938365114701009965471731267159726697218048 := by
      obtain ⟨u1, u2, u3⟩ := abs_le fd
      rcases T3 with h' | h' <;> grind
    obtain ⟨_, h5, h5'⟩ := rv_add (B := T) ur11.1 fd (by grind) T1 T2
    rw [← hq] at h5 h5'
    obtain ⟨_, h6, h6'⟩ := rv_sub (B := rv (fabs q) + rv (fabs r11)) c11.lt fq ur11.1 (by grind) (by grind) (by grind)
    rw [← hp] at h6 h6'
    obtain ⟨pl, ph, pz⟩ := abs_le fp
    have pc := (abs_cases fp).2.2
    have eS : rv p * Wt = rv p * (rv a0 * (rv r2 * rv r2)) + rv p * (rv a0 * (rv r3 * rv r3)) + rv p * (rv a1 * (rv r6 * rv r6)) + rv p * (rv b0 * (rv r4 * rv r4)) + rv p * (rv b0 * (rv r5 * rv r5)) + rv p * (rv b1 * (rv r7 * rv r7)) := by rw [hWt]; grind
    have eA : rv (fabs p) * Wt = rv (fabs p) * (rv a0 * (rv r2 * rv r2)) + rv (fabs p) * (rv a0 * (rv r3 * rv r3)) + rv (fabs p) * (rv a1 * (rv r6 * rv r6)) + rv (fabs p) * (rv b0 * (rv r4 * rv r4)) + rv (fabs p) * (rv b0 * (rv r5 * rv r5)) + rv (fabs p) * (rv b1 * (rv r7 * rv r7)) := by rw [hWt]; grind
    have core := core_rat (sg := sg) (G := G) (W := Wt) (w := rv w) (s := rv s) (l := rv (fsub r8 s)) (d := rv (fdiv (fsub r8 s) w)) (q := rv q) (pk := rv r11) (p := rv p) (β := rv r8) (e := eta) (Q := rv (fabs q)) (Pk := rv (fabs r11)) (A := rv (fabs p))
      (S' := rv (fmul r2 c1) + rv (fmul r3 c2) + rv (fmul r6 c3) + rv (fmul r4 c4) + rv (fmul r5 c5) + rv (fmul r7 c6)) (G' := G') (s' := rv (fadd (fadd (fadd (fadd (fmul r2 c1) (fmul r3 c2)) (fmul r6 c3)) (fadd (fmul r4 c4) (fmul r5 c5))) (fmul r7 c6))) (b := rv (fabs r8)) (T := T) (D := D)
      e0 G0 W0 w0 ql qh l11 h11 qz z11 pl ph (by rcases pc with h | h; exact .inl h.symm; right; grind) l8 h8 z8 T1 T2 T3 D3 D0 G'0 w9 sl sh s1 s2 w1 w2 x1 x2 d1 d2 h5 h5' h6 h6'
      (by
        rw [eS, eA, hG', hsg]
        exact six_lin k1 k2 k3 k4 k5 k6)
      (by
        rw [eS, eA, hG', hsg]
        exact six_lin' j1 j2 j3 j4 j5 j6) S1 S2
    obtain ⟨cr1, cr2⟩ := core
    have N0 := Rat.mul_nonneg W0 (show 0 ≤ rv (fabs q) + rv (fabs r11) by grind)
    obtain ⟨K, hK⟩ : ∃ K, K = (G + G' + rv (fabs r8) + Wt * (rv (fabs q) + rv (fabs r11))) / 17592186044416 + eta * 170141183460469231731687303715884105728 := ⟨_, rfl⟩
    rw [← hK] at cr1 cr2
    generalize Wt * (rv (fabs q) + rv (fabs r11)) = N at *
    obtain ⟨ff, ff1, ff2⟩ := rv_sub (B := K) c8.lt fS ur8.1 (by grind) cr1 cr2
    obtain ⟨fm, m1, m2⟩ := rv_mul (B := rv X / 1073741824 + 4 * eta) fL fi3 (by grind) (by rw [el]; grind) (by rw [el]; grind)
    rw [el] at m1 m2
    have KE : K ≤ rv X / 4294967296 := by grind
    have ab := abs_bound (B := K + K / 9007199254740992) ff (by grind) (by grind)
    rw [rv_le (abs_cases ff).1 fm, decide_eq_true_eq]
    have XE : 1 / 1237940039285380274899124224 ≤ rv X := by grind
    generalize rv (fabs (fsub (fadd (fadd (fadd (fadd (fmul r2 c1) (fmul r3 c2)) (fmul r6 c3)) (fadd (fmul r4 c4) (fmul r5 c5))) (fmul r7 c6)) r8)) = F at *
    generalize rv (fmul 4472074429978902528 X) = Y at *
    clear cr1 cr2
    grind
end Go.Sim
