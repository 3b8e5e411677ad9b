/- The energy of a row solved: all put together. -/
import Derived.Test.YtojahopdcnamjaaSimRowEn3
set_option linter.unusedVariables false
set_option linter.unusedSimpArgs false
namespace Go.Sim
theorem u40_zero : U40 0 := ⟨by decide, .inl (by rw [(rv_abs (by decide)).2.1 (by rw [rv0]; grind), rv0])⟩
theorem abs_sq' {a : Nat} (fa : fin a = true) : rv (fabs a) * rv (fabs a) = rv a * rv a := by
  obtain ⟨_, _, h⟩ := abs_cases fa
  rcases h with h | h <;> rw [h] <;> grind
theorem u40_m {m : Nat} (um : U40 m) (hm : 0 ≤ rv m) : rv m = 0 ∨ 1 / 1099511627776 ≤ rv m := by
  have em : rv (fabs m) = rv m := (rv_abs um.1).2.1 hm
  have m2 := um.2
  rw [em] at m2
  rcases m2 with h | h
  · exact .inl h
  · exact .inr h.1
theorem Part.energy {m p w s c : Nat} (h : Part m p w s c) (um : U40 m) (hm : 0 ≤ rv m) (uw : U40 w) (us : U40 s) (fp : fin p = true) (h0 : rv m = 0 → rv s = 0) :
    en (rv m) (rv c) ≤ (en (rv m) (rv s) + rv p * (rv w * rv s) + rv p * rv p * (rv m * (rv w * rv w)) / 2) * (1 + 1 / 281474976710656) + rv p * rv p * (rv m * (rv w * rv w)) / 281474976710656 + eta * 19342813113834066795298816 ∧
    rv (fabs p) * (rv (fabs w) * rv (fabs s)) ≤ rv p * rv p * (rv m * (rv w * rv w)) / 2 + en (rv m) (rv s) := by
  obtain ⟨fc, _, l, hh⟩ := h
  exact ⟨en_push hm (u40_m um hm) eta_pos eta_900 (abs_le fp).2.2 (abs_le uw.1).2.2 (abs_le fc).2.2 (abs_sq' fp) (abs_sq' uw.1) (abs_sq' fc) h0 l hh,
    amgm hm h0 (abs_le fp).2.2 (abs_le uw.1).2.2 (abs_le us.1).2.2 (abs_sq' fp) (abs_sq' uw.1) (abs_sq' us.1)⟩
theorem six_en {x1 x2 x3 x4 x5 x6 y1 y2 y3 y4 y5 y6 z1 z2 z3 z4 z5 z6 n1 n2 n3 n4 n5 n6 e : Rat} (h1 : x1 ≤ (y1 + z1 + n1 / 2) * (1 + 1 / 281474976710656) + n1 / 281474976710656 + e) (h2 : x2 ≤ (y2 + z2 + n2 / 2) * (1 + 1 / 281474976710656) + n2 / 281474976710656 + e) (h3 : x3 ≤ (y3 + z3 + n3 / 2) * (1 + 1 / 281474976710656) + n3 / 281474976710656 + e) (h4 : x4 ≤ (y4 + z4 + n4 / 2) * (1 + 1 / 281474976710656) + n4 / 281474976710656 + e) (h5 : x5 ≤ (y5 + z5 + n5 / 2) * (1 + 1 / 281474976710656) + n5 / 281474976710656 + e) (h6 : x6 ≤ (y6 + z6 + n6 / 2) * (1 + 1 / 281474976710656) + n6 / 281474976710656 + e) :
    x1 + x2 + x3 + x4 + x5 + x6 ≤ (y1 + y2 + y3 + y4 + y5 + y6 + (z1 + z2 + z3 + z4 + z5 + z6) + (n1 + n2 + n3 + n4 + n5 + n6) / 2) * (1 + 1 / 281474976710656) + (n1 + n2 + n3 + n4 + n5 + n6) / 281474976710656 + 6 * e := by grind
theorem six_am {x1 x2 x3 x4 x5 x6 y1 y2 y3 y4 y5 y6 n1 n2 n3 n4 n5 n6 : Rat} (h1 : x1 ≤ n1 / 2 + y1) (h2 : x2 ≤ n2 / 2 + y2) (h3 : x3 ≤ n3 / 2 + y3) (h4 : x4 ≤ n4 / 2 + y4) (h5 : x5 ≤ n5 / 2 + y5) (h6 : x6 ≤ n6 / 2 + y6) :
    x1 + x2 + x3 + x4 + x5 + x6 ≤ (n1 + n2 + n3 + n4 + n5 + n6) / 2 + (y1 + y2 + y3 + y4 + y5 + y6) := by grind
set_option maxHeartbeats 4000000 in
theorem energy_main {r2 r3 r4 r5 r6 r7 r11 a0 a1 a2 a3 a4 b0 b1 b2 b3 b4 : Nat} (c11 : CF r11) (ur2 : U40 r2) (ur3 : U40 r3) (ur4 : U40 r4) (ur5 : U40 r5) (ur6 : U40 r6) (ur7 : U40 r7) (ur11 : U40 r11) (ua0 : U40 a0) (ua1 : U40 a1) (ua2 : U40 a2) (ua3 : U40 a3) (ua4 : U40 a4) (ub0 : U40 b0) (ub1 : U40 b1) (ub2 : U40 b2) (ub3 : U40 b3) (ub4 : U40 b4) (n1 : 0 ≤ rv a0) (n2 : 0 ≤ rv a1) (n3 : 0 ≤ rv b0) (n4 : 0 ≤ rv b1) (z1 : rv a0 = 0 → rv a2 = 0) (z2 : rv a0 = 0 → rv a3 = 0) (z3 : rv a1 = 0 → rv a4 = 0) (z4 : rv b0 = 0 → rv b2 = 0) (z5 : rv b0 = 0 → rv b3 = 0) (z6 : rv b1 = 0 → rv b4 = 0) {s w q p c1 c2 c3 c4 c5 c6 : Nat} (hs : s = (fadd (fadd (fadd (fadd (fmul r2 a2) (fmul r3 a3)) (fmul r6 a4)) (fadd (fmul r4 b2) (fmul r5 b3))) (fmul r7 b4))) (hw : w = (fadd (fadd (fadd (fmul a0 (fadd (fmul r2 r2) (fmul r3 r3))) (fmul a1 (fmul r6 r6))) (fmul b0 (fadd (fmul r4 r4) (fmul r5 r5)))) (fmul b1 (fmul r7 r7)))) (w0 : 0 < rv w)
    (fq : fin q = true) (q9 : rv (fabs q) ≤ 3291009114642412084309938365114701009965471731267159726697218048) (hp : p = fsub q r11) (hpd : rv p * (rv p - rv (fdiv (fsub 0 s) w)) ≤ rv (fabs p) * (rv (fabs q) + rv (fabs r11)) / 1125899906842624) (hdeg : V (fdiv (fsub 0 s) w) 0 → V q (sval r11))
    (hc1 : c1 = (bif !(feq a0 0) then fadd a2 (fmul (fmul a0 p) r2) else a2)) (hc2 : c2 = (bif !(feq a0 0) then fadd a3 (fmul (fmul a0 p) r3) else a3)) (hc3 : c3 = (bif !(feq a1 0) then fadd a4 (fmul a1 (fmul p r6)) else a4)) (hc4 : c4 = (bif !(feq b0 0) then fadd b2 (fmul (fmul b0 p) r4) else b2)) (hc5 : c5 = (bif !(feq b0 0) then fadd b3 (fmul (fmul b0 p) r5) else b3)) (hc6 : c6 = (bif !(feq b1 0) then fadd b4 (fmul b1 (fmul p r7)) else b4)) :
    fle (fadd (kin a0 a1 c1 c2 c3) (kin b0 b1 c4 c5 c6)) (fadd (fadd (kin a0 a1 a2 a3 a4) (kin b0 b1 b2 b3 b4)) (fmul 4472074429978902528 (fadd (fadd (kin a0 a1 a2 a3 a4) (kin b0 b1 b2 b3 b4)) (fmul w (fadd (fmul r11 r11) (fmul q q)))))) = true := by
  have bg := big_890
  have e0 := eta_pos
  have e9 := eta_900
  have u0 := u40_zero
  obtain ⟨fs, fw, wn, fl, rest⟩ := solved_facts (r8 := 0) (CF.cn (b := 0) (by decide)) c11 ur2 ur3 ur4 ur5 ur6 ur7 u0 ur11 ua0 ua1 ua2 ua3 ua4 ub0 ub1 ub2 ub3 ub4 n1 n2 n3 n4 hs hw
  obtain ⟨fd, _, _, dab, _, _, G, sg, Wt, hsg, hWt, hG, G0, G9, Gz, sl, sh, W0, w9, s1, s2, w1, w2, x1, x2, d1, d2, _, _, _⟩ := rest w0
  have a00 : rv (fabs 0) = 0 := abs_zero (by decide) rv0
  rw [a00, rv0] at x1 x2
  rw [a00] at d1 d2
  obtain ⟨l11, h11, z11⟩ := abs_le ur11.1
  have b11 := ur11.bound.2
  obtain ⟨ql, qh, qz⟩ := abs_le fq
  obtain ⟨fp', p1, p2⟩ := rv_sub (B := rv (fabs q) + rv (fabs r11)) c11.lt fq ur11.1 (by grind) (by grind) (by grind)
  have fp : fin p = true := by rw [hp]; exact fp'
  rw [← hp] at p1 p2
  have pab : rv (fabs p) ≤ (rv (fabs q) + rv (fabs r11)) * (1 + 1 / 9007199254740992) := abs_bound fp (by grind) (by grind)
  have AQ : rv (fabs p) ≤ 2 * (rv (fabs q) + rv (fabs r11)) := by grind
  have x1' : -((2 * G) / 9007199254740992) ≤ rv (fsub 0 s) - (0 - rv s) := by grind
  have x2' : rv (fsub 0 s) - (0 - rv s) ≤ (2 * G) / 9007199254740992 := by grind
  have d1' : -((3 * G) / 2251799813685248 + eta * rv w) ≤ rv (fdiv (fsub 0 s) w) * rv w - rv (fsub 0 s) := by grind
  have d2' : rv (fdiv (fsub 0 s) w) * rv w - rv (fsub 0 s) ≤ (3 * G) / 2251799813685248 + eta * rv w := by grind
  obtain ⟨pl, ph, pz⟩ := abs_le fp
  have p9 : rv (fabs p) ≤ 6582018229284824168619876730229402019930943462534319453394436096 := by grind
  have hp3 : rv (fabs p) ≤ 2037035976334486086268445688409378161051468393665936250636140449354381299763336706183397376 := by grind
  have t1 : Part a0 p r2 a2 c1 := by rw [hc1]; exact part_way ua0 n1 ur2 ua2 fp hp3
  obtain ⟨j1, k1⟩ := t1.energy ua0 n1 ur2 ua2 fp z1
  obtain ⟨en91, enz1, enw1⟩ := en_lo ua0 ua2 n1
  have enn1 := en_nonneg (s := rv a2) n1
  have s91 := ua2.bound.2
  have t2 : Part a0 p r3 a3 c2 := by rw [hc2]; exact part_way ua0 n1 ur3 ua3 fp hp3
  obtain ⟨j2, k2⟩ := t2.energy ua0 n1 ur3 ua3 fp z2
  obtain ⟨en92, enz2, enw2⟩ := en_lo ua0 ua3 n1
  have enn2 := en_nonneg (s := rv a3) n1
  have s92 := ua3.bound.2
  have t3 : Part a1 p r6 a4 c3 := by rw [hc3]; exact part_turn ua1 n2 ur6 ua4 fp hp3
  obtain ⟨j3, k3⟩ := t3.energy ua1 n2 ur6 ua4 fp z3
  obtain ⟨en93, enz3, enw3⟩ := en_lo ua1 ua4 n2
  have enn3 := en_nonneg (s := rv a4) n2
  have s93 := ua4.bound.2
  have t4 : Part b0 p r4 b2 c4 := by rw [hc4]; exact part_way ub0 n3 ur4 ub2 fp hp3
  obtain ⟨j4, k4⟩ := t4.energy ub0 n3 ur4 ub2 fp z4
  obtain ⟨en94, enz4, enw4⟩ := en_lo ub0 ub2 n3
  have enn4 := en_nonneg (s := rv b2) n3
  have s94 := ub2.bound.2
  have t5 : Part b0 p r5 b3 c5 := by rw [hc5]; exact part_way ub0 n3 ur5 ub3 fp hp3
  obtain ⟨j5, k5⟩ := t5.energy ub0 n3 ur5 ub3 fp z5
  obtain ⟨en95, enz5, enw5⟩ := en_lo ub0 ub3 n3
  have enn5 := en_nonneg (s := rv b3) n3
  have s95 := ub3.bound.2
  have t6 : Part b1 p r7 b4 c6 := by rw [hc6]; exact part_turn ub1 n4 ur7 ub4 fp hp3
  obtain ⟨j6, k6⟩ := t6.energy ub1 n4 ur7 ub4 fp z6
  obtain ⟨en96, enz6, enw6⟩ := en_lo ub1 ub4 n4
  have enn6 := en_nonneg (s := rv b4) n4
  have s96 := ub4.bound.2
  obtain ⟨E0, hE0⟩ : ∃ E, E = en (rv a0) (rv a2) + en (rv a0) (rv a3) + en (rv a1) (rv a4) + en (rv b0) (rv b2) + en (rv b0) (rv b3) + en (rv b1) (rv b4) := ⟨_, rfl⟩
  obtain ⟨Ec, hEc⟩ : ∃ E, E = en (rv a0) (rv c1) + en (rv a0) (rv c2) + en (rv a1) (rv c3) + en (rv b0) (rv c4) + en (rv b0) (rv c5) + en (rv b1) (rv c6) := ⟨_, rfl⟩
  have E00 : 0 ≤ E0 := by rw [hE0]; grind
  have E09 : E0 ≤ 10633823966279326983230456482242756608 := by rw [hE0]; grind
  have eS : rv p * sg = rv p * (rv r2 * rv a2) + rv p * (rv r3 * rv a3) + rv p * (rv r6 * rv a4) + rv p * (rv r4 * rv b2) + rv p * (rv r5 * rv b3) + rv p * (rv r7 * rv b4) := by rw [hsg]; grind
  have eW : rv p * rv p * Wt = rv p * rv p * (rv a0 * (rv r2 * rv r2)) + rv p * rv p * (rv a0 * (rv r3 * rv r3)) + rv p * rv p * (rv a1 * (rv r6 * rv r6)) + rv p * rv p * (rv b0 * (rv r4 * rv r4)) + rv p * rv p * (rv b0 * (rv r5 * rv r5)) + rv p * rv p * (rv b1 * (rv r7 * rv r7)) := by rw [hWt]; grind
  have eG : rv (fabs p) * G = rv (fabs p) * (rv (fabs r2) * rv (fabs a2)) + rv (fabs p) * (rv (fabs r3) * rv (fabs a3)) + rv (fabs p) * (rv (fabs r6) * rv (fabs a4)) + rv (fabs p) * (rv (fabs r4) * rv (fabs b2)) + rv (fabs p) * (rv (fabs r5) * rv (fabs b3)) + rv (fabs p) * (rv (fabs r7) * rv (fabs b4)) := by rw [hG]; grind
  have hsum : Ec ≤ (E0 + rv p * sg + rv p * rv p * Wt / 2) * (1 + 1 / 281474976710656) + rv p * rv p * Wt / 281474976710656 + 6 * (eta * 19342813113834066795298816) := by
    rw [eS, eW, hE0, hEc]; exact six_en j1 j2 j3 j4 j5 j6
  have hAG : rv (fabs p) * G ≤ rv p * rv p * Wt / 2 + E0 := by
    rw [eG, eW, hE0]; exact six_am k1 k2 k3 k4 k5 k6
  obtain ⟨D, D0, D1, D2, D3⟩ := rabs (rv (fdiv (fsub 0 s) w))
  have core := energy_rat (Q := rv (fabs q)) (Pk := rv (fabs r11)) e0 G0 W0 w0 w9 qz z11 pl ph pz p9 AQ D0 D3 E00 s1 s2 sl sh w1 w2 x1' x2' d1' d2' hpd hAG hsum
  -- the floats
  have big4 : ∀ {x : Nat}, U40 x → rv (fabs x) ≤ 2582249878086908589655919172003011874329705792829223512830659356540647622016841194629645353280137831435903171972747493376 := fun h => by have := h.bound.2; grind
  obtain ⟨f1, g1, g2, g3, g4, g5⟩ := kin_near ua0 ua1 n1 n2 ua2.1 ua3.1 ua4.1 (big4 ua2) (big4 ua3) (big4 ua4) rfl
  obtain ⟨f2, i1, i2, i3, i4, i5⟩ := kin_near ub0 ub1 n3 n4 ub2.1 ub3.1 ub4.1 (big4 ub2) (big4 ub3) (big4 ub4) rfl
  obtain ⟨f3, m1, m2, m3, m4, m5⟩ := kin_near ua0 ua1 n1 n2 t1.fc t2.fc t3.fc t1.size t2.size t3.size rfl
  obtain ⟨f4, o1, o2, o3, o4, o5⟩ := kin_near ub0 ub1 n3 n4 t4.fc t5.fc t6.fc t4.size t5.size t6.size rfl
  obtain ⟨EA, hEA⟩ : ∃ E, E = en (rv a0) (rv a2) + en (rv a0) (rv a3) + en (rv a1) (rv a4) := ⟨_, rfl⟩
  obtain ⟨EB, hEB⟩ : ∃ E, E = en (rv b0) (rv b2) + en (rv b0) (rv b3) + en (rv b1) (rv b4) := ⟨_, rfl⟩
  obtain ⟨FA, hFA⟩ : ∃ E, E = en (rv a0) (rv c1) + en (rv a0) (rv c2) + en (rv a1) (rv c3) := ⟨_, rfl⟩
  obtain ⟨FB, hFB⟩ : ∃ E, E = en (rv b0) (rv c4) + en (rv b0) (rv c5) + en (rv b1) (rv c6) := ⟨_, rfl⟩
  have hEE : E0 = EA + EB := by rw [hE0, hEA, hEB]; grind
  have hFF : Ec = FA + FB := by rw [hEc, hFA, hFB]; grind
  rw [← hEA] at g2 g3 g4 g5
  rw [← hEB] at i2 i3 i4 i5
  rw [← hFA] at m2 m3 m4 m5
  rw [← hFB] at o2 o3 o4 o5
  obtain ⟨f5, r1, r2⟩ := rv_add (B := 2 * E0 + eta * 281474976710656) f1 f2 (by grind) (by grind) (by grind)
  obtain ⟨f6, r3, r4⟩ := rv_add (B := 2 * Ec + eta * 281474976710656) f3 f4 (by grind) (by grind) (by grind)
  have n5 := rv_add_nonneg f1 f2 g1 i1
  -- the pushes
  obtain ⟨f7, u1, u2, u3, u4⟩ := sq_float ur11.1 (by grind)
  obtain ⟨f8, v1, v2, v3, v4⟩ := sq_float fq (by grind)
  have q2 : rv q * rv q = rv (fabs q) * rv (fabs q) := (abs_sq' fq).symm
  have r2' : rv r11 * rv r11 = rv (fabs r11) * rv (fabs r11) := (abs_sq' ur11.1).symm
  rw [q2] at v2 v3 v4
  rw [r2'] at u2 u3 u4
  have qq0 := Rat.mul_nonneg qz qz
  have rr0 := Rat.mul_nonneg z11 z11
  have qq9 := mul_le (A := 3291009114642412084309938365114701009965471731267159726697218048) (C := 3291009114642412084309938365114701009965471731267159726697218048) (x := rv (fabs q)) (y := rv (fabs q)) (by grind) q9 (by grind) q9
  have rr9 := mul_le (A := 1099511627776) (C := 1099511627776) (x := rv (fabs r11)) (y := rv (fabs r11)) (by grind) b11 (by grind) b11
  obtain ⟨QQ, hQQ⟩ : ∃ X, X = rv (fabs q) * rv (fabs q) := ⟨_, rfl⟩
  obtain ⟨RR, hRR⟩ : ∃ X, X = rv (fabs r11) * rv (fabs r11) := ⟨_, rfl⟩
  rw [← hQQ] at v2 v3 v4 qq0 qq9 core
  rw [← hRR] at u2 u3 u4 rr0 rr9 core
  obtain ⟨f9, y1, y2⟩ := rv_add (B := 2 * (RR + QQ) + 4 * eta) f7 f8 (by grind) (by grind) (by grind)
  have n6 := rv_add_nonneg f7 f8 u1 v1
  obtain ⟨Z, hZ⟩ : ∃ Z, Z = fadd (fmul r11 r11) (fmul q q) := ⟨_, rfl⟩
  rw [← hZ] at f9 y1 y2 n6 ⊢
  have Z9 : rv Z ≤ 43322963970637732180912721627235682866194329302747133987038743447103457934462900359999600095377180907771737671271930809827721216 := by grind
  have wz0 := Rat.mul_nonneg wn n6
  have wz9 := mul_le (A := 42535295865117307932921825928971026432) (C := 43322963970637732180912721627235682866194329302747133987038743447103457934462900359999600095377180907771737671271930809827721216) (x := rv w) (y := rv Z) (by grind) w9 (by grind) Z9
  obtain ⟨f10, y3, y4⟩ := rv_mul (B := rv w * rv Z) fw f9 (by grind) (by grind) (by grind)
  have n7 := rv_mul_nonneg fw f9 wn n6 f10
  have hM : 99 / 100 * (Wt * (QQ + RR)) - eta * 1361129467683753853853498429727072845824 ≤ rv (fmul w Z) := by
    have a1 := Rat.mul_nonneg (show 0 ≤ rv w - 999 / 1000 * Wt by grind) n6
    have a2 := Rat.mul_nonneg W0 (show 0 ≤ rv Z - (999 / 1000 * (RR + QQ) - 8 * eta) by grind)
    have a3 := Rat.mul_nonneg (show 0 ≤ 85070591730234615865843651857942052864 - Wt by grind) (Rat.le_of_lt e0)
    have a4 := Rat.mul_nonneg W0 (show 0 ≤ RR + QQ by grind)
    have b1 : (rv w - 999 / 1000 * Wt) * rv Z = rv w * rv Z - 999 / 1000 * (Wt * rv Z) := by grind
    have b2 : Wt * (rv Z - (999 / 1000 * (RR + QQ) - 8 * eta)) = Wt * rv Z - 999 / 1000 * (Wt * (RR + QQ)) + 8 * (Wt * eta) := by grind
    have b3 : (85070591730234615865843651857942052864 - Wt) * eta = 85070591730234615865843651857942052864 * eta - Wt * eta := by grind
    have b4 : Wt * (QQ + RR) = Wt * (RR + QQ) := by grind
    rw [b1] at a1
    rw [b2] at a2
    rw [b3] at a3
    rw [b4]
    clear b1 b2 b3 b4 core hsum hAG hEE hFF
    generalize Wt * rv Z = WZ at *
    generalize Wt * (RR + QQ) = WR at *
    generalize rv w * rv Z = wZ at *
    generalize Wt * eta = We at *
    grind
  have wr0 := Rat.mul_nonneg W0 (show 0 ≤ QQ + RR by grind)
  refine energy_end f5 f6 f10 n5 n7 (by grind) (by grind) ?_
  by_cases hz : E0 = 0
  · left
    have yy1 : rv a2 = 0 := by
      rcases enw1 (by rw [hE0] at hz; grind) with h | h
      · exact z1 h
      · exact h
    have yy2 : rv a3 = 0 := by
      rcases enw2 (by rw [hE0] at hz; grind) with h | h
      · exact z2 h
      · exact h
    have yy3 : rv a4 = 0 := by
      rcases enw3 (by rw [hE0] at hz; grind) with h | h
      · exact z3 h
      · exact h
    have yy4 : rv b2 = 0 := by
      rcases enw4 (by rw [hE0] at hz; grind) with h | h
      · exact z4 h
      · exact h
    have yy5 : rv b3 = 0 := by
      rcases enw5 (by rw [hE0] at hz; grind) with h | h
      · exact z5 h
      · exact h
    have yy6 : rv b4 = 0 := by
      rcases enw6 (by rw [hE0] at hz; grind) with h | h
      · exact z6 h
      · exact h
    have G00 : G = 0 := by
      rw [hG, abs_zero ua2.1 yy1, abs_zero ua3.1 yy2, abs_zero ua4.1 yy3, abs_zero ub2.1 yy4, abs_zero ub3.1 yy5, abs_zero ub4.1 yy6]; grind
    have s00 : rv s = 0 := by grind
    have l00 : rv (fsub 0 s) = 0 := by rw [G00, s00] at x1 x2; grind
    have w0' : magOf (rungOf w) ≠ 0 := by
      intro h
      have := rv_abs_mag fw
      rw [h, (rv_abs fw).2.1 wn, show ((0 : Nat) : Rat) = 0 from rfl] at this
      have := Rat.mul_pos w0 uu_pos
      grind
    have d0 : V (fdiv (fsub 0 s) w) 0 := by
      have hm : magOf (rungOf (fsub 0 s)) = 0 := by
        have := rv_zero_sval l00
        rw [sval_sgn] at this
        split at this <;> omega
      rw [fdiv_zero fl fw hm w0']
      exact V.word0 _
    have vp : V p 0 := by rw [hp]; exact V.sub c11.lt (hdeg d0) (V.self ur11.1) V.zero (by omega)
    have p0 : rv p = 0 := rv_of_V0 vp
    have v1' : rv c1 = 0 := by
      have h : V c1 (sval a2) := by rw [hc1]; exact still_way ua0 ur2 ua2 fp p0
      rw [rv_of_V h (V.self ua2.1), yy1]
    have v2' : rv c2 = 0 := by
      have h : V c2 (sval a3) := by rw [hc2]; exact still_way ua0 ur3 ua3 fp p0
      rw [rv_of_V h (V.self ua3.1), yy2]
    have v3' : rv c3 = 0 := by
      have h : V c3 (sval a4) := by rw [hc3]; exact still_turn ua1 ur6 ua4 fp p0
      rw [rv_of_V h (V.self ua4.1), yy3]
    have v4' : rv c4 = 0 := by
      have h : V c4 (sval b2) := by rw [hc4]; exact still_way ub0 ur4 ub2 fp p0
      rw [rv_of_V h (V.self ub2.1), yy4]
    have v5' : rv c5 = 0 := by
      have h : V c5 (sval b3) := by rw [hc5]; exact still_way ub0 ur5 ub3 fp p0
      rw [rv_of_V h (V.self ub3.1), yy5]
    have v6' : rv c6 = 0 := by
      have h : V c6 (sval b4) := by rw [hc6]; exact still_turn ub1 ur7 ub4 fp p0
      rw [rv_of_V h (V.self ub4.1), yy6]
    have k1' := kin_zero ua0 ua1 n1 n2 t1.fc t2.fc t3.fc v1' v2' v3'
    have k2' := kin_zero ub0 ub1 n3 n4 t4.fc t5.fc t6.fc v4' v5' v6'
    rw [rv_of_V0 (V.add k1' k2' V.zero (by omega))]
    grind
  · right
    have E0l : 1 / 2658455991569831745807614120560689152 ≤ E0 := by
      rw [hE0] at hz ⊢
      clear core hsum hAG hEE hFF hM k1 k2 k3 k4 k5 k6 j1 j2 j3 j4 j5 j6 eS eW eG
      rcases enz1 with h1 | h1
      · rcases enz2 with h2 | h2
        · rcases enz3 with h3 | h3
          · rcases enz4 with h4 | h4
            · rcases enz5 with h5 | h5
              · rcases enz6 with h6 | h6
                · exact absurd (by rw [h1, h2, h3, h4, h5, h6]; grind) hz
                · grind
              · grind
            · grind
          · grind
        · grind
      · grind
    clear hsum hAG eS eW eG k1 k2 k3 k4 k5 k6 j1 j2 j3 j4 j5 j6
    generalize Wt * (QQ + RR) = WQ at *
    constructor
    · grind
    · grind
end Go.Sim
