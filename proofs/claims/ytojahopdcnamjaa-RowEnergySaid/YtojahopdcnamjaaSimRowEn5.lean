/- The energy of a row: the clamped push; a row that does nothing. -/
import Derived.Test.YtojahopdcnamjaaSimRowEn4
set_option linter.unusedVariables false
set_option linter.unusedSimpArgs false
namespace Go.Sim
theorem way_rat {q pk d x p Q K A T B : Rat} (Q1 : -Q ≤ q) (Q2 : q ≤ Q) (K1 : -K ≤ pk) (K2 : pk ≤ K) (A1 : -A ≤ p) (A2 : p ≤ A) (A0 : 0 ≤ A) (T0 : 0 ≤ T) (T3 : T = pk + d ∨ T = -(pk + d)) (B0 : 0 ≤ B) (B3 : B = q - pk ∨ B = -(q - pk)) (A3 : A = p ∨ A = -p)
    (hx1 : -(T / 9007199254740992) ≤ x - (pk + d)) (hx2 : x - (pk + d) ≤ T / 9007199254740992) (hp1 : -(B / 9007199254740992) ≤ p - (q - pk)) (hp2 : p - (q - pk) ≤ B / 9007199254740992) (h : q = x ∨ (q ≤ pk ∧ x ≤ q) ∨ (pk ≤ q ∧ q ≤ x)) :
    p * (p - d) ≤ A * (Q + K) / 1125899906842624 := by
  have B9 : B ≤ Q + K := by rcases B3 with h | h <;> grind
  rcases h with h | ⟨h, h'⟩ | ⟨h, h'⟩
  · have T9 : T ≤ Q + Q / 4503599627370496 := by rcases T3 with h | h <;> grind
    have m := mul_le (A := A) (C := (Q + K) / 1125899906842624) (x := p) (y := p - d) A1 A2 (by grind) (by grind)
    have e : A * ((Q + K) / 1125899906842624) = A * (Q + K) / 1125899906842624 := by grind
    rw [e] at m
    exact m.2
  · have p0 : p ≤ 0 := by rcases B3 with h | h <;> grind
    have hd : d - p ≤ (Q + K) / 1125899906842624 := by rcases T3 with h | h <;> grind
    have Ap : A = -p := by rcases A3 with h | h <;> grind
    have m := Rat.mul_nonneg (show 0 ≤ -p by grind) (show 0 ≤ (Q + K) / 1125899906842624 - (d - p) by grind)
    rw [Ap]
    grind
  · have p0 : 0 ≤ p := by rcases B3 with h | h <;> grind
    have hd : p - d ≤ (Q + K) / 1125899906842624 := by rcases T3 with h | h <;> grind
    have Ap : A = p := by rcases A3 with h | h <;> grind
    have m := Rat.mul_nonneg p0 (show 0 ≤ (Q + K) / 1125899906842624 - (p - d) by grind)
    rw [Ap]
    grind
theorem push_way {lo hi pk d q p : Nat} (cp : CF pk) (flo : fin lo = true) (nhi : nanb hi = false) (fp : fin pk = true) (fd : fin d = true) (p9 : rv (fabs pk) ≤ 2037035976334486086268445688409378161051468393665936250636140449354381299763336706183397376) (d9 : rv (fabs d) ≤ 2037035976334486086268445688409378161051468393665936250636140449354381299763336706183397376) (fq : fin q = true) (q9 : rv (fabs q) ≤ 2037035976334486086268445688409378161051468393665936250636140449354381299763336706183397376)
    (h1 : flt pk lo = false) (h2 : flt hi pk = false) (hp : p = fsub q pk) (h : q = fadd pk d ∨ (q = lo ∧ flt lo (fadd pk d) = false) ∨ (q = hi ∧ flt hi (fadd pk d) = true)) :
    rv p * (rv p - rv d) ≤ rv (fabs p) * (rv (fabs q) + rv (fabs pk)) / 1125899906842624 ∧ (V d 0 → V q (sval pk)) := by
  have bg := big_890
  obtain ⟨Q1, Q2, Q0⟩ := abs_le fq
  obtain ⟨K1, K2, K0⟩ := abs_le fp
  obtain ⟨D1, D2, D0⟩ := abs_le fd
  obtain ⟨T, T0, T1, T2, T3⟩ := rabs (rv pk + rv d)
  obtain ⟨B, B0, B1, B2, B3⟩ := rabs (rv q - rv pk)
  obtain ⟨fx, x1, x2⟩ := rv_add (B := T) fp fd (by rcases T3 with h | h <;> grind) T1 T2
  obtain ⟨fp', y1, y2⟩ := rv_sub (B := B) cp.lt fq fp (by rcases B3 with h | h <;> grind) B1 B2
  rw [← hp] at fp' y1 y2
  obtain ⟨A1, A2, A0⟩ := abs_le fp'
  obtain ⟨_, _, A3⟩ := abs_cases fp'
  constructor
  · refine way_rat Q1 Q2 K1 K2 A1 A2 A0 T0 T3 B0 B3 (by rcases A3 with h | h; exact .inl h.symm; right; grind) x1 x2 y1 y2 ?_
    rcases h with h | ⟨h, h'⟩ | ⟨h, h'⟩
    · left; rw [h]
    · right; left
      rw [h]
      rw [flt_rv fp flo, Bool.not_eq_false', decide_eq_true_eq] at h1
      rw [flt_rv flo fx, Bool.not_eq_false', decide_eq_true_eq] at h'
      exact ⟨h1, h'⟩
    · right; right
      rw [h] at fq
      rw [h]
      rw [flt_rv fq fp, Bool.not_eq_false', decide_eq_true_eq] at h2
      rw [flt_rv fq fx, Bool.not_eq_true', decide_eq_false_iff_not] at h'
      exact ⟨h2, by grind⟩
  · intro vd
    have vx : V (fadd pk d) (sval pk) := V.add (V.self fp) vd (V.self fp) (by omega)
    rcases h with h | ⟨h, h'⟩ | ⟨h, h'⟩
    · rw [h]; exact vx
    · rw [h]
      rw [flt_val (fin_not_nan fp) (fin_not_nan flo), decide_eq_false_iff_not] at h1
      rw [flt_val (fin_not_nan flo) (fin_not_nan fx), decide_eq_false_iff_not, vx.2] at h'
      exact ⟨flo, by omega⟩
    · exfalso
      rw [h] at fq
      rw [flt_val (fin_not_nan fq) (fin_not_nan fp), decide_eq_false_iff_not] at h2
      rw [flt_val (fin_not_nan fq) (fin_not_nan fx), decide_eq_true_eq, vx.2] at h'
      omega
theorem energy_still {a0 a1 a2 a3 a4 b0 b1 b2 b3 b4 M : Nat} (ua0 : U40 a0) (ua1 : U40 a1) (ua2 : U40 a2) (ua3 : U40 a3) (ua4 : U40 a4) (ub0 : U40 b0) (ub1 : U40 b1) (ub2 : U40 b2) (ub3 : U40 b3) (ub4 : U40 b4) (n1 : 0 ≤ rv a0) (n2 : 0 ≤ rv a1) (n3 : 0 ≤ rv b0) (n4 : 0 ≤ rv b1)
    (z1 : rv a0 = 0 → rv a2 = 0) (z2 : rv a0 = 0 → rv a3 = 0) (z3 : rv a1 = 0 → rv a4 = 0) (z4 : rv b0 = 0 → rv b2 = 0) (z5 : rv b0 = 0 → rv b3 = 0) (z6 : rv b1 = 0 → rv b4 = 0) (fM : fin M = true) (hM : rv M = 0) :
    fle (fadd (kin a0 a1 a2 a3 a4) (kin b0 b1 b2 b3 b4)) (fadd (fadd (kin a0 a1 a2 a3 a4) (kin b0 b1 b2 b3 b4)) (fmul 4472074429978902528 (fadd (fadd (kin a0 a1 a2 a3 a4) (kin b0 b1 b2 b3 b4)) M))) = true := by
  have bg := big_890
  have e0 := eta_pos
  have e9 := eta_900
  have big4 : ∀ {x : Nat}, U40 x → rv (fabs x) ≤ 2582249878086908589655919172003011874329705792829223512830659356540647622016841194629645353280137831435903171972747493376 := fun h => by have := h.bound.2; grind
  obtain ⟨f1, g1, g2, g3, g4, g5⟩ := kin_near ua0 ua1 n1 n2 ua2.1 ua3.1 ua4.1 (big4 ua2) (big4 ua3) (big4 ua4) rfl
  obtain ⟨f2, i1, i2, i3, i4, i5⟩ := kin_near ub0 ub1 n3 n4 ub2.1 ub3.1 ub4.1 (big4 ub2) (big4 ub3) (big4 ub4) rfl
  obtain ⟨EA, hEA⟩ : ∃ E, E = en (rv a0) (rv a2) + en (rv a0) (rv a3) + en (rv a1) (rv a4) := ⟨_, rfl⟩
  obtain ⟨EB, hEB⟩ : ∃ E, E = en (rv b0) (rv b2) + en (rv b0) (rv b3) + en (rv b1) (rv b4) := ⟨_, rfl⟩
  rw [← hEA] at g2 g3 g4 g5
  rw [← hEB] at i2 i3 i4 i5
  obtain ⟨f5, r1, r2⟩ := rv_add (B := 2 * (EA + EB) + eta * 281474976710656) f1 f2 (by grind) (by grind) (by grind)
  have n5 := rv_add_nonneg f1 f2 g1 i1
  refine energy_end f5 f5 fM n5 (by grind) (by grind) (by grind) ?_
  obtain ⟨en91, enz1, enw1⟩ := en_lo ua0 ua2 n1
  have enn1 := en_nonneg (s := rv a2) n1
  obtain ⟨en92, enz2, enw2⟩ := en_lo ua0 ua3 n1
  have enn2 := en_nonneg (s := rv a3) n1
  obtain ⟨en93, enz3, enw3⟩ := en_lo ua1 ua4 n2
  have enn3 := en_nonneg (s := rv a4) n2
  obtain ⟨en94, enz4, enw4⟩ := en_lo ub0 ub2 n3
  have enn4 := en_nonneg (s := rv b2) n3
  obtain ⟨en95, enz5, enw5⟩ := en_lo ub0 ub3 n3
  have enn5 := en_nonneg (s := rv b3) n3
  obtain ⟨en96, enz6, enw6⟩ := en_lo ub1 ub4 n4
  have enn6 := en_nonneg (s := rv b4) n4
  by_cases hz : EA + EB = 0
  · left
    have yy1 : rv a2 = 0 := by
      rcases enw1 (by rw [hEA, hEB] at hz; grind) with h | h
      · exact z1 h
      · exact h
    have yy2 : rv a3 = 0 := by
      rcases enw2 (by rw [hEA, hEB] at hz; grind) with h | h
      · exact z2 h
      · exact h
    have yy3 : rv a4 = 0 := by
      rcases enw3 (by rw [hEA, hEB] at hz; grind) with h | h
      · exact z3 h
      · exact h
    have yy4 : rv b2 = 0 := by
      rcases enw4 (by rw [hEA, hEB] at hz; grind) with h | h
      · exact z4 h
      · exact h
    have yy5 : rv b3 = 0 := by
      rcases enw5 (by rw [hEA, hEB] at hz; grind) with h | h
      · exact z5 h
      · exact h
    have yy6 : rv b4 = 0 := by
      rcases enw6 (by rw [hEA, hEB] at hz; grind) with h | h
      · exact z6 h
      · exact h
    have k1' := kin_zero ua0 ua1 n1 n2 ua2.1 ua3.1 ua4.1 yy1 yy2 yy3
    have k2' := kin_zero ub0 ub1 n3 n4 ub2.1 ub3.1 ub4.1 yy4 yy5 yy6
    rw [rv_of_V0 (V.add k1' k2' V.zero (by omega))]
    grind
  · right
    have E0l : 1 / 2658455991569831745807614120560689152 ≤ EA + EB := by
      rw [hEA, hEB] at hz ⊢
      rcases enz1 with h1 | h1
      · rcases enz2 with h2 | h2
        · rcases enz3 with h3 | h3
          · rcases enz4 with h4 | h4
            · rcases enz5 with h5 | h5
              · rcases enz6 with h6 | h6
                · exact absurd (by rw [h1, h2, h3, h4, h5, h6]; grind) hz
                · grind
              · grind
            · grind
          · grind
        · grind
      · grind
    clear enz1 enz2 enz3 enz4 enz5 enz6
    constructor <;> grind
end Go.Sim
