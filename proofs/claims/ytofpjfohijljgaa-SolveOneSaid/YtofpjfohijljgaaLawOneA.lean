/- One row alone: what warm and one give. -/
import Derived.Test.YtofpjfohijljgaaLawLBaseN
import Derived.Test.YtofpjfohijljgaaSimRowOne
set_option linter.unusedVariables false
set_option linter.unusedSimpArgs false
set_option maxRecDepth 100000
set_option maxHeartbeats 4000000
namespace Go.Proofs.Ytofpjfohijljgaa
open Go.Sim Go.Lst
theorem mrg_t {q a b : Bool} (ha : a = true) (hb : b = true) : mrgB q a b = true := by rw [ha, hb]; cases q <;> rfl
theorem fin2 (k : Nat → Nat) : s_rows_finite_v1_0 k = (s_num_Finite_float64__0 (k 0) && s_num_Finite_float64__0 (k 1)) := by
  unfold s_rows_finite_v1_0 s_slices_ContainsFunc___float64_float64__v1_0 s_slices_IndexFunc___float64_float64__v1_0 s_rows_finite_1_0
  cases s_num_Finite_float64__0 (k 0) <;> cases s_num_Finite_float64__0 (k 1) <;> rfl
theorem fin5 (k : Nat → Nat) : s_rows_finite_0 k = (s_num_Finite_float64__0 (k 0) && (s_num_Finite_float64__0 (k 1) && (s_num_Finite_float64__0 (k 2) && (s_num_Finite_float64__0 (k 3) && s_num_Finite_float64__0 (k 4))))) := by
  unfold s_rows_finite_0 s_slices_ContainsFunc___float64_float64__0 s_slices_IndexFunc___float64_float64__0 s_rows_finite_1_0
  cases s_num_Finite_float64__0 (k 0) <;> cases s_num_Finite_float64__0 (k 1) <;> cases s_num_Finite_float64__0 (k 2) <;> cases s_num_Finite_float64__0 (k 3) <;> cases s_num_Finite_float64__0 (k 4) <;> rfl
theorem finite_of {x : Nat} (cx : CF x) (fx : fin x = true) : s_num_Finite_float64__0 x = true := by
  unfold s_num_Finite_float64__0
  exact V.feq_of (V.sub cx.lt (V.self fx) (V.self fx) V.zero (by omega)) V.zero
theorem rv_l20 : rv 4517110426252607488 = ((1 : Nat) : Rat) / ((1048576 : Nat) : Rat) := rv_lit (by decide) (by decide) (by intro d hd; subst hd; decide +kernel)
theorem rv_h20 : rv 4697254411347427328 = ((1048576 : Nat) : Rat) / ((1 : Nat) : Rat) := rv_lit (by decide) (by decide) (by intro d hd; subst hd; decide +kernel)
theorem u40_mid {x : Nat} (cx : CF x) (h : s_law21_middling_0 x = true) : U40 x := by
  have k1 : ((1 : Nat) : Rat) = 1 := rfl
  have k2 : ((1048576 : Nat) : Rat) = 1048576 := rfl
  unfold s_law21_middling_0 at h
  have key : fin (fabs x) = true → fin x = true := by
    intro hq
    have hn : nanb x = false := by have := fin_not_nan hq; rwa [nanb_fabs] at this
    have e := fabs_of hn
    rw [e, fin_iff] at hq
    have r2 : rungOf (rungOf x) = rungOf x := by unfold rungOf; omega
    rw [r2] at hq
    exact fin_iff.2 hq
  simp only [Bool.or_eq_true, Bool.and_eq_true] at h
  rcases h with h | ⟨g1, g2⟩
  · have hn : nanb (fabs x) = false := by
      cases hn : nanb (fabs x)
      · rfl
      · rw [feq_nan (.inl hn)] at h; cases h
    have hl : fabs x < 18446744073709551616 := cx.fabs.lt
    have ff : fin (fabs x) = true := by
      rcases (feq_zero hl hn).1 h with e | e <;> rw [e] <;> decide
    have hz : rv (fabs x) = 0 := by
      rw [feq_val (fin_not_nan ff) (by decide)] at h
      simp only [decide_eq_true_eq] at h
      have e : sval 0 = 0 := by decide
      unfold rv; rw [h, e]; grind
    exact ⟨key ff, .inl hz⟩
  · have hq : fin (fabs x) = true := fin_between g1 g2 (by decide) (by decide)
    rw [rv_le (by decide) hq, decide_eq_true_eq, rv_l20, k1, k2] at g1
    rw [rv_le hq (by decide), decide_eq_true_eq, rv_h20, k1, k2] at g2
    refine ⟨key hq, .inr ⟨?_, ?_⟩⟩ <;> grind
structure Mild (r2 r3 r4 r5 r6 r7 a0 a1 a2 a3 a4 b0 b1 b2 b3 b4 : Nat) : Prop where
  ur2 : U40 r2
  cr2 : CF r2
  ur3 : U40 r3
  cr3 : CF r3
  ur4 : U40 r4
  cr4 : CF r4
  ur5 : U40 r5
  cr5 : CF r5
  ur6 : U40 r6
  cr6 : CF r6
  ur7 : U40 r7
  cr7 : CF r7
  ua0 : U40 a0
  ca0 : CF a0
  ua1 : U40 a1
  ca1 : CF a1
  ua2 : U40 a2
  ca2 : CF a2
  ua3 : U40 a3
  ca3 : CF a3
  ua4 : U40 a4
  ca4 : CF a4
  ub0 : U40 b0
  cb0 : CF b0
  ub1 : U40 b1
  cb1 : CF b1
  ub2 : U40 b2
  cb2 : CF b2
  ub3 : U40 b3
  cb3 : CF b3
  ub4 : U40 b4
  cb4 : CF b4
  na0 : fle 0 a0 = true
  na1 : fle 0 a1 = true
  nb0 : fle 0 b0 = true
  nb1 : fle 0 b1 = true
variable {r2 r3 r4 r5 r6 r7 a0 a1 a2 a3 a4 b0 b1 b2 b3 b4 x2 x3 x4 y2 y3 y4 : Nat}
theorem Mild.mass (h : Mild r2 r3 r4 r5 r6 r7 a0 a1 a2 a3 a4 b0 b1 b2 b3 b4) : 0 ≤ rv a0 ∧ 0 ≤ rv a1 ∧ 0 ≤ rv b0 ∧ 0 ≤ rv b1 := by
  have f0 : fin 0 = true := by decide
  refine ⟨?_, ?_, ?_, ?_⟩
  · have := h.na0; rw [rv_le f0 h.ua0.1, decide_eq_true_eq, rv_0] at this; exact this
  · have := h.na1; rw [rv_le f0 h.ua1.1, decide_eq_true_eq, rv_0] at this; exact this
  · have := h.nb0; rw [rv_le f0 h.ub0.1, decide_eq_true_eq, rv_0] at this; exact this
  · have := h.nb1; rw [rv_le f0 h.ub1.1, decide_eq_true_eq, rv_0] at this; exact this
theorem fits1 (h : Mild r2 r3 r4 r5 r6 r7 a0 a1 a2 a3 a4 b0 b1 b2 b3 b4) {P : Nat} (fP : fin P = true) (cP : CF P) : s_rows_fits_0 0 1 r2 r3 r4 r5 r6 r7 0 0 9218868437227405312 P (-1) 0 = true := by
  unfold s_rows_fits_0 s_vec_Finite_0
  rw [fin5]
  show (((((((ile (0 : Int) 0) && (ile (0 : Int) 1)) && (!(ieq (0 : Int) 1))) && (s_num_Finite_float64__0 r2 && s_num_Finite_float64__0 r3)) && (s_num_Finite_float64__0 r4 && s_num_Finite_float64__0 r5)) && ((((s_num_Finite_float64__0 r6 && (s_num_Finite_float64__0 r7 && (s_num_Finite_float64__0 0 && (s_num_Finite_float64__0 P && s_num_Finite_float64__0 0)))) && (fle 0 0)) && (fle 0 9218868437227405312)) && (ile (-1 : Int) (-1)))) = true)
  rw [finite_of h.cr2 h.ur2.1, finite_of h.cr3 h.ur3.1, finite_of h.cr4 h.ur4.1, finite_of h.cr5 h.ur5.1, finite_of h.cr6 h.ur6.1, finite_of h.cr7 h.ur7.1, finite_of cf0 (by decide), finite_of cP fP]
  decide
theorem restA (h : Mild r2 r3 r4 r5 r6 r7 a0 a1 a2 a3 a4 b0 b1 b2 b3 b4) : s_rows_rests_0 a0 a1 x2 x3 x4 = true := by
  unfold s_rows_rests_0
  rw [fin2]
  show (((s_num_Finite_float64__0 a0 && s_num_Finite_float64__0 a1) && (fle 0 a0)) && (fle 0 a1)) = true
  rw [finite_of h.ca0 h.ua0.1, finite_of h.ca1 h.ua1.1, h.na0, h.na1]; rfl
theorem restB (h : Mild r2 r3 r4 r5 r6 r7 a0 a1 a2 a3 a4 b0 b1 b2 b3 b4) : s_rows_rests_0 b0 b1 y2 y3 y4 = true := by
  unfold s_rows_rests_0
  rw [fin2]
  show (((s_num_Finite_float64__0 b0 && s_num_Finite_float64__0 b1) && (fle 0 b0)) && (fle 0 b1)) = true
  rw [finite_of h.cb0 h.ub0.1, finite_of h.cb1 h.ub1.1, h.nb0, h.nb1]; rfl
theorem asked1 (h : Mild r2 r3 r4 r5 r6 r7 a0 a1 a2 a3 a4 b0 b1 b2 b3 b4) {P : Nat} (fP : fin P = true) (cP : CF P) : s_rows_asked_0 0 1 r2 r3 r4 r5 r6 r7 0 0 9218868437227405312 P (-1) 0 a0 a1 x2 x3 x4 b0 b1 y2 y3 y4 = 0 := by
  unfold s_rows_asked_0
  rw [fits1 h fP cP, restA h, restB h]; rfl
theorem check1 (h : Mild r2 r3 r4 r5 r6 r7 a0 a1 a2 a3 a4 b0 b1 b2 b3 b4) {P : Nat} (fP : fin P = true) (cP : CF P) : s_rows_Check_0 0 1 r2 r3 r4 r5 r6 r7 0 0 9218868437227405312 P (-1) 0 1 2 = 0 := by
  unfold s_rows_Check_0
  rw [fits1 h fP cP]; rfl
theorem mayA (h : Mild r2 r3 r4 r5 r6 r7 a0 a1 a2 a3 a4 b0 b1 b2 b3 b4) : s_solve_asked_1_0 a0 a1 x2 x3 x4 = false := by
  unfold s_solve_asked_1_0 s_solve_may_0
  rw [finite_of h.ca0 h.ua0.1, finite_of h.ca1 h.ua1.1, h.na0, h.na1]; rfl
theorem mayB (h : Mild r2 r3 r4 r5 r6 r7 a0 a1 a2 a3 a4 b0 b1 b2 b3 b4) : s_solve_asked_1_0 b0 b1 y2 y3 y4 = false := by
  unfold s_solve_asked_1_0 s_solve_may_0
  rw [finite_of h.cb0 h.ub0.1, finite_of h.cb1 h.ub1.1, h.nb0, h.nb1]; rfl
def wy (m p w s : Nat) : Nat := bif !(feq m 0) then fadd s (fmul (fmul m p) w) else s
def tn (m p w s : Nat) : Nat := bif !(feq m 0) then fadd s (fmul m (fmul p w)) else s
theorem psh_0 (v0 v1 : Int) (v2 v3 v4 v5 v6 v7 v8 v9 v10 v11 : Nat) (v12 : Int) (v13 a0 a1 a2 a3 a4 b0 b1 b2 b3 b4 P : Nat) : s_rows_pushed_0 v0 v1 v2 v3 v4 v5 v6 v7 v8 v9 v10 v11 v12 v13 a0 a1 a2 a3 a4 b0 b1 b2 b3 b4 P = a0 := by
  unfold s_rows_pushed_0
  try simp only [Bool.cond_self]
theorem psh_1 (v0 v1 : Int) (v2 v3 v4 v5 v6 v7 v8 v9 v10 v11 : Nat) (v12 : Int) (v13 a0 a1 a2 a3 a4 b0 b1 b2 b3 b4 P : Nat) : s_rows_pushed_1 v0 v1 v2 v3 v4 v5 v6 v7 v8 v9 v10 v11 v12 v13 a0 a1 a2 a3 a4 b0 b1 b2 b3 b4 P = a1 := by
  unfold s_rows_pushed_1
  try simp only [Bool.cond_self]
theorem psh_2 (v0 v1 : Int) (v2 v3 v4 v5 v6 v7 v8 v9 v10 v11 : Nat) (v12 : Int) (v13 a0 a1 a2 a3 a4 b0 b1 b2 b3 b4 P : Nat) : s_rows_pushed_2 v0 v1 v2 v3 v4 v5 v6 v7 v8 v9 v10 v11 v12 v13 a0 a1 a2 a3 a4 b0 b1 b2 b3 b4 P = wy a0 P v2 a2 := by
  unfold s_rows_pushed_2
  simp only [Bool.cond_self, s_vec_More_0, s_vec_More_1]
  rfl
theorem psh_3 (v0 v1 : Int) (v2 v3 v4 v5 v6 v7 v8 v9 v10 v11 : Nat) (v12 : Int) (v13 a0 a1 a2 a3 a4 b0 b1 b2 b3 b4 P : Nat) : s_rows_pushed_3 v0 v1 v2 v3 v4 v5 v6 v7 v8 v9 v10 v11 v12 v13 a0 a1 a2 a3 a4 b0 b1 b2 b3 b4 P = wy a0 P v3 a3 := by
  unfold s_rows_pushed_3
  simp only [Bool.cond_self, s_vec_More_0, s_vec_More_1]
  rfl
theorem psh_4 (v0 v1 : Int) (v2 v3 v4 v5 v6 v7 v8 v9 v10 v11 : Nat) (v12 : Int) (v13 a0 a1 a2 a3 a4 b0 b1 b2 b3 b4 P : Nat) : s_rows_pushed_4 v0 v1 v2 v3 v4 v5 v6 v7 v8 v9 v10 v11 v12 v13 a0 a1 a2 a3 a4 b0 b1 b2 b3 b4 P = tn a1 P v6 a4 := by
  unfold s_rows_pushed_4
  simp only [Bool.cond_self]
  rfl
theorem psh_5 (v0 v1 : Int) (v2 v3 v4 v5 v6 v7 v8 v9 v10 v11 : Nat) (v12 : Int) (v13 a0 a1 a2 a3 a4 b0 b1 b2 b3 b4 P : Nat) : s_rows_pushed_5 v0 v1 v2 v3 v4 v5 v6 v7 v8 v9 v10 v11 v12 v13 a0 a1 a2 a3 a4 b0 b1 b2 b3 b4 P = b0 := by
  unfold s_rows_pushed_5
  try simp only [Bool.cond_self]
theorem psh_6 (v0 v1 : Int) (v2 v3 v4 v5 v6 v7 v8 v9 v10 v11 : Nat) (v12 : Int) (v13 a0 a1 a2 a3 a4 b0 b1 b2 b3 b4 P : Nat) : s_rows_pushed_6 v0 v1 v2 v3 v4 v5 v6 v7 v8 v9 v10 v11 v12 v13 a0 a1 a2 a3 a4 b0 b1 b2 b3 b4 P = b1 := by
  unfold s_rows_pushed_6
  try simp only [Bool.cond_self]
theorem psh_7 (v0 v1 : Int) (v2 v3 v4 v5 v6 v7 v8 v9 v10 v11 : Nat) (v12 : Int) (v13 a0 a1 a2 a3 a4 b0 b1 b2 b3 b4 P : Nat) : s_rows_pushed_7 v0 v1 v2 v3 v4 v5 v6 v7 v8 v9 v10 v11 v12 v13 a0 a1 a2 a3 a4 b0 b1 b2 b3 b4 P = wy b0 P v4 b2 := by
  unfold s_rows_pushed_7
  simp only [Bool.cond_self, s_vec_More_0, s_vec_More_1]
  rfl
theorem psh_8 (v0 v1 : Int) (v2 v3 v4 v5 v6 v7 v8 v9 v10 v11 : Nat) (v12 : Int) (v13 a0 a1 a2 a3 a4 b0 b1 b2 b3 b4 P : Nat) : s_rows_pushed_8 v0 v1 v2 v3 v4 v5 v6 v7 v8 v9 v10 v11 v12 v13 a0 a1 a2 a3 a4 b0 b1 b2 b3 b4 P = wy b0 P v5 b3 := by
  unfold s_rows_pushed_8
  simp only [Bool.cond_self, s_vec_More_0, s_vec_More_1]
  rfl
theorem psh_9 (v0 v1 : Int) (v2 v3 v4 v5 v6 v7 v8 v9 v10 v11 : Nat) (v12 : Int) (v13 a0 a1 a2 a3 a4 b0 b1 b2 b3 b4 P : Nat) : s_rows_pushed_9 v0 v1 v2 v3 v4 v5 v6 v7 v8 v9 v10 v11 v12 v13 a0 a1 a2 a3 a4 b0 b1 b2 b3 b4 P = tn b1 P v7 b4 := by
  unfold s_rows_pushed_9
  simp only [Bool.cond_self]
  rfl
theorem wrm_0 (h : Mild r2 r3 r4 r5 r6 r7 a0 a1 a2 a3 a4 b0 b1 b2 b3 b4) : s_rows_Warm_0 0 1 r2 r3 r4 r5 r6 r7 0 0 9218868437227405312 0 (-1) 0 a0 a1 a2 a3 a4 b0 b1 b2 b3 b4 = a0 := by
  unfold s_rows_Warm_0
  rw [asked1 h (by decide) cf0, psh_0]; rfl
theorem wrm_1 (h : Mild r2 r3 r4 r5 r6 r7 a0 a1 a2 a3 a4 b0 b1 b2 b3 b4) : s_rows_Warm_1 0 1 r2 r3 r4 r5 r6 r7 0 0 9218868437227405312 0 (-1) 0 a0 a1 a2 a3 a4 b0 b1 b2 b3 b4 = a1 := by
  unfold s_rows_Warm_1
  rw [asked1 h (by decide) cf0, psh_1]; rfl
theorem wrm_2 (h : Mild r2 r3 r4 r5 r6 r7 a0 a1 a2 a3 a4 b0 b1 b2 b3 b4) : s_rows_Warm_2 0 1 r2 r3 r4 r5 r6 r7 0 0 9218868437227405312 0 (-1) 0 a0 a1 a2 a3 a4 b0 b1 b2 b3 b4 = wy a0 0 r2 a2 := by
  unfold s_rows_Warm_2
  rw [asked1 h (by decide) cf0, psh_2]; rfl
theorem wrm_3 (h : Mild r2 r3 r4 r5 r6 r7 a0 a1 a2 a3 a4 b0 b1 b2 b3 b4) : s_rows_Warm_3 0 1 r2 r3 r4 r5 r6 r7 0 0 9218868437227405312 0 (-1) 0 a0 a1 a2 a3 a4 b0 b1 b2 b3 b4 = wy a0 0 r3 a3 := by
  unfold s_rows_Warm_3
  rw [asked1 h (by decide) cf0, psh_3]; rfl
theorem wrm_4 (h : Mild r2 r3 r4 r5 r6 r7 a0 a1 a2 a3 a4 b0 b1 b2 b3 b4) : s_rows_Warm_4 0 1 r2 r3 r4 r5 r6 r7 0 0 9218868437227405312 0 (-1) 0 a0 a1 a2 a3 a4 b0 b1 b2 b3 b4 = tn a1 0 r6 a4 := by
  unfold s_rows_Warm_4
  rw [asked1 h (by decide) cf0, psh_4]; rfl
theorem wrm_5 (h : Mild r2 r3 r4 r5 r6 r7 a0 a1 a2 a3 a4 b0 b1 b2 b3 b4) : s_rows_Warm_5 0 1 r2 r3 r4 r5 r6 r7 0 0 9218868437227405312 0 (-1) 0 a0 a1 a2 a3 a4 b0 b1 b2 b3 b4 = b0 := by
  unfold s_rows_Warm_5
  rw [asked1 h (by decide) cf0, psh_5]; rfl
theorem wrm_6 (h : Mild r2 r3 r4 r5 r6 r7 a0 a1 a2 a3 a4 b0 b1 b2 b3 b4) : s_rows_Warm_6 0 1 r2 r3 r4 r5 r6 r7 0 0 9218868437227405312 0 (-1) 0 a0 a1 a2 a3 a4 b0 b1 b2 b3 b4 = b1 := by
  unfold s_rows_Warm_6
  rw [asked1 h (by decide) cf0, psh_6]; rfl
theorem wrm_7 (h : Mild r2 r3 r4 r5 r6 r7 a0 a1 a2 a3 a4 b0 b1 b2 b3 b4) : s_rows_Warm_7 0 1 r2 r3 r4 r5 r6 r7 0 0 9218868437227405312 0 (-1) 0 a0 a1 a2 a3 a4 b0 b1 b2 b3 b4 = wy b0 0 r4 b2 := by
  unfold s_rows_Warm_7
  rw [asked1 h (by decide) cf0, psh_7]; rfl
theorem wrm_8 (h : Mild r2 r3 r4 r5 r6 r7 a0 a1 a2 a3 a4 b0 b1 b2 b3 b4) : s_rows_Warm_8 0 1 r2 r3 r4 r5 r6 r7 0 0 9218868437227405312 0 (-1) 0 a0 a1 a2 a3 a4 b0 b1 b2 b3 b4 = wy b0 0 r5 b3 := by
  unfold s_rows_Warm_8
  rw [asked1 h (by decide) cf0, psh_8]; rfl
theorem wrm_9 (h : Mild r2 r3 r4 r5 r6 r7 a0 a1 a2 a3 a4 b0 b1 b2 b3 b4) : s_rows_Warm_9 0 1 r2 r3 r4 r5 r6 r7 0 0 9218868437227405312 0 (-1) 0 a0 a1 a2 a3 a4 b0 b1 b2 b3 b4 = tn b1 0 r7 b4 := by
  unfold s_rows_Warm_9
  rw [asked1 h (by decide) cf0, psh_9]; rfl
theorem wrm_10 (h : Mild r2 r3 r4 r5 r6 r7 a0 a1 a2 a3 a4 b0 b1 b2 b3 b4) : s_rows_Warm_10 0 1 r2 r3 r4 r5 r6 r7 0 0 9218868437227405312 0 (-1) 0 a0 a1 a2 a3 a4 b0 b1 b2 b3 b4 = 0 := by
  unfold s_rows_Warm_10
  rw [asked1 h (by decide) cf0]; rfl
theorem wy_mild {m w s : Nat} (um : U40 m) (uw : U40 w) (us : U40 s) (cs : CF s) : U40 (wy m 0 w s) ∧ CF (wy m 0 w s) ∧ sval (wy m 0 w s) = sval s ∧ wy m 0 w (wy m 0 w s) = wy m 0 w s := by
  have v : V (wy m 0 w s) (sval s) := still_way um uw us (by decide) rv_0
  obtain ⟨f1, e1⟩ := rv_mul_zero um.1 (show fin 0 = true by decide) (by rw [rv_0]; grind)
  obtain ⟨f2, e2⟩ := rv_mul_zero f1 uw.1 (by rw [e1]; grind)
  have er : rv (wy m 0 w s) = rv s := rv_of_V v (V.self us.1)
  refine ⟨⟨v.1, ?_⟩, ?_, v.2, ?_⟩
  · obtain ⟨_, p1, p2, _⟩ := rv_abs v.1
    obtain ⟨_, q1, q2, _⟩ := rv_abs us.1
    have : rv (fabs (wy m 0 w s)) = rv (fabs s) := by
      by_cases hs : 0 ≤ rv s
      · rw [p1 (by grind), q1 hs, er]
      · rw [p2 (by grind), q2 (by grind), er]
    rw [this]; exact us.2
  · unfold wy; cases feq m 0
    · exact CF.add _ _
    · exact cs
  · unfold wy; cases feq m 0
    · exact add_again us.1 f2 (rv_zero_sval e2)
    · rfl
theorem tn_mild {m w s : Nat} (um : U40 m) (uw : U40 w) (us : U40 s) (cs : CF s) : U40 (tn m 0 w s) ∧ CF (tn m 0 w s) ∧ sval (tn m 0 w s) = sval s ∧ tn m 0 w (tn m 0 w s) = tn m 0 w s := by
  have v : V (tn m 0 w s) (sval s) := still_turn um uw us (by decide) rv_0
  obtain ⟨f1, e1⟩ := rv_mul_zero (show fin 0 = true by decide) uw.1 (by rw [rv_0]; grind)
  obtain ⟨f2, e2⟩ := rv_mul_zero um.1 f1 (by rw [e1]; grind)
  have er : rv (tn m 0 w s) = rv s := rv_of_V v (V.self us.1)
  refine ⟨⟨v.1, ?_⟩, ?_, v.2, ?_⟩
  · obtain ⟨_, p1, p2, _⟩ := rv_abs v.1
    obtain ⟨_, q1, q2, _⟩ := rv_abs us.1
    have : rv (fabs (tn m 0 w s)) = rv (fabs s) := by
      by_cases hs : 0 ≤ rv s
      · rw [p1 (by grind), q1 hs, er]
      · rw [p2 (by grind), q2 (by grind), er]
    rw [this]; exact us.2
  · unfold tn; cases feq m 0
    · exact CF.add _ _
    · exact cs
  · unfold tn; cases feq m 0
    · exact add_again us.1 f2 (rv_zero_sval e2)
    · rfl
def lft (d P : Nat) : Nat := bif ((flt d 0 && fle P 0) || (flt 0 d && fle 9218868437227405312 P)) then 0 else (bif flt 0 (fabs d) then fabs d else 0)
theorem clamp1 {q : Nat} (fq : fin q = true) : s_num_Clamp_float64__0 q 0 9218868437227405312 = bif flt 0 q then q else 0 := by
  unfold s_num_Clamp_float64__0
  have : flt 9218868437227405312 q = false := by
    have hk := fin_iff.1 fq
    have hk2 := key_abs q
    rw [flt_key (by decide) (fin_not_nan fq), decide_eq_false_iff_not]
    have : key 9218868437227405312 = 9218868437227405312 := by decide
    omega
  rw [this]
  cases flt 0 q <;> rfl
structure Ones (r2 r3 r4 r5 r6 r7 a0 a1 a2 a3 a4 b0 b1 b2 b3 b4 P c1 c2 c3 c4 c5 c6 : Nat) : Prop where
  fP : fin P = true
  cP : CF P
  nP : flt P 0 = false
  o0 : s_rows_One_0 0 1 r2 r3 r4 r5 r6 r7 0 0 9218868437227405312 0 (-1) 0 a0 a1 a2 a3 a4 b0 b1 b2 b3 b4 = 0
  o1 : s_rows_One_1 0 1 r2 r3 r4 r5 r6 r7 0 0 9218868437227405312 0 (-1) 0 a0 a1 a2 a3 a4 b0 b1 b2 b3 b4 = 1
  o2 : s_rows_One_2 0 1 r2 r3 r4 r5 r6 r7 0 0 9218868437227405312 0 (-1) 0 a0 a1 a2 a3 a4 b0 b1 b2 b3 b4 = r2
  o3 : s_rows_One_3 0 1 r2 r3 r4 r5 r6 r7 0 0 9218868437227405312 0 (-1) 0 a0 a1 a2 a3 a4 b0 b1 b2 b3 b4 = r3
  o4 : s_rows_One_4 0 1 r2 r3 r4 r5 r6 r7 0 0 9218868437227405312 0 (-1) 0 a0 a1 a2 a3 a4 b0 b1 b2 b3 b4 = r4
  o5 : s_rows_One_5 0 1 r2 r3 r4 r5 r6 r7 0 0 9218868437227405312 0 (-1) 0 a0 a1 a2 a3 a4 b0 b1 b2 b3 b4 = r5
  o6 : s_rows_One_6 0 1 r2 r3 r4 r5 r6 r7 0 0 9218868437227405312 0 (-1) 0 a0 a1 a2 a3 a4 b0 b1 b2 b3 b4 = r6
  o7 : s_rows_One_7 0 1 r2 r3 r4 r5 r6 r7 0 0 9218868437227405312 0 (-1) 0 a0 a1 a2 a3 a4 b0 b1 b2 b3 b4 = r7
  o8 : s_rows_One_8 0 1 r2 r3 r4 r5 r6 r7 0 0 9218868437227405312 0 (-1) 0 a0 a1 a2 a3 a4 b0 b1 b2 b3 b4 = 0
  o9 : s_rows_One_9 0 1 r2 r3 r4 r5 r6 r7 0 0 9218868437227405312 0 (-1) 0 a0 a1 a2 a3 a4 b0 b1 b2 b3 b4 = 0
  o10 : s_rows_One_10 0 1 r2 r3 r4 r5 r6 r7 0 0 9218868437227405312 0 (-1) 0 a0 a1 a2 a3 a4 b0 b1 b2 b3 b4 = 9218868437227405312
  o11 : s_rows_One_11 0 1 r2 r3 r4 r5 r6 r7 0 0 9218868437227405312 0 (-1) 0 a0 a1 a2 a3 a4 b0 b1 b2 b3 b4 = P
  o12 : s_rows_One_12 0 1 r2 r3 r4 r5 r6 r7 0 0 9218868437227405312 0 (-1) 0 a0 a1 a2 a3 a4 b0 b1 b2 b3 b4 = -1
  o13 : s_rows_One_13 0 1 r2 r3 r4 r5 r6 r7 0 0 9218868437227405312 0 (-1) 0 a0 a1 a2 a3 a4 b0 b1 b2 b3 b4 = 0
  o14 : s_rows_One_14 0 1 r2 r3 r4 r5 r6 r7 0 0 9218868437227405312 0 (-1) 0 a0 a1 a2 a3 a4 b0 b1 b2 b3 b4 = a0
  o15 : s_rows_One_15 0 1 r2 r3 r4 r5 r6 r7 0 0 9218868437227405312 0 (-1) 0 a0 a1 a2 a3 a4 b0 b1 b2 b3 b4 = a1
  o16 : s_rows_One_16 0 1 r2 r3 r4 r5 r6 r7 0 0 9218868437227405312 0 (-1) 0 a0 a1 a2 a3 a4 b0 b1 b2 b3 b4 = c1
  o17 : s_rows_One_17 0 1 r2 r3 r4 r5 r6 r7 0 0 9218868437227405312 0 (-1) 0 a0 a1 a2 a3 a4 b0 b1 b2 b3 b4 = c2
  o18 : s_rows_One_18 0 1 r2 r3 r4 r5 r6 r7 0 0 9218868437227405312 0 (-1) 0 a0 a1 a2 a3 a4 b0 b1 b2 b3 b4 = c3
  o19 : s_rows_One_19 0 1 r2 r3 r4 r5 r6 r7 0 0 9218868437227405312 0 (-1) 0 a0 a1 a2 a3 a4 b0 b1 b2 b3 b4 = b0
  o20 : s_rows_One_20 0 1 r2 r3 r4 r5 r6 r7 0 0 9218868437227405312 0 (-1) 0 a0 a1 a2 a3 a4 b0 b1 b2 b3 b4 = b1
  o21 : s_rows_One_21 0 1 r2 r3 r4 r5 r6 r7 0 0 9218868437227405312 0 (-1) 0 a0 a1 a2 a3 a4 b0 b1 b2 b3 b4 = c4
  o22 : s_rows_One_22 0 1 r2 r3 r4 r5 r6 r7 0 0 9218868437227405312 0 (-1) 0 a0 a1 a2 a3 a4 b0 b1 b2 b3 b4 = c5
  o23 : s_rows_One_23 0 1 r2 r3 r4 r5 r6 r7 0 0 9218868437227405312 0 (-1) 0 a0 a1 a2 a3 a4 b0 b1 b2 b3 b4 = c6
  o24 : s_rows_One_24 0 1 r2 r3 r4 r5 r6 r7 0 0 9218868437227405312 0 (-1) 0 a0 a1 a2 a3 a4 b0 b1 b2 b3 b4 = 0
  lf : flt 0 (s_rows_weight_0 0 1 r2 r3 r4 r5 r6 r7 0 0 9218868437227405312 0 (-1) 0 a0 a1 a2 a3 a4 b0 b1 b2 b3 b4) = true → fle (lft (fsub 0 (fadd (fadd (fadd (fadd (fmul r2 c1) (fmul r3 c2)) (fmul r6 c3)) (fadd (fmul r4 c4) (fmul r5 c5))) (fmul r7 c6))) P) (fmul 4472074429978902528 (fadd (fadd (fadd (fadd (fabs (fmul r2 a2)) (fabs (fmul r3 a3))) (fabs (fmul r6 a4))) (fadd (fadd (fabs (fmul r4 b2)) (fabs (fmul r5 b3))) (fabs (fmul r7 b4)))) (fadd (fadd (fadd (fabs (fmul r2 c1)) (fabs (fmul r3 c2))) (fabs (fmul r6 c3))) (fadd (fadd (fabs (fmul r4 c4)) (fabs (fmul r5 c5))) (fabs (fmul r7 c6)))))) = true
theorem ones (h : Mild r2 r3 r4 r5 r6 r7 a0 a1 a2 a3 a4 b0 b1 b2 b3 b4) (i1 : wy a0 0 r2 a2 = a2) (i2 : wy a0 0 r3 a3 = a3) (i3 : tn a1 0 r6 a4 = a4) (i4 : wy b0 0 r4 b2 = b2) (i5 : wy b0 0 r5 b3 = b3) (i6 : tn b1 0 r7 b4 = b4) : ∃ P c1 c2 c3 c4 c5 c6, Ones r2 r3 r4 r5 r6 r7 a0 a1 a2 a3 a4 b0 b1 b2 b3 b4 P c1 c2 c3 c4 c5 c6 := by
  have f0 : fin 0 = true := by decide
  obtain ⟨n1, n2, n3, n4⟩ := h.mass
  have hA := asked1 (x2 := a2) (x3 := a3) (x4 := a4) (y2 := b2) (y3 := b3) (y4 := b4) h f0 cf0
  have hi : ieq (0 : Int) 0 = true := rfl
  obtain ⟨fs, fw, wn, fl, _⟩ := solved_facts cf0 cf0 h.ur2 h.ur3 h.ur4 h.ur5 h.ur6 h.ur7 u40_0 u40_0 h.ua0 h.ua1 h.ua2 h.ua3 h.ua4 h.ub0 h.ub1 h.ub2 h.ub3 h.ub4 n1 n2 n3 n4 rfl rfl
  cases hw : flt 0 (s_rows_weight_0 0 1 r2 r3 r4 r5 r6 r7 0 0 9218868437227405312 0 (-1) 0 a0 a1 a2 a3 a4 b0 b1 b2 b3 b4)
  · refine ⟨0, a2, a3, a4, b2, b3, b4, f0, cf0, by decide, ?_, ?_, ?_, ?_, ?_, ?_, ?_, ?_, ?_, ?_, ?_, ?_, ?_, ?_, ?_, ?_, ?_, ?_, ?_, ?_, ?_, ?_, ?_, ?_, ?_, fun e => by rw [hw] at e; cases e⟩
    · unfold s_rows_One_0; simp only [hA, hw, hi, Bool.not_true, Bool.not_false, Bool.true_or, cond_true, cond_false]
    · unfold s_rows_One_1; simp only [hA, hw, hi, Bool.not_true, Bool.not_false, Bool.true_or, cond_true, cond_false]
    · unfold s_rows_One_2; simp only [hA, hw, hi, Bool.not_true, Bool.not_false, Bool.true_or, cond_true, cond_false]
    · unfold s_rows_One_3; simp only [hA, hw, hi, Bool.not_true, Bool.not_false, Bool.true_or, cond_true, cond_false]
    · unfold s_rows_One_4; simp only [hA, hw, hi, Bool.not_true, Bool.not_false, Bool.true_or, cond_true, cond_false]
    · unfold s_rows_One_5; simp only [hA, hw, hi, Bool.not_true, Bool.not_false, Bool.true_or, cond_true, cond_false]
    · unfold s_rows_One_6; simp only [hA, hw, hi, Bool.not_true, Bool.not_false, Bool.true_or, cond_true, cond_false]
    · unfold s_rows_One_7; simp only [hA, hw, hi, Bool.not_true, Bool.not_false, Bool.true_or, cond_true, cond_false]
    · unfold s_rows_One_8; simp only [hA, hw, hi, Bool.not_true, Bool.not_false, Bool.true_or, cond_true, cond_false]
    · unfold s_rows_One_9; simp only [hA, hw, hi, Bool.not_true, Bool.not_false, Bool.true_or, cond_true, cond_false]
    · unfold s_rows_One_10; simp only [hA, hw, hi, Bool.not_true, Bool.not_false, Bool.true_or, cond_true, cond_false]
    · unfold s_rows_One_11; simp only [hA, hw, hi, Bool.not_true, Bool.not_false, Bool.true_or, cond_true, cond_false]
    · unfold s_rows_One_12; simp only [hA, hw, hi, Bool.not_true, Bool.not_false, Bool.true_or, cond_true, cond_false]
    · unfold s_rows_One_13; simp only [hA, hw, hi, Bool.not_true, Bool.not_false, Bool.true_or, cond_true, cond_false]
    · unfold s_rows_One_14; simp only [hA, hw, hi, Bool.not_true, Bool.not_false, Bool.true_or, cond_true, cond_false]
    · unfold s_rows_One_15; simp only [hA, hw, hi, Bool.not_true, Bool.not_false, Bool.true_or, cond_true, cond_false]
    · unfold s_rows_One_16; simp only [hA, hw, hi, Bool.not_true, Bool.not_false, Bool.true_or, cond_true, cond_false]
    · unfold s_rows_One_17; simp only [hA, hw, hi, Bool.not_true, Bool.not_false, Bool.true_or, cond_true, cond_false]
    · unfold s_rows_One_18; simp only [hA, hw, hi, Bool.not_true, Bool.not_false, Bool.true_or, cond_true, cond_false]
    · unfold s_rows_One_19; simp only [hA, hw, hi, Bool.not_true, Bool.not_false, Bool.true_or, cond_true, cond_false]
    · unfold s_rows_One_20; simp only [hA, hw, hi, Bool.not_true, Bool.not_false, Bool.true_or, cond_true, cond_false]
    · unfold s_rows_One_21; simp only [hA, hw, hi, Bool.not_true, Bool.not_false, Bool.true_or, cond_true, cond_false]
    · unfold s_rows_One_22; simp only [hA, hw, hi, Bool.not_true, Bool.not_false, Bool.true_or, cond_true, cond_false]
    · unfold s_rows_One_23; simp only [hA, hw, hi, Bool.not_true, Bool.not_false, Bool.true_or, cond_true, cond_false]
    · unfold s_rows_One_24; simp only [hA, hw, hi, Bool.not_true, Bool.not_false, Bool.true_or, cond_true, cond_false]
  · have w0 : 0 < rv (s_rows_weight_0 0 1 r2 r3 r4 r5 r6 r7 0 0 9218868437227405312 0 (-1) 0 a0 a1 a2 a3 a4 b0 b1 b2 b3 b4) := by
      have e := hw
      have fw' : fin (s_rows_weight_0 0 1 r2 r3 r4 r5 r6 r7 0 0 9218868437227405312 0 (-1) 0 a0 a1 a2 a3 a4 b0 b1 b2 b3 b4) = true := fw
      rw [flt_rv f0 fw', rv_0] at e
      have : ¬ (rv (s_rows_weight_0 0 1 r2 r3 r4 r5 r6 r7 0 0 9218868437227405312 0 (-1) 0 a0 a1 a2 a3 a4 b0 b1 b2 b3 b4) ≤ 0) := by simpa using e
      exact Rat.not_le.1 this
    obtain ⟨f1, fq, fP, cP, fp, nP, hL⟩ := one_row h.ur2 h.ur3 h.ur4 h.ur5 h.ur6 h.ur7 h.ua0 h.ua1 h.ua2 h.ua3 h.ua4 h.ub0 h.ub1 h.ub2 h.ub3 h.ub4 n1 n2 n3 n4 rfl rfl w0 rfl rfl rfl rfl rfl rfl rfl rfl rfl i1 i2 i3 i4 i5 i6 rfl rfl
    have hcl : s_num_Clamp_float64__0 (fadd 0 (fdiv (fsub 0 (s_rows_speed_0 0 1 r2 r3 r4 r5 r6 r7 0 0 9218868437227405312 0 (-1) 0 a0 a1 a2 a3 a4 b0 b1 b2 b3 b4)) (s_rows_weight_0 0 1 r2 r3 r4 r5 r6 r7 0 0 9218868437227405312 0 (-1) 0 a0 a1 a2 a3 a4 b0 b1 b2 b3 b4))) 0 9218868437227405312 = bif flt 0 (fadd 0 (fdiv (fsub 0 (s_rows_speed_0 0 1 r2 r3 r4 r5 r6 r7 0 0 9218868437227405312 0 (-1) 0 a0 a1 a2 a3 a4 b0 b1 b2 b3 b4)) (s_rows_weight_0 0 1 r2 r3 r4 r5 r6 r7 0 0 9218868437227405312 0 (-1) 0 a0 a1 a2 a3 a4 b0 b1 b2 b3 b4))) then fadd 0 (fdiv (fsub 0 (s_rows_speed_0 0 1 r2 r3 r4 r5 r6 r7 0 0 9218868437227405312 0 (-1) 0 a0 a1 a2 a3 a4 b0 b1 b2 b3 b4)) (s_rows_weight_0 0 1 r2 r3 r4 r5 r6 r7 0 0 9218868437227405312 0 (-1) 0 a0 a1 a2 a3 a4 b0 b1 b2 b3 b4)) else 0 := clamp1 fq
    change fin (bif flt 0 (fadd 0 (fdiv (fsub 0 (s_rows_speed_0 0 1 r2 r3 r4 r5 r6 r7 0 0 9218868437227405312 0 (-1) 0 a0 a1 a2 a3 a4 b0 b1 b2 b3 b4)) (s_rows_weight_0 0 1 r2 r3 r4 r5 r6 r7 0 0 9218868437227405312 0 (-1) 0 a0 a1 a2 a3 a4 b0 b1 b2 b3 b4))) then fadd 0 (fdiv (fsub 0 (s_rows_speed_0 0 1 r2 r3 r4 r5 r6 r7 0 0 9218868437227405312 0 (-1) 0 a0 a1 a2 a3 a4 b0 b1 b2 b3 b4)) (s_rows_weight_0 0 1 r2 r3 r4 r5 r6 r7 0 0 9218868437227405312 0 (-1) 0 a0 a1 a2 a3 a4 b0 b1 b2 b3 b4)) else 0) = true at fP
    change CF (bif flt 0 (fadd 0 (fdiv (fsub 0 (s_rows_speed_0 0 1 r2 r3 r4 r5 r6 r7 0 0 9218868437227405312 0 (-1) 0 a0 a1 a2 a3 a4 b0 b1 b2 b3 b4)) (s_rows_weight_0 0 1 r2 r3 r4 r5 r6 r7 0 0 9218868437227405312 0 (-1) 0 a0 a1 a2 a3 a4 b0 b1 b2 b3 b4))) then fadd 0 (fdiv (fsub 0 (s_rows_speed_0 0 1 r2 r3 r4 r5 r6 r7 0 0 9218868437227405312 0 (-1) 0 a0 a1 a2 a3 a4 b0 b1 b2 b3 b4)) (s_rows_weight_0 0 1 r2 r3 r4 r5 r6 r7 0 0 9218868437227405312 0 (-1) 0 a0 a1 a2 a3 a4 b0 b1 b2 b3 b4)) else 0) at cP
    change fin (fsub (bif flt 0 (fadd 0 (fdiv (fsub 0 (s_rows_speed_0 0 1 r2 r3 r4 r5 r6 r7 0 0 9218868437227405312 0 (-1) 0 a0 a1 a2 a3 a4 b0 b1 b2 b3 b4)) (s_rows_weight_0 0 1 r2 r3 r4 r5 r6 r7 0 0 9218868437227405312 0 (-1) 0 a0 a1 a2 a3 a4 b0 b1 b2 b3 b4))) then fadd 0 (fdiv (fsub 0 (s_rows_speed_0 0 1 r2 r3 r4 r5 r6 r7 0 0 9218868437227405312 0 (-1) 0 a0 a1 a2 a3 a4 b0 b1 b2 b3 b4)) (s_rows_weight_0 0 1 r2 r3 r4 r5 r6 r7 0 0 9218868437227405312 0 (-1) 0 a0 a1 a2 a3 a4 b0 b1 b2 b3 b4)) else 0) 0) = true at fp
    change flt (bif flt 0 (fadd 0 (fdiv (fsub 0 (s_rows_speed_0 0 1 r2 r3 r4 r5 r6 r7 0 0 9218868437227405312 0 (-1) 0 a0 a1 a2 a3 a4 b0 b1 b2 b3 b4)) (s_rows_weight_0 0 1 r2 r3 r4 r5 r6 r7 0 0 9218868437227405312 0 (-1) 0 a0 a1 a2 a3 a4 b0 b1 b2 b3 b4))) then fadd 0 (fdiv (fsub 0 (s_rows_speed_0 0 1 r2 r3 r4 r5 r6 r7 0 0 9218868437227405312 0 (-1) 0 a0 a1 a2 a3 a4 b0 b1 b2 b3 b4)) (s_rows_weight_0 0 1 r2 r3 r4 r5 r6 r7 0 0 9218868437227405312 0 (-1) 0 a0 a1 a2 a3 a4 b0 b1 b2 b3 b4)) else 0) 0 = false at nP
    generalize hP : (bif flt 0 (fadd 0 (fdiv (fsub 0 (s_rows_speed_0 0 1 r2 r3 r4 r5 r6 r7 0 0 9218868437227405312 0 (-1) 0 a0 a1 a2 a3 a4 b0 b1 b2 b3 b4)) (s_rows_weight_0 0 1 r2 r3 r4 r5 r6 r7 0 0 9218868437227405312 0 (-1) 0 a0 a1 a2 a3 a4 b0 b1 b2 b3 b4))) then fadd 0 (fdiv (fsub 0 (s_rows_speed_0 0 1 r2 r3 r4 r5 r6 r7 0 0 9218868437227405312 0 (-1) 0 a0 a1 a2 a3 a4 b0 b1 b2 b3 b4)) (s_rows_weight_0 0 1 r2 r3 r4 r5 r6 r7 0 0 9218868437227405312 0 (-1) 0 a0 a1 a2 a3 a4 b0 b1 b2 b3 b4)) else 0) = P at hcl fP cP fp nP
    have h1 : s_rows_finite_v1_0 (fun j0 => (bif (Nat.beq j0 0) then (s_rows_weight_0 0 1 r2 r3 r4 r5 r6 r7 0 0 9218868437227405312 0 (-1) 0 a0 a1 a2 a3 a4 b0 b1 b2 b3 b4) else (fsub 0 (s_rows_speed_0 0 1 r2 r3 r4 r5 r6 r7 0 0 9218868437227405312 0 (-1) 0 a0 a1 a2 a3 a4 b0 b1 b2 b3 b4)))) = true := by
      rw [fin2]
      exact and_of (finite_of (CF.add _ _) fw) (finite_of (CF.sub _ _) f1)
    have h2 : s_rows_finite_v1_0 (fun j0 => (bif (Nat.beq j0 0) then P else (fsub P 0))) = true := by
      rw [fin2]
      exact and_of (finite_of cP fP) (finite_of (CF.sub _ _) fp)
    refine ⟨P, wy a0 (fsub P 0) r2 a2, wy a0 (fsub P 0) r3 a3, tn a1 (fsub P 0) r6 a4, wy b0 (fsub P 0) r4 b2, wy b0 (fsub P 0) r5 b3, tn b1 (fsub P 0) r7 b4, fP, cP, nP, ?_, ?_, ?_, ?_, ?_, ?_, ?_, ?_, ?_, ?_, ?_, ?_, ?_, ?_, ?_, ?_, ?_, ?_, ?_, ?_, ?_, ?_, ?_, ?_, ?_, fun _ => ?_⟩
    · unfold s_rows_One_0; simp only [hA, hw, hi, hcl, h1, h2, Bool.not_true, Bool.not_false, Bool.or_self, cond_true, cond_false, psh_0, psh_1, psh_2, psh_3, psh_4, psh_5, psh_6, psh_7, psh_8, psh_9]
    · unfold s_rows_One_1; simp only [hA, hw, hi, hcl, h1, h2, Bool.not_true, Bool.not_false, Bool.or_self, cond_true, cond_false, psh_0, psh_1, psh_2, psh_3, psh_4, psh_5, psh_6, psh_7, psh_8, psh_9]
    · unfold s_rows_One_2; simp only [hA, hw, hi, hcl, h1, h2, Bool.not_true, Bool.not_false, Bool.or_self, cond_true, cond_false, psh_0, psh_1, psh_2, psh_3, psh_4, psh_5, psh_6, psh_7, psh_8, psh_9]
    · unfold s_rows_One_3; simp only [hA, hw, hi, hcl, h1, h2, Bool.not_true, Bool.not_false, Bool.or_self, cond_true, cond_false, psh_0, psh_1, psh_2, psh_3, psh_4, psh_5, psh_6, psh_7, psh_8, psh_9]
    · unfold s_rows_One_4; simp only [hA, hw, hi, hcl, h1, h2, Bool.not_true, Bool.not_false, Bool.or_self, cond_true, cond_false, psh_0, psh_1, psh_2, psh_3, psh_4, psh_5, psh_6, psh_7, psh_8, psh_9]
    · unfold s_rows_One_5; simp only [hA, hw, hi, hcl, h1, h2, Bool.not_true, Bool.not_false, Bool.or_self, cond_true, cond_false, psh_0, psh_1, psh_2, psh_3, psh_4, psh_5, psh_6, psh_7, psh_8, psh_9]
    · unfold s_rows_One_6; simp only [hA, hw, hi, hcl, h1, h2, Bool.not_true, Bool.not_false, Bool.or_self, cond_true, cond_false, psh_0, psh_1, psh_2, psh_3, psh_4, psh_5, psh_6, psh_7, psh_8, psh_9]
    · unfold s_rows_One_7; simp only [hA, hw, hi, hcl, h1, h2, Bool.not_true, Bool.not_false, Bool.or_self, cond_true, cond_false, psh_0, psh_1, psh_2, psh_3, psh_4, psh_5, psh_6, psh_7, psh_8, psh_9]
    · unfold s_rows_One_8; simp only [hA, hw, hi, hcl, h1, h2, Bool.not_true, Bool.not_false, Bool.or_self, cond_true, cond_false, psh_0, psh_1, psh_2, psh_3, psh_4, psh_5, psh_6, psh_7, psh_8, psh_9]
    · unfold s_rows_One_9; simp only [hA, hw, hi, hcl, h1, h2, Bool.not_true, Bool.not_false, Bool.or_self, cond_true, cond_false, psh_0, psh_1, psh_2, psh_3, psh_4, psh_5, psh_6, psh_7, psh_8, psh_9]
    · unfold s_rows_One_10; simp only [hA, hw, hi, hcl, h1, h2, Bool.not_true, Bool.not_false, Bool.or_self, cond_true, cond_false, psh_0, psh_1, psh_2, psh_3, psh_4, psh_5, psh_6, psh_7, psh_8, psh_9]
    · unfold s_rows_One_11; simp only [hA, hw, hi, hcl, h1, h2, Bool.not_true, Bool.not_false, Bool.or_self, cond_true, cond_false, psh_0, psh_1, psh_2, psh_3, psh_4, psh_5, psh_6, psh_7, psh_8, psh_9]
    · unfold s_rows_One_12; simp only [hA, hw, hi, hcl, h1, h2, Bool.not_true, Bool.not_false, Bool.or_self, cond_true, cond_false, psh_0, psh_1, psh_2, psh_3, psh_4, psh_5, psh_6, psh_7, psh_8, psh_9]
    · unfold s_rows_One_13; simp only [hA, hw, hi, hcl, h1, h2, Bool.not_true, Bool.not_false, Bool.or_self, cond_true, cond_false, psh_0, psh_1, psh_2, psh_3, psh_4, psh_5, psh_6, psh_7, psh_8, psh_9]
    · unfold s_rows_One_14; simp only [hA, hw, hi, hcl, h1, h2, Bool.not_true, Bool.not_false, Bool.or_self, cond_true, cond_false, psh_0, psh_1, psh_2, psh_3, psh_4, psh_5, psh_6, psh_7, psh_8, psh_9]
    · unfold s_rows_One_15; simp only [hA, hw, hi, hcl, h1, h2, Bool.not_true, Bool.not_false, Bool.or_self, cond_true, cond_false, psh_0, psh_1, psh_2, psh_3, psh_4, psh_5, psh_6, psh_7, psh_8, psh_9]
    · unfold s_rows_One_16; simp only [hA, hw, hi, hcl, h1, h2, Bool.not_true, Bool.not_false, Bool.or_self, cond_true, cond_false, psh_0, psh_1, psh_2, psh_3, psh_4, psh_5, psh_6, psh_7, psh_8, psh_9]
    · unfold s_rows_One_17; simp only [hA, hw, hi, hcl, h1, h2, Bool.not_true, Bool.not_false, Bool.or_self, cond_true, cond_false, psh_0, psh_1, psh_2, psh_3, psh_4, psh_5, psh_6, psh_7, psh_8, psh_9]
    · unfold s_rows_One_18; simp only [hA, hw, hi, hcl, h1, h2, Bool.not_true, Bool.not_false, Bool.or_self, cond_true, cond_false, psh_0, psh_1, psh_2, psh_3, psh_4, psh_5, psh_6, psh_7, psh_8, psh_9]
    · unfold s_rows_One_19; simp only [hA, hw, hi, hcl, h1, h2, Bool.not_true, Bool.not_false, Bool.or_self, cond_true, cond_false, psh_0, psh_1, psh_2, psh_3, psh_4, psh_5, psh_6, psh_7, psh_8, psh_9]
    · unfold s_rows_One_20; simp only [hA, hw, hi, hcl, h1, h2, Bool.not_true, Bool.not_false, Bool.or_self, cond_true, cond_false, psh_0, psh_1, psh_2, psh_3, psh_4, psh_5, psh_6, psh_7, psh_8, psh_9]
    · unfold s_rows_One_21; simp only [hA, hw, hi, hcl, h1, h2, Bool.not_true, Bool.not_false, Bool.or_self, cond_true, cond_false, psh_0, psh_1, psh_2, psh_3, psh_4, psh_5, psh_6, psh_7, psh_8, psh_9]
    · unfold s_rows_One_22; simp only [hA, hw, hi, hcl, h1, h2, Bool.not_true, Bool.not_false, Bool.or_self, cond_true, cond_false, psh_0, psh_1, psh_2, psh_3, psh_4, psh_5, psh_6, psh_7, psh_8, psh_9]
    · unfold s_rows_One_23; simp only [hA, hw, hi, hcl, h1, h2, Bool.not_true, Bool.not_false, Bool.or_self, cond_true, cond_false, psh_0, psh_1, psh_2, psh_3, psh_4, psh_5, psh_6, psh_7, psh_8, psh_9]
    · unfold s_rows_One_24; simp only [hA, hw, hi, hcl, h1, h2, Bool.not_true, Bool.not_false, Bool.or_self, cond_true, cond_false, psh_0, psh_1, psh_2, psh_3, psh_4, psh_5, psh_6, psh_7, psh_8, psh_9]
    · rw [← hP]
      exact hL
end Go.Proofs.Ytofpjfohijljgaa
