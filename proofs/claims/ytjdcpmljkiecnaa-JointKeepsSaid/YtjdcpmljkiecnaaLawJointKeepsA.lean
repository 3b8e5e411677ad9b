/- JointKeeps: impulses kept; memory. Printed by wip/tool/jointkeeps.py. -/
import Derived.Test.YtjdcpmljkiecnaaLawJointBase
set_option linter.unusedVariables false
set_option linter.unusedSimpArgs false
set_option linter.unusedSectionVars false
set_option maxHeartbeats 4000000
namespace Go.Proofs.Ytjdcpmljkiecnaa
open Go.Sim Go.Lst
theorem ieq_nat (a b : Nat) : ieq (Int.ofNat a) (Int.ofNat b) = decide (a = b) := by unfold ieq; apply decide_eq_decide.2; simp only [Int.ofNat_eq_natCast]; omega
theorem bits_ieq {a b : Nat} (ha : CF a) (hb : CF b) : ieq (s_num_Bits_0 a) (s_num_Bits_0 b) = decide (a = b) := by
  have nw : nanb 9221120237041090560 = true := by decide
  unfold s_num_Bits_0 s_num_none_float64__0
  rw [feq_self, Bool.not_not, feq_self, Bool.not_not]
  cases na : nanb a <;> cases nb : nanb b
  · exact ieq_nat a b
  · have hne : a ≠ b := by rintro rfl; rw [na] at nb; cases nb
    rw [decide_eq_false hne]
    refine (ieq_nat a 9221120237041090560).trans (decide_eq_false ?_)
    rintro rfl; rw [nw] at na; cases na
  · have hne : a ≠ b := by rintro rfl; rw [na] at nb; cases nb
    rw [decide_eq_false hne]
    refine (ieq_nat 9221120237041090560 b).trans (decide_eq_false ?_)
    rintro rfl; rw [nw] at nb; cases nb
  · rw [ha.2 na, hb.2 nb]; simp [ieq]
theorem none_nan (a : Nat) : s_num_none_float64__0 a = nanb a := by unfold s_num_none_float64__0; rw [feq_self, Bool.not_not]
theorem o_bits (a : Nat) : mrgB (s_num_none_float64__0 a) true (!(nanb a)) = true := by rw [none_nan, mrgB_eq]; cases nanb a <;> rfl
theorem zero_cf : CF 0 := ⟨by decide, by intro h; exact absurd h (by decide)⟩
/-- Cell i of the three, where k rows have been seen. -/
noncomputable def kc (R : Nat → Bool) (f : Nat → Nat) (i k : Nat) : Nat := bif Nat.blt i k && R (f i) then f i else 0
theorem kc_step (R : Nat → Bool) (f : Nat → Nat) (i k : Nat) : (bif R (f k) then (bif Nat.beq k i then f k else kc R f i k) else kc R f i k) = kc R f i (k + 1) := by
  unfold kc
  by_cases h : k = i
  · subst h
    rw [blt_false (Nat.le_refl k), blt_true (by omega : k < k + 1), beqn_self]
    cases R (f k) <;> rfl
  · rw [beqn_false h]
    have : Nat.blt i k = Nat.blt i (k + 1) := by
      by_cases h2 : i < k
      · rw [blt_true h2, blt_true (by omega)]
      · rw [blt_false (by omega), blt_false (by omega)]
    rw [this]; cases R (f k) <;> rfl
theorem kc_cf {R : Nat → Bool} {f : Nat → Nat} {i k : Nat} (h : i < k → CF (f i)) : CF (kc R f i k) := by
  unfold kc
  by_cases hik : i < k
  · rw [blt_true hik]; cases R (f i)
    · exact zero_cf
    · exact h hik
  · rw [blt_false (by omega)]; exact zero_cf
theorem kc_congr {R S : Nat → Bool} {f g : Nat → Nat} {i k : Nat} (hf : ∀ i, i < k → f i = g i) (hr : ∀ i, i < k → R (g i) = S (g i)) : kc R f i k = kc S g i k := by
  unfold kc
  by_cases hik : i < k
  · rw [hf i hik, hr i hik]
  · rw [blt_false (by omega)]; rfl
theorem kc_zero (R : Nat → Bool) (f : Nat → Nat) (i : Nat) : kc R f i 0 = 0 := by unfold kc; rw [blt_false (by omega)]; rfl
theorem reals_one (v : Nat) : s_joint_reals_0 1 (fun _ => v) = W v ∧ o_joint_reals 1 (fun _ => v) = true := by
  obtain ⟨h1, h2⟩ := reals_eq (n := 1) (by omega) (fun _ => v)
  exact ⟨by rw [h1]; simp [allN], h2⟩
theorem joint_Keep_loop {n : Nat} (hn : n ≤ 3) (f : Nat → Nat) : E_joint_Keep_L0 n f (Int.ofNat n) (V_joint_Keep_L0.mk 0 0 0 0) = true ∧ L_joint_Keep_L0 n f (Int.ofNat n) (V_joint_Keep_L0.mk 0 0 0 0) = (fun k => V_joint_Keep_L0.mk (Int.ofNat k) (kc W f 0 k) (kc W f 1 k) (kc W f 2 k)) n := by
  have e0 : (fun k : Nat => V_joint_Keep_L0.mk (Int.ofNat k) (kc W f 0 k) (kc W f 1 k) (kc W f 2 k)) 0 = V_joint_Keep_L0.mk 0 0 0 0 := by simp only [kc_zero]; rfl
  rw [← e0]
  refine run_to (fun k => V_joint_Keep_L0.mk (Int.ofNat k) (kc W f 0 k) (kc W f 1 k) (kc W f 2 k)) n (fun k hk => ?_) (fun k hk => ?_) (fun k hk => ?_) ?_
  · unfold ok_joint_Keep_L0
    simp only [ile_ofNat, toNat_of, ilt_ofNat, Bool.true_and, mrgB_eq, (reals_one _).1, (reals_one _).2, allB_true]
    by_cases hkn : k < n
    · rw [blt_true hkn, blt_true (by omega : k < 3)]; simp [allB_true]
    · simp [hkn]
  · unfold go_joint_Keep_L0
    simp only [toNat_of, ilt_ofNat]
    simp [hk]
  · unfold step_joint_Keep_L0
    simp only [toNat_of, (reals_one _).1]
    rw [succ_i64 (by omega)]
    simp only [kc_step W f]
  · unfold go_joint_Keep_L0
    simp only [ilt_ofNat]; simp
theorem ref19_Keep_loop {n : Nat} (hn : n ≤ 3) (f : Nat → Nat) : E_ref19_Keep_L0 n f (V_ref19_Keep_L0.mk 0 0 0 0) = true ∧ L_ref19_Keep_L0 n f (V_ref19_Keep_L0.mk 0 0 0 0) = (fun k => V_ref19_Keep_L0.mk (Int.ofNat k) (kc s_ref04_Real_0 f 0 k) (kc s_ref04_Real_0 f 1 k) (kc s_ref04_Real_0 f 2 k)) n := by
  have e0 : (fun k : Nat => V_ref19_Keep_L0.mk (Int.ofNat k) (kc s_ref04_Real_0 f 0 k) (kc s_ref04_Real_0 f 1 k) (kc s_ref04_Real_0 f 2 k)) 0 = V_ref19_Keep_L0.mk 0 0 0 0 := by simp only [kc_zero]; rfl
  rw [← e0]
  refine run_to (fun k => V_ref19_Keep_L0.mk (Int.ofNat k) (kc s_ref04_Real_0 f 0 k) (kc s_ref04_Real_0 f 1 k) (kc s_ref04_Real_0 f 2 k)) n (fun k hk => ?_) (fun k hk => ?_) (fun k hk => ?_) ?_
  · unfold ok_ref19_Keep_L0
    simp only [ile_ofNat, toNat_of, ilt_ofNat, Bool.true_and, mrgB_eq]
    by_cases hkn : k < n
    · rw [blt_true hkn, blt_true (by omega : k < 3)]; simp [allB_true]
    · simp [hkn]
  · unfold go_ref19_Keep_L0
    simp only [toNat_of, ilt_ofNat]
    simp [hk]
  · unfold step_ref19_Keep_L0
    simp only [toNat_of]
    rw [succ_i64 (by omega)]
    simp only [kc_step s_ref04_Real_0 f]
  · unfold go_ref19_Keep_L0
    simp only [ilt_ofNat]; simp
theorem kp {α : Type} (C : Int) (b : Bool) (x y z : α) (h : b = false → x = y) : (bif !(ieq C 0) then z else bif b then z else x) = (bif !(ieq (bif (ieq C 0) && b then (2 : Int) else C) 0) then z else y) := by
  by_cases hC : C = 0
  · subst hC
    cases b
    · rw [h rfl]; rfl
    · rfl
  · rw [ieq_false hC]
    simp only [Bool.false_and, cond_false, ieq_false hC]; rfl
theorem kept {a b c x y z : Nat} (hx : CF x) (hy : CF y) (hz : CF z) (ha : CF a) (hb : CF b) (hc : CF c) : ((ieq (s_joint_bits_0 x y z) (s_joint_bits_0 a b c)) && ((ieq (s_joint_bits_1 x y z) (s_joint_bits_1 a b c)) && ((ieq (s_joint_bits_2 x y z) (s_joint_bits_2 a b c)) && true))) = decide (x = a ∧ y = b ∧ z = c) := by
  unfold s_joint_bits_0 s_joint_bits_1 s_joint_bits_2
  rw [bits_ieq hx ha, bits_ieq hy hb, bits_ieq hz hc]
  by_cases h1 : x = a <;> by_cases h2 : y = b <;> by_cases h3 : z = c <;> simp [h1, h2, h3]
section
variable {n : Nat} {a0 a1 a2 a3 a4 : Int} {a5 a6 a7 a8 a9 a10 a11 a12 : Nat} {a13 : Bool} {a14 a15 : Nat} {a16 : Bool} {a17 a18 a19 a20 a21 : Nat} (c5 : CF a5) (c6 : CF a6) (c7 : CF a7) (c8 : CF a8) (c9 : CF a9) (c10 : CF a10) (c11 : CF a11) (c12 : CF a12) (c14 : CF a14) (c15 : CF a15) (c17 : CF a17) (c18 : CF a18) (c19 : CF a19) (c20 : CF a20) (c21 : CF a21) {g0 : Nat → Int} {g1 : Nat → Int} {g2 : Nat → Nat} {g3 : Nat → Nat} {g4 : Nat → Nat} {g5 : Nat → Nat} {g6 : Nat → Nat} {g7 : Nat → Nat} {g8 : Nat → Nat} {g9 : Nat → Nat} {g10 : Nat → Nat} {g11 : Nat → Nat} {g12 : Nat → Int} {g13 : Nat → Nat} {p0 : Nat → Int} {p1 : Nat → Int} {p2 : Nat → Nat} {p3 : Nat → Nat} {p4 : Nat → Nat} {p5 : Nat → Nat} {p6 : Nat → Nat} {p7 : Nat → Nat} {p8 : Nat → Nat} {p9 : Nat → Nat} {p10 : Nat → Nat} {p11 : Nat → Nat} {p12 : Nat → Int} {p13 : Nat → Nat} (hp : ∀ i, i < n → p11 i = g11 i) (hg : ∀ i, i < n → CF (g11 i))
include hp hg c5 c6 c7 c8 c9 c10 c11 c12 c14 c15 c17 c18 c19 c20 c21
theorem impulses (hn : n ≤ 3) : ∀ i, kc W p11 i n = kc s_ref04_Real_0 g11 i n := fun i => kc_congr hp fun i hi => (real_within (hg i hi)).symm
theorem keep_0 : s_joint_Keep_0 a0 a1 a2 a3 a4 a5 a6 a7 a8 a9 a10 a11 a12 a13 a14 a15 a16 a17 a18 a19 a20 a21 n p0 p1 p2 p3 p4 p5 p6 p7 p8 p9 p10 p11 p12 p13 = s_ref19_Keep_0 a0 a1 a2 a3 a4 a5 a6 a7 a8 a9 a10 a11 a12 a13 a14 a15 a16 a17 a18 a19 a20 a21 n g0 g1 g2 g3 g4 g5 g6 g7 g8 g9 g10 g11 g12 g13 := by
  unfold s_joint_Keep_0 s_ref19_Keep_0
  simp only []
  rw [check_eq a0 a1 a2 a3 a4 a5 a6 a7 a8 a9 a10 a11 a12 a13 a14 a15 a16 a17 a18 a19 a20 a21 c5 c6 c7 c8 c9 c10 c11 c12 c14 c15 c17 c18 c19 c20 c21]
  exact kp _ _ _ _ _ fun _ => rfl
theorem keep_1 : s_joint_Keep_1 a0 a1 a2 a3 a4 a5 a6 a7 a8 a9 a10 a11 a12 a13 a14 a15 a16 a17 a18 a19 a20 a21 n p0 p1 p2 p3 p4 p5 p6 p7 p8 p9 p10 p11 p12 p13 = s_ref19_Keep_1 a0 a1 a2 a3 a4 a5 a6 a7 a8 a9 a10 a11 a12 a13 a14 a15 a16 a17 a18 a19 a20 a21 n g0 g1 g2 g3 g4 g5 g6 g7 g8 g9 g10 g11 g12 g13 := by
  unfold s_joint_Keep_1 s_ref19_Keep_1
  simp only []
  rw [check_eq a0 a1 a2 a3 a4 a5 a6 a7 a8 a9 a10 a11 a12 a13 a14 a15 a16 a17 a18 a19 a20 a21 c5 c6 c7 c8 c9 c10 c11 c12 c14 c15 c17 c18 c19 c20 c21]
  exact kp _ _ _ _ _ fun _ => rfl
theorem keep_2 : s_joint_Keep_2 a0 a1 a2 a3 a4 a5 a6 a7 a8 a9 a10 a11 a12 a13 a14 a15 a16 a17 a18 a19 a20 a21 n p0 p1 p2 p3 p4 p5 p6 p7 p8 p9 p10 p11 p12 p13 = s_ref19_Keep_2 a0 a1 a2 a3 a4 a5 a6 a7 a8 a9 a10 a11 a12 a13 a14 a15 a16 a17 a18 a19 a20 a21 n g0 g1 g2 g3 g4 g5 g6 g7 g8 g9 g10 g11 g12 g13 := by
  unfold s_joint_Keep_2 s_ref19_Keep_2
  simp only []
  rw [check_eq a0 a1 a2 a3 a4 a5 a6 a7 a8 a9 a10 a11 a12 a13 a14 a15 a16 a17 a18 a19 a20 a21 c5 c6 c7 c8 c9 c10 c11 c12 c14 c15 c17 c18 c19 c20 c21]
  exact kp _ _ _ _ _ fun _ => rfl
theorem keep_3 : s_joint_Keep_3 a0 a1 a2 a3 a4 a5 a6 a7 a8 a9 a10 a11 a12 a13 a14 a15 a16 a17 a18 a19 a20 a21 n p0 p1 p2 p3 p4 p5 p6 p7 p8 p9 p10 p11 p12 p13 = s_ref19_Keep_3 a0 a1 a2 a3 a4 a5 a6 a7 a8 a9 a10 a11 a12 a13 a14 a15 a16 a17 a18 a19 a20 a21 n g0 g1 g2 g3 g4 g5 g6 g7 g8 g9 g10 g11 g12 g13 := by
  unfold s_joint_Keep_3 s_ref19_Keep_3
  simp only []
  rw [check_eq a0 a1 a2 a3 a4 a5 a6 a7 a8 a9 a10 a11 a12 a13 a14 a15 a16 a17 a18 a19 a20 a21 c5 c6 c7 c8 c9 c10 c11 c12 c14 c15 c17 c18 c19 c20 c21]
  exact kp _ _ _ _ _ fun _ => rfl
theorem keep_4 : s_joint_Keep_4 a0 a1 a2 a3 a4 a5 a6 a7 a8 a9 a10 a11 a12 a13 a14 a15 a16 a17 a18 a19 a20 a21 n p0 p1 p2 p3 p4 p5 p6 p7 p8 p9 p10 p11 p12 p13 = s_ref19_Keep_4 a0 a1 a2 a3 a4 a5 a6 a7 a8 a9 a10 a11 a12 a13 a14 a15 a16 a17 a18 a19 a20 a21 n g0 g1 g2 g3 g4 g5 g6 g7 g8 g9 g10 g11 g12 g13 := by
  unfold s_joint_Keep_4 s_ref19_Keep_4
  simp only []
  rw [check_eq a0 a1 a2 a3 a4 a5 a6 a7 a8 a9 a10 a11 a12 a13 a14 a15 a16 a17 a18 a19 a20 a21 c5 c6 c7 c8 c9 c10 c11 c12 c14 c15 c17 c18 c19 c20 c21]
  exact kp _ _ _ _ _ fun _ => rfl
theorem keep_5 : s_joint_Keep_5 a0 a1 a2 a3 a4 a5 a6 a7 a8 a9 a10 a11 a12 a13 a14 a15 a16 a17 a18 a19 a20 a21 n p0 p1 p2 p3 p4 p5 p6 p7 p8 p9 p10 p11 p12 p13 = s_ref19_Keep_5 a0 a1 a2 a3 a4 a5 a6 a7 a8 a9 a10 a11 a12 a13 a14 a15 a16 a17 a18 a19 a20 a21 n g0 g1 g2 g3 g4 g5 g6 g7 g8 g9 g10 g11 g12 g13 := by
  unfold s_joint_Keep_5 s_ref19_Keep_5
  simp only []
  rw [check_eq a0 a1 a2 a3 a4 a5 a6 a7 a8 a9 a10 a11 a12 a13 a14 a15 a16 a17 a18 a19 a20 a21 c5 c6 c7 c8 c9 c10 c11 c12 c14 c15 c17 c18 c19 c20 c21]
  exact kp _ _ _ _ _ fun _ => rfl
theorem keep_6 : s_joint_Keep_6 a0 a1 a2 a3 a4 a5 a6 a7 a8 a9 a10 a11 a12 a13 a14 a15 a16 a17 a18 a19 a20 a21 n p0 p1 p2 p3 p4 p5 p6 p7 p8 p9 p10 p11 p12 p13 = s_ref19_Keep_6 a0 a1 a2 a3 a4 a5 a6 a7 a8 a9 a10 a11 a12 a13 a14 a15 a16 a17 a18 a19 a20 a21 n g0 g1 g2 g3 g4 g5 g6 g7 g8 g9 g10 g11 g12 g13 := by
  unfold s_joint_Keep_6 s_ref19_Keep_6
  simp only []
  rw [check_eq a0 a1 a2 a3 a4 a5 a6 a7 a8 a9 a10 a11 a12 a13 a14 a15 a16 a17 a18 a19 a20 a21 c5 c6 c7 c8 c9 c10 c11 c12 c14 c15 c17 c18 c19 c20 c21]
  exact kp _ _ _ _ _ fun _ => rfl
theorem keep_7 : s_joint_Keep_7 a0 a1 a2 a3 a4 a5 a6 a7 a8 a9 a10 a11 a12 a13 a14 a15 a16 a17 a18 a19 a20 a21 n p0 p1 p2 p3 p4 p5 p6 p7 p8 p9 p10 p11 p12 p13 = s_ref19_Keep_7 a0 a1 a2 a3 a4 a5 a6 a7 a8 a9 a10 a11 a12 a13 a14 a15 a16 a17 a18 a19 a20 a21 n g0 g1 g2 g3 g4 g5 g6 g7 g8 g9 g10 g11 g12 g13 := by
  unfold s_joint_Keep_7 s_ref19_Keep_7
  simp only []
  rw [check_eq a0 a1 a2 a3 a4 a5 a6 a7 a8 a9 a10 a11 a12 a13 a14 a15 a16 a17 a18 a19 a20 a21 c5 c6 c7 c8 c9 c10 c11 c12 c14 c15 c17 c18 c19 c20 c21]
  exact kp _ _ _ _ _ fun _ => rfl
theorem keep_8 : s_joint_Keep_8 a0 a1 a2 a3 a4 a5 a6 a7 a8 a9 a10 a11 a12 a13 a14 a15 a16 a17 a18 a19 a20 a21 n p0 p1 p2 p3 p4 p5 p6 p7 p8 p9 p10 p11 p12 p13 = s_ref19_Keep_8 a0 a1 a2 a3 a4 a5 a6 a7 a8 a9 a10 a11 a12 a13 a14 a15 a16 a17 a18 a19 a20 a21 n g0 g1 g2 g3 g4 g5 g6 g7 g8 g9 g10 g11 g12 g13 := by
  unfold s_joint_Keep_8 s_ref19_Keep_8
  simp only []
  rw [check_eq a0 a1 a2 a3 a4 a5 a6 a7 a8 a9 a10 a11 a12 a13 a14 a15 a16 a17 a18 a19 a20 a21 c5 c6 c7 c8 c9 c10 c11 c12 c14 c15 c17 c18 c19 c20 c21]
  exact kp _ _ _ _ _ fun _ => rfl
theorem keep_9 : s_joint_Keep_9 a0 a1 a2 a3 a4 a5 a6 a7 a8 a9 a10 a11 a12 a13 a14 a15 a16 a17 a18 a19 a20 a21 n p0 p1 p2 p3 p4 p5 p6 p7 p8 p9 p10 p11 p12 p13 = s_ref19_Keep_9 a0 a1 a2 a3 a4 a5 a6 a7 a8 a9 a10 a11 a12 a13 a14 a15 a16 a17 a18 a19 a20 a21 n g0 g1 g2 g3 g4 g5 g6 g7 g8 g9 g10 g11 g12 g13 := by
  unfold s_joint_Keep_9 s_ref19_Keep_9
  simp only []
  rw [check_eq a0 a1 a2 a3 a4 a5 a6 a7 a8 a9 a10 a11 a12 a13 a14 a15 a16 a17 a18 a19 a20 a21 c5 c6 c7 c8 c9 c10 c11 c12 c14 c15 c17 c18 c19 c20 c21]
  exact kp _ _ _ _ _ fun _ => rfl
theorem keep_10 : s_joint_Keep_10 a0 a1 a2 a3 a4 a5 a6 a7 a8 a9 a10 a11 a12 a13 a14 a15 a16 a17 a18 a19 a20 a21 n p0 p1 p2 p3 p4 p5 p6 p7 p8 p9 p10 p11 p12 p13 = s_ref19_Keep_10 a0 a1 a2 a3 a4 a5 a6 a7 a8 a9 a10 a11 a12 a13 a14 a15 a16 a17 a18 a19 a20 a21 n g0 g1 g2 g3 g4 g5 g6 g7 g8 g9 g10 g11 g12 g13 := by
  unfold s_joint_Keep_10 s_ref19_Keep_10
  simp only []
  rw [check_eq a0 a1 a2 a3 a4 a5 a6 a7 a8 a9 a10 a11 a12 a13 a14 a15 a16 a17 a18 a19 a20 a21 c5 c6 c7 c8 c9 c10 c11 c12 c14 c15 c17 c18 c19 c20 c21]
  exact kp _ _ _ _ _ fun _ => rfl
theorem keep_11 : s_joint_Keep_11 a0 a1 a2 a3 a4 a5 a6 a7 a8 a9 a10 a11 a12 a13 a14 a15 a16 a17 a18 a19 a20 a21 n p0 p1 p2 p3 p4 p5 p6 p7 p8 p9 p10 p11 p12 p13 = s_ref19_Keep_11 a0 a1 a2 a3 a4 a5 a6 a7 a8 a9 a10 a11 a12 a13 a14 a15 a16 a17 a18 a19 a20 a21 n g0 g1 g2 g3 g4 g5 g6 g7 g8 g9 g10 g11 g12 g13 := by
  unfold s_joint_Keep_11 s_ref19_Keep_11
  simp only []
  rw [check_eq a0 a1 a2 a3 a4 a5 a6 a7 a8 a9 a10 a11 a12 a13 a14 a15 a16 a17 a18 a19 a20 a21 c5 c6 c7 c8 c9 c10 c11 c12 c14 c15 c17 c18 c19 c20 c21]
  exact kp _ _ _ _ _ fun _ => rfl
theorem keep_12 : s_joint_Keep_12 a0 a1 a2 a3 a4 a5 a6 a7 a8 a9 a10 a11 a12 a13 a14 a15 a16 a17 a18 a19 a20 a21 n p0 p1 p2 p3 p4 p5 p6 p7 p8 p9 p10 p11 p12 p13 = s_ref19_Keep_12 a0 a1 a2 a3 a4 a5 a6 a7 a8 a9 a10 a11 a12 a13 a14 a15 a16 a17 a18 a19 a20 a21 n g0 g1 g2 g3 g4 g5 g6 g7 g8 g9 g10 g11 g12 g13 := by
  unfold s_joint_Keep_12 s_ref19_Keep_12
  simp only []
  rw [check_eq a0 a1 a2 a3 a4 a5 a6 a7 a8 a9 a10 a11 a12 a13 a14 a15 a16 a17 a18 a19 a20 a21 c5 c6 c7 c8 c9 c10 c11 c12 c14 c15 c17 c18 c19 c20 c21]
  exact kp _ _ _ _ _ fun _ => rfl
theorem keep_13 : s_joint_Keep_13 a0 a1 a2 a3 a4 a5 a6 a7 a8 a9 a10 a11 a12 a13 a14 a15 a16 a17 a18 a19 a20 a21 n p0 p1 p2 p3 p4 p5 p6 p7 p8 p9 p10 p11 p12 p13 = s_ref19_Keep_13 a0 a1 a2 a3 a4 a5 a6 a7 a8 a9 a10 a11 a12 a13 a14 a15 a16 a17 a18 a19 a20 a21 n g0 g1 g2 g3 g4 g5 g6 g7 g8 g9 g10 g11 g12 g13 := by
  unfold s_joint_Keep_13 s_ref19_Keep_13
  simp only []
  rw [check_eq a0 a1 a2 a3 a4 a5 a6 a7 a8 a9 a10 a11 a12 a13 a14 a15 a16 a17 a18 a19 a20 a21 c5 c6 c7 c8 c9 c10 c11 c12 c14 c15 c17 c18 c19 c20 c21]
  exact kp _ _ _ _ _ fun _ => rfl
theorem keep_14 : s_joint_Keep_14 a0 a1 a2 a3 a4 a5 a6 a7 a8 a9 a10 a11 a12 a13 a14 a15 a16 a17 a18 a19 a20 a21 n p0 p1 p2 p3 p4 p5 p6 p7 p8 p9 p10 p11 p12 p13 = s_ref19_Keep_14 a0 a1 a2 a3 a4 a5 a6 a7 a8 a9 a10 a11 a12 a13 a14 a15 a16 a17 a18 a19 a20 a21 n g0 g1 g2 g3 g4 g5 g6 g7 g8 g9 g10 g11 g12 g13 := by
  unfold s_joint_Keep_14 s_ref19_Keep_14
  simp only []
  rw [check_eq a0 a1 a2 a3 a4 a5 a6 a7 a8 a9 a10 a11 a12 a13 a14 a15 a16 a17 a18 a19 a20 a21 c5 c6 c7 c8 c9 c10 c11 c12 c14 c15 c17 c18 c19 c20 c21]
  exact kp _ _ _ _ _ fun _ => rfl
theorem keep_15 : s_joint_Keep_15 a0 a1 a2 a3 a4 a5 a6 a7 a8 a9 a10 a11 a12 a13 a14 a15 a16 a17 a18 a19 a20 a21 n p0 p1 p2 p3 p4 p5 p6 p7 p8 p9 p10 p11 p12 p13 = s_ref19_Keep_15 a0 a1 a2 a3 a4 a5 a6 a7 a8 a9 a10 a11 a12 a13 a14 a15 a16 a17 a18 a19 a20 a21 n g0 g1 g2 g3 g4 g5 g6 g7 g8 g9 g10 g11 g12 g13 := by
  unfold s_joint_Keep_15 s_ref19_Keep_15
  simp only []
  rw [check_eq a0 a1 a2 a3 a4 a5 a6 a7 a8 a9 a10 a11 a12 a13 a14 a15 a16 a17 a18 a19 a20 a21 c5 c6 c7 c8 c9 c10 c11 c12 c14 c15 c17 c18 c19 c20 c21]
  exact kp _ _ _ _ _ fun _ => rfl
theorem keep_16 : s_joint_Keep_16 a0 a1 a2 a3 a4 a5 a6 a7 a8 a9 a10 a11 a12 a13 a14 a15 a16 a17 a18 a19 a20 a21 n p0 p1 p2 p3 p4 p5 p6 p7 p8 p9 p10 p11 p12 p13 = s_ref19_Keep_16 a0 a1 a2 a3 a4 a5 a6 a7 a8 a9 a10 a11 a12 a13 a14 a15 a16 a17 a18 a19 a20 a21 n g0 g1 g2 g3 g4 g5 g6 g7 g8 g9 g10 g11 g12 g13 := by
  unfold s_joint_Keep_16 s_ref19_Keep_16
  simp only []
  rw [check_eq a0 a1 a2 a3 a4 a5 a6 a7 a8 a9 a10 a11 a12 a13 a14 a15 a16 a17 a18 a19 a20 a21 c5 c6 c7 c8 c9 c10 c11 c12 c14 c15 c17 c18 c19 c20 c21]
  exact kp _ _ _ _ _ fun _ => rfl
theorem keep_17 : s_joint_Keep_17 a0 a1 a2 a3 a4 a5 a6 a7 a8 a9 a10 a11 a12 a13 a14 a15 a16 a17 a18 a19 a20 a21 n p0 p1 p2 p3 p4 p5 p6 p7 p8 p9 p10 p11 p12 p13 = s_ref19_Keep_17 a0 a1 a2 a3 a4 a5 a6 a7 a8 a9 a10 a11 a12 a13 a14 a15 a16 a17 a18 a19 a20 a21 n g0 g1 g2 g3 g4 g5 g6 g7 g8 g9 g10 g11 g12 g13 := by
  unfold s_joint_Keep_17 s_ref19_Keep_17
  simp only []
  rw [check_eq a0 a1 a2 a3 a4 a5 a6 a7 a8 a9 a10 a11 a12 a13 a14 a15 a16 a17 a18 a19 a20 a21 c5 c6 c7 c8 c9 c10 c11 c12 c14 c15 c17 c18 c19 c20 c21]
  exact kp _ _ _ _ _ fun _ => rfl
theorem keep_18 : s_joint_Keep_18 a0 a1 a2 a3 a4 a5 a6 a7 a8 a9 a10 a11 a12 a13 a14 a15 a16 a17 a18 a19 a20 a21 n p0 p1 p2 p3 p4 p5 p6 p7 p8 p9 p10 p11 p12 p13 = s_ref19_Keep_18 a0 a1 a2 a3 a4 a5 a6 a7 a8 a9 a10 a11 a12 a13 a14 a15 a16 a17 a18 a19 a20 a21 n g0 g1 g2 g3 g4 g5 g6 g7 g8 g9 g10 g11 g12 g13 := by
  unfold s_joint_Keep_18 s_ref19_Keep_18
  simp only []
  rw [check_eq a0 a1 a2 a3 a4 a5 a6 a7 a8 a9 a10 a11 a12 a13 a14 a15 a16 a17 a18 a19 a20 a21 c5 c6 c7 c8 c9 c10 c11 c12 c14 c15 c17 c18 c19 c20 c21]
  exact kp _ _ _ _ _ fun _ => rfl
theorem keep_19 : s_joint_Keep_19 a0 a1 a2 a3 a4 a5 a6 a7 a8 a9 a10 a11 a12 a13 a14 a15 a16 a17 a18 a19 a20 a21 n p0 p1 p2 p3 p4 p5 p6 p7 p8 p9 p10 p11 p12 p13 = s_ref19_Keep_19 a0 a1 a2 a3 a4 a5 a6 a7 a8 a9 a10 a11 a12 a13 a14 a15 a16 a17 a18 a19 a20 a21 n g0 g1 g2 g3 g4 g5 g6 g7 g8 g9 g10 g11 g12 g13 := by
  unfold s_joint_Keep_19 s_ref19_Keep_19
  simp only []
  rw [check_eq a0 a1 a2 a3 a4 a5 a6 a7 a8 a9 a10 a11 a12 a13 a14 a15 a16 a17 a18 a19 a20 a21 c5 c6 c7 c8 c9 c10 c11 c12 c14 c15 c17 c18 c19 c20 c21]
  refine kp _ _ _ _ _ fun hb => ?_
  have hn : n ≤ 3 := by
    rcases Nat.lt_or_ge 3 n with h | h
    · rw [ilt_true (by simp; omega)] at hb; cases hb
    · exact h
  rw [(joint_Keep_loop hn p11).2, (ref19_Keep_loop hn g11).2]
  simp only []
  have im := impulses c5 c6 c7 c8 c9 c10 c11 c12 c14 c15 c17 c18 c19 c20 c21 hp hg hn
  rw [im 0, im 1, im 2]
  have k0 : CF (kc s_ref04_Real_0 g11 0 n) := kc_cf fun h => hg 0 h
  have k1 : CF (kc s_ref04_Real_0 g11 1 n) := kc_cf fun h => hg 1 h
  have k2 : CF (kc s_ref04_Real_0 g11 2 n) := kc_cf fun h => hg 2 h
  rw [kept k0 k1 k2 c19 c20 c21]
  by_cases he : kc s_ref04_Real_0 g11 0 n = a19 ∧ kc s_ref04_Real_0 g11 1 n = a20 ∧ kc s_ref04_Real_0 g11 2 n = a21
  · rw [decide_eq_true he]; exact he.1.symm
  · rw [decide_eq_false he]; rfl
theorem keep_20 : s_joint_Keep_20 a0 a1 a2 a3 a4 a5 a6 a7 a8 a9 a10 a11 a12 a13 a14 a15 a16 a17 a18 a19 a20 a21 n p0 p1 p2 p3 p4 p5 p6 p7 p8 p9 p10 p11 p12 p13 = s_ref19_Keep_20 a0 a1 a2 a3 a4 a5 a6 a7 a8 a9 a10 a11 a12 a13 a14 a15 a16 a17 a18 a19 a20 a21 n g0 g1 g2 g3 g4 g5 g6 g7 g8 g9 g10 g11 g12 g13 := by
  unfold s_joint_Keep_20 s_ref19_Keep_20
  simp only []
  rw [check_eq a0 a1 a2 a3 a4 a5 a6 a7 a8 a9 a10 a11 a12 a13 a14 a15 a16 a17 a18 a19 a20 a21 c5 c6 c7 c8 c9 c10 c11 c12 c14 c15 c17 c18 c19 c20 c21]
  refine kp _ _ _ _ _ fun hb => ?_
  have hn : n ≤ 3 := by
    rcases Nat.lt_or_ge 3 n with h | h
    · rw [ilt_true (by simp; omega)] at hb; cases hb
    · exact h
  rw [(joint_Keep_loop hn p11).2, (ref19_Keep_loop hn g11).2]
  simp only []
  have im := impulses c5 c6 c7 c8 c9 c10 c11 c12 c14 c15 c17 c18 c19 c20 c21 hp hg hn
  rw [im 0, im 1, im 2]
  have k0 : CF (kc s_ref04_Real_0 g11 0 n) := kc_cf fun h => hg 0 h
  have k1 : CF (kc s_ref04_Real_0 g11 1 n) := kc_cf fun h => hg 1 h
  have k2 : CF (kc s_ref04_Real_0 g11 2 n) := kc_cf fun h => hg 2 h
  rw [kept k0 k1 k2 c19 c20 c21]
  by_cases he : kc s_ref04_Real_0 g11 0 n = a19 ∧ kc s_ref04_Real_0 g11 1 n = a20 ∧ kc s_ref04_Real_0 g11 2 n = a21
  · rw [decide_eq_true he]; exact he.2.1.symm
  · rw [decide_eq_false he]; rfl
theorem keep_21 : s_joint_Keep_21 a0 a1 a2 a3 a4 a5 a6 a7 a8 a9 a10 a11 a12 a13 a14 a15 a16 a17 a18 a19 a20 a21 n p0 p1 p2 p3 p4 p5 p6 p7 p8 p9 p10 p11 p12 p13 = s_ref19_Keep_21 a0 a1 a2 a3 a4 a5 a6 a7 a8 a9 a10 a11 a12 a13 a14 a15 a16 a17 a18 a19 a20 a21 n g0 g1 g2 g3 g4 g5 g6 g7 g8 g9 g10 g11 g12 g13 := by
  unfold s_joint_Keep_21 s_ref19_Keep_21
  simp only []
  rw [check_eq a0 a1 a2 a3 a4 a5 a6 a7 a8 a9 a10 a11 a12 a13 a14 a15 a16 a17 a18 a19 a20 a21 c5 c6 c7 c8 c9 c10 c11 c12 c14 c15 c17 c18 c19 c20 c21]
  refine kp _ _ _ _ _ fun hb => ?_
  have hn : n ≤ 3 := by
    rcases Nat.lt_or_ge 3 n with h | h
    · rw [ilt_true (by simp; omega)] at hb; cases hb
    · exact h
  rw [(joint_Keep_loop hn p11).2, (ref19_Keep_loop hn g11).2]
  simp only []
  have im := impulses c5 c6 c7 c8 c9 c10 c11 c12 c14 c15 c17 c18 c19 c20 c21 hp hg hn
  rw [im 0, im 1, im 2]
  have k0 : CF (kc s_ref04_Real_0 g11 0 n) := kc_cf fun h => hg 0 h
  have k1 : CF (kc s_ref04_Real_0 g11 1 n) := kc_cf fun h => hg 1 h
  have k2 : CF (kc s_ref04_Real_0 g11 2 n) := kc_cf fun h => hg 2 h
  rw [kept k0 k1 k2 c19 c20 c21]
  by_cases he : kc s_ref04_Real_0 g11 0 n = a19 ∧ kc s_ref04_Real_0 g11 1 n = a20 ∧ kc s_ref04_Real_0 g11 2 n = a21
  · rw [decide_eq_true he]; exact he.2.2.symm
  · rw [decide_eq_false he]; rfl
theorem keep_22 : s_joint_Keep_22 a0 a1 a2 a3 a4 a5 a6 a7 a8 a9 a10 a11 a12 a13 a14 a15 a16 a17 a18 a19 a20 a21 n p0 p1 p2 p3 p4 p5 p6 p7 p8 p9 p10 p11 p12 p13 = s_ref19_Keep_22 a0 a1 a2 a3 a4 a5 a6 a7 a8 a9 a10 a11 a12 a13 a14 a15 a16 a17 a18 a19 a20 a21 n g0 g1 g2 g3 g4 g5 g6 g7 g8 g9 g10 g11 g12 g13 := by
  unfold s_joint_Keep_22 s_ref19_Keep_22
  simp only []
  rw [check_eq a0 a1 a2 a3 a4 a5 a6 a7 a8 a9 a10 a11 a12 a13 a14 a15 a16 a17 a18 a19 a20 a21 c5 c6 c7 c8 c9 c10 c11 c12 c14 c15 c17 c18 c19 c20 c21]
  generalize s_ref19_Check_0 a0 a1 a2 a3 a4 a5 a6 a7 a8 a9 a10 a11 a12 a13 a14 a15 a16 a17 a18 a19 a20 a21 = C
  by_cases hC : C = 0
  · subst hC; cases ilt 3 (Int.ofNat n) <;> rfl
  · rw [ieq_false hC]; simp only [Bool.false_and, cond_false, ieq_false hC]; rfl
end
theorem same_self (a : Nat) : s_ref01_Same_0 a a = true := by unfold s_ref01_Same_0; cases nanb a <;> simp [ieq]
theorem samevec_self (a b : Nat) : s_ref04_SameVec_0 a b a b = true := by unfold s_ref04_SameVec_0; rw [same_self, same_self]; rfl
theorem samevecs_self {n : Nat} (hn : n < 9223372036854775807) (g h : Nat → Nat) : s_ref07_SameVecs_0 n g h n g h = true ∧ o_ref07_SameVecs n g h n g h = true := by
  have hl : E_ref07_SameVecs_L0 n g h n g h (V_ref07_SameVecs_L0.mk 0) = true ∧ L_ref07_SameVecs_L0 n g h n g h (V_ref07_SameVecs_L0.mk 0) = V_ref07_SameVecs_L0.mk (Int.ofNat n) := by
    refine run_to (fun k => V_ref07_SameVecs_L0.mk (Int.ofNat k)) n (fun k hk => ?_) (fun k hk => ?_) (fun k hk => ?_) ?_
    · unfold ok_ref07_SameVecs_L0
      simp only [ile_ofNat, toNat_of, ilt_ofNat, Bool.true_and, mrgB_eq]
      by_cases hkn : k < n
      · rw [blt_true hkn]; simp
      · simp [hkn]
    · unfold go_ref07_SameVecs_L0
      simp only [toNat_of, ilt_ofNat, samevec_self]
      simp [hk]
    · unfold step_ref07_SameVecs_L0
      simp only
      rw [succ_i64 (by omega)]
    · unfold go_ref07_SameVecs_L0
      simp only [ilt_ofNat]; simp
  unfold s_ref07_SameVecs_0 o_ref07_SameVecs
  simp only []
  rw [hl.1, hl.2]
  simp only [ilt_ofNat, ieq_self, mrgB_self, Nat.lt_irrefl, decide_false, Bool.not_false, Bool.not_true, cond_true, cond_false, and_self]
theorem samerow_self (r0 : Int) (r1 : Int) (r2 : Nat) (r3 : Nat) (r4 : Nat) (r5 : Nat) (r6 : Nat) (r7 : Nat) (r8 : Nat) (r9 : Nat) (r10 : Nat) (r11 : Nat) (r12 : Int) (r13 : Nat) : s_ref19_SameRow_0 r0 r1 r2 r3 r4 r5 r6 r7 r8 r9 r10 r11 r12 r13 r0 r1 r2 r3 r4 r5 r6 r7 r8 r9 r10 r11 r12 r13 = true ∧ o_ref19_SameRow r0 r1 r2 r3 r4 r5 r6 r7 r8 r9 r10 r11 r12 r13 r0 r1 r2 r3 r4 r5 r6 r7 r8 r9 r10 r11 r12 r13 = true := by
  unfold s_ref19_SameRow_0 o_ref19_SameRow
  simp [ieq_self, samevec_self, (samevecs_self (n := 4) (by omega) _ _).1, (samevecs_self (n := 4) (by omega) _ _).2, mrgB_eq, allB_true]
theorem same_all (a0 a1 a2 a3 a4 : Int) (a5 a6 a7 a8 a9 a10 a11 a12 : Nat) (a13 : Bool) (a14 a15 : Nat) (a16 : Bool) (a17 a18 a19 a20 a21 : Nat) : s_ref19_Same_0 a0 a1 a2 a3 a4 a5 a6 a7 a8 a9 a10 a11 a12 a13 a14 a15 a16 a17 a18 a19 a20 a21 a0 a1 a2 a3 a4 a5 a6 a7 a8 a9 a10 a11 a12 a13 a14 a15 a16 a17 a18 a19 a20 a21 = true ∧ o_ref19_Same a0 a1 a2 a3 a4 a5 a6 a7 a8 a9 a10 a11 a12 a13 a14 a15 a16 a17 a18 a19 a20 a21 a0 a1 a2 a3 a4 a5 a6 a7 a8 a9 a10 a11 a12 a13 a14 a15 a16 a17 a18 a19 a20 a21 = true := by
  unfold s_ref19_Same_0 o_ref19_Same
  simp [ieq_self, (samevecs_self (n := 8) (by omega) _ _).1, (samevecs_self (n := 8) (by omega) _ _).2, mrgB_eq, allB_true]
theorem samerows (p0 : Nat → Int) (p1 : Nat → Int) (p2 : Nat → Nat) (p3 : Nat → Nat) (p4 : Nat → Nat) (p5 : Nat → Nat) (p6 : Nat → Nat) (p7 : Nat → Nat) (p8 : Nat → Nat) (p9 : Nat → Nat) (p10 : Nat → Nat) (p11 : Nat → Nat) (p12 : Nat → Int) (p13 : Nat → Nat) (g0 : Nat → Int) (g1 : Nat → Int) (g2 : Nat → Nat) (g3 : Nat → Nat) (g4 : Nat → Nat) (g5 : Nat → Nat) (g6 : Nat → Nat) (g7 : Nat → Nat) (g8 : Nat → Nat) (g9 : Nat → Nat) (g10 : Nat → Nat) (g11 : Nat → Nat) (g12 : Nat → Int) (g13 : Nat → Nat) {n : Nat} (hn : n < 9223372036854775807) (h0 : ∀ i, i < n → p0 i = g0 i) (h1 : ∀ i, i < n → p1 i = g1 i) (h2 : ∀ i, i < n → p2 i = g2 i) (h3 : ∀ i, i < n → p3 i = g3 i) (h4 : ∀ i, i < n → p4 i = g4 i) (h5 : ∀ i, i < n → p5 i = g5 i) (h6 : ∀ i, i < n → p6 i = g6 i) (h7 : ∀ i, i < n → p7 i = g7 i) (h8 : ∀ i, i < n → p8 i = g8 i) (h9 : ∀ i, i < n → p9 i = g9 i) (h10 : ∀ i, i < n → p10 i = g10 i) (h11 : ∀ i, i < n → p11 i = g11 i) (h12 : ∀ i, i < n → p12 i = g12 i) (h13 : ∀ i, i < n → p13 i = g13 i) : s_ref19_SameRows_0 n p0 p1 p2 p3 p4 p5 p6 p7 p8 p9 p10 p11 p12 p13 n g0 g1 g2 g3 g4 g5 g6 g7 g8 g9 g10 g11 g12 g13 = true ∧ o_ref19_SameRows n p0 p1 p2 p3 p4 p5 p6 p7 p8 p9 p10 p11 p12 p13 n g0 g1 g2 g3 g4 g5 g6 g7 g8 g9 g10 g11 g12 g13 = true := by
  have row : ∀ k, k < n → s_ref19_SameRow_0 (p0 k) (p1 k) (p2 k) (p3 k) (p4 k) (p5 k) (p6 k) (p7 k) (p8 k) (p9 k) (p10 k) (p11 k) (p12 k) (p13 k) (g0 k) (g1 k) (g2 k) (g3 k) (g4 k) (g5 k) (g6 k) (g7 k) (g8 k) (g9 k) (g10 k) (g11 k) (g12 k) (g13 k) = true ∧ o_ref19_SameRow (p0 k) (p1 k) (p2 k) (p3 k) (p4 k) (p5 k) (p6 k) (p7 k) (p8 k) (p9 k) (p10 k) (p11 k) (p12 k) (p13 k) (g0 k) (g1 k) (g2 k) (g3 k) (g4 k) (g5 k) (g6 k) (g7 k) (g8 k) (g9 k) (g10 k) (g11 k) (g12 k) (g13 k) = true := fun k hk => by
    rw [h0 k hk, h1 k hk, h2 k hk, h3 k hk, h4 k hk, h5 k hk, h6 k hk, h7 k hk, h8 k hk, h9 k hk, h10 k hk, h11 k hk, h12 k hk, h13 k hk]; exact samerow_self (g0 k) (g1 k) (g2 k) (g3 k) (g4 k) (g5 k) (g6 k) (g7 k) (g8 k) (g9 k) (g10 k) (g11 k) (g12 k) (g13 k)
  have hl : E_ref19_SameRows_L0 n p0 p1 p2 p3 p4 p5 p6 p7 p8 p9 p10 p11 p12 p13 n g0 g1 g2 g3 g4 g5 g6 g7 g8 g9 g10 g11 g12 g13 (V_ref19_SameRows_L0.mk 0) = true ∧ L_ref19_SameRows_L0 n p0 p1 p2 p3 p4 p5 p6 p7 p8 p9 p10 p11 p12 p13 n g0 g1 g2 g3 g4 g5 g6 g7 g8 g9 g10 g11 g12 g13 (V_ref19_SameRows_L0.mk 0) = V_ref19_SameRows_L0.mk (Int.ofNat n) := by
    refine run_to (fun k => V_ref19_SameRows_L0.mk (Int.ofNat k)) n (fun k hk => ?_) (fun k hk => ?_) (fun k hk => ?_) ?_
    · unfold ok_ref19_SameRows_L0
      simp only [ile_ofNat, toNat_of, ilt_ofNat, Bool.true_and, mrgB_eq]
      by_cases hkn : k < n
      · rw [blt_true hkn, (row k hkn).1, (row k hkn).2]; simp
      · simp [hkn]
    · unfold go_ref19_SameRows_L0
      simp only [toNat_of, ilt_ofNat]
      rw [(row k hk).1]
      simp [hk]
    · unfold step_ref19_SameRows_L0
      simp only
      rw [succ_i64 (by omega)]
    · unfold go_ref19_SameRows_L0
      simp only [ilt_ofNat]; simp
  unfold s_ref19_SameRows_0 o_ref19_SameRows
  simp only []
  rw [hl.1, hl.2]
  simp only [ilt_ofNat, ieq_self, mrgB_self, Nat.lt_irrefl, decide_false, Bool.not_false, Bool.not_true, cond_true, cond_false, and_self]
end Go.Proofs.Ytjdcpmljkiecnaa
