/- What the rows of a touch leave to it: the program answers as the document says, and what it is given stays. -/
import Derived.Test.YtojahopdcnamjaaLawRowKeepsA
set_option linter.unusedVariables false
set_option linter.unusedSimpArgs false
set_option linter.unusedSectionVars false
set_option maxHeartbeats 2000000
namespace Go.Proofs.Ytojahopdcnamjaa
open Go.Sim Go.Lst
theorem is_same (a : Nat) : s_ref02_Is_0 a a = true := by unfold s_ref02_Is_0; exact ieq_self _
theorem points_same {L : Nat} {e0 : Nat → Nat} {e1 : Nat → Nat} {e2 : Nat → Nat} {e3 : Nat → Int} {e4 : Nat → Nat} {e5 : Nat → Nat} {g0 : Nat → Nat} {g1 : Nat → Nat} {g2 : Nat → Nat} {g3 : Nat → Int} {g4 : Nat → Nat} {g5 : Nat → Nat} (hL : L ≤ 70) (q0 : ∀ i, i < L → e0 i = g0 i) (q1 : ∀ i, i < L → e1 i = g1 i) (q2 : ∀ i, i < L → e2 i = g2 i) (q3 : ∀ i, i < L → e3 i = g3 i) (q4 : ∀ i, i < L → e4 i = g4 i) (q5 : ∀ i, i < L → e5 i = g5 i) : s_ref11_SamePoints_0 L e0 e1 e2 e3 e4 e5 L g0 g1 g2 g3 g4 g5 = true ∧ o_ref11_SamePoints L e0 e1 e2 e3 e4 e5 L g0 g1 g2 g3 g4 g5 = true := by
  have hr := run_to (ok := ok_ref11_SamePoints_L0 L e0 e1 e2 e3 e4 e5 L g0 g1 g2 g3 g4 g5) (go := go_ref11_SamePoints_L0 L e0 e1 e2 e3 e4 e5 L g0 g1 g2 g3 g4 g5) (step := step_ref11_SamePoints_L0 L e0 e1 e2 e3 e4 e5 L g0 g1 g2 g3 g4 g5)
    (fun k => V_ref11_SamePoints_L0.mk (Int.ofNat k)) L (fun k hk => by
      unfold ok_ref11_SamePoints_L0
      simp only [toNat_of, mrgB_eq]
      rw [ilt_ofNat, ile_ofNat]
      by_cases h : k < L
      · rw [blt_true h]; simp [h]
      · simp [h]) (fun k hk => by
      unfold go_ref11_SamePoints_L0 s_ref02_Same_0
      simp only [toNat_of]
      rw [ilt_ofNat, q0 k hk, q1 k hk, q2 k hk, q3 k hk, q4 k hk, q5 k hk, is_same, is_same, is_same, is_same, is_same, ieq_self]
      simp [hk]) (fun k hk => by
      unfold step_ref11_SamePoints_L0
      simp only
      rw [succ_i64 (by omega)]) (by
      unfold go_ref11_SamePoints_L0
      simp only [toNat_of]
      rw [ilt_ofNat]; simp)
  have e : (L_ref11_SamePoints_L0 L e0 e1 e2 e3 e4 e5 L g0 g1 g2 g3 g4 g5 (V_ref11_SamePoints_L0.mk (0 : Int))).v0 = Int.ofNat L := congrArg V_ref11_SamePoints_L0.v0 hr.2
  have ee : E_ref11_SamePoints_L0 L e0 e1 e2 e3 e4 e5 L g0 g1 g2 g3 g4 g5 (V_ref11_SamePoints_L0.mk (0 : Int)) = true := hr.1
  unfold s_ref11_SamePoints_0 o_ref11_SamePoints
  simp only [e, ee, toNat_of, mrgB_eq, Bool.cond_self]
  rw [ieq_self, ilt_ofNat]
  simp
theorem touch_same {a0 a1 a2 a3 : Int} {a4 : Bool} {a5 a6 L : Nat} {e0 : Nat → Nat} {e1 : Nat → Nat} {e2 : Nat → Nat} {e3 : Nat → Int} {e4 : Nat → Nat} {e5 : Nat → Nat} {g0 : Nat → Nat} {g1 : Nat → Nat} {g2 : Nat → Nat} {g3 : Nat → Int} {g4 : Nat → Nat} {g5 : Nat → Nat} (hL : L ≤ 70) (q0 : ∀ i, i < L → e0 i = g0 i) (q1 : ∀ i, i < L → e1 i = g1 i) (q2 : ∀ i, i < L → e2 i = g2 i) (q3 : ∀ i, i < L → e3 i = g3 i) (q4 : ∀ i, i < L → e4 i = g4 i) (q5 : ∀ i, i < L → e5 i = g5 i) : s_ref11_Same_0 a0 a1 a2 a3 a4 a5 a6 L e0 e1 e2 e3 e4 e5 a0 a1 a2 a3 a4 a5 a6 L g0 g1 g2 g3 g4 g5 = true ∧ o_ref11_Same a0 a1 a2 a3 a4 a5 a6 L e0 e1 e2 e3 e4 e5 a0 a1 a2 a3 a4 a5 a6 L g0 g1 g2 g3 g4 g5 = true := by
  obtain ⟨h1, h2⟩ := points_same hL q0 q1 q2 q3 q4 q5
  unfold s_ref11_Same_0 o_ref11_Same s_ref02_Same_0
  simp only [h1, h2, is_same, ieq_self, mrgB_eq, Bool.cond_self]
  simp
theorem rows_same {m mE : Nat} {r0 : Nat → Int} {r1 : Nat → Int} {r2 : Nat → Nat} {r3 : Nat → Nat} {r4 : Nat → Nat} {r5 : Nat → Nat} {r6 : Nat → Nat} {r7 : Nat → Nat} {r8 : Nat → Nat} {r9 : Nat → Nat} {r10 : Nat → Nat} {r11 : Nat → Nat} {r12 : Nat → Int} {r13 : Nat → Nat} (hm : m ≤ 200) (hE : mE = m) : s_ref20_SameRows_0 mE r0 r1 r2 r3 r4 r5 r6 r7 r8 r9 r10 r11 r12 r13 m r0 r1 r2 r3 r4 r5 r6 r7 r8 r9 r10 r11 r12 r13 = true ∧ o_ref20_SameRows mE r0 r1 r2 r3 r4 r5 r6 r7 r8 r9 r10 r11 r12 r13 m r0 r1 r2 r3 r4 r5 r6 r7 r8 r9 r10 r11 r12 r13 = true := by
  subst hE
  have hrow : ∀ k, s_ref20_SameRow_0 (r0 k) (r1 k) (r2 k) (r3 k) (r4 k) (r5 k) (r6 k) (r7 k) (r8 k) (r9 k) (r10 k) (r11 k) (r12 k) (r13 k) (r0 k) (r1 k) (r2 k) (r3 k) (r4 k) (r5 k) (r6 k) (r7 k) (r8 k) (r9 k) (r10 k) (r11 k) (r12 k) (r13 k) = true := fun k => by
    unfold s_ref20_SameRow_0 s_ref02_Same_0
    simp only [is_same, ieq_self, Bool.and_self]
  have hr := run_to (ok := ok_ref20_SameRows_L0 mE r0 r1 r2 r3 r4 r5 r6 r7 r8 r9 r10 r11 r12 r13 mE r0 r1 r2 r3 r4 r5 r6 r7 r8 r9 r10 r11 r12 r13) (go := go_ref20_SameRows_L0 mE r0 r1 r2 r3 r4 r5 r6 r7 r8 r9 r10 r11 r12 r13 mE r0 r1 r2 r3 r4 r5 r6 r7 r8 r9 r10 r11 r12 r13) (step := step_ref20_SameRows_L0 mE r0 r1 r2 r3 r4 r5 r6 r7 r8 r9 r10 r11 r12 r13 mE r0 r1 r2 r3 r4 r5 r6 r7 r8 r9 r10 r11 r12 r13)
    (fun k => V_ref20_SameRows_L0.mk (Int.ofNat k)) mE (fun k hk => by
      unfold ok_ref20_SameRows_L0
      simp only [toNat_of, mrgB_eq]
      rw [ilt_ofNat, ile_ofNat]
      by_cases h : k < mE
      · rw [blt_true h]; simp [h]
      · simp [h]) (fun k hk => by
      unfold go_ref20_SameRows_L0
      simp only [toNat_of, hrow]
      rw [ilt_ofNat]
      simp [hk]) (fun k hk => by
      unfold step_ref20_SameRows_L0
      simp only
      rw [succ_i64 (by omega)]) (by
      unfold go_ref20_SameRows_L0
      simp only [toNat_of, hrow]
      rw [ilt_ofNat]; simp)
  have e : (L_ref20_SameRows_L0 mE r0 r1 r2 r3 r4 r5 r6 r7 r8 r9 r10 r11 r12 r13 mE r0 r1 r2 r3 r4 r5 r6 r7 r8 r9 r10 r11 r12 r13 (V_ref20_SameRows_L0.mk (0 : Int))).v0 = Int.ofNat mE := congrArg V_ref20_SameRows_L0.v0 hr.2
  have ee : E_ref20_SameRows_L0 mE r0 r1 r2 r3 r4 r5 r6 r7 r8 r9 r10 r11 r12 r13 mE r0 r1 r2 r3 r4 r5 r6 r7 r8 r9 r10 r11 r12 r13 (V_ref20_SameRows_L0.mk (0 : Int)) = true := hr.1
  unfold s_ref20_SameRows_0 o_ref20_SameRows
  simp only [e, ee, toNat_of, mrgB_eq, Bool.cond_self]
  rw [ieq_self, ilt_ofNat]
  simp
theorem keep_same {a0 a1 a2 a3 : Int} {a4 : Bool} {a5 a6 n : Nat} {m mE : Nat} {e0 : Nat → Nat} {e1 : Nat → Nat} {e2 : Nat → Nat} {e3 : Nat → Int} {e4 : Nat → Nat} {e5 : Nat → Nat} {g0 : Nat → Nat} {g1 : Nat → Nat} {g2 : Nat → Nat} {g3 : Nat → Int} {g4 : Nat → Nat} {g5 : Nat → Nat} {r0 : Nat → Int} {r1 : Nat → Int} {r2 : Nat → Nat} {r3 : Nat → Nat} {r4 : Nat → Nat} {r5 : Nat → Nat} {r6 : Nat → Nat} {r7 : Nat → Nat} {r8 : Nat → Nat} {r9 : Nat → Nat} {r10 : Nat → Nat} {r11 : Nat → Nat} {r12 : Nat → Int} {r13 : Nat → Nat} (hn : n ≤ 70) (hE : mE = m) (c5' : CF a5) (c6' : CF a6) (q0 : ∀ i, i < n → e0 i = g0 i) (q1 : ∀ i, i < n → e1 i = g1 i) (q2 : ∀ i, i < n → e2 i = g2 i) (q3 : ∀ i, i < n → e3 i = g3 i) (q4 : ∀ i, i < n → e4 i = g4 i) (q5 : ∀ i, i < n → e5 i = g5 i) (c0 : ∀ i, i < n → CF (g0 i)) (c1 : ∀ i, i < n → CF (g1 i)) (c2 : ∀ i, i < n → CF (g2 i)) (c4 : ∀ i, i < n → CF (g4 i)) (c5 : ∀ i, i < n → CF (g5 i)) :
    (s_ref11_Same_0 (s_rows_Keep_0 a0 a1 a2 a3 a4 a5 a6 n e0 e1 e2 e3 e4 e5 mE r0 r1 r2 r3 r4 r5 r6 r7 r8 r9 r10 r11 r12 r13) (s_rows_Keep_1 a0 a1 a2 a3 a4 a5 a6 n e0 e1 e2 e3 e4 e5 mE r0 r1 r2 r3 r4 r5 r6 r7 r8 r9 r10 r11 r12 r13) (s_rows_Keep_2 a0 a1 a2 a3 a4 a5 a6 n e0 e1 e2 e3 e4 e5 mE r0 r1 r2 r3 r4 r5 r6 r7 r8 r9 r10 r11 r12 r13) (s_rows_Keep_3 a0 a1 a2 a3 a4 a5 a6 n e0 e1 e2 e3 e4 e5 mE r0 r1 r2 r3 r4 r5 r6 r7 r8 r9 r10 r11 r12 r13) (s_rows_Keep_4 a0 a1 a2 a3 a4 a5 a6 n e0 e1 e2 e3 e4 e5 mE r0 r1 r2 r3 r4 r5 r6 r7 r8 r9 r10 r11 r12 r13) (s_rows_Keep_5 a0 a1 a2 a3 a4 a5 a6 n e0 e1 e2 e3 e4 e5 mE r0 r1 r2 r3 r4 r5 r6 r7 r8 r9 r10 r11 r12 r13) (s_rows_Keep_6 a0 a1 a2 a3 a4 a5 a6 n e0 e1 e2 e3 e4 e5 mE r0 r1 r2 r3 r4 r5 r6 r7 r8 r9 r10 r11 r12 r13) (s_rows_Keep_7 a0 a1 a2 a3 a4 a5 a6 n e0 e1 e2 e3 e4 e5 mE r0 r1 r2 r3 r4 r5 r6 r7 r8 r9 r10 r11 r12 r13) (s_rows_Keep_11 a0 a1 a2 a3 a4 a5 a6 n e0 e1 e2 e3 e4 e5 mE r0 r1 r2 r3 r4 r5 r6 r7 r8 r9 r10 r11 r12 r13) (s_rows_Keep_12 a0 a1 a2 a3 a4 a5 a6 n e0 e1 e2 e3 e4 e5 mE r0 r1 r2 r3 r4 r5 r6 r7 r8 r9 r10 r11 r12 r13) (s_rows_Keep_13 a0 a1 a2 a3 a4 a5 a6 n e0 e1 e2 e3 e4 e5 mE r0 r1 r2 r3 r4 r5 r6 r7 r8 r9 r10 r11 r12 r13) (s_rows_Keep_14 a0 a1 a2 a3 a4 a5 a6 n e0 e1 e2 e3 e4 e5 mE r0 r1 r2 r3 r4 r5 r6 r7 r8 r9 r10 r11 r12 r13) (s_rows_Keep_15 a0 a1 a2 a3 a4 a5 a6 n e0 e1 e2 e3 e4 e5 mE r0 r1 r2 r3 r4 r5 r6 r7 r8 r9 r10 r11 r12 r13) (s_rows_Keep_16 a0 a1 a2 a3 a4 a5 a6 n e0 e1 e2 e3 e4 e5 mE r0 r1 r2 r3 r4 r5 r6 r7 r8 r9 r10 r11 r12 r13) (s_ref20_Keep_0 a0 a1 a2 a3 a4 a5 a6 n g0 g1 g2 g3 g4 g5 m r0 r1 r2 r3 r4 r5 r6 r7 r8 r9 r10 r11 r12 r13) (s_ref20_Keep_1 a0 a1 a2 a3 a4 a5 a6 n g0 g1 g2 g3 g4 g5 m r0 r1 r2 r3 r4 r5 r6 r7 r8 r9 r10 r11 r12 r13) (s_ref20_Keep_2 a0 a1 a2 a3 a4 a5 a6 n g0 g1 g2 g3 g4 g5 m r0 r1 r2 r3 r4 r5 r6 r7 r8 r9 r10 r11 r12 r13) (s_ref20_Keep_3 a0 a1 a2 a3 a4 a5 a6 n g0 g1 g2 g3 g4 g5 m r0 r1 r2 r3 r4 r5 r6 r7 r8 r9 r10 r11 r12 r13) (s_ref20_Keep_4 a0 a1 a2 a3 a4 a5 a6 n g0 g1 g2 g3 g4 g5 m r0 r1 r2 r3 r4 r5 r6 r7 r8 r9 r10 r11 r12 r13) (s_ref20_Keep_5 a0 a1 a2 a3 a4 a5 a6 n g0 g1 g2 g3 g4 g5 m r0 r1 r2 r3 r4 r5 r6 r7 r8 r9 r10 r11 r12 r13) (s_ref20_Keep_6 a0 a1 a2 a3 a4 a5 a6 n g0 g1 g2 g3 g4 g5 m r0 r1 r2 r3 r4 r5 r6 r7 r8 r9 r10 r11 r12 r13) (s_ref20_Keep_7 a0 a1 a2 a3 a4 a5 a6 n g0 g1 g2 g3 g4 g5 m r0 r1 r2 r3 r4 r5 r6 r7 r8 r9 r10 r11 r12 r13) (s_ref20_Keep_11 a0 a1 a2 a3 a4 a5 a6 n g0 g1 g2 g3 g4 g5 m r0 r1 r2 r3 r4 r5 r6 r7 r8 r9 r10 r11 r12 r13) (s_ref20_Keep_12 a0 a1 a2 a3 a4 a5 a6 n g0 g1 g2 g3 g4 g5 m r0 r1 r2 r3 r4 r5 r6 r7 r8 r9 r10 r11 r12 r13) (s_ref20_Keep_13 a0 a1 a2 a3 a4 a5 a6 n g0 g1 g2 g3 g4 g5 m r0 r1 r2 r3 r4 r5 r6 r7 r8 r9 r10 r11 r12 r13) (s_ref20_Keep_14 a0 a1 a2 a3 a4 a5 a6 n g0 g1 g2 g3 g4 g5 m r0 r1 r2 r3 r4 r5 r6 r7 r8 r9 r10 r11 r12 r13) (s_ref20_Keep_15 a0 a1 a2 a3 a4 a5 a6 n g0 g1 g2 g3 g4 g5 m r0 r1 r2 r3 r4 r5 r6 r7 r8 r9 r10 r11 r12 r13) (s_ref20_Keep_16 a0 a1 a2 a3 a4 a5 a6 n g0 g1 g2 g3 g4 g5 m r0 r1 r2 r3 r4 r5 r6 r7 r8 r9 r10 r11 r12 r13) = true ∧ o_ref11_Same (s_rows_Keep_0 a0 a1 a2 a3 a4 a5 a6 n e0 e1 e2 e3 e4 e5 mE r0 r1 r2 r3 r4 r5 r6 r7 r8 r9 r10 r11 r12 r13) (s_rows_Keep_1 a0 a1 a2 a3 a4 a5 a6 n e0 e1 e2 e3 e4 e5 mE r0 r1 r2 r3 r4 r5 r6 r7 r8 r9 r10 r11 r12 r13) (s_rows_Keep_2 a0 a1 a2 a3 a4 a5 a6 n e0 e1 e2 e3 e4 e5 mE r0 r1 r2 r3 r4 r5 r6 r7 r8 r9 r10 r11 r12 r13) (s_rows_Keep_3 a0 a1 a2 a3 a4 a5 a6 n e0 e1 e2 e3 e4 e5 mE r0 r1 r2 r3 r4 r5 r6 r7 r8 r9 r10 r11 r12 r13) (s_rows_Keep_4 a0 a1 a2 a3 a4 a5 a6 n e0 e1 e2 e3 e4 e5 mE r0 r1 r2 r3 r4 r5 r6 r7 r8 r9 r10 r11 r12 r13) (s_rows_Keep_5 a0 a1 a2 a3 a4 a5 a6 n e0 e1 e2 e3 e4 e5 mE r0 r1 r2 r3 r4 r5 r6 r7 r8 r9 r10 r11 r12 r13) (s_rows_Keep_6 a0 a1 a2 a3 a4 a5 a6 n e0 e1 e2 e3 e4 e5 mE r0 r1 r2 r3 r4 r5 r6 r7 r8 r9 r10 r11 r12 r13) (s_rows_Keep_7 a0 a1 a2 a3 a4 a5 a6 n e0 e1 e2 e3 e4 e5 mE r0 r1 r2 r3 r4 r5 r6 r7 r8 r9 r10 r11 r12 r13) (s_rows_Keep_11 a0 a1 a2 a3 a4 a5 a6 n e0 e1 e2 e3 e4 e5 mE r0 r1 r2 r3 r4 r5 r6 r7 r8 r9 r10 r11 r12 r13) (s_rows_Keep_12 a0 a1 a2 a3 a4 a5 a6 n e0 e1 e2 e3 e4 e5 mE r0 r1 r2 r3 r4 r5 r6 r7 r8 r9 r10 r11 r12 r13) (s_rows_Keep_13 a0 a1 a2 a3 a4 a5 a6 n e0 e1 e2 e3 e4 e5 mE r0 r1 r2 r3 r4 r5 r6 r7 r8 r9 r10 r11 r12 r13) (s_rows_Keep_14 a0 a1 a2 a3 a4 a5 a6 n e0 e1 e2 e3 e4 e5 mE r0 r1 r2 r3 r4 r5 r6 r7 r8 r9 r10 r11 r12 r13) (s_rows_Keep_15 a0 a1 a2 a3 a4 a5 a6 n e0 e1 e2 e3 e4 e5 mE r0 r1 r2 r3 r4 r5 r6 r7 r8 r9 r10 r11 r12 r13) (s_rows_Keep_16 a0 a1 a2 a3 a4 a5 a6 n e0 e1 e2 e3 e4 e5 mE r0 r1 r2 r3 r4 r5 r6 r7 r8 r9 r10 r11 r12 r13) (s_ref20_Keep_0 a0 a1 a2 a3 a4 a5 a6 n g0 g1 g2 g3 g4 g5 m r0 r1 r2 r3 r4 r5 r6 r7 r8 r9 r10 r11 r12 r13) (s_ref20_Keep_1 a0 a1 a2 a3 a4 a5 a6 n g0 g1 g2 g3 g4 g5 m r0 r1 r2 r3 r4 r5 r6 r7 r8 r9 r10 r11 r12 r13) (s_ref20_Keep_2 a0 a1 a2 a3 a4 a5 a6 n g0 g1 g2 g3 g4 g5 m r0 r1 r2 r3 r4 r5 r6 r7 r8 r9 r10 r11 r12 r13) (s_ref20_Keep_3 a0 a1 a2 a3 a4 a5 a6 n g0 g1 g2 g3 g4 g5 m r0 r1 r2 r3 r4 r5 r6 r7 r8 r9 r10 r11 r12 r13) (s_ref20_Keep_4 a0 a1 a2 a3 a4 a5 a6 n g0 g1 g2 g3 g4 g5 m r0 r1 r2 r3 r4 r5 r6 r7 r8 r9 r10 r11 r12 r13) (s_ref20_Keep_5 a0 a1 a2 a3 a4 a5 a6 n g0 g1 g2 g3 g4 g5 m r0 r1 r2 r3 r4 r5 r6 r7 r8 r9 r10 r11 r12 r13) (s_ref20_Keep_6 a0 a1 a2 a3 a4 a5 a6 n g0 g1 g2 g3 g4 g5 m r0 r1 r2 r3 r4 r5 r6 r7 r8 r9 r10 r11 r12 r13) (s_ref20_Keep_7 a0 a1 a2 a3 a4 a5 a6 n g0 g1 g2 g3 g4 g5 m r0 r1 r2 r3 r4 r5 r6 r7 r8 r9 r10 r11 r12 r13) (s_ref20_Keep_11 a0 a1 a2 a3 a4 a5 a6 n g0 g1 g2 g3 g4 g5 m r0 r1 r2 r3 r4 r5 r6 r7 r8 r9 r10 r11 r12 r13) (s_ref20_Keep_12 a0 a1 a2 a3 a4 a5 a6 n g0 g1 g2 g3 g4 g5 m r0 r1 r2 r3 r4 r5 r6 r7 r8 r9 r10 r11 r12 r13) (s_ref20_Keep_13 a0 a1 a2 a3 a4 a5 a6 n g0 g1 g2 g3 g4 g5 m r0 r1 r2 r3 r4 r5 r6 r7 r8 r9 r10 r11 r12 r13) (s_ref20_Keep_14 a0 a1 a2 a3 a4 a5 a6 n g0 g1 g2 g3 g4 g5 m r0 r1 r2 r3 r4 r5 r6 r7 r8 r9 r10 r11 r12 r13) (s_ref20_Keep_15 a0 a1 a2 a3 a4 a5 a6 n g0 g1 g2 g3 g4 g5 m r0 r1 r2 r3 r4 r5 r6 r7 r8 r9 r10 r11 r12 r13) (s_ref20_Keep_16 a0 a1 a2 a3 a4 a5 a6 n g0 g1 g2 g3 g4 g5 m r0 r1 r2 r3 r4 r5 r6 r7 r8 r9 r10 r11 r12 r13) = true) ∧ (s_rows_Keep_9 a0 a1 a2 a3 a4 a5 a6 n e0 e1 e2 e3 e4 e5 mE r0 r1 r2 r3 r4 r5 r6 r7 r8 r9 r10 r11 r12 r13) = (s_ref20_Keep_9 a0 a1 a2 a3 a4 a5 a6 n g0 g1 g2 g3 g4 g5 m r0 r1 r2 r3 r4 r5 r6 r7 r8 r9 r10 r11 r12 r13) ∧ o_rows_Keep a0 a1 a2 a3 a4 a5 a6 n e0 e1 e2 e3 e4 e5 mE r0 r1 r2 r3 r4 r5 r6 r7 r8 r9 r10 r11 r12 r13 = true ∧ o_ref20_Keep a0 a1 a2 a3 a4 a5 a6 n g0 g1 g2 g3 g4 g5 m r0 r1 r2 r3 r4 r5 r6 r7 r8 r9 r10 r11 r12 r13 = true ∧ (s_rows_Keep_7 a0 a1 a2 a3 a4 a5 a6 n e0 e1 e2 e3 e4 e5 mE r0 r1 r2 r3 r4 r5 r6 r7 r8 r9 r10 r11 r12 r13) ≤ n ∧ (s_ref20_Keep_7 a0 a1 a2 a3 a4 a5 a6 n g0 g1 g2 g3 g4 g5 m r0 r1 r2 r3 r4 r5 r6 r7 r8 r9 r10 r11 r12 r13) ≤ n := by
  subst hE
  obtain ⟨hc, oc, oR⟩ := check_same (a0 := a0) (a1 := a1) (a2 := a2) (a3 := a3) (a4 := a4) hn c5' c6' q0 q1 q2 q3 q4 q5 c0 c1 c2 c4 c5
  obtain ⟨q, hq, hw⟩ : ∃ q, q ≤ n ∧ (bif a4 then (0 : Int) else (IntKind.wrap .i64 ((2 : Int) * (Int.ofNat n)))) = Int.ofNat (2 * q) := by
    cases a4
    · exact ⟨n, Nat.le_refl _, two_i64 hn⟩
    · exact ⟨0, Nat.zero_le _, rfl⟩
  have p0 : (s_rows_Keep_0 a0 a1 a2 a3 a4 a5 a6 n e0 e1 e2 e3 e4 e5 mE r0 r1 r2 r3 r4 r5 r6 r7 r8 r9 r10 r11 r12 r13) = (s_ref20_Keep_0 a0 a1 a2 a3 a4 a5 a6 n g0 g1 g2 g3 g4 g5 mE r0 r1 r2 r3 r4 r5 r6 r7 r8 r9 r10 r11 r12 r13) := by
    unfold s_rows_Keep_0 s_ref20_Keep_0
    rw [hc]; rfl
  have p1 : (s_rows_Keep_1 a0 a1 a2 a3 a4 a5 a6 n e0 e1 e2 e3 e4 e5 mE r0 r1 r2 r3 r4 r5 r6 r7 r8 r9 r10 r11 r12 r13) = (s_ref20_Keep_1 a0 a1 a2 a3 a4 a5 a6 n g0 g1 g2 g3 g4 g5 mE r0 r1 r2 r3 r4 r5 r6 r7 r8 r9 r10 r11 r12 r13) := by
    unfold s_rows_Keep_1 s_ref20_Keep_1
    rw [hc]; rfl
  have p2 : (s_rows_Keep_2 a0 a1 a2 a3 a4 a5 a6 n e0 e1 e2 e3 e4 e5 mE r0 r1 r2 r3 r4 r5 r6 r7 r8 r9 r10 r11 r12 r13) = (s_ref20_Keep_2 a0 a1 a2 a3 a4 a5 a6 n g0 g1 g2 g3 g4 g5 mE r0 r1 r2 r3 r4 r5 r6 r7 r8 r9 r10 r11 r12 r13) := by
    unfold s_rows_Keep_2 s_ref20_Keep_2
    rw [hc]; rfl
  have p3 : (s_rows_Keep_3 a0 a1 a2 a3 a4 a5 a6 n e0 e1 e2 e3 e4 e5 mE r0 r1 r2 r3 r4 r5 r6 r7 r8 r9 r10 r11 r12 r13) = (s_ref20_Keep_3 a0 a1 a2 a3 a4 a5 a6 n g0 g1 g2 g3 g4 g5 mE r0 r1 r2 r3 r4 r5 r6 r7 r8 r9 r10 r11 r12 r13) := by
    unfold s_rows_Keep_3 s_ref20_Keep_3
    rw [hc]; rfl
  have p4 : (s_rows_Keep_4 a0 a1 a2 a3 a4 a5 a6 n e0 e1 e2 e3 e4 e5 mE r0 r1 r2 r3 r4 r5 r6 r7 r8 r9 r10 r11 r12 r13) = (s_ref20_Keep_4 a0 a1 a2 a3 a4 a5 a6 n g0 g1 g2 g3 g4 g5 mE r0 r1 r2 r3 r4 r5 r6 r7 r8 r9 r10 r11 r12 r13) := by
    unfold s_rows_Keep_4 s_ref20_Keep_4
    rw [hc]; rfl
  have p5 : (s_rows_Keep_5 a0 a1 a2 a3 a4 a5 a6 n e0 e1 e2 e3 e4 e5 mE r0 r1 r2 r3 r4 r5 r6 r7 r8 r9 r10 r11 r12 r13) = (s_ref20_Keep_5 a0 a1 a2 a3 a4 a5 a6 n g0 g1 g2 g3 g4 g5 mE r0 r1 r2 r3 r4 r5 r6 r7 r8 r9 r10 r11 r12 r13) := by
    unfold s_rows_Keep_5 s_ref20_Keep_5
    rw [hc]; rfl
  have p6 : (s_rows_Keep_6 a0 a1 a2 a3 a4 a5 a6 n e0 e1 e2 e3 e4 e5 mE r0 r1 r2 r3 r4 r5 r6 r7 r8 r9 r10 r11 r12 r13) = (s_ref20_Keep_6 a0 a1 a2 a3 a4 a5 a6 n g0 g1 g2 g3 g4 g5 mE r0 r1 r2 r3 r4 r5 r6 r7 r8 r9 r10 r11 r12 r13) := by
    unfold s_rows_Keep_6 s_ref20_Keep_6
    rw [hc]; rfl
  have p7 : (s_rows_Keep_7 a0 a1 a2 a3 a4 a5 a6 n e0 e1 e2 e3 e4 e5 mE r0 r1 r2 r3 r4 r5 r6 r7 r8 r9 r10 r11 r12 r13) = (s_ref20_Keep_7 a0 a1 a2 a3 a4 a5 a6 n g0 g1 g2 g3 g4 g5 mE r0 r1 r2 r3 r4 r5 r6 r7 r8 r9 r10 r11 r12 r13) := by
    unfold s_rows_Keep_7 s_ref20_Keep_7
    rw [hc]; rfl
  have p9 : (s_rows_Keep_9 a0 a1 a2 a3 a4 a5 a6 n e0 e1 e2 e3 e4 e5 mE r0 r1 r2 r3 r4 r5 r6 r7 r8 r9 r10 r11 r12 r13) = (s_ref20_Keep_9 a0 a1 a2 a3 a4 a5 a6 n g0 g1 g2 g3 g4 g5 mE r0 r1 r2 r3 r4 r5 r6 r7 r8 r9 r10 r11 r12 r13) := by
    unfold s_rows_Keep_9 s_ref20_Keep_9
    rw [hc]
  have h7 : (s_ref20_Keep_7 a0 a1 a2 a3 a4 a5 a6 n g0 g1 g2 g3 g4 g5 mE r0 r1 r2 r3 r4 r5 r6 r7 r8 r9 r10 r11 r12 r13) = if (ieq (s_ref11_Check_0 a0 a1 a2 a3 a4 a5 a6 n g0 g1 g2 g3 g4 g5) 0 && ieq (Int.ofNat mE) (Int.ofNat (2 * q))) = true then n else 0 := by
    unfold s_ref20_Keep_7
    rw [hw, csame_eq, csame_eq]
    cases ieq (s_ref11_Check_0 a0 a1 a2 a3 a4 a5 a6 n g0 g1 g2 g3 g4 g5) 0 <;> cases ieq (Int.ofNat mE) (Int.ofNat (2 * q)) <;> rfl
  have hle : (s_ref20_Keep_7 a0 a1 a2 a3 a4 a5 a6 n g0 g1 g2 g3 g4 g5 mE r0 r1 r2 r3 r4 r5 r6 r7 r8 r9 r10 r11 r12 r13) ≤ n := by rw [h7]; split <;> omega
  -- both loops, where they are come to
  have lists : (ieq (s_ref11_Check_0 a0 a1 a2 a3 a4 a5 a6 n g0 g1 g2 g3 g4 g5) 0 && ieq (Int.ofNat mE) (Int.ofNat (2 * q))) = true →
      (∀ i, i < n → (s_rows_Keep_15 a0 a1 a2 a3 a4 a5 a6 n e0 e1 e2 e3 e4 e5 mE r0 r1 r2 r3 r4 r5 r6 r7 r8 r9 r10 r11 r12 r13) i = (s_ref20_Keep_15 a0 a1 a2 a3 a4 a5 a6 n g0 g1 g2 g3 g4 g5 mE r0 r1 r2 r3 r4 r5 r6 r7 r8 r9 r10 r11 r12 r13) i) ∧ (∀ i, i < n → (s_rows_Keep_16 a0 a1 a2 a3 a4 a5 a6 n e0 e1 e2 e3 e4 e5 mE r0 r1 r2 r3 r4 r5 r6 r7 r8 r9 r10 r11 r12 r13) i = (s_ref20_Keep_16 a0 a1 a2 a3 a4 a5 a6 n g0 g1 g2 g3 g4 g5 mE r0 r1 r2 r3 r4 r5 r6 r7 r8 r9 r10 r11 r12 r13) i) ∧
      E_rows_Keep_L0 mE r11 (IntKind.wrap .i64 (Int.tdiv (Int.ofNat (2 * q)) (2 : Int))) n (V_rows_Keep_L0.mk (0 : Int) e4 e5) = true ∧ E_ref20_Keep_L0 mE r11 (Int.ofNat (2 * q)) n n (V_ref20_Keep_L0.mk (0 : Int) g4 g5) = true := by
    intro h
    rw [Bool.and_eq_true] at h
    have hm : mE = 2 * q := by have := h.2; simp [ieq] at this; omega
    obtain ⟨x1, x2, x3⟩ := rows_Keep_loop (r := r11) (h1 := e4) (h2 := e5) hn hq hm
    obtain ⟨y1, y2, y3⟩ := ref20_Keep_loop (r := r11) (h1 := g4) (h2 := g5) hn hq hm
    refine ⟨fun i hi => ?_, fun i hi => ?_, by rw [half_i64 (show q ≤ 70 by omega)]; exact x1, y1⟩
    · show (L_rows_Keep_L0 mE r11 (IntKind.wrap .i64 (Int.tdiv (bif a4 then (0 : Int) else (IntKind.wrap .i64 ((2 : Int) * (Int.ofNat n)))) (2 : Int))) n (V_rows_Keep_L0.mk (0 : Int) e4 e5)).v1 i = (L_ref20_Keep_L0 mE r11 (bif a4 then (0 : Int) else (IntKind.wrap .i64 ((2 : Int) * (Int.ofNat n)))) n n (V_ref20_Keep_L0.mk (0 : Int) g4 g5)).v1 i
      rw [hw, half_i64 (show q ≤ 70 by omega), x2, y2]
      unfold kept
      rw [q4 i hi]
    · show (L_rows_Keep_L0 mE r11 (IntKind.wrap .i64 (Int.tdiv (bif a4 then (0 : Int) else (IntKind.wrap .i64 ((2 : Int) * (Int.ofNat n)))) (2 : Int))) n (V_rows_Keep_L0.mk (0 : Int) e4 e5)).v2 i = (L_ref20_Keep_L0 mE r11 (bif a4 then (0 : Int) else (IntKind.wrap .i64 ((2 : Int) * (Int.ofNat n)))) n n (V_ref20_Keep_L0.mk (0 : Int) g4 g5)).v2 i
      rw [hw, half_i64 (show q ≤ 70 by omega), x3, y3]
      unfold kept
      rw [q5 i hi]
  have inlist : ∀ i, i < (s_ref20_Keep_7 a0 a1 a2 a3 a4 a5 a6 n g0 g1 g2 g3 g4 g5 mE r0 r1 r2 r3 r4 r5 r6 r7 r8 r9 r10 r11 r12 r13) → i < n ∧ (ieq (s_ref11_Check_0 a0 a1 a2 a3 a4 a5 a6 n g0 g1 g2 g3 g4 g5) 0 && ieq (Int.ofNat mE) (Int.ofNat (2 * q))) = true := by
    intro i hi
    rw [h7] at hi
    split at hi
    · rename_i h; exact ⟨hi, h⟩
    · omega
  refine ⟨?_, p9, ?_, ?_, by rw [p7]; exact hle, hle⟩
  · rw [p0, p1, p2, p3, p4, p5, p6, p7]
    exact touch_same (Nat.le_trans hle hn) (fun i hi => q0 i (inlist i hi).1) (fun i hi => q1 i (inlist i hi).1) (fun i hi => q2 i (inlist i hi).1) (fun i hi => q3 i (inlist i hi).1) (fun i hi => (lists (inlist i hi).2).1 i (inlist i hi).1) (fun i hi => (lists (inlist i hi).2).2.1 i (inlist i hi).1)
  · unfold o_rows_Keep
    simp only [oc, hc, hw, mrgB_eq, Bool.cond_self]
    cases h1 : ieq (s_ref11_Check_0 a0 a1 a2 a3 a4 a5 a6 n g0 g1 g2 g3 g4 g5) 0
    · rfl
    · cases h2 : ieq (Int.ofNat mE) (Int.ofNat (2 * q))
      · rfl
      · rw [(lists (by rw [h1, h2]; rfl)).2.2.1, ble_true (show n * 48 ≤ 140737488355328 by omega)]; rfl
  · unfold o_ref20_Keep
    simp only [oR, hw, mrgB_eq, Bool.cond_self]
    cases h1 : ieq (s_ref11_Check_0 a0 a1 a2 a3 a4 a5 a6 n g0 g1 g2 g3 g4 g5) 0
    · rfl
    · cases h2 : ieq (Int.ofNat mE) (Int.ofNat (2 * q))
      · rfl
      · have := (lists (by rw [h1, h2]; rfl)).2.2.2
        simp only [s_ref11_Twin_7, s_ref11_Twin_9, s_ref11_Twin_14, s_ref11_Twin_15]
        rw [this, ble_true (show n * 48 ≤ 140737488355328 by omega)]; rfl
def iter {X : Type} (f : X → X) (x : X) : Nat → X
  | 0 => x
  | k + 1 => f (iter f x k)
theorem law_loop {n L : Nat} {f0 f1 f2 f4 f5 : Nat → Nat} {f3 : Nat → Int} (hn : n ≤ 70) (hL : L ≤ n) : E_law20_RowKeeps_L0 n L (V_law20_RowKeeps_L0.mk (0 : Int) f0 f1 f2 f3 f4 f5) = true := by
  have hv : ∀ k, k ≤ 70 → (iter (step_law20_RowKeeps_L0 n L) (V_law20_RowKeeps_L0.mk (0 : Int) f0 f1 f2 f3 f4 f5) k).v0 = Int.ofNat k := by
    intro k
    induction k with
    | zero => intro _; rfl
    | succ k ih =>
      intro hk
      show IntKind.wrap .i64 ((iter (step_law20_RowKeeps_L0 n L) _ k).v0 + 1) = _
      rw [ih (by omega), succ_i64 (by omega)]
  exact (run_to (ok := ok_law20_RowKeeps_L0 n L) (go := go_law20_RowKeeps_L0 n L) (step := step_law20_RowKeeps_L0 n L) (iter (step_law20_RowKeeps_L0 n L) (V_law20_RowKeeps_L0.mk (0 : Int) f0 f1 f2 f3 f4 f5)) L (fun k hk => by
    unfold ok_law20_RowKeeps_L0
    rw [hv k (by omega), mrgB_eq, toNat_of, ilt_ofNat, ile_ofNat]
    by_cases h : k < L
    · rw [blt_true h, blt_true (show k < n by omega)]; simp
    · simp [h]) (fun k hk => by
    unfold go_law20_RowKeeps_L0
    rw [hv k (by omega), ilt_ofNat]; simp [hk]) (fun k hk => rfl) (by
    unfold go_law20_RowKeeps_L0
    rw [hv L (by omega), ilt_ofNat]; simp)).1
theorem law_RowKeeps (a0 a1 a2 a3 : Int) (a4 : Bool) (a5 a6 n : Nat) (g0 : Nat → Nat) (g1 : Nat → Nat) (g2 : Nat → Nat) (g3 : Nat → Int) (g4 : Nat → Nat) (g5 : Nat → Nat) (m : Nat) (r0 : Nat → Int) (r1 : Nat → Int) (r2 : Nat → Nat) (r3 : Nat → Nat) (r4 : Nat → Nat) (r5 : Nat → Nat) (r6 : Nat → Nat) (r7 : Nat → Nat) (r8 : Nat → Nat) (r9 : Nat → Nat) (r10 : Nat → Nat) (r11 : Nat → Nat) (r12 : Nat → Int) (r13 : Nat → Nat) (hA : GoodAs ([.i .i64, .i .i64, .i .i64, .i .i64, .b, .f, .f, .sl 48 [.f, .f, .f, .i .u32, .f, .f]] : List Kd) [AV.int .i64 a0, AV.int .i64 a1, AV.int .i64 a2, AV.int .i64 a3, AV.bool a4, AV.float a5, AV.float a6, AV.view n 6 (fun i => [AV.float (g0 i), AV.float (g1 i), AV.float (g2 i), AV.int .u32 (g3 i), AV.float (g4 i), AV.float (g5 i)])] 0) (hB : GoodA (.sl 112 [.i .i64, .i .i64, .f, .f, .f, .f, .f, .f, .f, .f, .f, .f, .i .i64, .f]) (.view m 14 (fun i => [AV.int .i64 (r0 i), AV.int .i64 (r1 i), AV.float (r2 i), AV.float (r3 i), AV.float (r4 i), AV.float (r5 i), AV.float (r6 i), AV.float (r7 i), AV.float (r8 i), AV.float (r9 i), AV.float (r10 i), AV.float (r11 i), AV.int .i64 (r12 i), AV.float (r13 i)]))) : T_law20_RowKeeps a0 a1 a2 a3 a4 a5 a6 n g0 g1 g2 g3 g4 g5 m r0 r1 r2 r3 r4 r5 r6 r7 r8 r9 r10 r11 r12 r13 = true := by
  obtain ⟨_, _, _, _, _, k5, k6, ⟨_, k7⟩, _⟩ := hA
  have hal : s_law20_alive_0 = true := rfl
  unfold T_law20_RowKeeps
  by_cases h : 70 < n ∨ 200 < m
  · have hg : (ilt (70 : Int) (Int.ofNat n) || ilt (200 : Int) (Int.ofNat m)) = true := by
      rcases h with h | h
      · rw [ilt_true (show (70 : Int) < Int.ofNat n by simp only [Int.ofNat_eq_natCast]; omega)]; rfl
      · rw [ilt_true (show (200 : Int) < Int.ofNat m by simp only [Int.ofNat_eq_natCast]; omega), Bool.or_true]
    rw [hal, hg]; rfl
  · rw [not_or] at h
    have hn : n ≤ 70 := by omega
    have hm : m ≤ 200 := by omega
    have hg : (ilt (70 : Int) (Int.ofNat n) || ilt (200 : Int) (Int.ofNat m)) = false := by
      rw [ilt_false (show Int.ofNat n ≤ (70 : Int) by simp only [Int.ofNat_eq_natCast]; omega), ilt_false (show Int.ofNat m ≤ (200 : Int) by simp only [Int.ofNat_eq_natCast]; omega)]; rfl
    have ext : ∀ (f : Nat → Nat) (u : Nat) (i : Nat), i < n → (bif (Nat.blt i (0 + n)) then (f i) else u) = f i := fun f u i hi => by rw [blt_true (show i < 0 + n by omega), cond_true]
    have ext3 : ∀ i, i < n → (bif (Nat.blt i (0 + n)) then (g3 i) else (77 : Int)) = g3 i := fun i hi => by rw [blt_true (show i < 0 + n by omega), cond_true]
    obtain ⟨⟨k1, k2⟩, k3, k4, k8, k9, k10⟩ := keep_same (a0 := a0) (a1 := a1) (a2 := a2) (a3 := a3) (a4 := a4) (r0 := r0) (r1 := r1) (r2 := r2) (r3 := r3) (r4 := r4) (r5 := r5) (r6 := r6) (r7 := r7) (r8 := r8) (r9 := r9) (r10 := r10) (r11 := r11) (r12 := r12) (r13 := r13) (e0 := s_law20_borrowed_10 a0 a1 a2 a3 a4 a5 a6 n g0 g1 g2 g3 g4 g5) (e1 := s_law20_borrowed_11 a0 a1 a2 a3 a4 a5 a6 n g0 g1 g2 g3 g4 g5) (e2 := s_law20_borrowed_12 a0 a1 a2 a3 a4 a5 a6 n g0 g1 g2 g3 g4 g5) (e3 := s_law20_borrowed_13 a0 a1 a2 a3 a4 a5 a6 n g0 g1 g2 g3 g4 g5) (e4 := s_law20_borrowed_14 a0 a1 a2 a3 a4 a5 a6 n g0 g1 g2 g3 g4 g5) (e5 := s_law20_borrowed_15 a0 a1 a2 a3 a4 a5 a6 n g0 g1 g2 g3 g4 g5) (g0 := g0) (g1 := g1) (g2 := g2) (g3 := g3) (g4 := g4) (g5 := g5) hn (Nat.zero_add m) k5 k6 (ext g0 0) (ext g1 0) (ext g2 0) ext3 (ext g4 0) (ext g5 0) (fun i hi => (k7 i hi).1) (fun i hi => (k7 i hi).2.1) (fun i hi => (k7 i hi).2.2.1) (fun i hi => (k7 i hi).2.2.2.2.1) (fun i hi => (k7 i hi).2.2.2.2.2.1)
    obtain ⟨u1, u2⟩ := rows_same (r0 := r0) (r1 := r1) (r2 := r2) (r3 := r3) (r4 := r4) (r5 := r5) (r6 := r6) (r7 := r7) (r8 := r8) (r9 := r9) (r10 := r10) (r11 := r11) (r12 := r12) (r13 := r13) hm (Nat.zero_add m)
    obtain ⟨t1, t2⟩ := touch_same (a0 := a0) (a1 := a1) (a2 := a2) (a3 := a3) (a4 := a4) (a5 := a5) (a6 := a6) (e0 := s_law20_borrowed_10 a0 a1 a2 a3 a4 a5 a6 n g0 g1 g2 g3 g4 g5) (e1 := s_law20_borrowed_11 a0 a1 a2 a3 a4 a5 a6 n g0 g1 g2 g3 g4 g5) (e2 := s_law20_borrowed_12 a0 a1 a2 a3 a4 a5 a6 n g0 g1 g2 g3 g4 g5) (e3 := s_law20_borrowed_13 a0 a1 a2 a3 a4 a5 a6 n g0 g1 g2 g3 g4 g5) (e4 := s_law20_borrowed_14 a0 a1 a2 a3 a4 a5 a6 n g0 g1 g2 g3 g4 g5) (e5 := s_law20_borrowed_15 a0 a1 a2 a3 a4 a5 a6 n g0 g1 g2 g3 g4 g5) (g0 := g0) (g1 := g1) (g2 := g2) (g3 := g3) (g4 := g4) (g5 := g5) hn (ext g0 0) (ext g1 0) (ext g2 0) ext3 (ext g4 0) (ext g5 0)
    have t3 : s_law20_borrowed_13 a0 a1 a2 a3 a4 a5 a6 n g0 g1 g2 g3 g4 g5 n = 77 := by
      show (bif (Nat.blt n (0 + n)) then (g3 n) else (77 : Int)) = 77
      rw [blt_false (show 0 + n ≤ n by omega), cond_false]
    have bk : s_law20_back_0 a0 a1 a2 a3 a4 a5 a6 n (0 + n + 1) a0 a1 a2 a3 a4 a5 a6 n g0 g1 g2 g3 g4 g5 (0 + n + 1) (s_law20_borrowed_10 a0 a1 a2 a3 a4 a5 a6 n g0 g1 g2 g3 g4 g5) (s_law20_borrowed_11 a0 a1 a2 a3 a4 a5 a6 n g0 g1 g2 g3 g4 g5) (s_law20_borrowed_12 a0 a1 a2 a3 a4 a5 a6 n g0 g1 g2 g3 g4 g5) (s_law20_borrowed_13 a0 a1 a2 a3 a4 a5 a6 n g0 g1 g2 g3 g4 g5) (s_law20_borrowed_14 a0 a1 a2 a3 a4 a5 a6 n g0 g1 g2 g3 g4 g5) (s_law20_borrowed_15 a0 a1 a2 a3 a4 a5 a6 n g0 g1 g2 g3 g4 g5) = true := by
      unfold s_law20_back_0
      rw [t1, t3, ieq_self]; rfl
    extract_lets x0 x1 x2 x3 x4 x5 x6 x7 x8 x9 x10 x11 x12 x13
    rw [hg]
    exact and_of (and_of (and_of hal k1) (and_of bk u1)) (ieq_of k3)
theorem ob_law_RowKeeps (a0 a1 a2 a3 : Int) (a4 : Bool) (a5 a6 n : Nat) (g0 : Nat → Nat) (g1 : Nat → Nat) (g2 : Nat → Nat) (g3 : Nat → Int) (g4 : Nat → Nat) (g5 : Nat → Nat) (m : Nat) (r0 : Nat → Int) (r1 : Nat → Int) (r2 : Nat → Nat) (r3 : Nat → Nat) (r4 : Nat → Nat) (r5 : Nat → Nat) (r6 : Nat → Nat) (r7 : Nat → Nat) (r8 : Nat → Nat) (r9 : Nat → Nat) (r10 : Nat → Nat) (r11 : Nat → Nat) (r12 : Nat → Int) (r13 : Nat → Nat) (hA : GoodAs ([.i .i64, .i .i64, .i .i64, .i .i64, .b, .f, .f, .sl 48 [.f, .f, .f, .i .u32, .f, .f]] : List Kd) [AV.int .i64 a0, AV.int .i64 a1, AV.int .i64 a2, AV.int .i64 a3, AV.bool a4, AV.float a5, AV.float a6, AV.view n 6 (fun i => [AV.float (g0 i), AV.float (g1 i), AV.float (g2 i), AV.int .u32 (g3 i), AV.float (g4 i), AV.float (g5 i)])] 0) (hB : GoodA (.sl 112 [.i .i64, .i .i64, .f, .f, .f, .f, .f, .f, .f, .f, .f, .f, .i .i64, .f]) (.view m 14 (fun i => [AV.int .i64 (r0 i), AV.int .i64 (r1 i), AV.float (r2 i), AV.float (r3 i), AV.float (r4 i), AV.float (r5 i), AV.float (r6 i), AV.float (r7 i), AV.float (r8 i), AV.float (r9 i), AV.float (r10 i), AV.float (r11 i), AV.int .i64 (r12 i), AV.float (r13 i)]))) : O_law20_RowKeeps a0 a1 a2 a3 a4 a5 a6 n g0 g1 g2 g3 g4 g5 m r0 r1 r2 r3 r4 r5 r6 r7 r8 r9 r10 r11 r12 r13 = true := by
  obtain ⟨_, _, _, _, _, k5, k6, ⟨_, k7⟩, _⟩ := hA
  have hal : s_law20_alive_0 = true := rfl
  unfold O_law20_RowKeeps
  by_cases h : 70 < n ∨ 200 < m
  · have hg : (ilt (70 : Int) (Int.ofNat n) || ilt (200 : Int) (Int.ofNat m)) = true := by
      rcases h with h | h
      · rw [ilt_true (show (70 : Int) < Int.ofNat n by simp only [Int.ofNat_eq_natCast]; omega)]; rfl
      · rw [ilt_true (show (200 : Int) < Int.ofNat m by simp only [Int.ofNat_eq_natCast]; omega), Bool.or_true]
    rw [hal, hg]; simp only [mrgB_eq]; rfl
  · rw [not_or] at h
    have hn : n ≤ 70 := by omega
    have hm : m ≤ 200 := by omega
    have hg : (ilt (70 : Int) (Int.ofNat n) || ilt (200 : Int) (Int.ofNat m)) = false := by
      rw [ilt_false (show Int.ofNat n ≤ (70 : Int) by simp only [Int.ofNat_eq_natCast]; omega), ilt_false (show Int.ofNat m ≤ (200 : Int) by simp only [Int.ofNat_eq_natCast]; omega)]; rfl
    have ext : ∀ (f : Nat → Nat) (u : Nat) (i : Nat), i < n → (bif (Nat.blt i (0 + n)) then (f i) else u) = f i := fun f u i hi => by rw [blt_true (show i < 0 + n by omega), cond_true]
    have ext3 : ∀ i, i < n → (bif (Nat.blt i (0 + n)) then (g3 i) else (77 : Int)) = g3 i := fun i hi => by rw [blt_true (show i < 0 + n by omega), cond_true]
    obtain ⟨⟨k1, k2⟩, k3, k4, k8, k9, k10⟩ := keep_same (a0 := a0) (a1 := a1) (a2 := a2) (a3 := a3) (a4 := a4) (r0 := r0) (r1 := r1) (r2 := r2) (r3 := r3) (r4 := r4) (r5 := r5) (r6 := r6) (r7 := r7) (r8 := r8) (r9 := r9) (r10 := r10) (r11 := r11) (r12 := r12) (r13 := r13) (e0 := s_law20_borrowed_10 a0 a1 a2 a3 a4 a5 a6 n g0 g1 g2 g3 g4 g5) (e1 := s_law20_borrowed_11 a0 a1 a2 a3 a4 a5 a6 n g0 g1 g2 g3 g4 g5) (e2 := s_law20_borrowed_12 a0 a1 a2 a3 a4 a5 a6 n g0 g1 g2 g3 g4 g5) (e3 := s_law20_borrowed_13 a0 a1 a2 a3 a4 a5 a6 n g0 g1 g2 g3 g4 g5) (e4 := s_law20_borrowed_14 a0 a1 a2 a3 a4 a5 a6 n g0 g1 g2 g3 g4 g5) (e5 := s_law20_borrowed_15 a0 a1 a2 a3 a4 a5 a6 n g0 g1 g2 g3 g4 g5) (g0 := g0) (g1 := g1) (g2 := g2) (g3 := g3) (g4 := g4) (g5 := g5) hn (Nat.zero_add m) k5 k6 (ext g0 0) (ext g1 0) (ext g2 0) ext3 (ext g4 0) (ext g5 0) (fun i hi => (k7 i hi).1) (fun i hi => (k7 i hi).2.1) (fun i hi => (k7 i hi).2.2.1) (fun i hi => (k7 i hi).2.2.2.2.1) (fun i hi => (k7 i hi).2.2.2.2.2.1)
    obtain ⟨u1, u2⟩ := rows_same (r0 := r0) (r1 := r1) (r2 := r2) (r3 := r3) (r4 := r4) (r5 := r5) (r6 := r6) (r7 := r7) (r8 := r8) (r9 := r9) (r10 := r10) (r11 := r11) (r12 := r12) (r13 := r13) hm (Nat.zero_add m)
    obtain ⟨t1, t2⟩ := touch_same (a0 := a0) (a1 := a1) (a2 := a2) (a3 := a3) (a4 := a4) (a5 := a5) (a6 := a6) (e0 := s_law20_borrowed_10 a0 a1 a2 a3 a4 a5 a6 n g0 g1 g2 g3 g4 g5) (e1 := s_law20_borrowed_11 a0 a1 a2 a3 a4 a5 a6 n g0 g1 g2 g3 g4 g5) (e2 := s_law20_borrowed_12 a0 a1 a2 a3 a4 a5 a6 n g0 g1 g2 g3 g4 g5) (e3 := s_law20_borrowed_13 a0 a1 a2 a3 a4 a5 a6 n g0 g1 g2 g3 g4 g5) (e4 := s_law20_borrowed_14 a0 a1 a2 a3 a4 a5 a6 n g0 g1 g2 g3 g4 g5) (e5 := s_law20_borrowed_15 a0 a1 a2 a3 a4 a5 a6 n g0 g1 g2 g3 g4 g5) (g0 := g0) (g1 := g1) (g2 := g2) (g3 := g3) (g4 := g4) (g5 := g5) hn (ext g0 0) (ext g1 0) (ext g2 0) ext3 (ext g4 0) (ext g5 0)
    have t3 : s_law20_borrowed_13 a0 a1 a2 a3 a4 a5 a6 n g0 g1 g2 g3 g4 g5 n = 77 := by
      show (bif (Nat.blt n (0 + n)) then (g3 n) else (77 : Int)) = 77
      rw [blt_false (show 0 + n ≤ n by omega), cond_false]
    have bk : s_law20_back_0 a0 a1 a2 a3 a4 a5 a6 n (0 + n + 1) a0 a1 a2 a3 a4 a5 a6 n g0 g1 g2 g3 g4 g5 (0 + n + 1) (s_law20_borrowed_10 a0 a1 a2 a3 a4 a5 a6 n g0 g1 g2 g3 g4 g5) (s_law20_borrowed_11 a0 a1 a2 a3 a4 a5 a6 n g0 g1 g2 g3 g4 g5) (s_law20_borrowed_12 a0 a1 a2 a3 a4 a5 a6 n g0 g1 g2 g3 g4 g5) (s_law20_borrowed_13 a0 a1 a2 a3 a4 a5 a6 n g0 g1 g2 g3 g4 g5) (s_law20_borrowed_14 a0 a1 a2 a3 a4 a5 a6 n g0 g1 g2 g3 g4 g5) (s_law20_borrowed_15 a0 a1 a2 a3 a4 a5 a6 n g0 g1 g2 g3 g4 g5) = true := by
      unfold s_law20_back_0
      rw [t1, t3, ieq_self]; rfl
    have ob : o_law20_back a0 a1 a2 a3 a4 a5 a6 n (0 + n + 1) a0 a1 a2 a3 a4 a5 a6 n g0 g1 g2 g3 g4 g5 (0 + n + 1) (s_law20_borrowed_10 a0 a1 a2 a3 a4 a5 a6 n g0 g1 g2 g3 g4 g5) (s_law20_borrowed_11 a0 a1 a2 a3 a4 a5 a6 n g0 g1 g2 g3 g4 g5) (s_law20_borrowed_12 a0 a1 a2 a3 a4 a5 a6 n g0 g1 g2 g3 g4 g5) (s_law20_borrowed_13 a0 a1 a2 a3 a4 a5 a6 n g0 g1 g2 g3 g4 g5) (s_law20_borrowed_14 a0 a1 a2 a3 a4 a5 a6 n g0 g1 g2 g3 g4 g5) (s_law20_borrowed_15 a0 a1 a2 a3 a4 a5 a6 n g0 g1 g2 g3 g4 g5) = true := by
      unfold o_law20_back
      rw [succ_i64 (by omega)]
      simp only [toNat_of, ile_ofNat, t1, t2, mrgB_eq]
      rw [ble_true (show n + 1 ≤ 0 + n + 1 by omega), ble_true (show n ≤ 0 + n + 1 by omega), blt_true (show n < 0 + n + 1 by omega), blt_true (show n < n + 1 by omega)]
      rfl
    have aT : (allB fun _ => true) = true := allB_true
    extract_lets x0 x1 x2 x3 x4 x5 x6 x7 x8 x9 x10 x11 x12 x13 x14 x15 x16 x17 x18 x19 x20 x21 x22 x23 x24 x25 x26 x27 x28 x29 x30 x31 x32 x33 x34 x35 x36 x37 x38 x39 x40 x41 x42 x43 x44 x45 x46 x47 x48 x49 x50 x51 x52 x53 x54
    have b1 : Nat.ble x20 x21 = true := ble_true (show s_rows_Keep_7 a0 a1 a2 a3 a4 a5 a6 n (s_law20_borrowed_10 a0 a1 a2 a3 a4 a5 a6 n g0 g1 g2 g3 g4 g5) (s_law20_borrowed_11 a0 a1 a2 a3 a4 a5 a6 n g0 g1 g2 g3 g4 g5) (s_law20_borrowed_12 a0 a1 a2 a3 a4 a5 a6 n g0 g1 g2 g3 g4 g5) (s_law20_borrowed_13 a0 a1 a2 a3 a4 a5 a6 n g0 g1 g2 g3 g4 g5) (s_law20_borrowed_14 a0 a1 a2 a3 a4 a5 a6 n g0 g1 g2 g3 g4 g5) (s_law20_borrowed_15 a0 a1 a2 a3 a4 a5 a6 n g0 g1 g2 g3 g4 g5) (0 + m) r0 r1 r2 r3 r4 r5 r6 r7 r8 r9 r10 r11 r12 r13 ≤ n from k9)
    have b2 : Nat.ble x33 (s_ref20_Keep_10 a0 a1 a2 a3 a4 a5 a6 n g0 g1 g2 g3 g4 g5 m r0 r1 r2 r3 r4 r5 r6 r7 r8 r9 r10 r11 r12 r13) = true := ble_true (show s_ref20_Keep_7 a0 a1 a2 a3 a4 a5 a6 n g0 g1 g2 g3 g4 g5 m r0 r1 r2 r3 r4 r5 r6 r7 r8 r9 r10 r11 r12 r13 ≤ n from k10)
    have b3 : Nat.ble x6 x26 = true := ble_true (show n ≤ 0 + n + 1 by omega)
    have b4 : x25 = true := ble_true (Nat.le_refl (0 + m))
    have b5 : Nat.ble ((0 + m) * 112) 140737488355328 = true := ble_true (by omega)
    have b24 : x24 = true := ble_true (show n ≤ 0 + n + 1 by omega)
    have b6 : (x24 || x24) = true := by rw [b24]; rfl
    have b7 : Nat.ble (0 + n) (0 + n) = true := ble_true (Nat.le_refl _)
    have b8 : Nat.ble (x23 * 48) 140737488355328 = true := ble_true (show (0 + n + 1) * 48 ≤ 140737488355328 by omega)
    have b9 : Nat.ble ((0 + n) * 48) 140737488355328 = true := ble_true (by omega)
    have e22 : x22 = true := eqT_self _
    have eE : E_law20_RowKeeps_L0 x21 x20 (V_law20_RowKeeps_L0.mk (0 : Int) x19 x18 x17 x16 x15 x14) = true := law_loop hn (show s_rows_Keep_7 a0 a1 a2 a3 a4 a5 a6 n (s_law20_borrowed_10 a0 a1 a2 a3 a4 a5 a6 n g0 g1 g2 g3 g4 g5) (s_law20_borrowed_11 a0 a1 a2 a3 a4 a5 a6 n g0 g1 g2 g3 g4 g5) (s_law20_borrowed_12 a0 a1 a2 a3 a4 a5 a6 n g0 g1 g2 g3 g4 g5) (s_law20_borrowed_13 a0 a1 a2 a3 a4 a5 a6 n g0 g1 g2 g3 g4 g5) (s_law20_borrowed_14 a0 a1 a2 a3 a4 a5 a6 n g0 g1 g2 g3 g4 g5) (s_law20_borrowed_15 a0 a1 a2 a3 a4 a5 a6 n g0 g1 g2 g3 g4 g5) (0 + m) r0 r1 r2 r3 r4 r5 r6 r7 r8 r9 r10 r11 r12 r13 ≤ n from k9)
    have e49 : x49 = true := and_of (and_of aT (and_of (and_of aT aT) ob)) (and_of (and_of (and_of (and_of b1 b2) (and_of (and_of aT aT) k2)) (and_of (and_of (and_of aT aT) k8) (and_of (and_of (and_of b3 b4) (and_of (and_of aT aT) k4)) (and_of b5 (and_of aT (and_of b6 (and_of (and_of b7 b8) b9))))))) (and_of (and_of (and_of (and_of (and_of (and_of (and_of (and_of aT aT) aT) (eqT_self _)) aT) aT) e22) e22) eE))
    have e51 : x51 = true := by
      show mrgB x50 ((x25 && (((allB fun _ => true) && (allB fun _ => true)) && (o_ref20_SameRows (0 + m) r0 r1 r2 r3 r4 r5 r6 r7 r8 r9 r10 r11 r12 r13 m r0 r1 r2 r3 r4 r5 r6 r7 r8 r9 r10 r11 r12 r13))) && x49) x49 = true
      rw [e49, b4, u2, aT, mrgB_eq]; exact Bool.cond_self ..
    have e52 : x52 = true := by show mrgB _ x51 x51 = true; rw [mrgB_self, e51]
    have e54 : x54 = true := by show mrgB _ x52 x52 = true; rw [mrgB_self, e52]
    rw [e54, hg, mrgB_self]
    rfl
end Go.Proofs.Ytojahopdcnamjaa
