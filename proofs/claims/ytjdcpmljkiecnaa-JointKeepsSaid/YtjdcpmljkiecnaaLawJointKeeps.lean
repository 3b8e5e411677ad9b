/- JointKeeps: the law. Printed by wip/tool/jointkeeps.py. -/
import Derived.Test.YtjdcpmljkiecnaaLawJointKeepsA
set_option linter.unusedVariables false
set_option linter.unusedSimpArgs false
set_option maxHeartbeats 4000000
namespace Go.Proofs.Ytjdcpmljkiecnaa
open Go.Sim Go.Lst
theorem clip {α : Type} {n : Nat} (g : Nat → α) (d : α) : ∀ i, i < n → (fun (j0 : Nat) => (bif (Nat.blt j0 n) then (g j0) else d)) i = g i := fun i hi => by
  show (bif Nat.blt i n then g i else d) = g i
  rw [blt_true hi]; rfl
theorem good_joint (a0 a1 a2 a3 a4 : Int) (a5 a6 a7 a8 a9 a10 a11 a12 : Nat) (a13 : Bool) (a14 a15 : Nat) (a16 : Bool) (a17 a18 a19 a20 a21 : Nat) (hA : GoodAs ([.i .u8, .i .u32, .i .u32, .i .u32, .i .u32, .f, .f, .f, .f, .f, .f, .f, .f, .b, .f, .f, .b, .f, .f, .f, .f, .f] : List Kd) [AV.int .u8 a0, AV.int .u32 a1, AV.int .u32 a2, AV.int .u32 a3, AV.int .u32 a4, AV.float a5, AV.float a6, AV.float a7, AV.float a8, AV.float a9, AV.float a10, AV.float a11, AV.float a12, AV.bool a13, AV.float a14, AV.float a15, AV.bool a16, AV.float a17, AV.float a18, AV.float a19, AV.float a20, AV.float a21] 0) : CF a5 ∧ CF a6 ∧ CF a7 ∧ CF a8 ∧ CF a9 ∧ CF a10 ∧ CF a11 ∧ CF a12 ∧ CF a14 ∧ CF a15 ∧ CF a17 ∧ CF a18 ∧ CF a19 ∧ CF a20 ∧ CF a21 := by
  obtain ⟨_, _, _, _, _, c5, c6, c7, c8, c9, c10, c11, c12, _, c14, c15, _, c17, c18, c19, c20, c21, _⟩ := hA
  exact ⟨c5, c6, c7, c8, c9, c10, c11, c12, c14, c15, c17, c18, c19, c20, c21⟩
theorem good_rows (n : Nat) (g0 : Nat → Int) (g1 : Nat → Int) (g2 : Nat → Nat) (g3 : Nat → Nat) (g4 : Nat → Nat) (g5 : Nat → Nat) (g6 : Nat → Nat) (g7 : Nat → Nat) (g8 : Nat → Nat) (g9 : Nat → Nat) (g10 : Nat → Nat) (g11 : Nat → Nat) (g12 : Nat → Int) (g13 : Nat → Nat) (hB : GoodA (.sl 112 [.i .i64, .i .i64, .f, .f, .f, .f, .f, .f, .f, .f, .f, .f, .i .i64, .f]) (.view n 14 (fun i => [.int .i64 (g0 i), .int .i64 (g1 i), .float (g2 i), .float (g3 i), .float (g4 i), .float (g5 i), .float (g6 i), .float (g7 i), .float (g8 i), .float (g9 i), .float (g10 i), .float (g11 i), .int .i64 (g12 i), .float (g13 i)]))) : n * 112 ≤ 140737488351232 ∧ ∀ i, i < n → CF (g11 i) := by
  obtain ⟨h1, h2⟩ := hB
  refine ⟨h1, fun i hi => ?_⟩
  obtain ⟨_, _, _, _, _, _, _, _, _, _, _, c, _⟩ := h2 i hi
  exact c
theorem law_JointKeeps (a0 a1 a2 a3 a4 : Int) (a5 a6 a7 a8 a9 a10 a11 a12 : Nat) (a13 : Bool) (a14 a15 : Nat) (a16 : Bool) (a17 a18 a19 a20 a21 : Nat) (n : Nat) (g0 : Nat → Int) (g1 : Nat → Int) (g2 : Nat → Nat) (g3 : Nat → Nat) (g4 : Nat → Nat) (g5 : Nat → Nat) (g6 : Nat → Nat) (g7 : Nat → Nat) (g8 : Nat → Nat) (g9 : Nat → Nat) (g10 : Nat → Nat) (g11 : Nat → Nat) (g12 : Nat → Int) (g13 : Nat → Nat) (hA : GoodAs ([.i .u8, .i .u32, .i .u32, .i .u32, .i .u32, .f, .f, .f, .f, .f, .f, .f, .f, .b, .f, .f, .b, .f, .f, .f, .f, .f] : List Kd) [AV.int .u8 a0, AV.int .u32 a1, AV.int .u32 a2, AV.int .u32 a3, AV.int .u32 a4, AV.float a5, AV.float a6, AV.float a7, AV.float a8, AV.float a9, AV.float a10, AV.float a11, AV.float a12, AV.bool a13, AV.float a14, AV.float a15, AV.bool a16, AV.float a17, AV.float a18, AV.float a19, AV.float a20, AV.float a21] 0) (hB : GoodA (.sl 112 [.i .i64, .i .i64, .f, .f, .f, .f, .f, .f, .f, .f, .f, .f, .i .i64, .f]) (.view n 14 (fun i => [.int .i64 (g0 i), .int .i64 (g1 i), .float (g2 i), .float (g3 i), .float (g4 i), .float (g5 i), .float (g6 i), .float (g7 i), .float (g8 i), .float (g9 i), .float (g10 i), .float (g11 i), .int .i64 (g12 i), .float (g13 i)]))) : T_law19_JointKeeps a0 a1 a2 a3 a4 a5 a6 a7 a8 a9 a10 a11 a12 a13 a14 a15 a16 a17 a18 a19 a20 a21 n g0 g1 g2 g3 g4 g5 g6 g7 g8 g9 g10 g11 g12 g13 = true := by
  obtain ⟨c5, c6, c7, c8, c9, c10, c11, c12, c14, c15, c17, c18, c19, c20, c21⟩ := good_joint a0 a1 a2 a3 a4 a5 a6 a7 a8 a9 a10 a11 a12 a13 a14 a15 a16 a17 a18 a19 a20 a21 hA
  obtain ⟨hb, hg⟩ := good_rows n g0 g1 g2 g3 g4 g5 g6 g7 g8 g9 g10 g11 g12 g13 hB
  unfold T_law19_JointKeeps
  have hp := clip (n := n) g11 0
  rw [keep_0 (g0 := g0) (g1 := g1) (g2 := g2) (g3 := g3) (g4 := g4) (g5 := g5) (g6 := g6) (g7 := g7) (g8 := g8) (g9 := g9) (g10 := g10) (g11 := g11) (g12 := g12) (g13 := g13) c5 c6 c7 c8 c9 c10 c11 c12 c14 c15 c17 c18 c19 c20 c21 hp hg]
  rw [keep_1 (g0 := g0) (g1 := g1) (g2 := g2) (g3 := g3) (g4 := g4) (g5 := g5) (g6 := g6) (g7 := g7) (g8 := g8) (g9 := g9) (g10 := g10) (g11 := g11) (g12 := g12) (g13 := g13) c5 c6 c7 c8 c9 c10 c11 c12 c14 c15 c17 c18 c19 c20 c21 hp hg]
  rw [keep_2 (g0 := g0) (g1 := g1) (g2 := g2) (g3 := g3) (g4 := g4) (g5 := g5) (g6 := g6) (g7 := g7) (g8 := g8) (g9 := g9) (g10 := g10) (g11 := g11) (g12 := g12) (g13 := g13) c5 c6 c7 c8 c9 c10 c11 c12 c14 c15 c17 c18 c19 c20 c21 hp hg]
  rw [keep_3 (g0 := g0) (g1 := g1) (g2 := g2) (g3 := g3) (g4 := g4) (g5 := g5) (g6 := g6) (g7 := g7) (g8 := g8) (g9 := g9) (g10 := g10) (g11 := g11) (g12 := g12) (g13 := g13) c5 c6 c7 c8 c9 c10 c11 c12 c14 c15 c17 c18 c19 c20 c21 hp hg]
  rw [keep_4 (g0 := g0) (g1 := g1) (g2 := g2) (g3 := g3) (g4 := g4) (g5 := g5) (g6 := g6) (g7 := g7) (g8 := g8) (g9 := g9) (g10 := g10) (g11 := g11) (g12 := g12) (g13 := g13) c5 c6 c7 c8 c9 c10 c11 c12 c14 c15 c17 c18 c19 c20 c21 hp hg]
  rw [keep_5 (g0 := g0) (g1 := g1) (g2 := g2) (g3 := g3) (g4 := g4) (g5 := g5) (g6 := g6) (g7 := g7) (g8 := g8) (g9 := g9) (g10 := g10) (g11 := g11) (g12 := g12) (g13 := g13) c5 c6 c7 c8 c9 c10 c11 c12 c14 c15 c17 c18 c19 c20 c21 hp hg]
  rw [keep_6 (g0 := g0) (g1 := g1) (g2 := g2) (g3 := g3) (g4 := g4) (g5 := g5) (g6 := g6) (g7 := g7) (g8 := g8) (g9 := g9) (g10 := g10) (g11 := g11) (g12 := g12) (g13 := g13) c5 c6 c7 c8 c9 c10 c11 c12 c14 c15 c17 c18 c19 c20 c21 hp hg]
  rw [keep_7 (g0 := g0) (g1 := g1) (g2 := g2) (g3 := g3) (g4 := g4) (g5 := g5) (g6 := g6) (g7 := g7) (g8 := g8) (g9 := g9) (g10 := g10) (g11 := g11) (g12 := g12) (g13 := g13) c5 c6 c7 c8 c9 c10 c11 c12 c14 c15 c17 c18 c19 c20 c21 hp hg]
  rw [keep_8 (g0 := g0) (g1 := g1) (g2 := g2) (g3 := g3) (g4 := g4) (g5 := g5) (g6 := g6) (g7 := g7) (g8 := g8) (g9 := g9) (g10 := g10) (g11 := g11) (g12 := g12) (g13 := g13) c5 c6 c7 c8 c9 c10 c11 c12 c14 c15 c17 c18 c19 c20 c21 hp hg]
  rw [keep_9 (g0 := g0) (g1 := g1) (g2 := g2) (g3 := g3) (g4 := g4) (g5 := g5) (g6 := g6) (g7 := g7) (g8 := g8) (g9 := g9) (g10 := g10) (g11 := g11) (g12 := g12) (g13 := g13) c5 c6 c7 c8 c9 c10 c11 c12 c14 c15 c17 c18 c19 c20 c21 hp hg]
  rw [keep_10 (g0 := g0) (g1 := g1) (g2 := g2) (g3 := g3) (g4 := g4) (g5 := g5) (g6 := g6) (g7 := g7) (g8 := g8) (g9 := g9) (g10 := g10) (g11 := g11) (g12 := g12) (g13 := g13) c5 c6 c7 c8 c9 c10 c11 c12 c14 c15 c17 c18 c19 c20 c21 hp hg]
  rw [keep_11 (g0 := g0) (g1 := g1) (g2 := g2) (g3 := g3) (g4 := g4) (g5 := g5) (g6 := g6) (g7 := g7) (g8 := g8) (g9 := g9) (g10 := g10) (g11 := g11) (g12 := g12) (g13 := g13) c5 c6 c7 c8 c9 c10 c11 c12 c14 c15 c17 c18 c19 c20 c21 hp hg]
  rw [keep_12 (g0 := g0) (g1 := g1) (g2 := g2) (g3 := g3) (g4 := g4) (g5 := g5) (g6 := g6) (g7 := g7) (g8 := g8) (g9 := g9) (g10 := g10) (g11 := g11) (g12 := g12) (g13 := g13) c5 c6 c7 c8 c9 c10 c11 c12 c14 c15 c17 c18 c19 c20 c21 hp hg]
  rw [keep_13 (g0 := g0) (g1 := g1) (g2 := g2) (g3 := g3) (g4 := g4) (g5 := g5) (g6 := g6) (g7 := g7) (g8 := g8) (g9 := g9) (g10 := g10) (g11 := g11) (g12 := g12) (g13 := g13) c5 c6 c7 c8 c9 c10 c11 c12 c14 c15 c17 c18 c19 c20 c21 hp hg]
  rw [keep_14 (g0 := g0) (g1 := g1) (g2 := g2) (g3 := g3) (g4 := g4) (g5 := g5) (g6 := g6) (g7 := g7) (g8 := g8) (g9 := g9) (g10 := g10) (g11 := g11) (g12 := g12) (g13 := g13) c5 c6 c7 c8 c9 c10 c11 c12 c14 c15 c17 c18 c19 c20 c21 hp hg]
  rw [keep_15 (g0 := g0) (g1 := g1) (g2 := g2) (g3 := g3) (g4 := g4) (g5 := g5) (g6 := g6) (g7 := g7) (g8 := g8) (g9 := g9) (g10 := g10) (g11 := g11) (g12 := g12) (g13 := g13) c5 c6 c7 c8 c9 c10 c11 c12 c14 c15 c17 c18 c19 c20 c21 hp hg]
  rw [keep_16 (g0 := g0) (g1 := g1) (g2 := g2) (g3 := g3) (g4 := g4) (g5 := g5) (g6 := g6) (g7 := g7) (g8 := g8) (g9 := g9) (g10 := g10) (g11 := g11) (g12 := g12) (g13 := g13) c5 c6 c7 c8 c9 c10 c11 c12 c14 c15 c17 c18 c19 c20 c21 hp hg]
  rw [keep_17 (g0 := g0) (g1 := g1) (g2 := g2) (g3 := g3) (g4 := g4) (g5 := g5) (g6 := g6) (g7 := g7) (g8 := g8) (g9 := g9) (g10 := g10) (g11 := g11) (g12 := g12) (g13 := g13) c5 c6 c7 c8 c9 c10 c11 c12 c14 c15 c17 c18 c19 c20 c21 hp hg]
  rw [keep_18 (g0 := g0) (g1 := g1) (g2 := g2) (g3 := g3) (g4 := g4) (g5 := g5) (g6 := g6) (g7 := g7) (g8 := g8) (g9 := g9) (g10 := g10) (g11 := g11) (g12 := g12) (g13 := g13) c5 c6 c7 c8 c9 c10 c11 c12 c14 c15 c17 c18 c19 c20 c21 hp hg]
  rw [keep_19 (g0 := g0) (g1 := g1) (g2 := g2) (g3 := g3) (g4 := g4) (g5 := g5) (g6 := g6) (g7 := g7) (g8 := g8) (g9 := g9) (g10 := g10) (g11 := g11) (g12 := g12) (g13 := g13) c5 c6 c7 c8 c9 c10 c11 c12 c14 c15 c17 c18 c19 c20 c21 hp hg]
  rw [keep_20 (g0 := g0) (g1 := g1) (g2 := g2) (g3 := g3) (g4 := g4) (g5 := g5) (g6 := g6) (g7 := g7) (g8 := g8) (g9 := g9) (g10 := g10) (g11 := g11) (g12 := g12) (g13 := g13) c5 c6 c7 c8 c9 c10 c11 c12 c14 c15 c17 c18 c19 c20 c21 hp hg]
  rw [keep_21 (g0 := g0) (g1 := g1) (g2 := g2) (g3 := g3) (g4 := g4) (g5 := g5) (g6 := g6) (g7 := g7) (g8 := g8) (g9 := g9) (g10 := g10) (g11 := g11) (g12 := g12) (g13 := g13) c5 c6 c7 c8 c9 c10 c11 c12 c14 c15 c17 c18 c19 c20 c21 hp hg]
  rw [keep_22 (g0 := g0) (g1 := g1) (g2 := g2) (g3 := g3) (g4 := g4) (g5 := g5) (g6 := g6) (g7 := g7) (g8 := g8) (g9 := g9) (g10 := g10) (g11 := g11) (g12 := g12) (g13 := g13) c5 c6 c7 c8 c9 c10 c11 c12 c14 c15 c17 c18 c19 c20 c21 hp hg]
  rw [ieq_self, (same_all _ _ _ _ _ _ _ _ _ _ _ _ _ _ _ _ _ _ _ _ _ _).1, (samerows _ _ _ _ _ _ _ _ _ _ _ _ _ _ _ _ _ _ _ _ _ _ _ _ _ _ _ _ (n := n) (by omega) (clip g0 _) (clip g1 _) (clip g2 _) (clip g3 _) (clip g4 _) (clip g5 _) (clip g6 _) (clip g7 _) (clip g8 _) (clip g9 _) (clip g10 _) (clip g11 _) (clip g12 _) (clip g13 _)).1, blt_false (Nat.le_refl n)]
  simp only [cond_false, ieq_self, Bool.and_self, Bool.or_true]
theorem check_ob (a0 a1 a2 a3 a4 : Int) (a5 a6 a7 a8 a9 a10 a11 a12 : Nat) (a13 : Bool) (a14 a15 : Nat) (a16 : Bool) (a17 a18 a19 a20 a21 : Nat) : o_joint_Check a0 a1 a2 a3 a4 a5 a6 a7 a8 a9 a10 a11 a12 a13 a14 a15 a16 a17 a18 a19 a20 a21 = true := by
  unfold o_joint_Check
  simp only [(reals_eq (n := 12) (by omega) _).2, (reals_eq (n := 3) (by omega) _).2, mrgB_self, Bool.and_self, allB_true]
theorem keepj_ob (a0 a1 a2 a3 a4 : Int) (a5 a6 a7 a8 a9 a10 a11 a12 : Nat) (a13 : Bool) (a14 a15 : Nat) (a16 : Bool) (a17 a18 a19 a20 a21 : Nat) {n : Nat} (p0 : Nat → Int) (p1 : Nat → Int) (p2 : Nat → Nat) (p3 : Nat → Nat) (p4 : Nat → Nat) (p5 : Nat → Nat) (p6 : Nat → Nat) (p7 : Nat → Nat) (p8 : Nat → Nat) (p9 : Nat → Nat) (p10 : Nat → Nat) (p11 : Nat → Nat) (p12 : Nat → Int) (p13 : Nat → Nat) : o_joint_Keep a0 a1 a2 a3 a4 a5 a6 a7 a8 a9 a10 a11 a12 a13 a14 a15 a16 a17 a18 a19 a20 a21 n p0 p1 p2 p3 p4 p5 p6 p7 p8 p9 p10 p11 p12 p13 = true := by
  unfold o_joint_Keep
  simp only [check_ob, o_bits]
  rcases Nat.lt_or_ge 3 n with h | h
  · rw [ilt_true (by simp; omega)]
    simp only [mrgB_eq, cond_true, Bool.cond_self]
  · rw [(joint_Keep_loop h _).1]
    simp only [mrgB_self, Bool.and_self]
theorem keepr_ob (a0 a1 a2 a3 a4 : Int) (a5 a6 a7 a8 a9 a10 a11 a12 : Nat) (a13 : Bool) (a14 a15 : Nat) (a16 : Bool) (a17 a18 a19 a20 a21 : Nat) {n : Nat} (g0 : Nat → Int) (g1 : Nat → Int) (g2 : Nat → Nat) (g3 : Nat → Nat) (g4 : Nat → Nat) (g5 : Nat → Nat) (g6 : Nat → Nat) (g7 : Nat → Nat) (g8 : Nat → Nat) (g9 : Nat → Nat) (g10 : Nat → Nat) (g11 : Nat → Nat) (g12 : Nat → Int) (g13 : Nat → Nat) : o_ref19_Keep a0 a1 a2 a3 a4 a5 a6 a7 a8 a9 a10 a11 a12 a13 a14 a15 a16 a17 a18 a19 a20 a21 n g0 g1 g2 g3 g4 g5 g6 g7 g8 g9 g10 g11 g12 g13 = true := by
  unfold o_ref19_Keep
  simp only []
  generalize s_ref19_Check_0 a0 a1 a2 a3 a4 a5 a6 a7 a8 a9 a10 a11 a12 a13 a14 a15 a16 a17 a18 a19 a20 a21 = C
  rcases Nat.lt_or_ge 3 n with h | h
  · rw [ilt_true (by simp; omega)]
    by_cases hC : C = 0
    · subst hC; rw [mrgB_eq]; rfl
    · rw [ieq_false hC]; simp only [Bool.false_and, cond_false, ieq_false hC, mrgB_eq, Bool.not_false, cond_true]
  · rw [(ref19_Keep_loop h _).1, mrgB_self]
theorem ob_law_JointKeeps (a0 a1 a2 a3 a4 : Int) (a5 a6 a7 a8 a9 a10 a11 a12 : Nat) (a13 : Bool) (a14 a15 : Nat) (a16 : Bool) (a17 a18 a19 a20 a21 : Nat) (n : Nat) (g0 : Nat → Int) (g1 : Nat → Int) (g2 : Nat → Nat) (g3 : Nat → Nat) (g4 : Nat → Nat) (g5 : Nat → Nat) (g6 : Nat → Nat) (g7 : Nat → Nat) (g8 : Nat → Nat) (g9 : Nat → Nat) (g10 : Nat → Nat) (g11 : Nat → Nat) (g12 : Nat → Int) (g13 : Nat → Nat) (hA : GoodAs ([.i .u8, .i .u32, .i .u32, .i .u32, .i .u32, .f, .f, .f, .f, .f, .f, .f, .f, .b, .f, .f, .b, .f, .f, .f, .f, .f] : List Kd) [AV.int .u8 a0, AV.int .u32 a1, AV.int .u32 a2, AV.int .u32 a3, AV.int .u32 a4, AV.float a5, AV.float a6, AV.float a7, AV.float a8, AV.float a9, AV.float a10, AV.float a11, AV.float a12, AV.bool a13, AV.float a14, AV.float a15, AV.bool a16, AV.float a17, AV.float a18, AV.float a19, AV.float a20, AV.float a21] 0) (hB : GoodA (.sl 112 [.i .i64, .i .i64, .f, .f, .f, .f, .f, .f, .f, .f, .f, .f, .i .i64, .f]) (.view n 14 (fun i => [.int .i64 (g0 i), .int .i64 (g1 i), .float (g2 i), .float (g3 i), .float (g4 i), .float (g5 i), .float (g6 i), .float (g7 i), .float (g8 i), .float (g9 i), .float (g10 i), .float (g11 i), .int .i64 (g12 i), .float (g13 i)]))) : O_law19_JointKeeps a0 a1 a2 a3 a4 a5 a6 a7 a8 a9 a10 a11 a12 a13 a14 a15 a16 a17 a18 a19 a20 a21 n g0 g1 g2 g3 g4 g5 g6 g7 g8 g9 g10 g11 g12 g13 = true := by
  obtain ⟨c5, c6, c7, c8, c9, c10, c11, c12, c14, c15, c17, c18, c19, c20, c21⟩ := good_joint a0 a1 a2 a3 a4 a5 a6 a7 a8 a9 a10 a11 a12 a13 a14 a15 a16 a17 a18 a19 a20 a21 hA
  obtain ⟨hb, hg⟩ := good_rows n g0 g1 g2 g3 g4 g5 g6 g7 g8 g9 g10 g11 g12 g13 hB
  unfold O_law19_JointKeeps
  have hp := clip (n := n) g11 0
  simp only []
  rw [keep_0 (g0 := g0) (g1 := g1) (g2 := g2) (g3 := g3) (g4 := g4) (g5 := g5) (g6 := g6) (g7 := g7) (g8 := g8) (g9 := g9) (g10 := g10) (g11 := g11) (g12 := g12) (g13 := g13) c5 c6 c7 c8 c9 c10 c11 c12 c14 c15 c17 c18 c19 c20 c21 hp hg]
  rw [keep_1 (g0 := g0) (g1 := g1) (g2 := g2) (g3 := g3) (g4 := g4) (g5 := g5) (g6 := g6) (g7 := g7) (g8 := g8) (g9 := g9) (g10 := g10) (g11 := g11) (g12 := g12) (g13 := g13) c5 c6 c7 c8 c9 c10 c11 c12 c14 c15 c17 c18 c19 c20 c21 hp hg]
  rw [keep_2 (g0 := g0) (g1 := g1) (g2 := g2) (g3 := g3) (g4 := g4) (g5 := g5) (g6 := g6) (g7 := g7) (g8 := g8) (g9 := g9) (g10 := g10) (g11 := g11) (g12 := g12) (g13 := g13) c5 c6 c7 c8 c9 c10 c11 c12 c14 c15 c17 c18 c19 c20 c21 hp hg]
  rw [keep_3 (g0 := g0) (g1 := g1) (g2 := g2) (g3 := g3) (g4 := g4) (g5 := g5) (g6 := g6) (g7 := g7) (g8 := g8) (g9 := g9) (g10 := g10) (g11 := g11) (g12 := g12) (g13 := g13) c5 c6 c7 c8 c9 c10 c11 c12 c14 c15 c17 c18 c19 c20 c21 hp hg]
  rw [keep_4 (g0 := g0) (g1 := g1) (g2 := g2) (g3 := g3) (g4 := g4) (g5 := g5) (g6 := g6) (g7 := g7) (g8 := g8) (g9 := g9) (g10 := g10) (g11 := g11) (g12 := g12) (g13 := g13) c5 c6 c7 c8 c9 c10 c11 c12 c14 c15 c17 c18 c19 c20 c21 hp hg]
  rw [keep_5 (g0 := g0) (g1 := g1) (g2 := g2) (g3 := g3) (g4 := g4) (g5 := g5) (g6 := g6) (g7 := g7) (g8 := g8) (g9 := g9) (g10 := g10) (g11 := g11) (g12 := g12) (g13 := g13) c5 c6 c7 c8 c9 c10 c11 c12 c14 c15 c17 c18 c19 c20 c21 hp hg]
  rw [keep_6 (g0 := g0) (g1 := g1) (g2 := g2) (g3 := g3) (g4 := g4) (g5 := g5) (g6 := g6) (g7 := g7) (g8 := g8) (g9 := g9) (g10 := g10) (g11 := g11) (g12 := g12) (g13 := g13) c5 c6 c7 c8 c9 c10 c11 c12 c14 c15 c17 c18 c19 c20 c21 hp hg]
  rw [keep_7 (g0 := g0) (g1 := g1) (g2 := g2) (g3 := g3) (g4 := g4) (g5 := g5) (g6 := g6) (g7 := g7) (g8 := g8) (g9 := g9) (g10 := g10) (g11 := g11) (g12 := g12) (g13 := g13) c5 c6 c7 c8 c9 c10 c11 c12 c14 c15 c17 c18 c19 c20 c21 hp hg]
  rw [keep_8 (g0 := g0) (g1 := g1) (g2 := g2) (g3 := g3) (g4 := g4) (g5 := g5) (g6 := g6) (g7 := g7) (g8 := g8) (g9 := g9) (g10 := g10) (g11 := g11) (g12 := g12) (g13 := g13) c5 c6 c7 c8 c9 c10 c11 c12 c14 c15 c17 c18 c19 c20 c21 hp hg]
  rw [keep_9 (g0 := g0) (g1 := g1) (g2 := g2) (g3 := g3) (g4 := g4) (g5 := g5) (g6 := g6) (g7 := g7) (g8 := g8) (g9 := g9) (g10 := g10) (g11 := g11) (g12 := g12) (g13 := g13) c5 c6 c7 c8 c9 c10 c11 c12 c14 c15 c17 c18 c19 c20 c21 hp hg]
  rw [keep_10 (g0 := g0) (g1 := g1) (g2 := g2) (g3 := g3) (g4 := g4) (g5 := g5) (g6 := g6) (g7 := g7) (g8 := g8) (g9 := g9) (g10 := g10) (g11 := g11) (g12 := g12) (g13 := g13) c5 c6 c7 c8 c9 c10 c11 c12 c14 c15 c17 c18 c19 c20 c21 hp hg]
  rw [keep_11 (g0 := g0) (g1 := g1) (g2 := g2) (g3 := g3) (g4 := g4) (g5 := g5) (g6 := g6) (g7 := g7) (g8 := g8) (g9 := g9) (g10 := g10) (g11 := g11) (g12 := g12) (g13 := g13) c5 c6 c7 c8 c9 c10 c11 c12 c14 c15 c17 c18 c19 c20 c21 hp hg]
  rw [keep_12 (g0 := g0) (g1 := g1) (g2 := g2) (g3 := g3) (g4 := g4) (g5 := g5) (g6 := g6) (g7 := g7) (g8 := g8) (g9 := g9) (g10 := g10) (g11 := g11) (g12 := g12) (g13 := g13) c5 c6 c7 c8 c9 c10 c11 c12 c14 c15 c17 c18 c19 c20 c21 hp hg]
  rw [keep_13 (g0 := g0) (g1 := g1) (g2 := g2) (g3 := g3) (g4 := g4) (g5 := g5) (g6 := g6) (g7 := g7) (g8 := g8) (g9 := g9) (g10 := g10) (g11 := g11) (g12 := g12) (g13 := g13) c5 c6 c7 c8 c9 c10 c11 c12 c14 c15 c17 c18 c19 c20 c21 hp hg]
  rw [keep_14 (g0 := g0) (g1 := g1) (g2 := g2) (g3 := g3) (g4 := g4) (g5 := g5) (g6 := g6) (g7 := g7) (g8 := g8) (g9 := g9) (g10 := g10) (g11 := g11) (g12 := g12) (g13 := g13) c5 c6 c7 c8 c9 c10 c11 c12 c14 c15 c17 c18 c19 c20 c21 hp hg]
  rw [keep_15 (g0 := g0) (g1 := g1) (g2 := g2) (g3 := g3) (g4 := g4) (g5 := g5) (g6 := g6) (g7 := g7) (g8 := g8) (g9 := g9) (g10 := g10) (g11 := g11) (g12 := g12) (g13 := g13) c5 c6 c7 c8 c9 c10 c11 c12 c14 c15 c17 c18 c19 c20 c21 hp hg]
  rw [keep_16 (g0 := g0) (g1 := g1) (g2 := g2) (g3 := g3) (g4 := g4) (g5 := g5) (g6 := g6) (g7 := g7) (g8 := g8) (g9 := g9) (g10 := g10) (g11 := g11) (g12 := g12) (g13 := g13) c5 c6 c7 c8 c9 c10 c11 c12 c14 c15 c17 c18 c19 c20 c21 hp hg]
  rw [keep_17 (g0 := g0) (g1 := g1) (g2 := g2) (g3 := g3) (g4 := g4) (g5 := g5) (g6 := g6) (g7 := g7) (g8 := g8) (g9 := g9) (g10 := g10) (g11 := g11) (g12 := g12) (g13 := g13) c5 c6 c7 c8 c9 c10 c11 c12 c14 c15 c17 c18 c19 c20 c21 hp hg]
  rw [keep_18 (g0 := g0) (g1 := g1) (g2 := g2) (g3 := g3) (g4 := g4) (g5 := g5) (g6 := g6) (g7 := g7) (g8 := g8) (g9 := g9) (g10 := g10) (g11 := g11) (g12 := g12) (g13 := g13) c5 c6 c7 c8 c9 c10 c11 c12 c14 c15 c17 c18 c19 c20 c21 hp hg]
  rw [keep_19 (g0 := g0) (g1 := g1) (g2 := g2) (g3 := g3) (g4 := g4) (g5 := g5) (g6 := g6) (g7 := g7) (g8 := g8) (g9 := g9) (g10 := g10) (g11 := g11) (g12 := g12) (g13 := g13) c5 c6 c7 c8 c9 c10 c11 c12 c14 c15 c17 c18 c19 c20 c21 hp hg]
  rw [keep_20 (g0 := g0) (g1 := g1) (g2 := g2) (g3 := g3) (g4 := g4) (g5 := g5) (g6 := g6) (g7 := g7) (g8 := g8) (g9 := g9) (g10 := g10) (g11 := g11) (g12 := g12) (g13 := g13) c5 c6 c7 c8 c9 c10 c11 c12 c14 c15 c17 c18 c19 c20 c21 hp hg]
  rw [keep_21 (g0 := g0) (g1 := g1) (g2 := g2) (g3 := g3) (g4 := g4) (g5 := g5) (g6 := g6) (g7 := g7) (g8 := g8) (g9 := g9) (g10 := g10) (g11 := g11) (g12 := g12) (g13 := g13) c5 c6 c7 c8 c9 c10 c11 c12 c14 c15 c17 c18 c19 c20 c21 hp hg]
  rw [keep_22 (g0 := g0) (g1 := g1) (g2 := g2) (g3 := g3) (g4 := g4) (g5 := g5) (g6 := g6) (g7 := g7) (g8 := g8) (g9 := g9) (g10 := g10) (g11 := g11) (g12 := g12) (g13 := g13) c5 c6 c7 c8 c9 c10 c11 c12 c14 c15 c17 c18 c19 c20 c21 hp hg]
  simp only [keepj_ob, keepr_ob, (same_all _ _ _ _ _ _ _ _ _ _ _ _ _ _ _ _ _ _ _ _ _ _).2, (samerows _ _ _ _ _ _ _ _ _ _ _ _ _ _ _ _ _ _ _ _ _ _ _ _ _ _ _ _ (n := n) (by omega) (clip g0 _) (clip g1 _) (clip g2 _) (clip g3 _) (clip g4 _) (clip g5 _) (clip g6 _) (clip g7 _) (clip g8 _) (clip g9 _) (clip g10 _) (clip g11 _) (clip g12 _) (clip g13 _)).2,
    ble_true (show n ≤ n + 1 by omega), ble_true (Nat.le_refl n), ble_true (show (n + 1) * 112 ≤ 140737488355328 by omega), ble_true (show n * 112 ≤ 140737488355328 by omega), blt_true (show n < n + 1 by omega), allB_true, mrgB_self, Bool.and_self, Bool.or_self]
end Go.Proofs.Ytjdcpmljkiecnaa
