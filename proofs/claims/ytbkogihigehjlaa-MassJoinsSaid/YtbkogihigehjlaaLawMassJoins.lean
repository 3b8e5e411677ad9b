/- Any list of masses: the program weighs them together as the document says, and leaves the list as it was. -/
import Derived.Test.YtbkogihigehjlaaLawMassJoinsA
set_option linter.unusedVariables false
set_option linter.unusedSimpArgs false
namespace Go.Proofs.Ytbkogihigehjlaa
open Go.Sim Go.Lst
theorem same_of {a b c d a' b' c' d' : Nat} (h1 : a = a') (h2 : b = b') (h3 : c = c') (h4 : d = d') : s_ref08_Same_0 a b c d a' b' c' d' = true := by
  subst h1 h2 h3 h4
  unfold s_ref08_Same_0 s_ref02_Same_0
  rw [is_same, is_same, is_same, is_same]; rfl
theorem law_loop {n m : Nat} {e0 e1 e2 e3 g0 g1 g2 g3 : Nat → Nat} (h3 : n ≤ 300) (hm : n ≤ m) (q0 : ∀ i, i < n → e0 i = g0 i) (q1 : ∀ i, i < n → e1 i = g1 i) (q2 : ∀ i, i < n → e2 i = g2 i) (q3 : ∀ i, i < n → e3 i = g3 i) :
    E_law08_MassJoins_L0 n g0 g1 g2 g3 m e0 e1 e2 e3 (V_law08_MassJoins_L0.mk (0 : Int)) = true ∧ (L_law08_MassJoins_L0 n g0 g1 g2 g3 m e0 e1 e2 e3 (V_law08_MassJoins_L0.mk (0 : Int))).v0 = Int.ofNat n := by
  have hr := run_to (ok := ok_law08_MassJoins_L0 n g0 g1 g2 g3 m e0 e1 e2 e3) (go := go_law08_MassJoins_L0 n g0 g1 g2 g3 m e0 e1 e2 e3) (step := step_law08_MassJoins_L0 n g0 g1 g2 g3 m e0 e1 e2 e3)
    (fun k => V_law08_MassJoins_L0.mk (Int.ofNat k)) n (fun k hk => by
      unfold ok_law08_MassJoins_L0
      simp only [toNat_of]
      rw [ilt_ofNat, ile_ofNat]
      by_cases h : k < n
      · rw [blt_true h, blt_true (show k < m by omega)]; simp [h, mrgB]
      · simp [h, mrgB]) (fun k hk => by
      unfold go_law08_MassJoins_L0
      simp only [toNat_of]
      rw [ilt_ofNat, same_of (q0 k hk) (q1 k hk) (q2 k hk) (q3 k hk)]
      simp [hk]) (fun k hk => by
      unfold step_law08_MassJoins_L0
      simp only [toNat_of]
      rw [succ_i64 (by omega)]) (by
      unfold go_law08_MassJoins_L0
      simp only [toNat_of]
      rw [ilt_ofNat]
      simp)
  exact ⟨hr.1, congrArg V_law08_MassJoins_L0.v0 hr.2⟩
theorem good_list {n : Nat} {g0 g1 g2 g3 : Nat → Nat} (hgood : GoodA (.sl 32 [.f, .f, .f, .f]) (.view n 4 (fun i => [.float (g0 i), .float (g1 i), .float (g2 i), .float (g3 i)]))) : n * 32 ≤ 140737488351232 ∧ (∀ i, i < n → CF (g2 i)) ∧ (∀ i, i < n → CF (g3 i)) := by
  obtain ⟨h1, h2⟩ := hgood
  exact ⟨h1, fun i hi => (h2 i hi).2.2.1, fun i hi => (h2 i hi).2.2.2.1⟩
/-- The list with two more behind it is the list where the list is. -/
theorem ext_at {n : Nat} (g : Nat → Nat) (u v : Nat) : ∀ i, i < n → (fun (j0 : Nat) => (bif (Nat.blt j0 (0 + n)) then (g j0) else (bif (Nat.beq (j0 - (0 + n)) 0) then u else v))) i = g i := fun i hi => by
  simp only [Nat.zero_add, blt_true hi, cond_true]
theorem law_MassJoins (n : Nat) (g0 g1 g2 g3 : Nat → Nat) (hgood : GoodA (.sl 32 [.f, .f, .f, .f]) (.view n 4 (fun i => [.float (g0 i), .float (g1 i), .float (g2 i), .float (g3 i)]))) : T_law08_MassJoins n g0 g1 g2 g3 = true := by
  obtain ⟨hb, c2, c3⟩ := good_list hgood
  have hal : s_law08_alive_0 = true := rfl
  unfold T_law08_MassJoins
  by_cases h300 : 300 < n
  · have : ilt (300 : Int) (Int.ofNat n) = true := ilt_true (by simp only [Int.ofNat_eq_natCast]; omega)
    rw [hal, this]; rfl
  · have h3 : n ≤ 300 := by omega
    have hi : ilt (300 : Int) (Int.ofNat n) = false := ilt_false (by simp only [Int.ofNat_eq_natCast]; omega)
    obtain ⟨⟨j0, j1, j2, j3, j4⟩, _, _⟩ := join_same h3 (ext_at g0 4635118810238550016 4635189178982727680) (ext_at g1 0 0) (ext_at g2 0 0) (ext_at g3 0 0) c2 c3
    obtain ⟨_, l1⟩ := law_loop (m := 0 + n + 2) h3 (by omega) (ext_at g0 4635118810238550016 4635189178982727680) (ext_at g1 0 0) (ext_at g2 0 0) (ext_at g3 0 0)
    extract_lets x0 x1 x2 x3 x4 x5 x6 x7 x8 x9
    have e1 : x1 = Int.ofNat n := l1
    have e0 : x0 = n + 1 := by
      show Int.toNat _ = _
      rw [succ_i64 (by omega)]; rfl
    clear_value x2 x3 x4 x5 x6 x7 x8 x9
    rw [hal, hi, j0, j1, j2, j3, j4, same_of rfl rfl rfl rfl, ieq_self, e1, e0, ilt_ofNat]
    have hlt : decide (n < n) = false := by simp
    rw [hlt, blt_false (show 0 + n ≤ n by omega), blt_false (show 0 + n ≤ n + 1 by omega), show n - (0 + n) = 0 by omega, show n + 1 - (0 + n) = 1 by omega]
    simp only [Bool.not_true, Bool.not_false, cond_true, cond_false]
    decide
theorem ob_law_MassJoins (n : Nat) (g0 g1 g2 g3 : Nat → Nat) (hgood : GoodA (.sl 32 [.f, .f, .f, .f]) (.view n 4 (fun i => [.float (g0 i), .float (g1 i), .float (g2 i), .float (g3 i)]))) : O_law08_MassJoins n g0 g1 g2 g3 = true := by
  obtain ⟨hb, c2, c3⟩ := good_list hgood
  unfold O_law08_MassJoins
  by_cases h300 : 300 < n
  · have : ilt (300 : Int) (Int.ofNat n) = true := ilt_true (by simp only [Int.ofNat_eq_natCast]; omega)
    have hal : s_law08_alive_0 = true := rfl
    rw [hal, this]; simp only [mrgB_eq]; rfl
  · have h3 : n ≤ 300 := by omega
    obtain ⟨⟨j0, j1, j2, j3, j4⟩, o1, o2⟩ := join_same h3 (ext_at g0 4635118810238550016 4635189178982727680) (ext_at g1 0 0) (ext_at g2 0 0) (ext_at g3 0 0) c2 c3
    obtain ⟨o3, l1⟩ := law_loop (m := 0 + n + 2) h3 (by omega) (ext_at g0 4635118810238550016 4635189178982727680) (ext_at g1 0 0) (ext_at g2 0 0) (ext_at g3 0 0)
    extract_lets x0 x1 x2 x3 x4 x5 x6 x7 x8 x9 x10 x11 x12 x13 x14 x15 x16 x17 x18 x19 x20
    have e1 : x1 = true := eqT_self _
    have e2 : x2 = true := ble_true (show n ≤ 0 + n + 2 by omega)
    have e3 : x3 = true := by
      show ((((allB fun _ => true) && (o_ref08_Join n g0 g1 g2 g3)) && ((x2 && ((allB fun _ => true) && (o_mass_Join n _ _ _ _))) && ((x2 || x2) && (((Nat.ble (0 + n) (0 + n)) && (Nat.ble (x0 * 32) 140737488355328)) && (Nat.ble ((0 + n) * 32) 140737488355328))))) && (((((allB fun _ => true) && (allB fun _ => true)) && x1) && x1) && (E_law08_MassJoins_L0 n g0 g1 g2 g3 x0 _ _ _ _ _))) = true
      rw [o1, o2, o3, e1, e2, allB_true, ble_true (show x0 * 32 ≤ 140737488355328 by show (0 + n + 2) * 32 ≤ _; omega), ble_true (show (0 + n) * 32 ≤ 140737488355328 by omega), ble_true (Nat.le_refl (0 + n))]
      rfl
    have e4 : x4 = true := by show mrgB _ x3 x3 = true; rw [mrgB_self, e3]
    have e6 : x6 = true := by show mrgB _ x4 x4 = true; rw [mrgB_self, e4]
    have e7 : x7 = true := blt_true (show n < 0 + n + 2 by omega)
    have e9 : x9 = true := by show mrgB x8 (x7 && (x7 && x6)) x6 = true; rw [e6, e7, mrgB_eq]; cases x8 <;> rfl
    have e10 : x10 = Int.ofNat (n + 1) := succ_i64 (by omega)
    have e11 : x11 = true := by show Nat.blt (Int.toNat x10) x0 = true; rw [e10]; exact blt_true (show n + 1 < 0 + n + 2 by omega)
    rw [e3, e9, e10, e11, ile_ofNat]
    clear_value x8 x12 x13 x14 x15 x16 x17 x18 x19 x20
    simp [mrgB_eq]
end Go.Proofs.Ytbkogihigehjlaa
