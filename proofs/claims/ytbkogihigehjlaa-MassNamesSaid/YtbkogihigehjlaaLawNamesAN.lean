/- Many masses: the sums and the loop of Join. -/
import Derived.Test.YtbkogihigehjlaaLawLBaseTN
set_option linter.unusedVariables false
set_option linter.unusedSimpArgs false
set_option maxHeartbeats 4000000
namespace Go.Proofs.Ytbkogihigehjlaa
open Go.Sim Go.Lst
def sumF (F : Nat → Nat) : Nat → Nat
  | 0 => F 0
  | k + 1 => fadd (sumF F k) (F (k + 1))
theorem sumF_congr {F G : Nat → Nat} : ∀ k, (∀ j, j ≤ k → F j = G j) → sumF F k = sumF G k
  | 0, h => h 0 (Nat.le_refl _)
  | k + 1, h => by simp only [sumF]; rw [sumF_congr k fun j hj => h j (by omega), h (k + 1) (Nat.le_refl _)]
theorem ok_at {k n : Nat} : mrgB (!(ilt (Int.ofNat k) (Int.ofNat n))) true ((ile (0 : Int) (Int.ofNat k)) && (Nat.blt k n)) = true := by
  rw [mrgB_eq, ilt_ofNat, ile_ofNat]
  by_cases h : k < n
  · rw [blt_true h]; simp
  · simp [h]
theorem go_at {k n : Nat} : (bif (!(ilt (Int.ofNat k) (Int.ofNat n))) then false else true) = decide (k < n) := by
  rw [ilt_ofNat]; cases decide (k < n) <;> rfl
theorem num_sum {n : Nat} {c : Nat → Nat} (hn : 0 < n) (h3 : n ≤ 16384) : s_num_Sum_0 n c = sumF c (n - 1) ∧ o_num_Sum n c = true := by
  have hr := run_to (ok := ok_num_Sum_L0 (n - 1) (fun j0 => c (1 + j0)) (Int.ofNat (n - 1))) (go := go_num_Sum_L0 (n - 1) (fun j0 => c (1 + j0)) (Int.ofNat (n - 1))) (step := step_num_Sum_L0 (n - 1) (fun j0 => c (1 + j0)) (Int.ofNat (n - 1)))
    (fun k => V_num_Sum_L0.mk (sumF c k) (Int.ofNat k)) (n - 1) (fun k _ => ok_at) (fun k hk => go_at.trans (by simpa using hk)) (fun k hk => by
      unfold step_num_Sum_L0
      simp only [toNat_of]
      rw [succ_i64 (by omega), Nat.add_comm 1 k]; rfl) (go_at.trans (by simp))
  have hz : ieq (Int.ofNat n) 0 = false := ieq_false (by simp; omega)
  unfold s_num_Sum_0 o_num_Sum
  rw [hz, cond_false]
  constructor
  · exact congrArg V_num_Sum_L0.v0 hr.2
  · rw [mrgB_eq, cond_false]
    show (((_ && _) && _) && endsL _ _ _ _) = true
    rw [ble_true (show 1 ≤ n by omega), ble_true (Nat.le_refl n), blt_true hn]
    exact hr.1
theorem sum_v0 {n : Nat} {e0 e1 e2 e3 : Nat → Nat} (hn : 0 < n) (h3 : n ≤ 16384) : s_mass_sum_0 n e0 e1 e2 e3 = sumF (fun j => s_mass_Join_1_0 (e0 j) (e1 j) (e2 j) (e3 j)) (n - 1) ∧ o_mass_sum n e0 e1 e2 e3 = true := by
  have hr := run_to (ok := ok_mass_sum_L0 n e0 e1 e2 e3 (Int.ofNat n)) (go := go_mass_sum_L0 n e0 e1 e2 e3 (Int.ofNat n)) (step := step_mass_sum_L0 n e0 e1 e2 e3 (Int.ofNat n))
    (fun k => V_mass_sum_L0.mk (Int.ofNat k) (fun j => bif Nat.blt j k then (fun j => s_mass_Join_1_0 (e0 j) (e1 j) (e2 j) (e3 j)) j else 0)) n (fun k _ => by
      unfold ok_mass_sum_L0
      simp only [toNat_of]
      rw [mrgB_eq, ilt_ofNat, ile_ofNat]
      by_cases h : k < n
      · rw [blt_true h]; simp
      · simp [h]) (fun k hk => go_at.trans (by simpa using hk)) (fun k hk => by
      unfold step_mass_sum_L0
      simp only [toNat_of]
      rw [succ_i64 (by omega)]
      congr 1
      funext j
      by_cases h1 : j = k
      · subst h1; rw [beqn_self, blt_true (Nat.lt_succ_self j)]; rfl
      · rw [beqn_false h1, cond_false]
        by_cases h2 : j < k
        · rw [blt_true h2, blt_true (show j < k + 1 by omega)]
        · rw [blt_false (show k ≤ j by omega), blt_false (show k + 1 ≤ j by omega)]) (go_at.trans (by simp))
  have e : (L_mass_sum_L0 n e0 e1 e2 e3 (Int.ofNat n) (V_mass_sum_L0.mk (0 : Int) (fun (j0 : Nat) => 0))).v1 = fun j => bif Nat.blt j n then (fun j => s_mass_Join_1_0 (e0 j) (e1 j) (e2 j) (e3 j)) j else 0 := congrArg V_mass_sum_L0.v1 hr.2
  have ee : E_mass_sum_L0 n e0 e1 e2 e3 (Int.ofNat n) (V_mass_sum_L0.mk (0 : Int) (fun (j0 : Nat) => 0)) = true := hr.1
  obtain ⟨h1, h2⟩ := num_sum (c := fun j => bif Nat.blt j n then (fun j => s_mass_Join_1_0 (e0 j) (e1 j) (e2 j) (e3 j)) j else 0) hn h3
  unfold s_mass_sum_0 o_mass_sum
  rw [e, ee, h1, h2, ble_true (Nat.le_refl n), ile_true (Int.le_refl (Int.ofNat n)), ile_true (show (8 : Int) * Int.ofNat n ≤ 281474976710656 by simp only [Int.ofNat_eq_natCast]; omega), ile_true (show Int.ofNat n ≤ (9223372036854775807 : Int) by simp only [Int.ofNat_eq_natCast]; omega)]
  exact ⟨sumF_congr _ fun j hj => by rw [blt_true (show j < n by omega)]; rfl, rfl⟩
theorem sum_v1 {n : Nat} {e0 e1 e2 e3 : Nat → Nat} (hn : 0 < n) (h3 : n ≤ 16384) : s_mass_sum_v1_0 n e0 e1 e2 e3 = sumF (fun j => s_mass_Join_2_0 (e0 j) (e1 j) (e2 j) (e3 j)) (n - 1) ∧ o_mass_sum_v1 n e0 e1 e2 e3 = true := by
  have hr := run_to (ok := ok_mass_sum_v1_L0 n e0 e1 e2 e3 (Int.ofNat n)) (go := go_mass_sum_v1_L0 n e0 e1 e2 e3 (Int.ofNat n)) (step := step_mass_sum_v1_L0 n e0 e1 e2 e3 (Int.ofNat n))
    (fun k => V_mass_sum_v1_L0.mk (Int.ofNat k) (fun j => bif Nat.blt j k then (fun j => s_mass_Join_2_0 (e0 j) (e1 j) (e2 j) (e3 j)) j else 0)) n (fun k _ => by
      unfold ok_mass_sum_v1_L0
      simp only [toNat_of]
      rw [mrgB_eq, ilt_ofNat, ile_ofNat]
      by_cases h : k < n
      · rw [blt_true h]; simp
      · simp [h]) (fun k hk => go_at.trans (by simpa using hk)) (fun k hk => by
      unfold step_mass_sum_v1_L0
      simp only [toNat_of]
      rw [succ_i64 (by omega)]
      congr 1
      funext j
      by_cases h1 : j = k
      · subst h1; rw [beqn_self, blt_true (Nat.lt_succ_self j)]; rfl
      · rw [beqn_false h1, cond_false]
        by_cases h2 : j < k
        · rw [blt_true h2, blt_true (show j < k + 1 by omega)]
        · rw [blt_false (show k ≤ j by omega), blt_false (show k + 1 ≤ j by omega)]) (go_at.trans (by simp))
  have e : (L_mass_sum_v1_L0 n e0 e1 e2 e3 (Int.ofNat n) (V_mass_sum_v1_L0.mk (0 : Int) (fun (j0 : Nat) => 0))).v1 = fun j => bif Nat.blt j n then (fun j => s_mass_Join_2_0 (e0 j) (e1 j) (e2 j) (e3 j)) j else 0 := congrArg V_mass_sum_v1_L0.v1 hr.2
  have ee : E_mass_sum_v1_L0 n e0 e1 e2 e3 (Int.ofNat n) (V_mass_sum_v1_L0.mk (0 : Int) (fun (j0 : Nat) => 0)) = true := hr.1
  obtain ⟨h1, h2⟩ := num_sum (c := fun j => bif Nat.blt j n then (fun j => s_mass_Join_2_0 (e0 j) (e1 j) (e2 j) (e3 j)) j else 0) hn h3
  unfold s_mass_sum_v1_0 o_mass_sum_v1
  rw [e, ee, h1, h2, ble_true (Nat.le_refl n), ile_true (Int.le_refl (Int.ofNat n)), ile_true (show (8 : Int) * Int.ofNat n ≤ 281474976710656 by simp only [Int.ofNat_eq_natCast]; omega), ile_true (show Int.ofNat n ≤ (9223372036854775807 : Int) by simp only [Int.ofNat_eq_natCast]; omega)]
  exact ⟨sumF_congr _ fun j hj => by rw [blt_true (show j < n by omega)]; rfl, rfl⟩
theorem sum_v2 {n : Nat} {e0 e1 e2 e3 : Nat → Nat} (hn : 0 < n) (h3 : n ≤ 16384) : s_mass_sum_v2_0 n e0 e1 e2 e3 = sumF (fun j => s_mass_Join_3_0 (e0 j) (e1 j) (e2 j) (e3 j)) (n - 1) ∧ o_mass_sum_v2 n e0 e1 e2 e3 = true := by
  have hr := run_to (ok := ok_mass_sum_v2_L0 n e0 e1 e2 e3 (Int.ofNat n)) (go := go_mass_sum_v2_L0 n e0 e1 e2 e3 (Int.ofNat n)) (step := step_mass_sum_v2_L0 n e0 e1 e2 e3 (Int.ofNat n))
    (fun k => V_mass_sum_v2_L0.mk (Int.ofNat k) (fun j => bif Nat.blt j k then (fun j => s_mass_Join_3_0 (e0 j) (e1 j) (e2 j) (e3 j)) j else 0)) n (fun k _ => by
      unfold ok_mass_sum_v2_L0
      simp only [toNat_of]
      rw [mrgB_eq, ilt_ofNat, ile_ofNat]
      by_cases h : k < n
      · rw [blt_true h]; simp
      · simp [h]) (fun k hk => go_at.trans (by simpa using hk)) (fun k hk => by
      unfold step_mass_sum_v2_L0
      simp only [toNat_of]
      rw [succ_i64 (by omega)]
      congr 1
      funext j
      by_cases h1 : j = k
      · subst h1; rw [beqn_self, blt_true (Nat.lt_succ_self j)]; rfl
      · rw [beqn_false h1, cond_false]
        by_cases h2 : j < k
        · rw [blt_true h2, blt_true (show j < k + 1 by omega)]
        · rw [blt_false (show k ≤ j by omega), blt_false (show k + 1 ≤ j by omega)]) (go_at.trans (by simp))
  have e : (L_mass_sum_v2_L0 n e0 e1 e2 e3 (Int.ofNat n) (V_mass_sum_v2_L0.mk (0 : Int) (fun (j0 : Nat) => 0))).v1 = fun j => bif Nat.blt j n then (fun j => s_mass_Join_3_0 (e0 j) (e1 j) (e2 j) (e3 j)) j else 0 := congrArg V_mass_sum_v2_L0.v1 hr.2
  have ee : E_mass_sum_v2_L0 n e0 e1 e2 e3 (Int.ofNat n) (V_mass_sum_v2_L0.mk (0 : Int) (fun (j0 : Nat) => 0)) = true := hr.1
  obtain ⟨h1, h2⟩ := num_sum (c := fun j => bif Nat.blt j n then (fun j => s_mass_Join_3_0 (e0 j) (e1 j) (e2 j) (e3 j)) j else 0) hn h3
  unfold s_mass_sum_v2_0 o_mass_sum_v2
  rw [e, ee, h1, h2, ble_true (Nat.le_refl n), ile_true (Int.le_refl (Int.ofNat n)), ile_true (show (8 : Int) * Int.ofNat n ≤ 281474976710656 by simp only [Int.ofNat_eq_natCast]; omega), ile_true (show Int.ofNat n ≤ (9223372036854775807 : Int) by simp only [Int.ofNat_eq_natCast]; omega)]
  exact ⟨sumF_congr _ fun j hj => by rw [blt_true (show j < n by omega)]; rfl, rfl⟩
theorem sum_v3 {n : Nat} {p q : Nat} {e0 e1 e2 e3 : Nat → Nat} (hn : 0 < n) (h3 : n ≤ 16384) : s_mass_sum_v3_0 n e0 e1 e2 e3 p q = sumF (fun j => s_mass_Join_4_0 (e0 j) (e1 j) (e2 j) (e3 j) p q) (n - 1) ∧ o_mass_sum_v3 n e0 e1 e2 e3 p q = true := by
  have hr := run_to (ok := ok_mass_sum_v3_L0 p q n e0 e1 e2 e3 (Int.ofNat n)) (go := go_mass_sum_v3_L0 p q n e0 e1 e2 e3 (Int.ofNat n)) (step := step_mass_sum_v3_L0 p q n e0 e1 e2 e3 (Int.ofNat n))
    (fun k => V_mass_sum_v3_L0.mk (Int.ofNat k) (fun j => bif Nat.blt j k then (fun j => s_mass_Join_4_0 (e0 j) (e1 j) (e2 j) (e3 j) p q) j else 0)) n (fun k _ => by
      unfold ok_mass_sum_v3_L0
      simp only [toNat_of]
      rw [mrgB_eq, ilt_ofNat, ile_ofNat]
      by_cases h : k < n
      · rw [blt_true h]; simp
      · simp [h]) (fun k hk => go_at.trans (by simpa using hk)) (fun k hk => by
      unfold step_mass_sum_v3_L0
      simp only [toNat_of]
      rw [succ_i64 (by omega)]
      congr 1
      funext j
      by_cases h1 : j = k
      · subst h1; rw [beqn_self, blt_true (Nat.lt_succ_self j)]; rfl
      · rw [beqn_false h1, cond_false]
        by_cases h2 : j < k
        · rw [blt_true h2, blt_true (show j < k + 1 by omega)]
        · rw [blt_false (show k ≤ j by omega), blt_false (show k + 1 ≤ j by omega)]) (go_at.trans (by simp))
  have e : (L_mass_sum_v3_L0 p q n e0 e1 e2 e3 (Int.ofNat n) (V_mass_sum_v3_L0.mk (0 : Int) (fun (j0 : Nat) => 0))).v1 = fun j => bif Nat.blt j n then (fun j => s_mass_Join_4_0 (e0 j) (e1 j) (e2 j) (e3 j) p q) j else 0 := congrArg V_mass_sum_v3_L0.v1 hr.2
  have ee : E_mass_sum_v3_L0 p q n e0 e1 e2 e3 (Int.ofNat n) (V_mass_sum_v3_L0.mk (0 : Int) (fun (j0 : Nat) => 0)) = true := hr.1
  obtain ⟨h1, h2⟩ := num_sum (c := fun j => bif Nat.blt j n then (fun j => s_mass_Join_4_0 (e0 j) (e1 j) (e2 j) (e3 j) p q) j else 0) hn h3
  unfold s_mass_sum_v3_0 o_mass_sum_v3
  rw [e, ee, h1, h2, ble_true (Nat.le_refl n), ile_true (Int.le_refl (Int.ofNat n)), ile_true (show (8 : Int) * Int.ofNat n ≤ 281474976710656 by simp only [Int.ofNat_eq_natCast]; omega), ile_true (show Int.ofNat n ≤ (9223372036854775807 : Int) by simp only [Int.ofNat_eq_natCast]; omega)]
  exact ⟨sumF_congr _ fun j hj => by rw [blt_true (show j < n by omega)]; rfl, rfl⟩
theorem first_not {p : Nat → Bool} : ∀ (n : Nat), ∃ j, j ≤ n ∧ (∀ i, i < j → p i = true) ∧ (j = n ∨ p j = false)
  | 0 => ⟨0, by omega, fun i hi => by omega, .inl rfl⟩
  | n + 1 => by
    obtain ⟨j, h1, h2, h3⟩ := first_not (p := p) n
    rcases h3 with rfl | h3
    · cases hp : p j with
      | false => exact ⟨j, by omega, h2, .inr hp⟩
      | true => exact ⟨j + 1, by omega, fun i hi => by
          by_cases hij : i = j
          · subst hij; exact hp
          · exact h2 i (by omega), .inl rfl⟩
    · exact ⟨j, by omega, h2, .inr h3⟩
theorem mass_Join_loop {n m : Nat} {e0 e1 e2 e3 : Nat → Nat} (h3 : n ≤ 16384) (hm : m ≤ n) (hall : ∀ i, i < m → ieq (s_mass_Check_0 (e0 i) (e1 i) (e2 i) (e3 i)) 0 = true) (hend : m = n ∨ ieq (s_mass_Check_0 (e0 m) (e1 m) (e2 m) (e3 m)) 0 = false) :
    E_mass_Join_L0 n e0 e1 e2 e3 (Int.ofNat n) (V_mass_Join_L0.mk (0 : Int)) = true ∧ (L_mass_Join_L0 n e0 e1 e2 e3 (Int.ofNat n) (V_mass_Join_L0.mk (0 : Int))).v0 = Int.ofNat m := by
  have hr := run_to (ok := ok_mass_Join_L0 n e0 e1 e2 e3 (Int.ofNat n)) (go := go_mass_Join_L0 n e0 e1 e2 e3 (Int.ofNat n)) (step := step_mass_Join_L0 n e0 e1 e2 e3 (Int.ofNat n))
    (fun k => V_mass_Join_L0.mk (Int.ofNat k)) m (fun k hk => by
      unfold ok_mass_Join_L0
      simp only [toNat_of]
      rw [ilt_ofNat, ile_ofNat]
      by_cases h : k < n
      · rw [blt_true h]; simp [h, mrgB]
      · simp [h, mrgB]) (fun k hk => by
      unfold go_mass_Join_L0
      simp only [toNat_of]
      rw [ilt_ofNat, hall k hk]
      have : k < n := by omega
      simp [this]) (fun k hk => by
      unfold step_mass_Join_L0
      simp only [toNat_of]
      rw [succ_i64 (by omega)]) (by
      unfold go_mass_Join_L0
      simp only [toNat_of]
      rw [ilt_ofNat]
      rcases hend with rfl | h
      · simp
      · rw [h]; simp)
  exact ⟨hr.1, congrArg V_mass_Join_L0.v0 hr.2⟩
end Go.Proofs.Ytbkogihigehjlaa
