/- Lists of masses: the sums and what they weigh together are the document's, word by word. -/
import Derived.Test.YtbkogihigehjlaaGreatLawShpHD
set_option linter.unusedVariables false
set_option linter.unusedSimpArgs false
namespace Go.Proofs.YtbkogihigehjlaaGreat.Jn
open Go.Sim Go.Lst
theorem cf_max : CF 4787326403894837248 := ⟨by decide, fun h => absurd h (by decide)⟩
theorem nan_max : nanb 4787326403894837248 = false := by decide
theorem abs_within {a : Nat} (ha : CF a) : fle (fabs a) 4787326403894837248 = (fle (fneg 4787326403894837248) a && fle a 4787326403894837248) := by
  cases na : nanb a
  · have nf : nanb (fneg 4787326403894837248) = false := by rw [nanb_fneg cf_max.lt]; exact nan_max
    have nb : nanb (fabs a) = false := by rw [nanb_fabs]; exact na
    rw [fle_key nb nan_max, fle_key nf na, fle_key na nan_max, key_fneg cf_max.lt nan_max, key_fabs na]
    have hk : key a = (rungOf a : Int) ∨ key a = -(rungOf a : Int) := by unfold key; split <;> simp
    have hm : key 4787326403894837248 = 4787326403894837248 := by decide
    rw [hm, Bool.eq_iff_iff]
    simp
    omega
  · have nb : nanb (fabs a) = true := by rw [nanb_fabs]; exact na
    rw [fle_nan (.inl nb), fle_nan (b := a) (.inr na)]; rfl
theorem ends_same (a : Nat) : s_mass_weight_0 a = s_ref08_End_0 a := by
  unfold s_mass_weight_0 s_ref08_End_0 s_num_Finite_float64__0
  rw [Bool.and_comm]
theorem within_same {a b : Nat} (ha : CF a) (hb : CF b) : s_vec_Within_0 a b 4787326403894837248 = s_ref02_Within_0 a b 4787326403894837248 := by
  unfold s_vec_Within_0 s_ref02_Within_0 s_num_Within_float64__0
  rw [abs_within ha, abs_within hb]
theorem check_same {a b c d : Nat} (hc : CF c) (hd : CF d) : s_mass_Check_0 a b c d = s_ref08_Check_0 a b c d := by
  unfold s_mass_Check_0 s_ref08_Check_0
  rw [ends_same, ends_same, within_same hc hd]
theorem check_two (a b c d : Nat) : s_ref08_Check_0 a b c d = 80 ∨ s_ref08_Check_0 a b c d = 0 := by
  unfold s_ref08_Check_0
  cases ((!(s_ref08_End_0 a)) || (!(s_ref08_End_0 b))) || (!(s_ref02_Within_0 c d 4787326403894837248))
  · exact .inr rfl
  · exact .inl rfl
theorem is_same (a : Nat) : s_ref02_Is_0 a a = true := by unfold s_ref02_Is_0; exact ieq_self _
/-- The square of a difference does not ask which way. -/
theorem sq_sub (p q : Nat) : fmul (fsub p q) (fsub p q) = fmul (fsub q p) (fsub q p) := by
  have c1 := CF.sub p q
  have c2 := CF.sub q p
  rcases sub_swap p q with ⟨h1, h2⟩ | ⟨h1, h2, h3⟩
  · rw [c1.nan h1, c2.nan h2]
  · have nf : nanb (fneg (fsub q p)) = false := by rw [nanb_fneg c2.lt]; exact h2
    rw [feq_key h1 nf, decide_eq_true_eq, key_fneg c2.lt h2] at h3
    by_cases hz : key (fsub q p) = 0
    · have hz1 : key (fsub p q) = 0 := by omega
      rcases (key_zero c1.lt).1 hz1 with e | e <;> rcases (key_zero c2.lt).1 hz with e' | e' <;> rw [e, e'] <;> decide
    · have e : fsub p q = fneg (fsub q p) := key_inj c1.lt c2.fneg.lt (by rw [key_fneg c2.lt h2]; exact h3) (by omega)
      rw [e, fmul_neg_neg c2.lt c2.lt]
def sumF (F : Nat → Nat) : Nat → Nat
  | 0 => F 0
  | k + 1 => fadd (sumF F k) (F (k + 1))
theorem sumF_congr {F G : Nat → Nat} : ∀ k, (∀ j, j ≤ k → F j = G j) → sumF F k = sumF G k
  | 0, h => h 0 (Nat.le_refl _)
  | k + 1, h => by simp only [sumF]; rw [sumF_congr k fun j hj => h j (by omega), h (k + 1) (Nat.le_refl _)]
theorem ok_at {k n : Nat} : mrgB (!(ilt (Int.ofNat k) (Int.ofNat n))) true ((ile (0 : Int) (Int.ofNat k)) && (Nat.blt k n)) = true := by
  rw [mrgB_eq, ilt_ofNat, ile_ofNat]
  by_cases h : k < n
  · rw [blt_true h]; simp
  · simp [h]
theorem go_at {k n : Nat} : (bif (!(ilt (Int.ofNat k) (Int.ofNat n))) then false else true) = decide (k < n) := by
  rw [ilt_ofNat]; cases decide (k < n) <;> rfl
theorem num_sum {n : Nat} {c : Nat → Nat} (hn : 0 < n) (h3 : n ≤ 300) : s_num_Sum_0 n c = sumF c (n - 1) ∧ o_num_Sum n c = true := by
  have hr := run_to (ok := ok_num_Sum_L0 (n - 1) (fun j0 => c (1 + j0)) (Int.ofNat (n - 1))) (go := go_num_Sum_L0 (n - 1) (fun j0 => c (1 + j0)) (Int.ofNat (n - 1))) (step := step_num_Sum_L0 (n - 1) (fun j0 => c (1 + j0)) (Int.ofNat (n - 1)))
    (fun k => V_num_Sum_L0.mk (sumF c k) (Int.ofNat k)) (n - 1) (fun k _ => ok_at) (fun k hk => go_at.trans (by simpa using hk)) (fun k hk => by
      unfold step_num_Sum_L0
      simp only [toNat_of]
      rw [succ_i64 (by omega), Nat.add_comm 1 k]; rfl) (go_at.trans (by simp))
  have hz : ieq (Int.ofNat n) 0 = false := ieq_false (by simp; omega)
  unfold s_num_Sum_0 o_num_Sum
  rw [hz, cond_false]
  constructor
  · exact congrArg V_num_Sum_L0.v0 hr.2
  · rw [mrgB_eq, cond_false]
    show (((_ && _) && _) && endsL _ _ _ _) = true
    rw [ble_true (show 1 ≤ n by omega), ble_true (Nat.le_refl n), blt_true hn]
    exact hr.1
theorem sum_v0 {n : Nat} {e0 e1 e2 e3 : Nat → Nat} (hn : 0 < n) (h3 : n ≤ 300) : s_mass_sum_0 n e0 e1 e2 e3 = sumF (fun j => s_mass_Join_1_0 (e0 j) (e1 j) (e2 j) (e3 j)) (n - 1) ∧ o_mass_sum n e0 e1 e2 e3 = true := by
  have hr := run_to (ok := ok_mass_sum_L0 n e0 e1 e2 e3 (Int.ofNat n)) (go := go_mass_sum_L0 n e0 e1 e2 e3 (Int.ofNat n)) (step := step_mass_sum_L0 n e0 e1 e2 e3 (Int.ofNat n))
    (fun k => V_mass_sum_L0.mk (Int.ofNat k) (fun j => bif Nat.blt j k then (fun j => s_mass_Join_1_0 (e0 j) (e1 j) (e2 j) (e3 j)) j else 0)) n (fun k _ => by
      unfold ok_mass_sum_L0
      simp only [toNat_of]
      rw [mrgB_eq, ilt_ofNat, ile_ofNat]
      by_cases h : k < n
      · rw [blt_true h]; simp
      · simp [h]) (fun k hk => go_at.trans (by simpa using hk)) (fun k hk => by
      unfold step_mass_sum_L0
      simp only [toNat_of]
      rw [succ_i64 (by omega)]
      congr 1
      funext j
      by_cases h1 : j = k
      · subst h1; rw [beqn_self, blt_true (Nat.lt_succ_self j)]; rfl
      · rw [beqn_false h1, cond_false]
        by_cases h2 : j < k
        · rw [blt_true h2, blt_true (show j < k + 1 by omega)]
        · rw [blt_false (show k ≤ j by omega), blt_false (show k + 1 ≤ j by omega)]) (go_at.trans (by simp))
  have e : (L_mass_sum_L0 n e0 e1 e2 e3 (Int.ofNat n) (V_mass_sum_L0.mk (0 : Int) (fun (j0 : Nat) => 0))).v1 = fun j => bif Nat.blt j n then (fun j => s_mass_Join_1_0 (e0 j) (e1 j) (e2 j) (e3 j)) j else 0 := congrArg V_mass_sum_L0.v1 hr.2
  have ee : E_mass_sum_L0 n e0 e1 e2 e3 (Int.ofNat n) (V_mass_sum_L0.mk (0 : Int) (fun (j0 : Nat) => 0)) = true := hr.1
  obtain ⟨h1, h2⟩ := num_sum (c := fun j => bif Nat.blt j n then (fun j => s_mass_Join_1_0 (e0 j) (e1 j) (e2 j) (e3 j)) j else 0) hn h3
  unfold s_mass_sum_0 o_mass_sum
  rw [e, ee, h1, h2, ble_true (Nat.le_refl n), ile_true (Int.le_refl (Int.ofNat n)), ile_true (show (8 : Int) * Int.ofNat n ≤ 281474976710656 by simp only [Int.ofNat_eq_natCast]; omega), ile_true (show Int.ofNat n ≤ (9223372036854775807 : Int) by simp only [Int.ofNat_eq_natCast]; omega)]
  exact ⟨sumF_congr _ fun j hj => by rw [blt_true (show j < n by omega)]; rfl, rfl⟩
theorem sum_v1 {n : Nat} {e0 e1 e2 e3 : Nat → Nat} (hn : 0 < n) (h3 : n ≤ 300) : s_mass_sum_v1_0 n e0 e1 e2 e3 = sumF (fun j => s_mass_Join_2_0 (e0 j) (e1 j) (e2 j) (e3 j)) (n - 1) ∧ o_mass_sum_v1 n e0 e1 e2 e3 = true := by
  have hr := run_to (ok := ok_mass_sum_v1_L0 n e0 e1 e2 e3 (Int.ofNat n)) (go := go_mass_sum_v1_L0 n e0 e1 e2 e3 (Int.ofNat n)) (step := step_mass_sum_v1_L0 n e0 e1 e2 e3 (Int.ofNat n))
    (fun k => V_mass_sum_v1_L0.mk (Int.ofNat k) (fun j => bif Nat.blt j k then (fun j => s_mass_Join_2_0 (e0 j) (e1 j) (e2 j) (e3 j)) j else 0)) n (fun k _ => by
      unfold ok_mass_sum_v1_L0
      simp only [toNat_of]
      rw [mrgB_eq, ilt_ofNat, ile_ofNat]
      by_cases h : k < n
      · rw [blt_true h]; simp
      · simp [h]) (fun k hk => go_at.trans (by simpa using hk)) (fun k hk => by
      unfold step_mass_sum_v1_L0
      simp only [toNat_of]
      rw [succ_i64 (by omega)]
      congr 1
      funext j
      by_cases h1 : j = k
      · subst h1; rw [beqn_self, blt_true (Nat.lt_succ_self j)]; rfl
      · rw [beqn_false h1, cond_false]
        by_cases h2 : j < k
        · rw [blt_true h2, blt_true (show j < k + 1 by omega)]
        · rw [blt_false (show k ≤ j by omega), blt_false (show k + 1 ≤ j by omega)]) (go_at.trans (by simp))
  have e : (L_mass_sum_v1_L0 n e0 e1 e2 e3 (Int.ofNat n) (V_mass_sum_v1_L0.mk (0 : Int) (fun (j0 : Nat) => 0))).v1 = fun j => bif Nat.blt j n then (fun j => s_mass_Join_2_0 (e0 j) (e1 j) (e2 j) (e3 j)) j else 0 := congrArg V_mass_sum_v1_L0.v1 hr.2
  have ee : E_mass_sum_v1_L0 n e0 e1 e2 e3 (Int.ofNat n) (V_mass_sum_v1_L0.mk (0 : Int) (fun (j0 : Nat) => 0)) = true := hr.1
  obtain ⟨h1, h2⟩ := num_sum (c := fun j => bif Nat.blt j n then (fun j => s_mass_Join_2_0 (e0 j) (e1 j) (e2 j) (e3 j)) j else 0) hn h3
  unfold s_mass_sum_v1_0 o_mass_sum_v1
  rw [e, ee, h1, h2, ble_true (Nat.le_refl n), ile_true (Int.le_refl (Int.ofNat n)), ile_true (show (8 : Int) * Int.ofNat n ≤ 281474976710656 by simp only [Int.ofNat_eq_natCast]; omega), ile_true (show Int.ofNat n ≤ (9223372036854775807 : Int) by simp only [Int.ofNat_eq_natCast]; omega)]
  exact ⟨sumF_congr _ fun j hj => by rw [blt_true (show j < n by omega)]; rfl, rfl⟩
theorem sum_v2 {n : Nat} {e0 e1 e2 e3 : Nat → Nat} (hn : 0 < n) (h3 : n ≤ 300) : s_mass_sum_v2_0 n e0 e1 e2 e3 = sumF (fun j => s_mass_Join_3_0 (e0 j) (e1 j) (e2 j) (e3 j)) (n - 1) ∧ o_mass_sum_v2 n e0 e1 e2 e3 = true := by
  have hr := run_to (ok := ok_mass_sum_v2_L0 n e0 e1 e2 e3 (Int.ofNat n)) (go := go_mass_sum_v2_L0 n e0 e1 e2 e3 (Int.ofNat n)) (step := step_mass_sum_v2_L0 n e0 e1 e2 e3 (Int.ofNat n))
    (fun k => V_mass_sum_v2_L0.mk (Int.ofNat k) (fun j => bif Nat.blt j k then (fun j => s_mass_Join_3_0 (e0 j) (e1 j) (e2 j) (e3 j)) j else 0)) n (fun k _ => by
      unfold ok_mass_sum_v2_L0
      simp only [toNat_of]
      rw [mrgB_eq, ilt_ofNat, ile_ofNat]
      by_cases h : k < n
      · rw [blt_true h]; simp
      · simp [h]) (fun k hk => go_at.trans (by simpa using hk)) (fun k hk => by
      unfold step_mass_sum_v2_L0
      simp only [toNat_of]
      rw [succ_i64 (by omega)]
      congr 1
      funext j
      by_cases h1 : j = k
      · subst h1; rw [beqn_self, blt_true (Nat.lt_succ_self j)]; rfl
      · rw [beqn_false h1, cond_false]
        by_cases h2 : j < k
        · rw [blt_true h2, blt_true (show j < k + 1 by omega)]
        · rw [blt_false (show k ≤ j by omega), blt_false (show k + 1 ≤ j by omega)]) (go_at.trans (by simp))
  have e : (L_mass_sum_v2_L0 n e0 e1 e2 e3 (Int.ofNat n) (V_mass_sum_v2_L0.mk (0 : Int) (fun (j0 : Nat) => 0))).v1 = fun j => bif Nat.blt j n then (fun j => s_mass_Join_3_0 (e0 j) (e1 j) (e2 j) (e3 j)) j else 0 := congrArg V_mass_sum_v2_L0.v1 hr.2
  have ee : E_mass_sum_v2_L0 n e0 e1 e2 e3 (Int.ofNat n) (V_mass_sum_v2_L0.mk (0 : Int) (fun (j0 : Nat) => 0)) = true := hr.1
  obtain ⟨h1, h2⟩ := num_sum (c := fun j => bif Nat.blt j n then (fun j => s_mass_Join_3_0 (e0 j) (e1 j) (e2 j) (e3 j)) j else 0) hn h3
  unfold s_mass_sum_v2_0 o_mass_sum_v2
  rw [e, ee, h1, h2, ble_true (Nat.le_refl n), ile_true (Int.le_refl (Int.ofNat n)), ile_true (show (8 : Int) * Int.ofNat n ≤ 281474976710656 by simp only [Int.ofNat_eq_natCast]; omega), ile_true (show Int.ofNat n ≤ (9223372036854775807 : Int) by simp only [Int.ofNat_eq_natCast]; omega)]
  exact ⟨sumF_congr _ fun j hj => by rw [blt_true (show j < n by omega)]; rfl, rfl⟩
theorem sum_v3 {n : Nat} {p q : Nat} {e0 e1 e2 e3 : Nat → Nat} (hn : 0 < n) (h3 : n ≤ 300) : s_mass_sum_v3_0 n e0 e1 e2 e3 p q = sumF (fun j => s_mass_Join_4_0 (e0 j) (e1 j) (e2 j) (e3 j) p q) (n - 1) ∧ o_mass_sum_v3 n e0 e1 e2 e3 p q = true := by
  have hr := run_to (ok := ok_mass_sum_v3_L0 p q n e0 e1 e2 e3 (Int.ofNat n)) (go := go_mass_sum_v3_L0 p q n e0 e1 e2 e3 (Int.ofNat n)) (step := step_mass_sum_v3_L0 p q n e0 e1 e2 e3 (Int.ofNat n))
    (fun k => V_mass_sum_v3_L0.mk (Int.ofNat k) (fun j => bif Nat.blt j k then (fun j => s_mass_Join_4_0 (e0 j) (e1 j) (e2 j) (e3 j) p q) j else 0)) n (fun k _ => by
      unfold ok_mass_sum_v3_L0
      simp only [toNat_of]
      rw [mrgB_eq, ilt_ofNat, ile_ofNat]
      by_cases h : k < n
      · rw [blt_true h]; simp
      · simp [h]) (fun k hk => go_at.trans (by simpa using hk)) (fun k hk => by
      unfold step_mass_sum_v3_L0
      simp only [toNat_of]
      rw [succ_i64 (by omega)]
      congr 1
      funext j
      by_cases h1 : j = k
      · subst h1; rw [beqn_self, blt_true (Nat.lt_succ_self j)]; rfl
      · rw [beqn_false h1, cond_false]
        by_cases h2 : j < k
        · rw [blt_true h2, blt_true (show j < k + 1 by omega)]
        · rw [blt_false (show k ≤ j by omega), blt_false (show k + 1 ≤ j by omega)]) (go_at.trans (by simp))
  have e : (L_mass_sum_v3_L0 p q n e0 e1 e2 e3 (Int.ofNat n) (V_mass_sum_v3_L0.mk (0 : Int) (fun (j0 : Nat) => 0))).v1 = fun j => bif Nat.blt j n then (fun j => s_mass_Join_4_0 (e0 j) (e1 j) (e2 j) (e3 j) p q) j else 0 := congrArg V_mass_sum_v3_L0.v1 hr.2
  have ee : E_mass_sum_v3_L0 p q n e0 e1 e2 e3 (Int.ofNat n) (V_mass_sum_v3_L0.mk (0 : Int) (fun (j0 : Nat) => 0)) = true := hr.1
  obtain ⟨h1, h2⟩ := num_sum (c := fun j => bif Nat.blt j n then (fun j => s_mass_Join_4_0 (e0 j) (e1 j) (e2 j) (e3 j) p q) j else 0) hn h3
  unfold s_mass_sum_v3_0 o_mass_sum_v3
  rw [e, ee, h1, h2, ble_true (Nat.le_refl n), ile_true (Int.le_refl (Int.ofNat n)), ile_true (show (8 : Int) * Int.ofNat n ≤ 281474976710656 by simp only [Int.ofNat_eq_natCast]; omega), ile_true (show Int.ofNat n ≤ (9223372036854775807 : Int) by simp only [Int.ofNat_eq_natCast]; omega)]
  exact ⟨sumF_congr _ fun j hj => by rw [blt_true (show j < n by omega)]; rfl, rfl⟩
theorem first_not {p : Nat → Bool} : ∀ (n : Nat), ∃ j, j ≤ n ∧ (∀ i, i < j → p i = true) ∧ (j = n ∨ p j = false)
  | 0 => ⟨0, by omega, fun i hi => by omega, .inl rfl⟩
  | n + 1 => by
    obtain ⟨j, h1, h2, h3⟩ := first_not (p := p) n
    rcases h3 with rfl | h3
    · cases hp : p j with
      | false => exact ⟨j, by omega, h2, .inr hp⟩
      | true => exact ⟨j + 1, by omega, fun i hi => by
          by_cases hij : i = j
          · subst hij; exact hp
          · exact h2 i (by omega), .inl rfl⟩
    · exact ⟨j, by omega, h2, .inr h3⟩
theorem mass_Join_loop {n m : Nat} {e0 e1 e2 e3 : Nat → Nat} (h3 : n ≤ 300) (hm : m ≤ n) (hall : ∀ i, i < m → ieq (s_mass_Check_0 (e0 i) (e1 i) (e2 i) (e3 i)) 0 = true) (hend : m = n ∨ ieq (s_mass_Check_0 (e0 m) (e1 m) (e2 m) (e3 m)) 0 = false) :
    E_mass_Join_L0 n e0 e1 e2 e3 (Int.ofNat n) (V_mass_Join_L0.mk (0 : Int)) = true ∧ (L_mass_Join_L0 n e0 e1 e2 e3 (Int.ofNat n) (V_mass_Join_L0.mk (0 : Int))).v0 = Int.ofNat m := by
  have hr := run_to (ok := ok_mass_Join_L0 n e0 e1 e2 e3 (Int.ofNat n)) (go := go_mass_Join_L0 n e0 e1 e2 e3 (Int.ofNat n)) (step := step_mass_Join_L0 n e0 e1 e2 e3 (Int.ofNat n))
    (fun k => V_mass_Join_L0.mk (Int.ofNat k)) m (fun k hk => by
      unfold ok_mass_Join_L0
      simp only [toNat_of]
      rw [ilt_ofNat, ile_ofNat]
      by_cases h : k < n
      · rw [blt_true h]; simp [h, mrgB]
      · simp [h, mrgB]) (fun k hk => by
      unfold go_mass_Join_L0
      simp only [toNat_of]
      rw [ilt_ofNat, hall k hk]
      have : k < n := by omega
      simp [this]) (fun k hk => by
      unfold step_mass_Join_L0
      simp only [toNat_of]
      rw [succ_i64 (by omega)]) (by
      unfold go_mass_Join_L0
      simp only [toNat_of]
      rw [ilt_ofNat]
      rcases hend with rfl | h
      · simp
      · rw [h]; simp)
  exact ⟨hr.1, congrArg V_mass_Join_L0.v0 hr.2⟩
theorem ref08_Join_loop {n m : Nat} {e0 e1 e2 e3 : Nat → Nat} (h3 : n ≤ 300) (hm : m ≤ n) (hall : ∀ i, i < m → ieq (s_ref08_Check_0 (e0 i) (e1 i) (e2 i) (e3 i)) 0 = true) (hend : m = n ∨ ieq (s_ref08_Check_0 (e0 m) (e1 m) (e2 m) (e3 m)) 0 = false) :
    E_ref08_Join_L0 n e0 e1 e2 e3 (V_ref08_Join_L0.mk (0 : Int)) = true ∧ (L_ref08_Join_L0 n e0 e1 e2 e3 (V_ref08_Join_L0.mk (0 : Int))).v0 = Int.ofNat m := by
  have hr := run_to (ok := ok_ref08_Join_L0 n e0 e1 e2 e3) (go := go_ref08_Join_L0 n e0 e1 e2 e3) (step := step_ref08_Join_L0 n e0 e1 e2 e3)
    (fun k => V_ref08_Join_L0.mk (Int.ofNat k)) m (fun k hk => by
      unfold ok_ref08_Join_L0
      simp only [toNat_of]
      rw [ilt_ofNat, ile_ofNat]
      by_cases h : k < n
      · rw [blt_true h]; simp [h, mrgB]
      · simp [h, mrgB]) (fun k hk => by
      unfold go_ref08_Join_L0
      simp only [toNat_of]
      rw [ilt_ofNat, hall k hk]
      have : k < n := by omega
      simp [this]) (fun k hk => by
      unfold step_ref08_Join_L0
      simp only [toNat_of]
      rw [succ_i64 (by omega)]) (by
      unfold go_ref08_Join_L0
      simp only [toNat_of]
      rw [ilt_ofNat]
      rcases hend with rfl | h
      · simp
      · rw [h]; simp)
  exact ⟨hr.1, congrArg V_ref08_Join_L0.v0 hr.2⟩
theorem ref_sums {n : Nat} {g0 g2 g3 : Nat → Nat} (hn : 0 < n) (h3 : n ≤ 300) :
    E_ref08_Join_L1 n g0 g2 g3 (V_ref08_Join_L1.mk (fmul (g0 0) (g2 0)) (fmul (g0 0) (g3 0)) (1 : Int) (g0 0)) = true ∧
    L_ref08_Join_L1 n g0 g2 g3 (V_ref08_Join_L1.mk (fmul (g0 0) (g2 0)) (fmul (g0 0) (g3 0)) (1 : Int) (g0 0)) =
      V_ref08_Join_L1.mk (sumF (fun j => fmul (g0 j) (g2 j)) (n - 1)) (sumF (fun j => fmul (g0 j) (g3 j)) (n - 1)) (Int.ofNat (n - 1 + 1)) (sumF g0 (n - 1)) := by
  refine run_to (ok := ok_ref08_Join_L1 n g0 g2 g3) (go := go_ref08_Join_L1 n g0 g2 g3) (step := step_ref08_Join_L1 n g0 g2 g3)
    (fun k => V_ref08_Join_L1.mk (sumF (fun j => fmul (g0 j) (g2 j)) k) (sumF (fun j => fmul (g0 j) (g3 j)) k) (Int.ofNat (k + 1)) (sumF g0 k)) (n - 1) (fun k _ => ?_) (fun k hk => ?_) (fun k hk => ?_) ?_
  · unfold ok_ref08_Join_L1
    simp only [toNat_of]
    rw [mrgB_eq, ilt_ofNat, ile_ofNat]
    by_cases h : k + 1 < n
    · rw [blt_true h]; simp
    · simp [h]
  · exact go_at.trans (by simp; omega)
  · unfold step_ref08_Join_L1
    simp only [toNat_of]
    rw [succ_i64 (by omega)]; rfl
  · exact go_at.trans (by simp; omega)
noncomputable def turnF (g0 g1 g2 g3 : Nat → Nat) (p q : Nat) (j : Nat) : Nat := fadd (g1 j) (fmul (g0 j) (s_ref02_Square_0 (s_ref02_Sub_0 (g2 j) (g3 j) p q) (s_ref02_Sub_1 (g2 j) (g3 j) p q)))
theorem ref_turn {n : Nat} {g0 g1 g2 g3 : Nat → Nat} {p q : Nat} (hn : 0 < n) (h3 : n ≤ 300) :
    E_ref08_Join_L2 n g0 g1 g2 g3 p q (V_ref08_Join_L2.mk (0 : Int) (g1 0)) = true ∧ (L_ref08_Join_L2 n g0 g1 g2 g3 p q (V_ref08_Join_L2.mk (0 : Int) (g1 0))).v1 = sumF (turnF g0 g1 g2 g3 p q) (n - 1) := by
  have hr := run_to (ok := ok_ref08_Join_L2 n g0 g1 g2 g3 p q) (go := go_ref08_Join_L2 n g0 g1 g2 g3 p q) (step := step_ref08_Join_L2 n g0 g1 g2 g3 p q)
    (fun k => V_ref08_Join_L2.mk (Int.ofNat k) (match k with | 0 => g1 0 | j + 1 => sumF (turnF g0 g1 g2 g3 p q) j)) n (fun k _ => by
      unfold ok_ref08_Join_L2
      simp only [toNat_of]
      rw [ilt_ofNat, ile_ofNat, mrgB_self, mrgB_eq]
      by_cases h : k < n
      · rw [blt_true h]; simp
      · simp [h]) (fun k hk => go_at.trans (by simpa using hk)) (fun k hk => by
      unfold step_ref08_Join_L2
      simp only [toNat_of]
      rw [succ_i64 (by omega)]
      cases k with
      | zero => rfl
      | succ j =>
        have : ieq (Int.ofNat (j + 1)) 0 = false := ieq_false (by simp; omega)
        rw [this]; rfl) (go_at.trans (by simp))
  refine ⟨hr.1, (congrArg V_ref08_Join_L2.v1 hr.2).trans ?_⟩
  obtain ⟨m, rfl⟩ : ∃ m, n = m + 1 := ⟨n - 1, by omega⟩
  rfl
theorem turn_same {g0 g1 g2 g3 : Nat → Nat} {p q : Nat} (j : Nat) : s_mass_Join_4_0 (g0 j) (g1 j) (g2 j) (g3 j) p q = turnF g0 g1 g2 g3 p q j := by
  unfold s_mass_Join_4_0 s_mass_about_0 turnF s_vec_Square_0 s_vec_Dot_0 s_vec_Sub_0 s_vec_Sub_1 s_ref02_Square_0 s_ref02_Dot_0 s_ref02_Sub_0 s_ref02_Sub_1 s_ref02_Vec_0 s_ref02_Vec_1
  rw [sq_sub p (g2 j), sq_sub q (g3 j)]
theorem told_same {a b c d : Nat} (hc : CF c) (hd : CF d) : s_mass_checked_0 a b c d = s_ref08_told_0 a b c d ∧ s_mass_checked_1 a b c d = s_ref08_told_1 a b c d ∧ s_mass_checked_2 a b c d = s_ref08_told_2 a b c d ∧ s_mass_checked_3 a b c d = s_ref08_told_3 a b c d ∧ s_mass_checked_4 a b c d = s_ref08_told_4 a b c d := by
  unfold s_mass_checked_0 s_ref08_told_0 s_mass_checked_1 s_ref08_told_1 s_mass_checked_2 s_ref08_told_2 s_mass_checked_3 s_ref08_told_3 s_mass_checked_4 s_ref08_told_4
  rw [check_same hc hd]
  exact ⟨rfl, rfl, rfl, rfl, rfl⟩
/-- What several weigh together. -/
theorem join_same {n : Nat} {e0 e1 e2 e3 g0 g1 g2 g3 : Nat → Nat} (h3 : n ≤ 300) (q0 : ∀ i, i < n → e0 i = g0 i) (q1 : ∀ i, i < n → e1 i = g1 i) (q2 : ∀ i, i < n → e2 i = g2 i) (q3 : ∀ i, i < n → e3 i = g3 i)
    (c2 : ∀ i, i < n → CF (g2 i)) (c3 : ∀ i, i < n → CF (g3 i)) :
    (s_mass_Join_0 n e0 e1 e2 e3 = s_ref08_Join_0 n g0 g1 g2 g3 ∧ s_mass_Join_1 n e0 e1 e2 e3 = s_ref08_Join_1 n g0 g1 g2 g3 ∧ s_mass_Join_2 n e0 e1 e2 e3 = s_ref08_Join_2 n g0 g1 g2 g3 ∧ s_mass_Join_3 n e0 e1 e2 e3 = s_ref08_Join_3 n g0 g1 g2 g3 ∧ s_mass_Join_4 n e0 e1 e2 e3 = s_ref08_Join_4 n g0 g1 g2 g3) ∧
    o_mass_Join n e0 e1 e2 e3 = true ∧ o_ref08_Join n g0 g1 g2 g3 = true := by
  obtain ⟨m, hm, hall, hend⟩ := first_not (p := fun i => ieq (s_ref08_Check_0 (g0 i) (g1 i) (g2 i) (g3 i)) 0) n
  have hsame : ∀ i, i < n → s_mass_Check_0 (e0 i) (e1 i) (e2 i) (e3 i) = s_ref08_Check_0 (g0 i) (g1 i) (g2 i) (g3 i) := fun i hi => by
    rw [q0 i hi, q1 i hi, q2 i hi, q3 i hi, check_same (c2 i hi) (c3 i hi)]
  obtain ⟨a1, a2⟩ := mass_Join_loop (e0 := e0) (e1 := e1) (e2 := e2) (e3 := e3) h3 hm (fun i hi => by rw [hsame i (by omega)]; exact hall i hi) (by
    rcases Nat.eq_or_lt_of_le hm with h | h
    · exact .inl h
    · rcases hend with h' | h'
      · omega
      · exact .inr (by rw [hsame m h]; exact h'))
  obtain ⟨b1, b2⟩ := ref08_Join_loop (e0 := g0) (e1 := g1) (e2 := g2) (e3 := g3) h3 hm hall hend
  have hbig : ilt (16384 : Int) (Int.ofNat n) = false := ilt_false (by simp only [Int.ofNat_eq_natCast]; omega)
  -- which is not a mass
  generalize hbad : (bif (!(ilt (Int.ofNat m) (Int.ofNat n))) then false else (!(ieq (s_ref08_Check_0 (g0 m) (g1 m) (g2 m) (g3 m)) (0 : Int)))) = bad
  have hbad' : (bif (!(ilt (Int.ofNat m) (Int.ofNat n))) then false else (!(ieq (s_mass_Check_0 (e0 m) (e1 m) (e2 m) (e3 m)) (0 : Int)))) = bad := by
    rw [← hbad, ilt_ofNat]
    by_cases h : m < n
    · rw [hsame m h]
    · simp [h]
  have h80 : bad = true → s_mass_Check_0 (e0 m) (e1 m) (e2 m) (e3 m) = 80 := by
    intro hb
    rw [hb, ilt_ofNat] at hbad
    by_cases h : m < n
    · rw [hsame m h]
      rcases check_two (g0 m) (g1 m) (g2 m) (g3 m) with h8 | h8
      · exact h8
      · rw [h8] at hbad; simp [h, ieq] at hbad
    · simp [h] at hbad
  unfold s_mass_Join_0 s_mass_Join_1 s_mass_Join_2 s_mass_Join_3 s_mass_Join_4 s_ref08_Join_0 s_ref08_Join_1 s_ref08_Join_2 s_ref08_Join_3 s_ref08_Join_4 o_mass_Join o_ref08_Join
  simp only [a1, a2, b1, b2, toNat_of, hbig, hbad, hbad', cond_false, mrgB_eq]
  rcases Nat.lt_trichotomy n 1 with hn | hn | hn
  · have : n = 0 := by omega
    subst this
    have hz : ieq (Int.ofNat 0) 0 = true := rfl
    rw [hz]
    cases bad
    · exact ⟨⟨rfl, rfl, rfl, rfl, rfl⟩, rfl, rfl⟩
    · rw [h80 rfl]; exact ⟨⟨rfl, rfl, rfl, rfl, rfl⟩, rfl, rfl⟩
  · subst hn
    have hz : ieq (Int.ofNat 1) 0 = false := rfl
    have ho : ieq (Int.ofNat 1) 1 = true := rfl
    rw [hz, ho, q0 0 (by omega), q1 0 (by omega), q2 0 (by omega), q3 0 (by omega)]
    cases bad
    · exact ⟨⟨rfl, rfl, rfl, rfl, rfl⟩, rfl, rfl⟩
    · rw [h80 rfl]; exact ⟨⟨rfl, rfl, rfl, rfl, rfl⟩, rfl, rfl⟩
  · have hz : ieq (Int.ofNat n) 0 = false := ieq_false (by simp; omega)
    have ho : ieq (Int.ofNat n) 1 = false := ieq_false (by simp only [Int.ofNat_eq_natCast]; omega)
    have hp : 0 < n := by omega
    obtain ⟨s0, o0⟩ := sum_v0 (e0 := e0) (e1 := e1) (e2 := e2) (e3 := e3) hp h3
    obtain ⟨s1, o1⟩ := sum_v1 (e0 := e0) (e1 := e1) (e2 := e2) (e3 := e3) hp h3
    obtain ⟨s2, o2⟩ := sum_v2 (e0 := e0) (e1 := e1) (e2 := e2) (e3 := e3) hp h3
    have t0 : sumF (fun j => s_mass_Join_1_0 (e0 j) (e1 j) (e2 j) (e3 j)) (n - 1) = sumF g0 (n - 1) := sumF_congr _ fun j hj => q0 j (by omega)
    have t1 : sumF (fun j => s_mass_Join_2_0 (e0 j) (e1 j) (e2 j) (e3 j)) (n - 1) = sumF (fun j => fmul (g0 j) (g2 j)) (n - 1) := sumF_congr _ fun j hj => by
      show fmul (e0 j) (e2 j) = _
      rw [q0 j (by omega), q2 j (by omega)]
    have t2 : sumF (fun j => s_mass_Join_3_0 (e0 j) (e1 j) (e2 j) (e3 j)) (n - 1) = sumF (fun j => fmul (g0 j) (g3 j)) (n - 1) := sumF_congr _ fun j hj => by
      show fmul (e0 j) (e3 j) = _
      rw [q0 j (by omega), q3 j (by omega)]
    obtain ⟨r1, r2⟩ := ref_sums (g0 := g0) (g2 := g2) (g3 := g3) hp h3
    rw [s0, s1, s2, t0, t1, t2, o0, o1, o2, r1, r2, hz, ho]
    simp only [s_ref02_Vec_0, s_ref02_Vec_1]
    generalize sumF g0 (n - 1) = A
    generalize hX : fdiv (sumF (fun j => fmul (g0 j) (g2 j)) (n - 1)) A = X
    generalize hY : fdiv (sumF (fun j => fmul (g0 j) (g3 j)) (n - 1)) A = Y
    have cX : CF X := by rw [← hX]; exact CF.div _ _
    have cY : CF Y := by rw [← hY]; exact CF.div _ _
    obtain ⟨s4, o4⟩ := sum_v3 (p := X) (q := Y) (e0 := e0) (e1 := e1) (e2 := e2) (e3 := e3) hp h3
    have t4 : sumF (fun j => s_mass_Join_4_0 (e0 j) (e1 j) (e2 j) (e3 j) X Y) (n - 1) = sumF (turnF g0 g1 g2 g3 X Y) (n - 1) := sumF_congr _ fun j hj => by
      show s_mass_Join_4_0 (e0 j) (e1 j) (e2 j) (e3 j) X Y = _
      rw [q0 j (by omega), q1 j (by omega), q2 j (by omega), q3 j (by omega), turn_same]
    obtain ⟨r3, r4⟩ := ref_turn (g0 := g0) (g1 := g1) (g2 := g2) (g3 := g3) (p := X) (q := Y) hp h3
    rw [s4, t4, o4, r3, r4]
    generalize sumF (turnF g0 g1 g2 g3 X Y) (n - 1) = Z
    obtain ⟨w0, w1, w2, w3, w4⟩ := told_same (a := A) (b := Z) cX cY
    rw [w0, w1, w2, w3, w4, blt_true hp]
    cases bad
    · cases feq A 0 <;> exact ⟨⟨rfl, rfl, rfl, rfl, rfl⟩, rfl, rfl⟩
    · rw [h80 rfl]
      cases feq A 0 <;> exact ⟨⟨rfl, rfl, rfl, rfl, rfl⟩, rfl, rfl⟩
end Go.Proofs.YtbkogihigehjlaaGreat.Jn
