/- Sixteen thousand masses together, and one more. -/
import Derived.Test.YtbkogihigehjlaaLawNamesAN
import Derived.Test.YtbkogihigehjlaaSimErr
set_option linter.unusedVariables false
set_option linter.unusedSimpArgs false
set_option maxHeartbeats 4000000
namespace Go.Proofs.Ytbkogihigehjlaa
open Go.Sim Go.Lst Ieee
/-- The word of a whole number. -/
def nbW (k : Nat) : Nat := (k.log2 + 1022) * 4503599627370496 + k * 2 ^ (52 - k.log2)
theorem nb_parts {k : Nat} (h0 : 0 < k) (h1 : k ≤ 32768) : 4503599627370496 ≤ k * 2 ^ (52 - k.log2) ∧ k * 2 ^ (52 - k.log2) ≤ 9007199254740992 ∧ k.log2 ≤ 15 := by
  have hl : 2 ^ k.log2 ≤ k := Nat.log2_self_le (by omega)
  have hu : k < 2 ^ (k.log2 + 1) := Nat.lt_log2_self
  have l15 : k.log2 ≤ 15 := by
    have : 2 ^ k.log2 ≤ 2 ^ 15 := Nat.le_trans hl (by omega)
    exact (Nat.pow_le_pow_iff_right (by omega)).1 this
  have e : 2 ^ k.log2 * 2 ^ (52 - k.log2) = 4503599627370496 := by rw [← Nat.pow_add, show k.log2 + (52 - k.log2) = 52 by omega]
  have e2 : 2 ^ (k.log2 + 1) * 2 ^ (52 - k.log2) = 9007199254740992 := by rw [← Nat.pow_add, show k.log2 + 1 + (52 - k.log2) = 53 by omega]
  exact ⟨by rw [← e]; exact Nat.mul_le_mul_right _ hl, by rw [← e2]; exact Nat.mul_le_mul_right _ (Nat.le_of_lt hu), l15⟩
theorem nb_mag {k D : Nat} (hD : D = 1074) (h0 : 0 < k) (h1 : k ≤ 32768) : magOf (nbW k) = k * 2 ^ D := by
  obtain ⟨p1, p2, p3⟩ := nb_parts h0 h1
  unfold nbW
  rw [magOf_parts (.inr ⟨p1, p2⟩), Nat.mul_assoc, ← Nat.pow_add]
  congr 2
  omega
theorem nb_lt {k : Nat} (h0 : 0 < k) (h1 : k ≤ 32768) : nbW k < 9218868437227405312 := by
  obtain ⟨p1, p2, p3⟩ := nb_parts h0 h1
  unfold nbW
  omega
theorem word_f {r : Nat} : double.word false r = r := by unfold Format.word; simp
theorem nb_fin {k : Nat} (h0 : 0 < k) (h1 : k ≤ 32768) : fin (nbW k) = true := by
  have := fin_word false (nb_lt h0 h1)
  rwa [word_f] at this
theorem nb_sgn {k : Nat} (h0 : 0 < k) (h1 : k ≤ 32768) : sgnOf (nbW k) = false ∧ rungOf (nbW k) = nbW k := by
  have h := nb_lt h0 h1
  exact ⟨(sgn_false (by omega)).2 (by omega), Nat.mod_eq_of_lt (by omega)⟩
theorem nb_sval {k D : Nat} (hD : D = 1074) (h0 : 0 < k) (h1 : k ≤ 32768) : sval (nbW k) = ((k * 2 ^ D : Nat) : Int) := by
  obtain ⟨s, r⟩ := nb_sgn h0 h1
  rw [sval_sgn, s, r, nb_mag hD h0 h1]; rfl
theorem nb_add {a b : Nat} (ha : 0 < a) (hb : 0 < b) (h : a + b ≤ 32768) : fadd (nbW a) (nbW b) = nbW (a + b) := by
  obtain ⟨D, hD⟩ : ∃ D, D = 1074 := ⟨_, rfl⟩
  have hp : 0 < (a + b) * 2 ^ D := Nat.mul_pos (by omega) (Nat.two_pow_pos D)
  have e : sval (nbW a) + sval (nbW b) = (((a + b) * 2 ^ D : Nat) : Int) := by
    rw [nb_sval hD ha (by omega), nb_sval hD hb (by omega), Nat.add_mul]; simp
  rw [fadd_fin (nb_fin ha (by omega)) (nb_fin hb (by omega)), e, Int.natAbs_natCast]
  have h2 := RN_exact (r := nbW (a + b)) (Nat.le_of_lt (nb_lt (by omega) h)) 0
  rw [nb_mag hD (by omega) h, Nat.pow_zero, Nat.mul_one] at h2
  rw [h2]
  have n0 : ¬ ((((a + b) * 2 ^ D : Nat) : Int) = 0) := by omega
  have n1 : ¬ ((((a + b) * 2 ^ D : Nat) : Int) < 0) := by omega
  rw [if_neg n0, decide_eq_false n1, word_f]
theorem nb1 : (4607182418800017408 : Nat) = nbW 1 := by decide +kernel
theorem nb2 : (4611686018427387904 : Nat) = nbW 2 := by decide +kernel
theorem nb16 : (4670232813583204352 : Nat) = nbW 16384 := by decide +kernel
theorem sum_w {w : Nat} (hw : 0 < w) (h2 : w ≤ 2) {F : Nat → Nat} (hF : ∀ j, F j = nbW w) : ∀ k, k < 16384 → sumF F k = nbW (w * (k + 1))
  | 0, _ => by rw [Nat.mul_one]; exact hF 0
  | k + 1, h => by
    have h3 : w * (k + 1) ≤ 2 * (k + 1) := Nat.mul_le_mul_right _ h2
    have h4 : 0 < w * (k + 1) := Nat.mul_pos hw (by omega)
    show fadd (sumF F k) (F (k + 1)) = _
    rw [sum_w hw h2 hF k (by omega), hF, nb_add h4 hw (by omega), ← Nat.mul_succ]
theorem sum_0 {F : Nat → Nat} (hF : ∀ j, F j = 0) : ∀ k, sumF F k = 0
  | 0 => hF 0
  | k + 1 => by
    show fadd (sumF F k) (F (k + 1)) = 0
    rw [sum_0 hF k, hF]; decide +kernel
theorem mul_12 : fmul 4607182418800017408 4611686018427387904 = nbW 2 := by decide +kernel
theorem mul_10 : fmul 4607182418800017408 0 = 0 := by decide +kernel
theorem div_2 : fdiv (nbW (2 * 16384)) (nbW 16384) = 4611686018427387904 := by decide +kernel
theorem div_0 : fdiv 0 (nbW 16384) = 0 := by decide +kernel
theorem abt_1 : s_mass_Join_4_0 4607182418800017408 4607182418800017408 4611686018427387904 0 4611686018427387904 0 = nbW 1 := by decide +kernel
theorem chk_1 : s_mass_Check_0 4607182418800017408 4607182418800017408 4611686018427387904 0 = 0 := by decide +kernel
theorem chk_n : s_mass_Check_0 (nbW 16384) (nbW 16384) 4611686018427387904 0 = 0 := by decide +kernel
theorem ne_n : feq (nbW 16384) 0 = false := by decide +kernel
theorem eq_n : feq (nbW 16384) 4670232813583204352 = true := by decide +kernel
theorem eq_2 : feq 4611686018427387904 4611686018427387904 = true := by decide +kernel
theorem eq_0 : feq 0 0 = true := by decide +kernel
theorem t0_n {n : Nat} {e0 e1 e2 e3 : Nat → Nat} (hn : n = 16384) (q0 : ∀ i, i < n → e0 i = 4607182418800017408) : sumF (fun j => s_mass_Join_1_0 (e0 j) (e1 j) (e2 j) (e3 j)) (n - 1) = nbW n := by
  have h := sumF_congr (F := fun j => s_mass_Join_1_0 (e0 j) (e1 j) (e2 j) (e3 j)) (G := fun _ => nbW 1) (n - 1) fun j hj => by
    show e0 j = _
    rw [q0 j (by omega), nb1]
  have h2 := sum_w (w := 1) (F := fun _ => nbW 1) (by omega) (by omega) (fun _ => rfl) (n - 1) (by omega)
  rw [h, h2, show 1 * (n - 1 + 1) = n by omega]
theorem t1_n {n : Nat} {e0 e1 e2 e3 : Nat → Nat} (hn : n = 16384) (q0 : ∀ i, i < n → e0 i = 4607182418800017408) (q2 : ∀ i, i < n → e2 i = 4611686018427387904) : sumF (fun j => s_mass_Join_2_0 (e0 j) (e1 j) (e2 j) (e3 j)) (n - 1) = nbW (2 * n) := by
  have h := sumF_congr (F := fun j => s_mass_Join_2_0 (e0 j) (e1 j) (e2 j) (e3 j)) (G := fun _ => nbW 2) (n - 1) fun j hj => by
    show fmul (e0 j) (e2 j) = _
    rw [q0 j (by omega), q2 j (by omega), mul_12]
  have h2 := sum_w (w := 2) (F := fun _ => nbW 2) (by omega) (by omega) (fun _ => rfl) (n - 1) (by omega)
  rw [h, h2, show n - 1 + 1 = n by omega]
theorem t2_n {n : Nat} {e0 e1 e2 e3 : Nat → Nat} (hn : n = 16384) (q0 : ∀ i, i < n → e0 i = 4607182418800017408) (q3 : ∀ i, i < n → e3 i = 0) : sumF (fun j => s_mass_Join_3_0 (e0 j) (e1 j) (e2 j) (e3 j)) (n - 1) = 0 := by
  have h := sumF_congr (F := fun j => s_mass_Join_3_0 (e0 j) (e1 j) (e2 j) (e3 j)) (G := fun _ => 0) (n - 1) fun j hj => by
    show fmul (e0 j) (e3 j) = _
    rw [q0 j (by omega), q3 j (by omega), mul_10]
  rw [h]
  exact sum_0 (fun _ => rfl) _
theorem t4_n {n : Nat} {e0 e1 e2 e3 : Nat → Nat} (hn : n = 16384) (q0 : ∀ i, i < n → e0 i = 4607182418800017408) (q1 : ∀ i, i < n → e1 i = 4607182418800017408) (q2 : ∀ i, i < n → e2 i = 4611686018427387904) (q3 : ∀ i, i < n → e3 i = 0) : sumF (fun j => s_mass_Join_4_0 (e0 j) (e1 j) (e2 j) (e3 j) 4611686018427387904 0) (n - 1) = nbW n := by
  have h := sumF_congr (F := fun j => s_mass_Join_4_0 (e0 j) (e1 j) (e2 j) (e3 j) 4611686018427387904 0) (G := fun _ => nbW 1) (n - 1) fun j hj => by
    show s_mass_Join_4_0 (e0 j) (e1 j) (e2 j) (e3 j) 4611686018427387904 0 = _
    rw [q0 j (by omega), q1 j (by omega), q2 j (by omega), q3 j (by omega), abt_1]
  have h2 := sum_w (w := 1) (F := fun _ => nbW 1) (by omega) (by omega) (fun _ => rfl) (n - 1) (by omega)
  rw [h, h2, show 1 * (n - 1 + 1) = n by omega]
theorem join_n {n A B : Nat} {e0 e1 e2 e3 : Nat → Nat} (hn : n = 16384) (hA : nbW n = A) (hB : nbW (2 * n) = B) (q0 : ∀ i, i < n → e0 i = 4607182418800017408) (q1 : ∀ i, i < n → e1 i = 4607182418800017408) (q2 : ∀ i, i < n → e2 i = 4611686018427387904) (q3 : ∀ i, i < n → e3 i = 0)
    (d2 : fdiv B A = 4611686018427387904) (d0 : fdiv 0 A = 0) (c0 : s_mass_Check_0 A A 4611686018427387904 0 = 0) (nz : feq A 0 = false) :
    s_mass_Join_0 n e0 e1 e2 e3 = A ∧ s_mass_Join_1 n e0 e1 e2 e3 = A ∧ s_mass_Join_2 n e0 e1 e2 e3 = 4611686018427387904 ∧ s_mass_Join_3 n e0 e1 e2 e3 = 0 ∧ s_mass_Join_4 n e0 e1 e2 e3 = 0 ∧ o_mass_Join n e0 e1 e2 e3 = true := by
  have h3 : n ≤ 16384 := by omega
  have hp : 0 < n := by omega
  obtain ⟨a1, a2⟩ := mass_Join_loop (e0 := e0) (e1 := e1) (e2 := e2) (e3 := e3) h3 (Nat.le_refl n) (fun i hi => by rw [q0 i hi, q1 i hi, q2 i hi, q3 i hi, chk_1]; rfl) (.inl rfl)
  obtain ⟨s0, o0⟩ := sum_v0 (e0 := e0) (e1 := e1) (e2 := e2) (e3 := e3) hp h3
  obtain ⟨s1, o1⟩ := sum_v1 (e0 := e0) (e1 := e1) (e2 := e2) (e3 := e3) hp h3
  obtain ⟨s2, o2⟩ := sum_v2 (e0 := e0) (e1 := e1) (e2 := e2) (e3 := e3) hp h3
  obtain ⟨s4, o4⟩ := sum_v3 (p := 4611686018427387904) (q := 0) (e0 := e0) (e1 := e1) (e2 := e2) (e3 := e3) hp h3
  rw [t0_n hn q0, hA] at s0
  rw [t1_n hn q0 q2, hB] at s1
  rw [t2_n hn q0 q3] at s2
  rw [t4_n hn q0 q1 q2 q3, hA] at s4
  have hbig : ilt (16384 : Int) (Int.ofNat n) = false := ilt_false (by simp only [Int.ofNat_eq_natCast]; omega)
  have hz : ieq (Int.ofNat n) 0 = false := ieq_false (by simp only [Int.ofNat_eq_natCast]; omega)
  have ho : ieq (Int.ofNat n) 1 = false := ieq_false (by simp only [Int.ofNat_eq_natCast]; omega)
  have hl : ilt (Int.ofNat n) (Int.ofNat n) = false := ilt_false (Int.le_refl _)
  clear hn hA hB q0 q1 q2 q3 h3
  unfold s_mass_Join_0 s_mass_Join_1 s_mass_Join_2 s_mass_Join_3 s_mass_Join_4 o_mass_Join
  simp only [s0, s1, s2, d2, d0, s4, o0, o1, o2, o4, a1, a2, hbig, hz, ho, hl]
  unfold s_mass_checked_0 s_mass_checked_1 s_mass_checked_2 s_mass_checked_3 s_mass_checked_4
  simp only [c0, nz, mrgB_eq, cond_false, cond_true, Bool.or_self, Bool.not_false, Bool.and_self, ieq_self, Bool.not_true, and_self]
theorem join_m {n : Nat} {e0 e1 e2 e3 : Nat → Nat} (hn : 16384 < n) : s_mass_Join_4 n e0 e1 e2 e3 = 4 ∧ o_mass_Join n e0 e1 e2 e3 = true := by
  have hbig : ilt (16384 : Int) (Int.ofNat n) = true := ilt_true (by simp only [Int.ofNat_eq_natCast]; omega)
  unfold s_mass_Join_4 o_mass_Join
  simp only [hbig, mrgB_eq, cond_true, and_self]
theorem fill : ∃ F0 F1 F2 F3 : Nat → Nat, (∀ i, i < 16385 → F0 i = 4607182418800017408 ∧ F1 i = 4607182418800017408 ∧ F2 i = 4611686018427387904 ∧ F3 i = 0) ∧
    E_law08_MassNames_L0 (V_law08_MassNames_L0.mk (0 : Int) (fun j0 => 0) (fun j0 => 0) (fun j0 => 0) (fun j0 => 0)) = true ∧
    L_law08_MassNames_L0 (V_law08_MassNames_L0.mk (0 : Int) (fun j0 => 0) (fun j0 => 0) (fun j0 => 0) (fun j0 => 0)) = V_law08_MassNames_L0.mk 16385 F0 F1 F2 F3 := by
  have up : ∀ (w k : Nat), (fun j0 => bif Nat.beq j0 k then w else bif Nat.blt j0 k then w else 0) = fun j0 => bif Nat.blt j0 (k + 1) then w else 0 := by
    intro w k
    funext j
    by_cases h1 : j = k
    · subst h1; rw [beqn_self, blt_true (Nat.lt_succ_self j)]; rfl
    · rw [beqn_false h1, cond_false]
      by_cases h2 : j < k
      · rw [blt_true h2, blt_true (show j < k + 1 by omega)]
      · rw [blt_false (show k ≤ j by omega), blt_false (show k + 1 ≤ j by omega)]
  have key : ∀ N : Nat, N = 16385 → E_law08_MassNames_L0 (V_law08_MassNames_L0.mk (0 : Int) (fun j0 => 0) (fun j0 => 0) (fun j0 => 0) (fun j0 => 0)) = true ∧
      L_law08_MassNames_L0 (V_law08_MassNames_L0.mk (0 : Int) (fun j0 => 0) (fun j0 => 0) (fun j0 => 0) (fun j0 => 0)) = V_law08_MassNames_L0.mk (Int.ofNat N) (fun j => bif Nat.blt j N then 4607182418800017408 else 0) (fun j => bif Nat.blt j N then 4607182418800017408 else 0) (fun j => bif Nat.blt j N then 4611686018427387904 else 0) (fun j => bif Nat.blt j N then 0 else 0) := by
    intro N hN
    have e : ∀ k : Nat, ilt (Int.ofNat k) 16385 = decide (k < N) := fun k => by rw [hN]; exact ilt_ofNat (m := k) (n := 16385)
    have hr := run_to (ok := ok_law08_MassNames_L0) (go := go_law08_MassNames_L0) (step := step_law08_MassNames_L0)
      (fun k => V_law08_MassNames_L0.mk (Int.ofNat k) (fun j => bif Nat.blt j k then 4607182418800017408 else 0) (fun j => bif Nat.blt j k then 4607182418800017408 else 0) (fun j => bif Nat.blt j k then 4611686018427387904 else 0) (fun j => bif Nat.blt j k then 0 else 0)) N (fun k _ => by
        unfold ok_law08_MassNames_L0
        simp only [toNat_of]
        rw [mrgB_eq, e, ile_ofNat]
        by_cases h : k < N
        · rw [blt_true (show k < 16385 by omega)]; simp
        · simp [h]) (fun k hk => by
        unfold go_law08_MassNames_L0
        simp only [e]
        simp [hk]) (fun k hk => by
        unfold step_law08_MassNames_L0
        simp only [toNat_of]
        rw [succ_i64 (by omega)]
        simp only [up]) (by
        unfold go_law08_MassNames_L0
        simp only [e]
        simp)
    have z : ∀ w : Nat, (fun j0 => bif Nat.blt j0 0 then w else 0) = fun j0 => 0 := fun w => by
      funext j; rw [blt_false (Nat.zero_le j)]; rfl
    simp only [z] at hr
    exact hr
  obtain ⟨h1, h2⟩ := key 16385 rfl
  exact ⟨_, _, _, _, fun i hi => ⟨by rw [blt_true hi]; rfl, by rw [blt_true hi]; rfl, by rw [blt_true hi]; rfl, by rw [blt_true hi]; rfl⟩, h1, h2⟩
theorem law_all : T_law08_MassNames = true ∧ O_law08_MassNames = true := by
  obtain ⟨F0, F1, F2, F3, hF, hE, hL⟩ := fill
  obtain ⟨n, hn⟩ : ∃ n, n = 16384 := ⟨_, rfl⟩
  obtain ⟨m, hm⟩ : ∃ m, m = 16385 := ⟨_, rfl⟩
  obtain ⟨j0, j1, j2, j3, j4, jo⟩ := join_n (e0 := F0) (e1 := F1) (e2 := F2) (e3 := F3) hn rfl rfl (fun i hi => (hF i (by omega)).1) (fun i hi => (hF i (by omega)).2.1) (fun i hi => (hF i (by omega)).2.2.1) (fun i hi => (hF i (by omega)).2.2.2) (by rw [hn]; exact div_2) (by rw [hn]; exact div_0) (by rw [hn]; exact chk_n) (by rw [hn]; exact ne_n)
  obtain ⟨k4, ko⟩ := join_m (n := m) (e0 := F0) (e1 := F1) (e2 := F2) (e3 := F3) (by omega)
  rw [hn] at j0 j1 j2 j3 j4 jo
  rw [hm] at k4 ko
  unfold T_law08_MassNames O_law08_MassNames
  rw [hL, hE]
  simp only [j0, j1, j2, j3, j4, jo, k4, ko, eq_n, eq_2, eq_0, ieq_self, mrgB_eq, Bool.and_self, allB_true, cond_true]
  exact ⟨rfl, rfl⟩
theorem law_MassNames : T_law08_MassNames = true := law_all.1
theorem ob_law_MassNames : O_law08_MassNames = true := law_all.2
end Go.Proofs.Ytbkogihigehjlaa
