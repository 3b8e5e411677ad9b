/- Shapes: areas, centres and what polygons weigh, as sums. -/
import Derived.Test.YtbkogihigehjlaaGreatLawShpDD
set_option linter.unusedVariables false
set_option linter.unusedSimpArgs false
set_option maxHeartbeats 4000000
namespace Go.Proofs.YtbkogihigehjlaaGreat
open Go.Sim Go.Lst Ieee
/-- The sum from the number 1 on. -/
def acc (F : Nat → Nat) : Nat → Nat
  | 0 => 0
  | 1 => F 1
  | k + 2 => fadd (acc F (k + 1)) (F (k + 2))
theorem acc_congr {F G : Nat → Nat} : ∀ k, (∀ j, 1 ≤ j → j ≤ k → F j = G j) → acc F k = acc G k
  | 0, h => rfl
  | 1, h => h 1 (Nat.le_refl _) (Nat.le_refl _)
  | k + 2, h => by simp only [acc]; rw [acc_congr (k + 1) fun j h1 h2 => h j h1 (by omega), h (k + 2) (by omega) (Nat.le_refl _)]
def sumF (F : Nat → Nat) : Nat → Nat
  | 0 => F 0
  | k + 1 => fadd (sumF F k) (F (k + 1))
theorem sumF_congr {F G : Nat → Nat} : ∀ k, (∀ j, j ≤ k → F j = G j) → sumF F k = sumF G k
  | 0, h => h 0 (Nat.le_refl _)
  | k + 1, h => by simp only [sumF]; rw [sumF_congr k fun j hj => h j (by omega), h (k + 1) (Nat.le_refl _)]
def acc0 (F : Nat → Nat) : Nat → Nat
  | 0 => 0
  | k + 1 => sumF F k
section
variable (f g : Nat → Nat)
def crF (i : Nat) : Nat := fsub (fmul (fsub (f i) (f 0)) (fsub (g (i + 1)) (g 0))) (fmul (fsub (g i) (g 0)) (fsub (f (i + 1)) (f 0)))
def mxF (i : Nat) : Nat := fmul (fadd (fsub (f i) (f 0)) (fsub (f (i + 1)) (f 0))) (crF f g i)
def myF (i : Nat) : Nat := fmul (fadd (fsub (g i) (g 0)) (fsub (g (i + 1)) (g 0))) (crF f g i)
def qF (n : Nat) (x y : Nat) (i : Nat) : Nat :=
  fmul (fsub (fmul (fsub (f i) x) (fsub (g ((i + 1) % n)) y)) (fmul (fsub (g i) y) (fsub (f ((i + 1) % n)) x)))
    (fadd (fadd (fadd (fmul (fsub (f i) x) (fsub (f i) x)) (fmul (fsub (g i) y) (fsub (g i) y))) (fadd (fmul (fsub (f i) x) (fsub (f ((i + 1) % n)) x)) (fmul (fsub (g i) y) (fsub (g ((i + 1) % n)) y))))
      (fadd (fmul (fsub (f ((i + 1) % n)) x) (fsub (f ((i + 1) % n)) x)) (fmul (fsub (g ((i + 1) % n)) y) (fsub (g ((i + 1) % n)) y))))
end
variable {n : Nat} {f g : Nat → Nat}
theorem wrap_pred (h3 : 3 ≤ n) (h64 : n ≤ 64) : IntKind.wrap .i64 (Int.ofNat n - 1) = Int.ofNat (n - 1) := by
  rw [wrap_i64 (by simp only [Int.ofNat_eq_natCast]; omega) (by simp only [Int.ofNat_eq_natCast]; omega)]; simp only [Int.ofNat_eq_natCast]; omega
theorem ieq_one (k : Nat) : ieq (Int.ofNat k) 1 = decide (k = 1) := ieq_nat k 1
theorem ieq_nil (k : Nat) : ieq (Int.ofNat k) 0 = decide (k = 0) := ieq_nat k 0
theorem acc_step (F : Nat → Nat) (k : Nat) : (bif decide (k + 1 = 1) then F (k + 1) else fadd (acc F k) (F (k + 1))) = acc F (k + 1) := by
  cases k with
  | zero => rfl
  | succ k => simp [acc]
theorem acc0_step (F : Nat → Nat) (k : Nat) : (bif decide (k = 0) then F k else fadd (acc0 F k) (F k)) = acc0 F (k + 1) := by
  cases k with
  | zero => rfl
  | succ k => simp [acc0, sumF]
theorem go_at {k n : Nat} : (bif (!(ilt (Int.ofNat k) (Int.ofNat n))) then false else true) = decide (k < n) := by
  rw [ilt_ofNat]; cases decide (k < n) <;> rfl
theorem weighed_ok (h64 : n ≤ 64) (h3 : 3 ≤ n) : E_poly_weighed_L0 n f g (V_poly_weighed_L0.mk 0 1 0 0) = true ∧ L_poly_weighed_L0 n f g (V_poly_weighed_L0.mk 0 1 0 0) = V_poly_weighed_L0.mk (acc (crF f g) (n - 2)) (Int.ofNat (n - 1)) (acc (mxF f g) (n - 2)) (acc (myF f g) (n - 2)) := by
  have hr := run_to (ok := ok_poly_weighed_L0 n f g) (go := go_poly_weighed_L0 n f g) (step := step_poly_weighed_L0 n f g) (fun k => V_poly_weighed_L0.mk (acc (crF f g) k) (Int.ofNat (k + 1)) (acc (mxF f g) k) (acc (myF f g) k)) (n - 2)
    (fun k hk => by
      unfold ok_poly_weighed_L0
      dsimp only
      rw [succ_i64 (by omega), wrap_pred h3 h64, ilt_ofNat, ile_ofNat, ile_ofNat, blt_true (show 0 < n by omega)]
      simp only [toNat_of, mrg_same, mrgB_eq]
      by_cases h : k + 1 < n - 1
      · rw [blt_true (show k + 1 + 1 < n by omega), blt_true (show k + 1 < n by omega)]; simp
      · simp [h])
    (fun k hk => by unfold go_poly_weighed_L0; dsimp only; rw [wrap_pred h3 h64, go_at]; simp; omega)
    (fun k hk => by
      unfold step_poly_weighed_L0
      dsimp only
      rw [succ_i64 (by omega), ieq_one]
      simp only [toNat_of]
      congr 1
      · exact acc_step (crF f g) k
      · exact acc_step (mxF f g) k
      · exact acc_step (myF f g) k)
    (by unfold go_poly_weighed_L0; dsimp only; rw [wrap_pred h3 h64, go_at]; simp; omega)
  rw [show n - 2 + 1 = n - 1 by omega] at hr
  exact hr
theorem rsum_ok (h64 : n ≤ 64) (h3 : 3 ≤ n) : E_ref06_sum_L0 n f g (V_ref06_sum_L0.mk 0 1) = true ∧ L_ref06_sum_L0 n f g (V_ref06_sum_L0.mk 0 1) = V_ref06_sum_L0.mk (acc (crF f g) (n - 2)) (Int.ofNat (n - 1)) := by
  have hr := run_to (ok := ok_ref06_sum_L0 n f g) (go := go_ref06_sum_L0 n f g) (step := step_ref06_sum_L0 n f g) (fun k => V_ref06_sum_L0.mk (acc (crF f g) k) (Int.ofNat (k + 1))) (n - 2)
    (fun k hk => by
      unfold ok_ref06_sum_L0
      dsimp only
      rw [succ_i64 (by omega), wrap_pred h3 h64, ilt_ofNat, ile_ofNat, ile_ofNat, blt_true (show 0 < n by omega)]
      simp only [toNat_of, mrg_same, mrgB_eq]
      by_cases h : k + 1 < n - 1
      · rw [blt_true (show k + 1 + 1 < n by omega), blt_true (show k + 1 < n by omega)]; simp
      · simp [h])
    (fun k hk => by unfold go_ref06_sum_L0; dsimp only; rw [wrap_pred h3 h64, go_at]; simp; omega)
    (fun k hk => by
      unfold step_ref06_sum_L0
      dsimp only
      rw [succ_i64 (by omega), ieq_one]
      simp only [toNat_of]
      congr 1
      exact acc_step (crF f g) k)
    (by unfold go_ref06_sum_L0; dsimp only; rw [wrap_pred h3 h64, go_at]; simp; omega)
  rw [show n - 2 + 1 = n - 1 by omega] at hr
  exact hr
theorem rcentre_ok (h64 : n ≤ 64) (h3 : 3 ≤ n) : E_ref06_Centre_L0 n f g (V_ref06_Centre_L0.mk 0 0 1) = true ∧ L_ref06_Centre_L0 n f g (V_ref06_Centre_L0.mk 0 0 1) = V_ref06_Centre_L0.mk (acc (mxF f g) (n - 2)) (acc (myF f g) (n - 2)) (Int.ofNat (n - 1)) := by
  have hr := run_to (ok := ok_ref06_Centre_L0 n f g) (go := go_ref06_Centre_L0 n f g) (step := step_ref06_Centre_L0 n f g) (fun k => V_ref06_Centre_L0.mk (acc (mxF f g) k) (acc (myF f g) k) (Int.ofNat (k + 1))) (n - 2)
    (fun k hk => by
      unfold ok_ref06_Centre_L0
      dsimp only
      rw [succ_i64 (by omega), wrap_pred h3 h64, ilt_ofNat, ile_ofNat, ile_ofNat, blt_true (show 0 < n by omega)]
      simp only [toNat_of, mrg_same, mrgB_eq]
      by_cases h : k + 1 < n - 1
      · rw [blt_true (show k + 1 + 1 < n by omega), blt_true (show k + 1 < n by omega)]; simp
      · simp [h])
    (fun k hk => by unfold go_ref06_Centre_L0; dsimp only; rw [wrap_pred h3 h64, go_at]; simp; omega)
    (fun k hk => by
      unfold step_ref06_Centre_L0
      dsimp only
      rw [succ_i64 (by omega), ieq_one]
      simp only [toNat_of]
      congr 1
      · exact acc_step (mxF f g) k
      · exact acc_step (myF f g) k)
    (by unfold go_ref06_Centre_L0; dsimp only; rw [wrap_pred h3 h64, go_at]; simp; omega)
  rw [show n - 2 + 1 = n - 1 by omega] at hr
  exact hr
theorem ok_at {k n : Nat} : mrgB (!(ilt (Int.ofNat k) (Int.ofNat n))) true ((ile (0 : Int) (Int.ofNat k)) && (Nat.blt k n)) = true := by
  rw [mrgB_eq, ilt_ofNat, ile_ofNat]
  by_cases h : k < n
  · rw [blt_true h]; simp
  · simp [h]
theorem num_sum {n : Nat} {c : Nat → Nat} (hn : 0 < n) (h3 : n ≤ 300) : s_num_Sum_0 n c = sumF c (n - 1) ∧ o_num_Sum n c = true := by
  have hr := run_to (ok := ok_num_Sum_L0 (n - 1) (fun j0 => c (1 + j0)) (Int.ofNat (n - 1))) (go := go_num_Sum_L0 (n - 1) (fun j0 => c (1 + j0)) (Int.ofNat (n - 1))) (step := step_num_Sum_L0 (n - 1) (fun j0 => c (1 + j0)) (Int.ofNat (n - 1)))
    (fun k => V_num_Sum_L0.mk (sumF c k) (Int.ofNat k)) (n - 1) (fun k _ => ok_at) (fun k hk => go_at.trans (by simpa using hk)) (fun k hk => by
      unfold step_num_Sum_L0
      simp only [toNat_of]
      rw [succ_i64 (by omega), Nat.add_comm 1 k]; rfl) (go_at.trans (by simp))
  have hz : ieq (Int.ofNat n) 0 = false := ieq_false (by simp; omega)
  unfold s_num_Sum_0 o_num_Sum
  rw [hz, cond_false]
  constructor
  · exact congrArg V_num_Sum_L0.v0 hr.2
  · rw [mrgB_eq, cond_false]
    show (((_ && _) && _) && endsL _ _ _ _) = true
    rw [ble_true (show 1 ≤ n by omega), ble_true (Nat.le_refl n), blt_true hn]
    exact hr.1
theorem mpoly_loop {x y : Nat} (h64 : n ≤ 64) (h3 : 3 ≤ n) : E_mass_polygon_L0 n (Int.ofNat n) f g x y (V_mass_polygon_L0.mk 0 (fun j0 => 0)) = true ∧ (L_mass_polygon_L0 n (Int.ofNat n) f g x y (V_mass_polygon_L0.mk 0 (fun j0 => 0))).v1 = fun j => bif Nat.blt j n then qF f g n x y j else 0 := by
  have hr := run_to (ok := ok_mass_polygon_L0 n (Int.ofNat n) f g x y) (go := go_mass_polygon_L0 n (Int.ofNat n) f g x y) (step := step_mass_polygon_L0 n (Int.ofNat n) f g x y) (fun k => V_mass_polygon_L0.mk (Int.ofNat k) (fun j => bif Nat.blt j k then qF f g n x y j else 0)) n
    (fun k hk => by
      unfold ok_mass_polygon_L0
      dsimp only
      rw [mod_at (by omega), ilt_ofNat, ile_ofNat, ile_ofNat, mrgB_eq]
      simp only [toNat_of]
      rw [blt_true (Nat.mod_lt _ (show 0 < n by omega)), ieq_nil]
      by_cases h : k < n
      · rw [blt_true h]; simp; omega
      · simp [h])
    (fun k hk => by unfold go_mass_polygon_L0; dsimp only; rw [go_at]; simpa using hk)
    (fun k hk => by
      unfold step_mass_polygon_L0
      dsimp only
      rw [mod_at (by omega), succ_i64 (by omega)]
      simp only [toNat_of]
      congr 1
      funext j
      by_cases h1 : j = k
      · subst h1; rw [beqn_self, blt_true (Nat.lt_succ_self j)]; rfl
      · rw [beqn_false h1, cond_false]
        by_cases h2 : j < k
        · rw [blt_true h2, blt_true (show j < k + 1 by omega)]
        · rw [blt_false (show k ≤ j by omega), blt_false (show k + 1 ≤ j by omega)])
    (by unfold go_mass_polygon_L0; dsimp only; rw [go_at]; simp)
  exact ⟨hr.1, congrArg V_mass_polygon_L0.v1 hr.2⟩
theorem rpoly_loop {x y : Nat} (h64 : n ≤ 64) (h3 : 3 ≤ n) : E_ref08_polygon_L0 (Int.ofNat n) n f g x y (V_ref08_polygon_L0.mk 0 0) = true ∧ L_ref08_polygon_L0 (Int.ofNat n) n f g x y (V_ref08_polygon_L0.mk 0 0) = V_ref08_polygon_L0.mk (acc0 (qF f g n x y) n) (Int.ofNat n) := by
  have hr := run_to (ok := ok_ref08_polygon_L0 (Int.ofNat n) n f g x y) (go := go_ref08_polygon_L0 (Int.ofNat n) n f g x y) (step := step_ref08_polygon_L0 (Int.ofNat n) n f g x y) (fun k => V_ref08_polygon_L0.mk (acc0 (qF f g n x y) k) (Int.ofNat k)) n
    (fun k hk => by
      unfold ok_ref08_polygon_L0
      dsimp only
      rw [mod_at (by omega), ilt_ofNat, ile_ofNat, ile_ofNat]
      simp only [toNat_of, mrg_same, mrgB_eq]
      rw [blt_true (Nat.mod_lt _ (show 0 < n by omega)), ieq_nil]
      by_cases h : k < n
      · rw [blt_true h]; simp; omega
      · simp [h])
    (fun k hk => by unfold go_ref08_polygon_L0; dsimp only; rw [go_at]; simpa using hk)
    (fun k hk => by
      unfold step_ref08_polygon_L0
      dsimp only
      rw [mod_at (by omega), succ_i64 (by omega), ieq_nil]
      simp only [toNat_of]
      congr 1
      exact acc0_step (qF f g n x y) k)
    (by unfold go_ref08_polygon_L0; dsimp only; rw [go_at]; simp)
  exact hr
end Go.Proofs.YtbkogihigehjlaaGreat
