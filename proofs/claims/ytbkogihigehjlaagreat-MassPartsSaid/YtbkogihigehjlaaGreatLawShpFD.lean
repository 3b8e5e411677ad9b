/- Shapes: areas, centres, polygons' masses; the program and its reference agree. -/
import Derived.Test.YtbkogihigehjlaaGreatLawShpED
import Derived.Test.YtbkogihigehjlaaGreatLawLWithinTD
set_option linter.unusedVariables false
set_option linter.unusedSimpArgs false
set_option maxHeartbeats 4000000
namespace Go.Proofs.YtbkogihigehjlaaGreat
open Go.Sim Go.Lst Ieee
variable {n : Nat} {f g f' g' : Nat → Nat}
/-- Points seen in two ways, of which all that is asked holds. -/
structure Two (n : Nat) (f g f' g' : Nat → Nat) : Prop where
  ef : EqN n f f'
  eg : EqN n g g'
  cf : ∀ i, i < n → CF (f i)
  cg : ∀ i, i < n → CF (g i)
theorem Two.cr (t : Two n f g f' g') {i : Nat} (hi : i + 1 < n) : crF f' g' i = crF f g i := by
  unfold crF; rw [t.ef i (by omega), t.eg i (by omega), t.ef 0 (by omega), t.eg 0 (by omega), t.ef _ hi, t.eg _ hi]
theorem Two.mx (t : Two n f g f' g') {i : Nat} (hi : i + 1 < n) : mxF f' g' i = mxF f g i := by
  unfold mxF; rw [t.cr hi, t.ef i (by omega), t.ef 0 (by omega), t.ef _ hi]
theorem Two.my (t : Two n f g f' g') {i : Nat} (hi : i + 1 < n) : myF f' g' i = myF f g i := by
  unfold myF; rw [t.cr hi, t.eg i (by omega), t.eg 0 (by omega), t.eg _ hi]
theorem Two.q (t : Two n f g f' g') {x y i : Nat} (hi : i < n) : qF f' g' n x y i = qF f g n x y i := by
  have m : (i + 1) % n < n := Nat.mod_lt _ (by omega)
  unfold qF; rw [t.ef i hi, t.eg i hi, t.ef _ m, t.eg _ m]
section
variable (t : Two n f g f' g') (h64 : n ≤ 64) (h3 : 3 ≤ n)
include t h64 h3
theorem Two.check : s_poly_Check_0 n f' g' = s_ref06_Check_0 n f g := poly_same t.ef t.eg t.cf t.cg h64 h3
theorem Two.w0 : s_poly_weighed_0 n f' g' = s_ref06_sum_0 n f g := by
  unfold s_poly_weighed_0 s_ref06_sum_0
  rw [(weighed_ok h64 h3).2, (rsum_ok h64 h3).2]
  exact acc_congr _ fun j h1 h2 => t.cr (by omega)
theorem Two.w1 : s_poly_weighed_1 n f' g' = (L_ref06_Centre_L0 n f g (V_ref06_Centre_L0.mk 0 0 1)).v0 := by
  unfold s_poly_weighed_1
  rw [(weighed_ok h64 h3).2, (rcentre_ok h64 h3).2]
  exact acc_congr _ fun j h1 h2 => t.mx (by omega)
theorem Two.w2 : s_poly_weighed_2 n f' g' = (L_ref06_Centre_L0 n f g (V_ref06_Centre_L0.mk 0 0 1)).v1 := by
  unfold s_poly_weighed_2
  rw [(weighed_ok h64 h3).2, (rcentre_ok h64 h3).2]
  exact acc_congr _ fun j h1 h2 => t.my (by omega)
theorem Two.area0 : s_poly_Area_0 n f' g' = s_ref06_Area_0 n f g := by
  unfold s_poly_Area_0 s_ref06_Area_0; rw [t.check h64 h3, t.w0 h64 h3]
theorem Two.area1 : s_poly_Area_1 n f' g' = s_ref06_Area_1 n f g := by
  unfold s_poly_Area_1 s_ref06_Area_1; rw [t.check h64 h3, t.w0 h64 h3]
theorem Two.centre2 : s_poly_Centre_2 n f' g' = s_ref06_Centre_2 n f g := by
  unfold s_poly_Centre_2 s_ref06_Centre_2 s_ref06_Area_1
  rw [t.check h64 h3, t.w0 h64 h3]
  cases h1 : ieq (s_ref06_Check_0 n f g) 0
  · simp only [Bool.not_false, cond_true, h1]
  · simp only [Bool.not_true, cond_false]
    cases flt 0 (s_ref06_sum_0 n f g) <;> rfl
theorem Two.centre0 : s_poly_Centre_0 n f' g' = s_ref06_Centre_0 n f g := by
  unfold s_poly_Centre_0 s_ref06_Centre_0 s_ref06_Area_1
  rw [t.check h64 h3, t.w0 h64 h3, t.w1 h64 h3, t.w2 h64 h3, t.ef 0 (by omega), t.eg 0 (by omega)]
  cases h1 : ieq (s_ref06_Check_0 n f g) 0
  · simp only [Bool.not_false, cond_true, h1]
  · simp only [Bool.not_true, cond_false]
    cases flt 0 (s_ref06_sum_0 n f g) <;> rfl
theorem Two.centre1 : s_poly_Centre_1 n f' g' = s_ref06_Centre_1 n f g := by
  unfold s_poly_Centre_1 s_ref06_Centre_1 s_ref06_Area_1
  rw [t.check h64 h3, t.w0 h64 h3, t.w1 h64 h3, t.w2 h64 h3, t.ef 0 (by omega), t.eg 0 (by omega)]
  cases h1 : ieq (s_ref06_Check_0 n f g) 0
  · simp only [Bool.not_false, cond_true, h1]
  · simp only [Bool.not_true, cond_false]
    cases flt 0 (s_ref06_sum_0 n f g) <;> rfl
theorem Two.q1 {x y : Nat} : s_num_Sum_0 n (L_mass_polygon_L0 n (Int.ofNat n) f' g' x y (V_mass_polygon_L0.mk 0 (fun j0 => 0))).v1 = (L_ref08_polygon_L0 (Int.ofNat n) n f g x y (V_ref08_polygon_L0.mk 0 0)).v0 := by
  rw [(mpoly_loop h64 h3).2, (rpoly_loop h64 h3).2, (num_sum (by omega) (by omega)).1]
  obtain ⟨k, rfl⟩ : ∃ k, n = k + 1 := ⟨n - 1, by omega⟩
  show _ = sumF _ k
  refine sumF_congr k fun j hj => ?_
  rw [blt_true (by omega), cond_true]
  exact t.q (by omega)
theorem Two.p0 (k : Int) (r d : Nat) : s_mass_polygon_0 k r n f' g' d = s_ref08_polygon_0 k r n f g d := by
  unfold s_mass_polygon_0 s_ref08_polygon_0; rw [t.area0 h64 h3, t.area1 h64 h3, t.centre2 h64 h3]
theorem Two.p1 (k : Int) (r d : Nat) : s_mass_polygon_1 k r n f' g' d = s_ref08_polygon_1 k r n f g d := by
  unfold s_mass_polygon_1 s_ref08_polygon_1; rw [t.area1 h64 h3, t.centre2 h64 h3, t.centre0 h64 h3, t.centre1 h64 h3, t.q1 h64 h3]
theorem Two.p2 (k : Int) (r d : Nat) : s_mass_polygon_2 k r n f' g' d = s_ref08_polygon_2 k r n f g d := by
  unfold s_mass_polygon_2 s_ref08_polygon_2; rw [t.area1 h64 h3, t.centre2 h64 h3, t.centre0 h64 h3]
theorem Two.p3 (k : Int) (r d : Nat) : s_mass_polygon_3 k r n f' g' d = s_ref08_polygon_3 k r n f g d := by
  unfold s_mass_polygon_3 s_ref08_polygon_3; rw [t.area1 h64 h3, t.centre2 h64 h3, t.centre1 h64 h3]
theorem Two.p4 (k : Int) (r d : Nat) : s_mass_polygon_4 k r n f' g' d = s_ref08_polygon_4 k r n f g d := by
  unfold s_mass_polygon_4 s_ref08_polygon_4; rw [t.area1 h64 h3, t.centre2 h64 h3]
end
theorem oarea (h64 : n ≤ 64) (h3 : 3 ≤ n) : o_poly_Area n f g = true := by
  unfold o_poly_Area o_poly_weighed
  rw [(check_ok h64 h3).1, (weighed_ok h64 h3).1]; simp only [Bool.and_self, mrg_same]
theorem ocentre (h64 : n ≤ 64) (h3 : 3 ≤ n) : o_poly_Centre n f g = true := by
  unfold o_poly_Centre o_poly_weighed
  rw [(check_ok h64 h3).1, (weighed_ok h64 h3).1, blt_true (show 0 < n by omega)]; simp only [Bool.and_self, mrg_same]
theorem orarea (h64 : n ≤ 64) (h3 : 3 ≤ n) : o_ref06_Area n f g = true := by
  unfold o_ref06_Area o_ref06_sum
  rw [(rcheck_ok h64 h3).1, (rsum_ok h64 h3).1]; simp only [Bool.and_self, mrg_same]
theorem orcentre (h64 : n ≤ 64) (h3 : 3 ≤ n) : o_ref06_Centre n f g = true := by
  unfold o_ref06_Centre o_ref06_sum
  rw [orarea h64 h3, (rsum_ok h64 h3).1, (rcentre_ok h64 h3).1, blt_true (show 0 < n by omega)]; simp only [Bool.and_self, mrg_same]
theorem opoly (h64 : n ≤ 64) (h3 : 3 ≤ n) (k : Int) (r d : Nat) : o_mass_polygon k r n f g d = true := by
  unfold o_mass_polygon
  simp only []
  rw [oarea h64 h3, ocentre h64 h3, (mpoly_loop h64 h3).1, (num_sum (by omega) (by omega)).2, ble_true (Nat.le_refl n), ile_true (Int.le_refl (Int.ofNat n)), ile_true (show (8 : Int) * Int.ofNat n ≤ 281474976710656 by simp only [Int.ofNat_eq_natCast]; omega), ile_true (show Int.ofNat n ≤ (9223372036854775807 : Int) by simp only [Int.ofNat_eq_natCast]; omega)]
  simp only [Bool.and_self, mrg_same]
theorem orpoly (h64 : n ≤ 64) (h3 : 3 ≤ n) (k : Int) (r d : Nat) : o_ref08_polygon k r n f g d = true := by
  unfold o_ref08_polygon
  rw [orarea h64 h3, orcentre h64 h3, (rpoly_loop h64 h3).1]; simp only [Bool.and_self, mrg_same]
theorem real_same {a b : Nat} (ha : CF a) (hb : CF b) : s_vec_Within_0 a b 4787326403894837248 = s_ref07_Real_0 a b := by
  have hm : CF 4787326403894837248 := ⟨by decide, fun h => absurd h (by decide)⟩
  unfold s_vec_Within_0 s_ref07_Real_0 s_ref04_Real_0 s_num_Within_float64__0
  rw [ref_within ha hm, ref_within hb hm]
theorem rshape_loop (h64 : n ≤ 64) : ∃ m, m ≤ n ∧ E_ref07_Check_L0 (Int.ofNat n) n f g (V_ref07_Check_L0.mk 0) = true ∧ L_ref07_Check_L0 (Int.ofNat n) n f g (V_ref07_Check_L0.mk 0) = V_ref07_Check_L0.mk (Int.ofNat m) ∧
    (∀ k, k < m → s_ref07_Real_0 (f k) (g k) = true) ∧ (m = n ∨ s_ref07_Real_0 (f m) (g m) = false) := by
  obtain ⟨m, _, hm, hE, hL, hall, hend⟩ := search (ok := ok_ref07_Check_L0 (Int.ofNat n) n f g) (go := go_ref07_Check_L0 (Int.ofNat n) n f g) (step := step_ref07_Check_L0 (Int.ofNat n) n f g) V_ref07_Check_L0.mk (fun i => s_ref07_Real_0 (f i) (g i)) 0 n (Nat.zero_le _)
    (fun k _ hk => by
      unfold ok_ref07_Check_L0
      simp only [toNat_of, mrgB_eq, ilt_ofNat, ile_ofNat]
      by_cases h : k < n
      · simp [h, blt_true h]
      · simp [h])
    (fun k _ hk => by unfold go_ref07_Check_L0; simp only [toNat_of]; rw [go_any hk, Bool.not_not]) (by unfold go_ref07_Check_L0; exact go_end)
    (fun k _ hk => by unfold step_ref07_Check_L0; rw [succ_i64 (by omega)])
  exact ⟨m, hm, hE, hL, fun k hk => hall k (Nat.zero_le _) hk, hend⟩
end Go.Proofs.YtbkogihigehjlaaGreat
