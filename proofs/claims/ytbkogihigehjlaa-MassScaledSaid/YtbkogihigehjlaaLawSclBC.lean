/- A polygon so many times as great: area, centre, and what it weighs about it. -/
import Derived.Test.YtbkogihigehjlaaLawSclAC
import Derived.Test.YtbkogihigehjlaaSimScale4
set_option linter.unusedVariables false
set_option linter.unusedSimpArgs false
set_option maxHeartbeats 4000000
set_option exponentiation.threshold 3000
namespace Go.Proofs.Ytbkogihigehjlaa
open Go.Sim Go.Lst Ieee
theorem Sc_cast {i j i' j' x y a b : Nat} (h : Sc i j x y a b) (e1 : i = i') (e2 : j = j') : Sc i' j' x y a b := by subst e1; subst e2; exact h
theorem acc_sc {F F' : Nat → Nat} {i j x y : Nat} (hx : 52 ≤ x) (hy : 51 ≤ y) : ∀ k, 1 ≤ k → y + k ≤ 2096 → (∀ m, 1 ≤ m → m ≤ k → Sc i j x y (F m) (F' m)) → Sc i j x (y + k) (acc F k) (acc F' k)
  | 0, h, _, _ => by omega
  | 1, _, _, h => (h 1 (Nat.le_refl _) (Nat.le_refl _)).weak (Nat.le_refl _) (by omega)
  | k + 2, _, h2, h => by
    have ih := acc_sc hx hy (k + 1) (by omega) (by omega) fun m h1 h2 => h m h1 (by omega)
    exact ih.add ((h (k + 2) (by omega) (Nat.le_refl _)).weak (Nat.le_refl _) (by omega)) hx (by omega) (by omega)
theorem sum_sc {F F' : Nat → Nat} {i j x y : Nat} (hx : 52 ≤ x) (hy : 51 ≤ y) : ∀ k, y + k ≤ 2096 → (∀ m, m ≤ k → Sc i j x y (F m) (F' m)) → Sc i j x (y + k) (sumF F k) (sumF F' k)
  | 0, _, h => h 0 (Nat.le_refl _)
  | k + 1, h2, h => by
    have ih := sum_sc hx hy k (by omega) fun m h1 => h m (by omega)
    exact ih.add ((h (k + 1) (Nat.le_refl _)).weak (Nat.le_refl _) (by omega)) hx (by omega) (by omega)
theorem lit3 : Pl 1023 1076 4613937818241073152 := Pl.lit (e := 1023) (by decide) (by decide) rfl (by decide) (by omega) (by omega)
theorem lit12 : Pl 1025 1078 4622945017495814144 := Pl.lit (e := 1025) (by decide) (by decide) rfl (by decide) (by omega) (by omega)
theorem lithalf : Pl 1021 1074 4602678819172646912 := Pl.lit (e := 1021) (by decide) (by decide) rfl (by decide) (by omega) (by omega)
theorem nil12 : magOf (rungOf 4622945017495814144) ≠ 0 := by
  have : 0 < magOf (rungOf 4622945017495814144) := magOf_pos.2 (by decide)
  omega
/-- The points of the one and of the other. -/
structure Pair (n i j x y : Nat) (f g f' g' : Nat → Nat) : Prop where
  f : ∀ m, m < n → Sc i j x y (f m) (f' m)
  g : ∀ m, m < n → Sc i j x y (g m) (g' m)
section
variable {n i j x y : Nat} {f g f' g' : Nat → Nat} (P : Pair n i j x y f g f' g') (h3 : 3 ≤ n) (h8 : n ≤ 8) (hx : 900 ≤ x) (hx2 : x ≤ 1000) (hy : 1074 ≤ y) (hy2 : y ≤ 1140)
include P h3 h8 hx hx2 hy hy2
theorem cr_sc {m : Nat} (hm : m + 1 < n) : Sc (i + i) (j + j) (2 * x - 1074) (2 * y - 1071) (crF f g m) (crF f' g' m) := by
  have a := (P.f m (by omega)).sub (P.f 0 (by omega)) (by omega) (by omega) (by omega)
  have b := (P.g (m + 1) (by omega)).sub (P.g 0 (by omega)) (by omega) (by omega) (by omega)
  have c := (P.g m (by omega)).sub (P.g 0 (by omega)) (by omega) (by omega) (by omega)
  have d := (P.f (m + 1) (by omega)).sub (P.f 0 (by omega)) (by omega) (by omega) (by omega)
  have p := Sc.mul (X := 2 * x - 1074) (Y := 2 * y - 1072) a b (by omega) (by omega) (by omega) (by omega) (by omega)
  have q := Sc.mul (X := 2 * x - 1074) (Y := 2 * y - 1072) c d (by omega) (by omega) (by omega) (by omega) (by omega)
  exact (p.sub q (by omega) (by omega) (by omega)).weak (Nat.le_refl _) (by omega)
theorem mx_sc {m : Nat} (hm : m + 1 < n) : Sc (i + (i + i)) (j + (j + j)) (3 * x - 2148) (3 * y - 2143) (mxF f g m) (mxF f' g' m) := by
  have a := (P.f m (by omega)).sub (P.f 0 (by omega)) (by omega) (by omega) (by omega)
  have d := (P.f (m + 1) (by omega)).sub (P.f 0 (by omega)) (by omega) (by omega) (by omega)
  exact Sc.mul (a.add d (by omega) (by omega) (by omega)) (cr_sc P h3 h8 hx hx2 hy hy2 hm) (by omega) (by omega) (by omega) (by omega) (by omega)
theorem my_sc {m : Nat} (hm : m + 1 < n) : Sc (i + (i + i)) (j + (j + j)) (3 * x - 2148) (3 * y - 2143) (myF f g m) (myF f' g' m) := by
  have a := (P.g m (by omega)).sub (P.g 0 (by omega)) (by omega) (by omega) (by omega)
  have d := (P.g (m + 1) (by omega)).sub (P.g 0 (by omega)) (by omega) (by omega) (by omega)
  exact Sc.mul (a.add d (by omega) (by omega) (by omega)) (cr_sc P h3 h8 hx hx2 hy hy2 hm) (by omega) (by omega) (by omega) (by omega) (by omega)
theorem s_sc : Sc (i + i) (j + j) (2 * x - 1074) (2 * y - 1065) (acc (crF f g) (n - 2)) (acc (crF f' g') (n - 2)) :=
  (acc_sc (by omega) (by omega) (n - 2) (by omega) (by omega) fun m h1 h2 => cr_sc P h3 h8 hx hx2 hy hy2 (by omega)).weak (Nat.le_refl _) (by omega)
theorem mxs_sc : Sc (i + (i + i)) (j + (j + j)) (3 * x - 2148) (3 * y - 2137) (acc (mxF f g) (n - 2)) (acc (mxF f' g') (n - 2)) :=
  (acc_sc (by omega) (by omega) (n - 2) (by omega) (by omega) fun m h1 h2 => mx_sc P h3 h8 hx hx2 hy hy2 (by omega)).weak (Nat.le_refl _) (by omega)
theorem mys_sc : Sc (i + (i + i)) (j + (j + j)) (3 * x - 2148) (3 * y - 2137) (acc (myF f g) (n - 2)) (acc (myF f' g') (n - 2)) :=
  (acc_sc (by omega) (by omega) (n - 2) (by omega) (by omega) fun m h1 h2 => my_sc P h3 h8 hx hx2 hy hy2 (by omega)).weak (Nat.le_refl _) (by omega)
theorem quo_sc {u u' : Nat} (hu : Sc (i + (i + i)) (j + (j + j)) (3 * x - 2148) (3 * y - 2137) u u') (hs : flt 0 (acc (crF f g) (n - 2)) = true) (hxy : 52 + 2 * y + 65 ≤ 3 * x) :
    Sc i j (3 * x - 2 * y - 65) (3 * y - 2 * x + 64) (fdiv u (fmul 4613937818241073152 (acc (crF f g) (n - 2)))) (fdiv u' (fmul 4613937818241073152 (acc (crF f' g') (n - 2)))) := by
  have s := s_sc P h3 h8 hx hx2 hy hy2
  have t := Sc.mul (X := 2 * x - 1125) (Y := 2 * y - 1063) (lit3 : Sc 0 0 _ _ _ _) s (by omega) (by omega) (by omega) (by omega) (by omega)
  have hn : magOf (rungOf (fmul 4613937818241073152 (acc (crF f g) (n - 2)))) ≠ 0 := by
    intro h0
    obtain ⟨d, hd⟩ : ∃ d, d = 1074 := ⟨_, rfl⟩
    have hm := s.left.ge
    have fs := s.fa
    have h1 : magOf (rungOf (acc (crF f g) (n - 2))) ≠ 0 := by
      intro e
      have : sval (acc (crF f g) (n - 2)) = 0 := by rw [sval_sgn, e]; split <;> rfl
      rw [flt_val (by decide) (fin_not_nan fs), this] at hs
      exact absurd hs (by decide)
    have k := prod_big (y := 2 * x - 1125) hd lit3.fa fs t.fa (by omega) (by
      refine Nat.le_trans ?_ (Nat.mul_le_mul (lit3.ge ?_) (hm h1))
      · rw [← Nat.pow_add]; exact Nat.pow_le_pow_right (by decide) (by omega)
      · have : 0 < magOf (rungOf 4613937818241073152) := magOf_pos.2 (by decide)
        omega)
    have := Nat.two_pow_pos (2 * x - 1125)
    omega
  have q := Sc.div (X := 3 * x - 2 * y - 65) (Y := 3 * y - 2 * x + 64) hu t hn (by omega) (by omega) (by omega) (by omega) (by omega) (by omega)
  refine Sc.less (t := i + i + (j + j)) (Sc_cast q (by omega) (by omega))
end
end Go.Proofs.Ytbkogihigehjlaa
