/- A polygon so many times as great: its centre, and what it weighs about it. -/
import Derived.Test.YtbkogihigehjlaaLawSclBC
set_option linter.unusedVariables false
set_option linter.unusedSimpArgs false
set_option maxHeartbeats 4000000
set_option exponentiation.threshold 3000
namespace Go.Proofs.Ytbkogihigehjlaa
open Go.Sim Go.Lst Ieee
def cX (n : Nat) (f g : Nat → Nat) : Nat := fadd (f 0) (fdiv (acc (mxF f g) (n - 2)) (fmul 4613937818241073152 (acc (crF f g) (n - 2))))
def cY (n : Nat) (f g : Nat → Nat) : Nat := fadd (g 0) (fdiv (acc (myF f g) (n - 2)) (fmul 4613937818241073152 (acc (crF f g) (n - 2))))
section
variable {n i j x y : Nat} {f g f' g' : Nat → Nat} (P : Pair n i j x y f g f' g') (h3 : 3 ≤ n) (h8 : n ≤ 8) (hx : 900 ≤ x) (hx2 : x ≤ 1000) (hy : 1074 ≤ y) (hy2 : y ≤ 1140) (hs : flt 0 (acc (crF f g) (n - 2)) = true) (hxy : 52 + 2 * y + 65 ≤ 3 * x)
include P h3 h8 hx hx2 hy hy2 hs hxy
theorem centre_sc : Sc i j (3 * x - 2 * y - 65) (3 * y - 2 * x + 65) (cX n f g) (cX n f' g') ∧ Sc i j (3 * x - 2 * y - 65) (3 * y - 2 * x + 65) (cY n f g) (cY n f' g') :=
  ⟨((P.f 0 (by omega)).weak (by omega) (by omega)).add (quo_sc P h3 h8 hx hx2 hy hy2 (mxs_sc P h3 h8 hx hx2 hy hy2) hs hxy) (by omega) (by omega) (by omega),
   ((P.g 0 (by omega)).weak (by omega) (by omega)).add (quo_sc P h3 h8 hx hx2 hy hy2 (mys_sc P h3 h8 hx hx2 hy hy2) hs hxy) (by omega) (by omega) (by omega)⟩
end
/-- What is known of the points. -/
structure Pts (n : Nat) (f g : Nat → Nat) : Prop where
  pf : ∀ m, m < n → Pl 962 1114 (f m)
  pg : ∀ m, m < n → Pl 962 1114 (g m)
  fz : ∀ m, m < n → magOf (rungOf (f m)) = 0 ∨ 2 ^ 1014 ≤ magOf (rungOf (f m))
  gz : ∀ m, m < n → magOf (rungOf (g m)) = 0 ∨ 2 ^ 1014 ≤ magOf (rungOf (g m))
theorem Pts.pair {n : Nat} {f g : Nat → Nat} (p : Pts n f g) : Pair n 0 0 962 1114 f g f g := ⟨p.pf, p.pg⟩
theorem mag_sub0 {a b : Nat} (lb : b < 18446744073709551616) (fa : fin a = true) (fb : fin b = true) (ha : magOf (rungOf a) = 0) (hb : magOf (rungOf b) = 0) : magOf (rungOf (fsub a b)) = 0 := by
  rw [mag_sub lb fa fb]
  have h1 := natAbs_sval a
  have h2 := natAbs_sval b
  rw [show (sval a - sval b).natAbs = 0 by omega, RN_zero]; rfl
section
variable {n i j : Nat} {f g f' g' : Nat → Nat} (p : Pts n f g) (P : Pair n i j 942 1134 f g f' g') (h3 : 3 ≤ n) (h8 : n ≤ 8) (hi : i ≤ j + 20) (hj : j ≤ i + 20)
  {x y x' y' : Nat} (px : Pl 593 1114 x) (py : Pl 593 1114 y) (cx : Sc i j 573 1134 x x') (cy : Sc i j 573 1134 y y') (G : ∀ m, m < n → GoodS n f g m)
include p P h3 h8 hi hj px py cx cy G
theorem q_sc {m : Nat} (hm : m < n) : Sc (i + i + (i + i)) (j + j + (j + j)) 257 1402 (qF f g n x y m) (qF f' g' n x' y' m) ∧ Pl 337 1322 (qF f g n x y m) := by
  have hk : (m + 1) % n < n := Nat.mod_lt _ (by omega)
  generalize hK : (m + 1) % n = k at *
  have A := ((P.f m hm).weak (show 573 ≤ 942 by omega) (Nat.le_refl _)).sub cx (by omega) (by omega) (by omega)
  have B := ((P.g k hk).weak (show 573 ≤ 942 by omega) (Nat.le_refl _)).sub cy (by omega) (by omega) (by omega)
  have C := ((P.g m hm).weak (show 573 ≤ 942 by omega) (Nat.le_refl _)).sub cy (by omega) (by omega) (by omega)
  have E := ((P.f k hk).weak (show 573 ≤ 942 by omega) (Nat.le_refl _)).sub cx (by omega) (by omega) (by omega)
  have px' : Pl 593 1134 x := px.weak (Nat.le_refl _) (by omega)
  have py' : Pl 593 1134 y := py.weak (Nat.le_refl _) (by omega)
  have f0 : Pl 962 1134 (f m) := (p.pf m hm).weak (Nat.le_refl _) (by omega)
  have f1 : Pl 962 1134 (f k) := (p.pf k hk).weak (Nat.le_refl _) (by omega)
  have g0 : Pl 962 1134 (g m) := (p.pg m hm).weak (Nat.le_refl _) (by omega)
  have g1 : Pl 962 1134 (g k) := (p.pg k hk).weak (Nat.le_refl _) (by omega)
  have A0 : Pl 593 1135 (fsub (f m) x) := (f0.weak (by omega) (Nat.le_refl _)).sub px' (by omega) (by omega) (by omega)
  have B0 : Pl 593 1135 (fsub (g k) y) := (g1.weak (by omega) (Nat.le_refl _)).sub py' (by omega) (by omega) (by omega)
  have C0 : Pl 593 1135 (fsub (g m) y) := (g0.weak (by omega) (Nat.le_refl _)).sub py' (by omega) (by omega) (by omega)
  have E0 : Pl 593 1135 (fsub (f k) x) := (f1.weak (by omega) (Nat.le_refl _)).sub px' (by omega) (by omega) (by omega)
  have sd := side_mag (sx := fsub (f k) (f m)) (sy := fsub (g k) (g m)) (((p.pf k hk).sub (p.pf m hm) (by omega) (by omega) (by omega)).weak (Nat.le_refl _) (by omega)) (((p.pg k hk).sub (p.pg m hm) (by omega) (by omega) (by omega)).weak (Nat.le_refl _) (by omega)) (by
    have := (G m hm).1
    unfold lenS sdX sdY at this
    rwa [hK] at this)
  have cr0 : Pl 475 1197 (fsub (fmul (fsub (f m) x) (fsub (g k) y)) (fmul (fsub (g m) y) (fsub (f k) x))) := cross_grid f0 f1 g0 g1 px' py' (p.fz m hm) (p.fz k hk) (p.gz m hm) (p.gz k hk) (fun h => sd ⟨by
    rw [mag_sub0 f0.la f1.fa f0.fa h.2.1 h.1]; exact Nat.zero_le _, by
    rw [mag_sub0 g0.la g1.fa g0.fa h.2.2.2 h.2.2.1]; exact Nat.zero_le _⟩)
  have hoff : (2 ^ 1032 ≤ magOf (rungOf (fsub (f m) x)) ∨ 2 ^ 1032 ≤ magOf (rungOf (fsub (f k) x))) ∨ (2 ^ 1032 ≤ magOf (rungOf (fsub (g m) y)) ∨ 2 ^ 1032 ≤ magOf (rungOf (fsub (g k) y))) := by
    rcases Nat.lt_or_ge (2 ^ 1034) (magOf (rungOf (fsub (f k) (f m)))) with h | h
    · exact .inl (off_mag f0 f1 px' h)
    · rcases Nat.lt_or_ge (2 ^ 1034) (magOf (rungOf (fsub (g k) (g m)))) with h' | h'
      · exact .inr (off_mag g0 g1 py' h')
      · exact absurd ⟨h, h'⟩ sd
  have D0 := dots_mag A0 B0 C0 E0 hoff
  have mul : ∀ {u v u' v' : Nat}, Sc i j 573 (1134 + 1) u u' → Sc i j 573 (1134 + 1) v v' → Sc (i + i) (j + j) 72 1196 (fmul u v) (fmul u' v') := fun h g => Sc.mul h g (by omega) (by omega) (by omega) (by omega) (by omega)
  have cr1 := (mul A B).sub (mul C E) (by omega) (by omega) (by omega)
  have t1 := (mul A A).add (mul C C) (by omega) (by omega) (by omega)
  have t2 := (mul A E).add (mul C B) (by omega) (by omega) (by omega)
  have t3 := (mul E E).add (mul B B) (by omega) (by omega) (by omega)
  have D1 := (t1.add t2 (by omega) (by omega) (by omega)).add (t3.weak (Nat.le_refl _) (show 1196 + 1 ≤ 1196 + 1 + 1 by omega)) (by omega) (by omega) (by omega)
  have cr2 := cr1.fix (t := 40) (U := 435) (V := 1237) cr0 (by omega) (by omega) (by omega) (by omega)
  have D2 := D1.fix (t := 40) (U := 896) (V := 1239) D0 (by omega) (by omega) (by omega) (by omega)
  have r1 := Sc.mul (X := 257) (Y := 1402) cr2 D2 (by omega) (by omega) (by omega) (by omega) (by omega)
  have r0 := cr0.mul (X := 337) (Y := 1322) D0 (by omega) (by omega) (by omega) (by omega) (by omega)
  unfold qF
  rw [hK]
  exact ⟨r1, r0⟩
theorem turn_sc : Sc (i + i + (i + i)) (j + j + (j + j)) 199 1460 (fdiv (sumF (qF f g n x y) (n - 1)) 4622945017495814144) (fdiv (sumF (qF f' g' n x' y') (n - 1)) 4622945017495814144) ∧ Pl 279 1380 (fdiv (sumF (qF f g n x y) (n - 1)) 4622945017495814144) := by
  have s1 := (sum_sc (F := qF f g n x y) (F' := qF f' g' n x' y') (by omega) (by omega) (n - 1) (by omega) fun m hm => (q_sc p P h3 h8 hi hj px py cx cy G (m := m) (by omega)).1).weak (Nat.le_refl _) (show 1402 + (n - 1) ≤ 1409 by omega)
  have s0 := (sum_sc (F := qF f g n x y) (F' := qF f g n x y) (i := 0) (j := 0) (by omega) (by omega) (n - 1) (by omega) fun m hm => (q_sc p P h3 h8 hi hj px py cx cy G (m := m) (by omega)).2).weak (Nat.le_refl _) (show 1322 + (n - 1) ≤ 1329 by omega)
  have d1 := Sc.div (X := 199) (Y := 1460) s1 (lit12 : Sc 0 0 _ _ _ _) nil12 (by omega) (by omega) (by omega) (by omega) (by omega) (by omega)
  have d0 := Sc.div (X := 279) (Y := 1380) s0 (lit12 : Sc 0 0 _ _ _ _) nil12 (by omega) (by omega) (by omega) (by omega) (by omega) (by omega)
  exact ⟨d1, d0⟩
end
end Go.Proofs.Ytbkogihigehjlaa
