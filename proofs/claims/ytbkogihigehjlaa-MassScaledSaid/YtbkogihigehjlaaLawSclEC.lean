/- What shapes weigh, so many times as great: numbers of points, circles, capsules, chains of products. -/
import Derived.Test.YtbkogihigehjlaaLawSclDC
set_option linter.unusedVariables false
set_option linter.unusedSimpArgs false
set_option maxHeartbeats 4000000
set_option exponentiation.threshold 3000
namespace Go.Proofs.Ytbkogihigehjlaa
open Go.Sim Go.Lst Ieee
theorem nought_of {a : Nat} (ca : CF a) (hz : feq (fabs a) 0 = true) : rungOf a = 0 := by
  have la : a < 18446744073709551616 := ca.lt
  have rr : rungOf (rungOf a) = rungOf a := by unfold rungOf; omega
  have l2 : rungOf a < 9223372036854775808 := by unfold rungOf; omega
  have hn : nanb a = false := by
    cases hn : nanb a
    · rfl
    · have : nanb (fabs a) = true := by rw [nanb_fabs]; exact hn
      rw [feq_nan (.inl this)] at hz; cases hz
  have e := fabs_of hn
  rw [e] at hz
  have : nanb (rungOf a) = false := by rw [nanb_rung rr]; exact hn
  rcases (feq_zero (by omega) this).1 hz with e | e
  · exact e
  · omega
theorem zone_of {a : Nat} (ca : CF a) (hw : s_num_Within_float64__0 a 4787326403894837248 = true) (ht : ((!(feq (fabs a) 0)) && (flt (fabs a) 4336966441157787648)) = false) : Pl 962 1114 a ∧ (magOf (rungOf a) = 0 ∨ 2 ^ 1014 ≤ magOf (rungOf a)) := by
  have la : a < 18446744073709551616 := ca.lt
  have rr : rungOf (rungOf a) = rungOf a := by unfold rungOf; omega
  have l2 : rungOf a < 9223372036854775808 := by unfold rungOf; omega
  have s2 : sgnOf (rungOf a) = false := (sgn_false (by omega)).2 l2
  cases hz : feq (fabs a) 0
  · rw [hz] at ht
    simp only [Bool.not_false, Bool.true_and] at ht
    rw [abs_within ca] at hw
    have hn : nanb (fabs a) = false := by
      cases h : nanb (fabs a)
      · rfl
      · rw [fle_nan (.inl h)] at hw; cases hw
    have hn' : nanb a = false := by rwa [nanb_fabs] at hn
    have e := fabs_of hn'
    have kk : key (fabs a) = (rungOf a : Int) := by rw [e]; unfold key; rw [s2, rr]; rfl
    have k1 : key 4336966441157787648 = 4336966441157787648 := by decide
    have k2 : key 4787326403894837248 = 4787326403894837248 := by decide
    rw [fle_key hn (by decide), decide_eq_true_eq, kk] at hw
    rw [flt_key hn (by decide), decide_eq_false_iff_not, kk] at ht
    refine ⟨Pl.between la (lo := 4336966441157787648) (hi := 4787326403894837248) (by decide) (by omega) (by omega) (by decide) (by decide) (by decide) (by decide), .inr ?_⟩
    rw [← mag_pow (y := 1014) (by decide)]
    exact magOf_le_iff.2 (by omega)
  · have h0 := nought_of ca hz
    exact ⟨Pl.nought la h0, .inl (by rw [h0]; rfl)⟩
theorem dens_of {d : Nat} (cd : CF d) (hw : s_num_Within_float64__0 d 4787326403894837248 = true) (hl : flt d 0 = false) (ht : ((!(feq d 0)) && (flt d 4336966441157787648)) = false) : Pl 962 1114 d := by
  have hn : nanb d = false := by
    rw [abs_within cd] at hw
    cases h : nanb d
    · rfl
    · have : nanb (fabs d) = true := by rw [nanb_fabs]; exact h
      rw [fle_nan (.inl this)] at hw; cases hw
  refine (zone_of cd hw ?_).1
  have la : d < 18446744073709551616 := cd.lt
  have rr : rungOf (rungOf d) = rungOf d := by unfold rungOf; omega
  have l2 : rungOf d < 9223372036854775808 := by unfold rungOf; omega
  have s2 : sgnOf (rungOf d) = false := (sgn_false (by omega)).2 l2
  have nr : nanb (rungOf d) = false := by rw [nanb_rung rr]; exact hn
  rw [fabs_of hn]
  cases hz : feq d 0
  · rw [hz] at ht
    simp only [Bool.not_false, Bool.true_and] at ht
    have hs : sgnOf d = false := by
      cases hs : sgnOf d
      · rfl
      · exfalso
        have hr : rungOf d ≠ 0 := by
          intro h0
          have : feq d 0 = true := (feq_zero la hn).2 (by
            rcases Nat.lt_or_ge d 9223372036854775808 with h | h
            · left; unfold rungOf at h0; omega
            · right; unfold rungOf at h0; omega)
          rw [hz] at this; cases this
        have k : key d < 0 := by unfold key; rw [hs]; simp; omega
        rw [flt_key hn (by decide), decide_eq_false_iff_not] at hl
        have : key 0 = 0 := by decide
        omega
    have e : rungOf d = d := by
      have := (sgn_false la).1 hs
      unfold rungOf; omega
    rw [e, ht]; simp
  · have : rungOf d = 0 := by
      rcases (feq_zero la hn).1 hz with e | e
      · rw [e]; rfl
      · rw [e]; rfl
    rw [this]; rfl
theorem len_of {r : Nat} (cr : CF r) (h : s_shape_length_0 r = true) : Pl 992 1114 r := by
  have la : r < 18446744073709551616 := cr.lt
  unfold s_shape_length_0 at h
  rw [Bool.and_eq_true] at h
  obtain ⟨h1, h2⟩ := h
  have hn : nanb r = false := by
    cases h : nanb r
    · rfl
    · rw [fle_nan (.inr h)] at h1; cases h1
  rw [fle_key (by decide) hn, decide_eq_true_eq] at h1
  rw [fle_key hn (by decide), decide_eq_true_eq] at h2
  have k1 : key 4472074429978902528 = 4472074429978902528 := by decide
  have k2 : key 4787326403894837248 = 4787326403894837248 := by decide
  have k := key_abs r
  exact Pl.between la (lo := 4472074429978902528) (hi := 4787326403894837248) (by decide) (by omega) (by omega) (by decide) (by decide) (by decide) (by decide)
theorem within_mag {a : Nat} (h : s_num_Within_float64__0 a 4787326403894837248 = true) : magOf (rungOf a) ≤ 2 ^ 1114 := by
  obtain ⟨fa, ra⟩ := within_ok h
  have hu := uu_pos
  have z1 := rv_abs_mag fa
  refine Rat.natCast_le_natCast.1 ?_
  rw [← z1]
  have h3 : ((2 ^ 1114 : Nat) : Rat) = 1099511627776 * uu := by
    unfold uu
    have e : (2 : Nat) ^ 1114 = 1099511627776 * 2 ^ 1074 := by rw [show (1099511627776 : Nat) = 2 ^ 40 by decide, ← Nat.pow_add]
    rw [e, Rat.natCast_mul]; rfl
  rw [h3]
  exact Rat.mul_le_mul_of_nonneg_right ra (Rat.le_of_lt hu)
/-- Times a power of two from -20 to 20. -/
theorem sc20 {x y i j a : Nat} {z : Int} (h : Pl x y a) (z1 : -20 ≤ z) (z2 : z ≤ 20) (hij : z + (j : Int) = i) (hx : 72 ≤ x) (hy : 52 ≤ y) (hy2 : y ≤ 2077) : Sc i j (x - 20) (y + 20) a (fmul a (pow2 z)) :=
  h.times (by omega) (by omega) hij (by omega) (by omega) (by omega) (by omega) (by omega) (by omega) (by omega)
theorem Sc_times {I J i j X Y M A : Nat} {z : Int} (h : Sc I J X Y M A) (z1 : -20 ≤ z) (z2 : z ≤ 20) (hij : z + (j : Int) = i) (hx : 72 ≤ X) (hy : 52 ≤ Y) (hy2 : Y ≤ 2077) : Sc (I + i) (J + j) (X - 20) (Y + 20) M (fmul A (pow2 z)) :=
  (h.weak (by omega) (by omega)).trans (sc20 h.right z1 z2 hij hx hy hy2) (Nat.le_refl _) (Nat.le_refl _)
section
variable {i j i2 j2 : Nat} {z e : Int} (z1 : -20 ≤ z) (z2 : z ≤ 20) (hij : z + (j : Int) = i) (e1 : -20 ≤ e) (e2 : e ≤ 20) (hij2 : e + (j2 : Int) = i2)
include z1 z2 hij e1 e2 hij2
theorem end_mass {x y X Y M M' : Nat} (h : Sc (i2 + (i + i)) (j2 + (j + j)) x y M M') (hl : Pl X Y M) (hX : 132 ≤ X) (hY : 52 ≤ Y) (hY2 : Y ≤ 1900) : feq M' (fmul (fmul (fmul M (pow2 e)) (pow2 z)) (pow2 z)) = true := by
  have a := sc20 hl e1 e2 hij2 (by omega) (by omega) (by omega)
  have b := Sc_times a z1 z2 hij (by omega) (by omega) (by omega)
  have c := Sc_times b z1 z2 hij (by omega) (by omega) (by omega)
  rw [Sc.same h (Sc_cast c (by omega) (by omega))]
  exact (Sc.self c).1
theorem end_turn {x y X Y M M' : Nat} (h : Sc (i2 + (i + i + (i + i))) (j2 + (j + j + (j + j))) x y M M') (hl : Pl X Y M) (hX : 160 ≤ X) (hY : 52 ≤ Y) (hY2 : Y ≤ 1900) : feq M' (fmul (fmul (fmul (fmul (fmul M (pow2 e)) (pow2 z)) (pow2 z)) (pow2 z)) (pow2 z)) = true := by
  have a := sc20 hl e1 e2 hij2 (by omega) (by omega) (by omega)
  have b := Sc_times a z1 z2 hij (by omega) (by omega) (by omega)
  have c := Sc_times b z1 z2 hij (by omega) (by omega) (by omega)
  have d := Sc_times c z1 z2 hij (by omega) (by omega) (by omega)
  have f := Sc_times d z1 z2 hij (by omega) (by omega) (by omega)
  rw [Sc.same h (Sc_cast f (by omega) (by omega))]
  exact (Sc.self f).1
omit e1 e2 hij2 in
theorem end_place {x y X Y M M' : Nat} (h : Sc i j x y M M') (hl : Pl X Y M) (hX : 72 ≤ X) (hY : 52 ≤ Y) (hY2 : Y ≤ 2000) : feq M' (fmul M (pow2 z)) = true := by
  have a := sc20 hl z1 z2 hij (by omega) (by omega) (by omega)
  rw [Sc.same h a]
  exact (Sc.self a).1
end
theorem litpi : Pl 1023 1076 4614256656552045848 := Pl.lit (e := 1023) (by decide) (by decide) rfl (by decide) (by omega) (by omega)
theorem lit2 : Pl 1023 1076 4611686018427387904 := Pl.lit (e := 1023) (by decide) (by decide) rfl (by decide) (by omega) (by omega)
theorem lit4 : Pl 1024 1077 4616189618054758400 := Pl.lit (e := 1024) (by decide) (by decide) rfl (by decide) (by omega) (by omega)
theorem litq : Pl 1020 1073 4598175219545276416 := Pl.lit (e := 1020) (by decide) (by decide) rfl (by decide) (by omega) (by omega)
theorem lit9 : Pl 1025 1078 4621495296368779730 := Pl.lit (e := 1025) (by decide) (by decide) rfl (by decide) (by omega) (by omega)
theorem nil9 : magOf (rungOf 4621495296368779730) ≠ 0 := by
  have : 0 < magOf (rungOf 4621495296368779730) := magOf_pos.2 (by decide)
  omega
section
variable {i j i2 j2 r r' d d' : Nat} (hr : Sc i j 972 1134 r r') (hd : Sc i2 j2 942 1134 d d')
include hr hd
theorem disc_sc : Sc (i2 + (i + i)) (j2 + (j + j)) 687 1256 (s_mass_disc_0 r d) (s_mass_disc_0 r' d') := by
  have rr := Sc.mul (X := 870) (Y := 1194) hr hr (by omega) (by omega) (by omega) (by omega) (by omega)
  have p := Sc.mul (X := 819) (Y := 1196) (litpi : Sc 0 0 _ _ _ _) rr (by omega) (by omega) (by omega) (by omega) (by omega)
  have p' := Sc_cast p (Nat.zero_add _) (Nat.zero_add _)
  exact Sc.mul (X := 687) (Y := 1256) hd p' (by omega) (by omega) (by omega) (by omega) (by omega)
theorem circ_sc (k : Int) (n : Nat) (f g f' g' : Nat → Nat) : Sc (i2 + (i + i + (i + i))) (j2 + (j + j + (j + j))) 430 1376 (s_mass_circle_1 k r n f g d) (s_mass_circle_1 k r' n f' g' d') := by
  have rr := Sc.mul (X := 870) (Y := 1194) hr hr (by omega) (by omega) (by omega) (by omega) (by omega)
  have m := Sc.mul (X := 483) (Y := 1376) (disc_sc hr hd) rr (by omega) (by omega) (by omega) (by omega) (by omega)
  have q := Sc.mul (X := 430) (Y := 1376) m (lithalf : Sc 0 0 _ _ _ _) (by omega) (by omega) (by omega) (by omega) (by omega)
  exact Sc_cast q (by omega) (by omega)
end
theorem len_sc {i j a b c e a' b' c' e' : Nat} (ha : Sc i j 942 1134 a a') (hb : Sc i j 942 1134 b b') (hc : Sc i j 942 1134 c c') (he : Sc i j 942 1134 e e') :
    Sc i j 885 1139 (s_vec_Length_0 (s_vec_Sub_0 c e a b) (s_vec_Sub_1 c e a b)) (s_vec_Length_0 (s_vec_Sub_0 c' e' a' b') (s_vec_Sub_1 c' e' a' b')) := by
  have x := hc.sub ha (by omega) (by omega) (by omega)
  have y := he.sub hb (by omega) (by omega) (by omega)
  have xx := Sc.mul (X := 810) (Y := 1196) x x (by omega) (by omega) (by omega) (by omega) (by omega)
  have yy := Sc.mul (X := 810) (Y := 1196) y y (by omega) (by omega) (by omega) (by omega) (by omega)
  have s := xx.add yy (by omega) (by omega) (by omega)
  have hs := add_sgn xx.fa yy.fa (sq_sgn x.fa) (sq_sgn y.fa)
  exact Sc.sqrt (X := 885) (Y := 1139) (Sc_cast s (by omega) (by omega)) hs (by omega) (by omega) (by omega) (by omega) (by omega)
section
variable {i j i2 j2 r r' d d' : Nat} {f g f' g' : Nat → Nat} (hr : Sc i j 972 1134 r r') (hd : Sc i2 j2 942 1134 d d') (P : Pair 2 i j 942 1134 f g f' g')
include hr hd P
theorem caps_sc (k : Int) (n : Nat) : Sc (i2 + (i + i)) (j2 + (j + j)) 600 1262 (s_mass_capsule_0 k r n f g d) (s_mass_capsule_0 k r' n f' g' d') ∧ Sc (i2 + (i + i + (i + i))) (j2 + (j + j + (j + j))) 164 1444 (s_mass_capsule_1 k r n f g d) (s_mass_capsule_1 k r' n f' g' d') ∧
    Sc i j 889 1136 (s_mass_capsule_2 k r n f g d) (s_mass_capsule_2 k r' n f' g' d') ∧ Sc i j 889 1136 (s_mass_capsule_3 k r n f g d) (s_mass_capsule_3 k r' n f' g' d') := by
  have f0 := P.f 0 (by omega)
  have f1 := P.f 1 (by omega)
  have g0 := P.g 0 (by omega)
  have g1 := P.g 1 (by omega)
  have L := len_sc f0 g0 f1 g1
  have rr := Sc.mul (X := 870) (Y := 1194) hr hr (by omega) (by omega) (by omega) (by omega) (by omega)
  have r2 := Sc_cast (Sc.mul (X := 921) (Y := 1136) (lit2 : Sc 0 0 _ _ _ _) hr (by omega) (by omega) (by omega) (by omega) (by omega)) (Nat.zero_add i) (Nat.zero_add j)
  have r4 := Sc_cast (Sc.mul (X := 922) (Y := 1137) (lit4 : Sc 0 0 _ _ _ _) hr (by omega) (by omega) (by omega) (by omega) (by omega)) (Nat.zero_add i) (Nat.zero_add j)
  have r2L := Sc.mul (X := 732) (Y := 1201) r2 L (by omega) (by omega) (by omega) (by omega) (by omega)
  have p := Sc.mul (X := 600) (Y := 1261) hd r2L (by omega) (by omega) (by omega) (by omega) (by omega)
  have q := disc_sc hr hd
  have M := p.add (q.weak (show 600 ≤ 687 by omega) (show 1256 ≤ 1261 by omega)) (by omega) (by omega) (by omega)
  have LL := Sc.mul (X := 696) (Y := 1204) L L (by omega) (by omega) (by omega) (by omega) (by omega)
  have r4r := Sc.mul (X := 820) (Y := 1204) r4 hr (by omega) (by omega) (by omega) (by omega) (by omega)
  have s1 := LL.add (r4r.weak (show 696 ≤ 820 by omega) (Nat.le_refl _)) (by omega) (by omega) (by omega)
  have b1 := Sc.mul (X := 222) (Y := 1392) p s1 (by omega) (by omega) (by omega) (by omega) (by omega)
  have bar := Sc.div (X := 164) (Y := 1443) b1 (lit12 : Sc 0 0 _ _ _ _) nil12 (by omega) (by omega) (by omega) (by omega) (by omega) (by omega)
  have rh := Sc.mul (X := 817) (Y := 1203) rr (lithalf : Sc 0 0 _ _ _ _) (by omega) (by omega) (by omega) (by omega) (by omega)
  have Lq := Sc.mul (X := 642) (Y := 1203) LL (litq : Sc 0 0 _ _ _ _) (by omega) (by omega) (by omega) (by omega) (by omega)
  have s2 := (rh.weak (show 642 ≤ 817 by omega) (Nat.le_refl _)).add Lq (by omega) (by omega) (by omega)
  have dd := Sc.div (X := 864) (Y := 1188) r4 (lit9 : Sc 0 0 _ _ _ _) nil9 (by omega) (by omega) (by omega) (by omega) (by omega) (by omega)
  have Ld := Sc.mul (X := 642) (Y := 1253) L dd (by omega) (by omega) (by omega) (by omega) (by omega)
  have s3 := (s2.weak (Nat.le_refl _) (show 1203 + 1 ≤ 1253 by omega)).add Ld (by omega) (by omega) (by omega)
  have e1 := Sc.mul (X := 255) (Y := 1436) q s3 (by omega) (by omega) (by omega) (by omega) (by omega)
  have bar' := Sc_cast bar (show i2 + (i + i) + (i + i) + 0 = i2 + (i + i + (i + i)) by omega) (show j2 + (j + j) + (j + j) + 0 = j2 + (j + j + (j + j)) by omega)
  have e1' := Sc_cast e1 (show i2 + (i + i) + (i + i) = i2 + (i + i + (i + i)) by omega) (show j2 + (j + j) + (j + j) = j2 + (j + j + (j + j)) by omega)
  have I := bar'.add (e1'.weak (show 164 ≤ 255 by omega) (show 1436 ≤ 1443 by omega)) (by omega) (by omega) (by omega)
  have mx := Sc.mul (X := 889) (Y := 1136) (f0.add f1 (by omega) (by omega) (by omega)) (lithalf : Sc 0 0 _ _ _ _) (by omega) (by omega) (by omega) (by omega) (by omega)
  have my := Sc.mul (X := 889) (Y := 1136) (g0.add g1 (by omega) (by omega) (by omega)) (lithalf : Sc 0 0 _ _ _ _) (by omega) (by omega) (by omega) (by omega) (by omega)
  exact ⟨M, I, mx, my⟩
end
end Go.Proofs.Ytbkogihigehjlaa
