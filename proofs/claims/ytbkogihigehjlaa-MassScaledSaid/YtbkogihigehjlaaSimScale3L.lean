/- Powers of two: math.Ldexp(1, z), times it, by it. -/
import Derived.Test.YtbkogihigehjlaaSimScale2
import Derived.Test.YtbkogihigehjlaaLOps
set_option linter.unusedVariables false
set_option linter.unusedSimpArgs false
namespace Go.Sim
open Ieee Go.Lst
theorem mul_one_word {a : Nat} (la : a < 18446744073709551616) (fa : fin a = true) : fmul a 4607182418800017408 = a := by
  obtain ⟨d, hd⟩ : ∃ d, d = 1074 := ⟨_, rfl⟩
  have s1 : sgnOf 4607182418800017408 = false := by decide
  rw [fmul_fin fa fin_one, ← hd, one_mag hd, RN_mag (fin_iff.1 fa), s1, Bool.xor_false]
  have hw := word_split la
  have := fin_iff.1 fa
  unfold Format.word
  rw [double_consts.2.2.1]
  cases hs : sgnOf a <;> rw [hs] at hw <;> simp at hw ⊢ <;> omega
theorem one_mul_word {a : Nat} (la : a < 18446744073709551616) (fa : fin a = true) : fmul 4607182418800017408 a = a := by rw [fmul_comm]; exact mul_one_word la fa
theorem word_self {a : Nat} (la : a < 18446744073709551616) (fa : fin a = true) : double.word (sgnOf a) (rungOf a) = a := by
  have := mul_one_word la fa
  obtain ⟨d, hd⟩ : ∃ d, d = 1074 := ⟨_, rfl⟩
  have s1 : sgnOf 4607182418800017408 = false := by decide
  rw [fmul_fin fa fin_one, ← hd, one_mag hd, RN_mag (fin_iff.1 fa), s1, Bool.xor_false] at this
  exact this
/-- A float that is nought or not too small and not too great. -/
def Pl (x y a : Nat) : Prop := Sc 0 0 x y a a
theorem Pl.of {x y a : Nat} (la : a < 18446744073709551616) (fa : fin a = true) (d : 2 ^ x ∣ magOf (rungOf a)) (u : magOf (rungOf a) ≤ 2 ^ y) : Pl x y a := ⟨la, la, fa, fa, rfl, rfl, d, d, u, u⟩
theorem div_one_word {a x y : Nat} (h : Pl x y a) (hx : 52 ≤ x) : fdiv a 4607182418800017408 = a := by
  have s1 : sgnOf 4607182418800017408 = false := by decide
  have z1 : magOf (rungOf 4607182418800017408) ≠ 0 := by
    have : 0 < magOf (rungOf 4607182418800017408) := magOf_pos.2 (by decide)
    omega
  by_cases hz : magOf (rungOf a) = 0
  · rw [fdiv_zero h.fa fin_one hz z1, s1, Bool.xor_false]
    have : rungOf a = 0 := by
      rcases Nat.eq_zero_or_pos (rungOf a) with h | h
      · exact h
      · have := magOf_pos.2 h; omega
    have w := word_self h.la h.fa
    rw [this] at w; exact w
  · obtain ⟨m, e, f, r1, r2, m1, m2, ef, x1, x2, y1, y2⟩ := h.norm hx hz
    have rone : double.read 4607182418800017408 = .number false 4503599627370496 (-52) := by decide
    rw [fdiv_norm r1 rone m1 m2 (by decide) (by decide), Bool.xor_false]
    have hq : m * 2 ^ 54 / 4503599627370496 = 4 * m := by
      rw [show (2 : Nat) ^ 54 = 18014398509481984 by decide]; omega
    have hr : m * 2 ^ 54 % 4503599627370496 = 0 := by
      rw [show (2 : Nat) ^ 54 = 18014398509481984 by decide]; omega
    rw [hq, hr]
    show double.nearest (sgnOf a) (2 * (4 * m) + 0) _ = a
    have hm : magOf (rungOf a) = m * 2 ^ e := by
      obtain ⟨r3, m3⟩ := read_norm h.fa (mag_norm h.da hx hz)
      rw [r1] at r3
      simp only [Datum.number.injEq] at r3
      rw [m3, ← r3.2.1]
      exact congrArg (fun t => m * 2 ^ t) (by omega)
    obtain ⟨d, hd⟩ : ∃ d : Nat, d = 1077 := ⟨_, rfl⟩
    rw [nearest_RN _ _ _ d (by omega)]
    have e2 : (2 * (4 * m) + 0) * 2 ^ (-1074 + (e : Int) - -52 - 54 - 1 + 1074 + (d : Int)).toNat = magOf (rungOf a) * 2 ^ d := by
      rw [hm]
      have t : (-1074 + (e : Int) - -52 - 54 - 1 + 1074 + (d : Int)).toNat + 3 = e + d := by omega
      have k1 : (2 * (4 * m) + 0) = m * 2 ^ 3 := by omega
      rw [k1, Nat.mul_assoc, Nat.mul_assoc, ← Nat.pow_add, ← Nat.pow_add]
      exact congrArg (fun t => m * 2 ^ t) (by omega)
    rw [e2, RN_mag (fin_iff.1 h.fa)]
    exact word_self h.la h.fa
/-- The power of two as a word. -/
def pow2 (z : Int) : Nat := (z + 1023).toNat * 4503599627370496
theorem pow2_lt {z : Int} (h1 : -1000 ≤ z) (h2 : z ≤ 1000) : pow2 z < 9218868437227405312 := by unfold pow2; omega
theorem pow2_rung {z : Int} (h1 : -1000 ≤ z) (h2 : z ≤ 1000) : rungOf (pow2 z) = pow2 z := by have := pow2_lt h1 h2; unfold rungOf; omega
theorem pow2_sgn {z : Int} (h1 : -1000 ≤ z) (h2 : z ≤ 1000) : sgnOf (pow2 z) = false := by have := pow2_lt h1 h2; exact (sgn_false (by omega)).2 (by omega)
theorem pow2_fin {z : Int} (h1 : -1000 ≤ z) (h2 : z ≤ 1000) : fin (pow2 z) = true := by rw [fin_iff, pow2_rung h1 h2]; exact pow2_lt h1 h2
theorem pow2_mag {z : Int} (h1 : -1000 ≤ z) (h2 : z ≤ 1000) {y : Nat} (hy : (y : Int) = z + 1074) : magOf (rungOf (pow2 z)) = 2 ^ y := by
  rw [pow2_rung h1 h2]
  have e : pow2 z = (y - 51) * 4503599627370496 := by unfold pow2; exact congrArg (fun t => t * 4503599627370496) (by omega)
  rw [e]; exact mag_pow (by omega)
theorem wrap64 {n : Int} (h1 : -9223372036854775808 ≤ n) (h2 : n < 9223372036854775808) : IntKind.wrap .i64 n = n := by
  have e : IntKind.wrap .i64 n = if (true && decide (n % 18446744073709551616 ≥ 9223372036854775808)) = true then n % 18446744073709551616 - 18446744073709551616 else n % 18446744073709551616 := rfl
  rw [e, Bool.true_and]
  simp only [ge_iff_le, decide_eq_true_eq]
  split <;> omega
theorem wrapu64 {n : Int} (h1 : 0 ≤ n) (h2 : n < 18446744073709551616) : IntKind.wrap .u64 n = n := by
  have e : IntKind.wrap .u64 n = if (false && decide (n % 18446744073709551616 ≥ 9223372036854775808)) = true then n % 18446744073709551616 - 18446744073709551616 else n % 18446744073709551616 := rfl
  rw [e, Bool.false_and, if_neg (by decide)]; omega
/-- The bits that math.Ldexp(1, z) puts together. -/
theorem ldexp_bits {z : Int} (h1 : -1000 ≤ z) (h2 : z ≤ 1000) :
    (IntKind.wrap .u64 ((((0 : Int) % (18446744073709551616 : Int)).toNat ||| ((IntKind.wrap .u64 ((IntKind.wrap .u64 (IntKind.wrap .i64 (z + (1023 : Int)))) * (4503599627370496 : Int))) % (18446744073709551616 : Int)).toNat : Nat) : Int)) = Int.ofNat (pow2 z) := by
  have p := pow2_lt h1 h2
  rw [wrap64 (by omega) (by omega), wrapu64 (n := z + 1023) (by omega) (by omega)]
  have e : (z + 1023) * 4503599627370496 = ((pow2 z : Nat) : Int) := by unfold pow2; omega
  rw [e, wrapu64 (n := ((pow2 z : Nat) : Int)) (by omega) (by omega)]
  have e0 : ((0 : Int) % 18446744073709551616).toNat = 0 := by decide
  have e1 : (((pow2 z : Nat) : Int) % 18446744073709551616).toNat = pow2 z := by omega
  rw [e0, e1, Nat.zero_or, wrapu64 (by omega) (by omega)]
  rfl
theorem cn_fin {a : Nat} (fa : fin a = true) : cn a = a := cn_of_not (fin_not_nan fa)
theorem ldexp_word {z : Int} (h1 : -1000 ≤ z) (h2 : z ≤ 1000) :
    (bif (ilt z (-1075 : Int)) then 0 else (bif (ilt (1023 : Int) z) then 9218868437227405312 else (fmul (bif (ilt z (-1022 : Int)) then 4368491638549381120 else 4607182418800017408) (cn (Int.toNat (IntKind.wrap .u64 ((((0 : Int) % (18446744073709551616 : Int)).toNat ||| ((IntKind.wrap .u64 ((IntKind.wrap .u64 (IntKind.wrap .i64 ((bif (ilt z (-1022 : Int)) then (IntKind.wrap .i64 (z + (53 : Int))) else z) + (1023 : Int)))) * (4503599627370496 : Int))) % (18446744073709551616 : Int)).toNat : Nat) : Int))))))) = pow2 z := by
  have c1 : ilt z (-1075) = false := decide_eq_false (by omega)
  have c2 : ilt 1023 z = false := decide_eq_false (by omega)
  have c3 : ilt z (-1022) = false := decide_eq_false (by omega)
  rw [c1, c2, c3]
  simp only [cond_false]
  rw [ldexp_bits h1 h2]
  show fmul _ (cn (pow2 z)) = _
  rw [cn_fin (pow2_fin h1 h2)]
  have := pow2_lt h1 h2
  exact one_mul_word (by omega) (pow2_fin h1 h2)
/-- Times a power of two. -/
theorem pow2_sc {z : Int} {i j x y : Nat} (h1 : -1000 ≤ z) (h2 : z ≤ 1000) (hij : z + (j : Int) = i) (hx : (x : Int) ≤ z + 1074) (hx' : x ≤ 1074) (hy : z + 1074 ≤ (y : Int)) (hy' : 1074 ≤ y) : Sc i j x y 4607182418800017408 (pow2 z) := by
  obtain ⟨d, hd⟩ : ∃ d, d = 1074 := ⟨_, rfl⟩
  obtain ⟨w, hw⟩ : ∃ w : Nat, (w : Int) = z + 1074 := ⟨(z + 1074).toNat, by omega⟩
  have m1 := one_mag hd
  have m2 := pow2_mag h1 h2 hw
  have pl := pow2_lt h1 h2
  refine ⟨by decide, by omega, fin_one, pow2_fin h1 h2, by rw [pow2_sgn h1 h2]; decide, ?_, ?_, ?_, ?_, ?_⟩
  · rw [m1, m2, ← Nat.pow_add, ← Nat.pow_add]
    exact congrArg (fun t => 2 ^ t) (by omega)
  · rw [m1]; exact Nat.pow_dvd_pow 2 (by omega)
  · rw [m2]; exact Nat.pow_dvd_pow 2 (by omega)
  · rw [m1]; exact Nat.pow_le_pow_right (by decide) (by omega)
  · rw [m2]; exact Nat.pow_le_pow_right (by decide) (by omega)
theorem Pl.times {x y a : Nat} {z : Int} {i j X Y : Nat} (h : Pl x y a) (h1 : -1000 ≤ z) (h2 : z ≤ 1000) (hij : z + (j : Int) = i) (hX0 : 52 ≤ X) (hX : (X : Int) ≤ x + z) (hX' : X ≤ x) (hY : (y : Int) + z ≤ Y) (hY' : y ≤ Y) (h52 : 52 ≤ Y) (hy : Y ≤ 2097) : Sc i j X Y a (fmul a (pow2 z)) := by
  have k := pow2_sc (z := z) (i := i) (j := j) (x := if z ≤ 0 then (z + 1074).toNat else 1074) (y := if z ≤ 0 then 1074 else (z + 1074).toNat) h1 h2 hij (by split <;> omega) (by split <;> omega) (by split <;> omega) (by split <;> omega)
  have m := Sc.mul (X := X) (Y := Y) h k hX0 (by split <;> omega) (by split <;> omega) h52 hy
  rw [mul_one_word h.la h.fa, Nat.zero_add, Nat.zero_add] at m
  exact m
/-- By a power of two. -/
theorem Pl.by' {x y a : Nat} {z : Int} {i j X Y : Nat} (h : Pl x y a) (h1 : -1000 ≤ z) (h2 : z ≤ 1000) (hij : z + (j : Int) = i) (hx : 52 ≤ x) (hX0 : 52 ≤ X) (hX : (X : Int) + 54 ≤ x - z) (hX' : X + 54 ≤ x) (hY : (y : Int) + 2 ≤ Y + z) (hY' : y + 2 ≤ Y) (hy : Y ≤ 2097) : Sc j i X Y a (fdiv a (pow2 z)) := by
  have k := pow2_sc (z := z) (i := i) (j := j) (x := if z ≤ 0 then (z + 1074).toNat else 1074) (y := if z ≤ 0 then 1074 else (z + 1074).toNat) h1 h2 hij (by split <;> omega) (by split <;> omega) (by split <;> omega) (by split <;> omega)
  have z1 : magOf (rungOf 4607182418800017408) ≠ 0 := by
    have : 0 < magOf (rungOf 4607182418800017408) := magOf_pos.2 (by decide)
    omega
  have m := Sc.div (X := X) (Y := Y) h k z1 hx (by split <;> omega) hX0 (by split <;> omega) (by split <;> omega) hy
  rw [div_one_word h hx, Nat.zero_add, Nat.zero_add] at m
  exact m
/-- Left and right of a relation. -/
theorem Sc.left {i j x y a b : Nat} (h : Sc i j x y a b) : Pl x y a := ⟨h.la, h.la, h.fa, h.fa, rfl, rfl, h.da, h.da, h.ua, h.ua⟩
theorem Sc.right {i j x y a b : Nat} (h : Sc i j x y a b) : Pl x y b := ⟨h.lb, h.lb, h.fb, h.fb, rfl, rfl, h.db, h.db, h.ub, h.ub⟩
theorem Sc.trans {i j i' j' x y x' y' a b c : Nat} (h : Sc i j x y a b) (g : Sc i' j' x' y' b c) (hx : x ≤ x') (hy : y' ≤ y) : Sc (i + i') (j + j') x y a c := by
  have g' := g.weak hx hy
  refine ⟨h.la, g.lb, h.fa, g.fb, g.sg.trans h.sg, ?_, h.da, g'.db, h.ua, g'.ub⟩
  have e1 := h.mg
  have e2 := g.mg
  rw [Nat.pow_add, Nat.pow_add]
  have k1 : magOf (rungOf c) * (2 ^ j * 2 ^ j') = (magOf (rungOf c) * 2 ^ j') * 2 ^ j := by ac_rfl
  have k2 : magOf (rungOf a) * (2 ^ i * 2 ^ i') = (magOf (rungOf a) * 2 ^ i) * 2 ^ i' := by ac_rfl
  rw [k1, k2, e2, ← e1]; ac_rfl
/-- Literals. -/
theorem Pl.lit {x y a m e : Nat} (la : a < 9218868437227405312) (h : 4503599627370496 ≤ a) (hm : 4503599627370496 + a % 4503599627370496 = m) (he : a / 4503599627370496 - 1 = e) (hx : x ≤ e) (hy : 53 + e ≤ y) : Pl x y a := by
  have ra : rungOf a = a := by unfold rungOf; omega
  have mg : magOf (rungOf a) = m * 2 ^ e := by rw [ra]; unfold magOf; rw [if_neg (by omega), hm, he]
  refine Pl.of (by omega) (by rw [fin_iff, ra]; exact la) ?_ ?_
  · rw [mg]; exact Nat.dvd_trans (Nat.pow_dvd_pow 2 hx) (Nat.dvd_mul_left _ _)
  · rw [mg]
    refine Nat.le_trans (Nat.mul_le_mul_right _ (show m ≤ 2 ^ 53 by rw [show (2 : Nat) ^ 53 = 9007199254740992 by decide]; omega)) ?_
    rw [← Nat.pow_add]; exact Nat.pow_le_pow_right (by decide) hy
/-- What lies between two powers of two. -/
theorem Pl.between {a lo hi x y : Nat} (la : a < 18446744073709551616) (h1 : 4503599627370496 ≤ lo) (h2 : lo ≤ rungOf a) (h3 : rungOf a ≤ hi) (h4 : hi < 9218868437227405312) (hx : x + 1 ≤ lo / 4503599627370496) (hy : hi = (y - 51) * 4503599627370496) (hy' : 52 ≤ y) : Pl x y a := by
  refine Pl.of la (by rw [fin_iff]; omega) ?_ ?_
  · unfold magOf
    rw [if_neg (by omega)]
    refine Nat.dvd_trans (Nat.pow_dvd_pow 2 ?_) (Nat.dvd_mul_left _ _)
    have : lo / 4503599627370496 ≤ rungOf a / 4503599627370496 := Nat.div_le_div_right h2
    omega
  · rw [← mag_pow hy', ← hy]; exact magOf_le_iff.2 h3
theorem Pl.nought {a x y : Nat} (la : a < 18446744073709551616) (h : rungOf a = 0) : Pl x y a := by
  refine Pl.of la (by rw [fin_iff, h]; decide) ?_ ?_ <;> rw [h, magOf_zero]
  · exact Nat.dvd_zero _
  · exact Nat.zero_le _
theorem Sc.eq0 {i j x y a b : Nat} (h : Sc i j x y a b) : Go.Sim.feq b 0 = Go.Sim.feq a 0 := h.feq (Sc.zero i j x y)
theorem Sc.self {i j x y a b : Nat} (h : Sc i j x y a b) : Go.Sim.feq b b = true ∧ Go.Sim.feq a a = true := by
  constructor
  · rw [feq_val (fin_not_nan h.fb) (fin_not_nan h.fb)]; simp
  · rw [feq_val (fin_not_nan h.fa) (fin_not_nan h.fa)]; simp
theorem Sc.same0 {i j x y a b : Nat} (h : Sc i j x y a b) (hz : Go.Sim.feq a 0 = true) : b = a := by
  have hb := h.eq0.trans hz
  have ra : rungOf a = 0 := by rcases (feq_zero h.la (fin_not_nan h.fa)).1 hz with e | e <;> rw [e] <;> decide
  have rb : rungOf b = 0 := by rcases (feq_zero h.lb (fin_not_nan h.fb)).1 hb with e | e <;> rw [e] <;> decide
  rw [word_split h.la, word_split h.lb, ra, rb, h.sg]
end Go.Sim
