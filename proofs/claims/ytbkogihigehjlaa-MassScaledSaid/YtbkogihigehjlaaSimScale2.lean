/- Powers of two: quotients, roots, comparisons, and math.Ldexp(1, z). -/
import Derived.Test.YtbkogihigehjlaaSimScale
set_option linter.unusedVariables false
set_option linter.unusedSimpArgs false
namespace Go.Sim
open Ieee
theorem rung_norm {r : Nat} (h : 4503599627370496 ≤ magOf r) : 4503599627370496 ≤ r := by
  rcases Nat.lt_or_ge r 4503599627370496 with h' | h'
  · unfold magOf at h; rw [if_pos h'] at h; omega
  · exact h'
theorem mag_norm {a x : Nat} (h : 2 ^ x ∣ magOf (rungOf a)) (hx : 52 ≤ x) (hz : magOf (rungOf a) ≠ 0) : 4503599627370496 ≤ rungOf a := by
  refine rung_norm ?_
  have h1 := Nat.le_of_dvd (Nat.pos_of_ne_zero hz) h
  have h2 : 2 ^ 52 ≤ 2 ^ x := Nat.pow_le_pow_right (by decide) hx
  have e : (2 : Nat) ^ 52 = 4503599627370496 := by decide
  omega
theorem read_norm {a : Nat} (fa : fin a = true) (h : 4503599627370496 ≤ rungOf a) : double.read a = .number (sgnOf a) (4503599627370496 + rungOf a % 4503599627370496) (-1074 + ((rungOf a / 4503599627370496 - 1 : Nat) : Int)) ∧
    magOf (rungOf a) = (4503599627370496 + rungOf a % 4503599627370496) * 2 ^ (rungOf a / 4503599627370496 - 1) := by
  have hf := fin_iff.1 fa
  constructor
  · rw [read_eq, if_neg (by omega), if_pos hf]
  · unfold magOf; rw [if_neg (by omega)]
theorem Sc.zero_iff {i j x y a b : Nat} (h : Sc i j x y a b) : magOf (rungOf b) = 0 ↔ magOf (rungOf a) = 0 := by
  have e := h.mg
  have pj : 0 < 2 ^ j := Nat.pow_pos (by decide)
  have pi : 0 < 2 ^ i := Nat.pow_pos (by decide)
  constructor
  · intro hz; rw [hz, Nat.zero_mul] at e; exact (Nat.mul_eq_zero.1 e.symm).resolve_right (by omega)
  · intro hz; rw [hz, Nat.zero_mul] at e; exact (Nat.mul_eq_zero.1 e).resolve_right (by omega)
/-- The same digits at another place. -/
theorem Sc.norm {i j x y a b : Nat} (h : Sc i j x y a b) (hx : 52 ≤ x) (hz : magOf (rungOf a) ≠ 0) :
    ∃ (m : Nat) (e f : Nat), double.read a = .number (sgnOf a) m (-1074 + (e : Int)) ∧ double.read b = .number (sgnOf a) m (-1074 + (f : Int)) ∧ 4503599627370496 ≤ m ∧ m < 9007199254740992 ∧ f + j = e + i ∧ x < e + 53 ∧ x < f + 53 ∧ 52 + e ≤ y ∧ 52 + f ≤ y := by
  have na := mag_norm h.da hx hz
  have hzb : magOf (rungOf b) ≠ 0 := fun e => hz (h.zero_iff.1 e)
  have nb := mag_norm h.db hx hzb
  obtain ⟨r1, m1⟩ := read_norm h.fa na
  obtain ⟨r2, m2⟩ := read_norm h.fb nb
  have er : rungOf b + j * 4503599627370496 = rungOf a + i * 4503599627370496 := by
    have e1 := magOf_up_pow nb j
    have e2 := magOf_up_pow na i
    rw [h.mg, ← e2] at e1
    exact magOf_inj e1
  have em : rungOf b % 4503599627370496 = rungOf a % 4503599627370496 := by omega
  have bnd : ∀ {z : Nat}, 4503599627370496 ≤ rungOf z → 2 ^ x ∣ magOf (rungOf z) → magOf (rungOf z) ≤ 2 ^ y → magOf (rungOf z) = (4503599627370496 + rungOf z % 4503599627370496) * 2 ^ (rungOf z / 4503599627370496 - 1) → x < (rungOf z / 4503599627370496 - 1) + 53 ∧ 52 + (rungOf z / 4503599627370496 - 1) ≤ y := by
    intro z hn hd hu hm
    have e53 : (2 : Nat) ^ 53 = 9007199254740992 := by decide
    have e52 : (2 : Nat) ^ 52 = 4503599627370496 := by decide
    have hp : 0 < 2 ^ (rungOf z / 4503599627370496 - 1) := Nat.pow_pos (by decide)
    have hlt : 4503599627370496 + rungOf z % 4503599627370496 < 2 ^ 53 := by omega
    have hge : 2 ^ 52 ≤ 4503599627370496 + rungOf z % 4503599627370496 := by omega
    have hpos : 0 < magOf (rungOf z) := by rw [hm]; exact Nat.mul_pos (by omega) hp
    have h1 := Nat.le_of_dvd hpos hd
    constructor
    · have h2 : magOf (rungOf z) < 2 ^ (53 + (rungOf z / 4503599627370496 - 1)) := by rw [hm, Nat.pow_add]; exact (Nat.mul_lt_mul_right hp).2 hlt
      have := (Nat.pow_lt_pow_iff_right (show 1 < 2 by decide)).1 (Nat.lt_of_le_of_lt h1 h2)
      omega
    · have h2 : 2 ^ (52 + (rungOf z / 4503599627370496 - 1)) ≤ magOf (rungOf z) := by rw [hm, Nat.pow_add]; exact Nat.mul_le_mul_right _ hge
      exact (Nat.pow_le_pow_iff_right (show 1 < 2 by decide)).1 (Nat.le_trans h2 hu)
  obtain ⟨b1, b2⟩ := bnd na h.da h.ua m1
  obtain ⟨b3, b4⟩ := bnd nb h.db h.ub m2
  refine ⟨_, rungOf a / 4503599627370496 - 1, rungOf b / 4503599627370496 - 1, r1, ?_, by omega, by omega, by omega, b1, b3, b2, b4⟩
  rw [r2, em, h.sg]
theorem log_m {m : Nat} (h1 : 4503599627370496 ≤ m) (h2 : m < 9007199254740992) : m.log2 = 52 := by
  have hz : m ≠ 0 := by omega
  have a : 52 ≤ m.log2 := (Nat.le_log2 hz).2 (by rw [show (2 : Nat) ^ 52 = 4503599627370496 by decide]; omega)
  have b : m.log2 < 53 := (Nat.log2_lt hz).2 (by rw [show (2 : Nat) ^ 53 = 9007199254740992 by decide]; omega)
  omega
theorem fdiv_norm {a b : Nat} {s t : Bool} {m n : Nat} {e f : Int} (ha : double.read a = .number s m e) (hb : double.read b = .number t n f) (m1 : 4503599627370496 ≤ m) (m2 : m < 9007199254740992) (n1 : 4503599627370496 ≤ n) (n2 : n < 9007199254740992) :
    fdiv a b = double.nearest (s ^^ t) (2 * (m * 2 ^ 54 / n) + (m * 2 ^ 54 % n != 0).toNat) (e - f - 54 - 1) := by
  have c5 : double.fractionBits + 2 = 54 := rfl
  unfold fdiv Format.div
  rw [ha, hb, c5]
  simp only [Datum.quotient]
  rw [if_neg (by omega), Option.map_some, Option.getD_some]
  simp only [Format.write]
  have hk : 54 + n.log2 - m.log2 = 54 := by rw [log_m m1 m2, log_m n1 n2]
  rw [hk, Nat.shiftLeft_eq]
  rfl
theorem quo_bounds {m n : Nat} (m1 : 4503599627370496 ≤ m) (m2 : m < 9007199254740992) (n1 : 4503599627370496 ≤ n) (n2 : n < 9007199254740992) :
    18014398509481984 ≤ 2 * (m * 2 ^ 54 / n) + (m * 2 ^ 54 % n != 0).toNat ∧ 2 * (m * 2 ^ 54 / n) + (m * 2 ^ 54 % n != 0).toNat < 72057594037927936 := by
  have e54 : (2 : Nat) ^ 54 = 18014398509481984 := by decide
  rw [e54]
  have l1 : 9007199254740992 ≤ m * 18014398509481984 / n := by
    rw [Nat.le_div_iff_mul_le (by omega)]; omega
  have l2 : m * 18014398509481984 / n < 36028797018963968 := by
    rw [Nat.div_lt_iff_lt_mul (by omega)]; omega
  have l3 : (m * 18014398509481984 % n != 0).toNat ≤ 1 := by cases (m * 18014398509481984 % n != 0) <;> decide
  omega
theorem near_sc {s : Bool} {q i j X Y lo hi : Nat} {p p' : Int} (hq1 : 2 ^ lo ≤ q) (hq2 : q ≤ 2 ^ hi) (hp : p' + (j : Int) = p + (i : Int)) (hx : 52 ≤ X) (hX : (X : Int) + 52 ≤ lo + p + 1074) (hX' : (X : Int) + 52 ≤ lo + p' + 1074) (hY : hi + p + 1074 ≤ (Y : Int)) (hY' : hi + p' + 1074 ≤ (Y : Int)) (hy : Y ≤ 2097) :
    Sc i j X Y (double.nearest s q p) (double.nearest s q p') := by
  obtain ⟨d, hd1, hd2⟩ : ∃ d : Nat, 0 ≤ p + 1074 + (d : Int) ∧ 0 ≤ p' + 1074 + (d : Int) := ⟨(-p).toNat + (-p').toNat, by omega, by omega⟩
  rw [nearest_RN _ _ _ d hd1, nearest_RN _ _ _ d hd2]
  generalize hE : (p + 1074 + (d : Int)).toNat = E
  generalize hE' : (p' + 1074 + (d : Int)).toNat = E'
  have q0 : q ≠ 0 := by have : 0 < 2 ^ lo := Nat.pow_pos (by decide); omega
  have key : ∀ {E : Nat}, X + 52 + d ≤ lo + E → hi + E ≤ Y + d → RN' (q * 2 ^ E) d < 9218868437227405312 ∧ magOf (RN' (q * 2 ^ E) d) ≤ 2 ^ Y ∧ 2 ^ X ∣ magOf (RN' (q * 2 ^ E) d) ∧ 52 + d ≤ (q * 2 ^ E).log2 := by
    intro E h1 h2
    have lb : 2 ^ (X + 52 + d) ≤ q * 2 ^ E := by
      refine Nat.le_trans (Nat.pow_le_pow_right (by decide) h1) ?_
      rw [Nat.pow_add]; exact Nat.mul_le_mul_right _ hq1
    have ub : q * 2 ^ E ≤ 2 ^ (Y + d) := by
      refine Nat.le_trans (Nat.mul_le_mul_right _ hq2) ?_
      rw [← Nat.pow_add]; exact Nat.pow_le_pow_right (by decide) h2
    have hlh : lo ≤ hi := (Nat.pow_le_pow_iff_right (show 1 < 2 by decide)).1 (Nat.le_trans hq1 hq2)
    obtain ⟨t1, t2⟩ := RN_top ub (by omega) hy
    refine ⟨t1, t2, dvd_of_ge (RN_bottom lb (by omega)), ?_⟩
    have hz : q * 2 ^ E ≠ 0 := Nat.mul_ne_zero q0 (by have : 0 < 2 ^ E := Nat.pow_pos (by decide); omega)
    exact (Nat.le_log2 hz).2 (Nat.le_trans (Nat.pow_le_pow_right (by decide) (by omega)) lb)
  obtain ⟨a1, a2, a3, a4⟩ := key (E := E) (by omega) (by omega)
  obtain ⟨b1, b2, b3, b4⟩ := key (E := E') (by omega) (by omega)
  rw [RN_self a1, RN_self b1]
  refine Sc.word a1 b1 (RN_sc ?_ (.inr a4) (.inr b4)) a3 b3 a2 b2
  rw [Nat.mul_assoc, Nat.mul_assoc, ← Nat.pow_add, ← Nat.pow_add]
  exact congrArg (fun e => q * 2 ^ e) (by omega)
theorem Sc.word0 (s : Bool) (i j X Y : Nat) : Sc i j X Y (double.word s 0) (double.word s 0) :=
  Sc.word (by decide) (by decide) (by rw [magOf_zero]; simp) (by rw [magOf_zero]; exact Nat.dvd_zero _) (by rw [magOf_zero]; exact Nat.dvd_zero _) (by rw [magOf_zero]; exact Nat.zero_le _) (by rw [magOf_zero]; exact Nat.zero_le _)
theorem Sc.div {i j x y i' j' x' y' X Y a b a' b' : Nat} (h : Sc i j x y a a') (g : Sc i' j' x' y' b b') (hb : magOf (rungOf b) ≠ 0) (hx : 52 ≤ x) (hx' : 52 ≤ x') (hX0 : 52 ≤ X) (hX : X + y' ≤ x + 1020) (hY : y + 1076 ≤ Y + x') (hy : Y ≤ 2097) : Sc (i + j') (j + i') X Y (fdiv a b) (fdiv a' b') := by
  have hb' : magOf (rungOf b') ≠ 0 := fun e => hb (g.zero_iff.1 e)
  by_cases hz : magOf (rungOf a) = 0
  · rw [fdiv_zero h.fa g.fa hz hb, fdiv_zero h.fb g.fb (h.zero_iff.2 hz) hb', h.sg, g.sg]
    exact Sc.word0 _ _ _ _ _
  · obtain ⟨m, e, f, r1, r2, m1, m2, ef, x1, x2, y1, y2⟩ := h.norm hx hz
    obtain ⟨n, e', f', s1, s2, n1, n2, ef', x3, x4, y3, y4⟩ := g.norm hx' hb
    rw [fdiv_norm r1 s1 m1 m2 n1 n2, fdiv_norm r2 s2 m1 m2 n1 n2]
    obtain ⟨q1, q2⟩ := quo_bounds m1 m2 n1 n2
    have e54 : (2 : Nat) ^ 54 = 18014398509481984 := by decide
    have e56 : (2 : Nat) ^ 56 = 72057594037927936 := by decide
    refine near_sc (lo := 54) (hi := 56) (by omega) (by omega) ?_ hX0 ?_ ?_ ?_ ?_ hy <;> omega
theorem fsqrt_norm {a : Nat} {m : Nat} {e : Int} (ha : double.read a = .number false m e) (m1 : 4503599627370496 ≤ m) (m2 : m < 9007199254740992) :
    fsqrt a = double.nearest false (2 * Datum.rootFrom (m * 2 ^ (56 + ((e - 56) % 2).toNat)) ((m * 2 ^ (56 + ((e - 56) % 2).toNat)).log2 / 2 + 1) 0 + (Datum.rootFrom (m * 2 ^ (56 + ((e - 56) % 2).toNat)) ((m * 2 ^ (56 + ((e - 56) % 2).toNat)).log2 / 2 + 1) 0 * Datum.rootFrom (m * 2 ^ (56 + ((e - 56) % 2).toNat)) ((m * 2 ^ (56 + ((e - 56) % 2).toNat)).log2 / 2 + 1) 0 != m * 2 ^ (56 + ((e - 56) % 2).toNat)).toNat) ((e - ((56 + ((e - 56) % 2).toNat : Nat) : Int)) / 2 - 1) := by
  have c5 : double.fractionBits + 2 = 54 := rfl
  unfold fsqrt Format.sqrt
  rw [ha, c5]
  simp only [Datum.root]
  rw [if_neg (by omega), if_neg (by decide), Option.map_some, Option.getD_some]
  simp only [Format.write]
  have hk : 2 * 54 - m.log2 = 56 := by rw [log_m m1 m2]
  rw [hk, Nat.shiftLeft_eq]
  rfl
theorem root_bounds {n : Nat} (h1 : 2 ^ 108 ≤ n) (h2 : n < 2 ^ 110) : 2 ^ 55 ≤ 2 * Datum.rootFrom n (n.log2 / 2 + 1) 0 + (Datum.rootFrom n (n.log2 / 2 + 1) 0 * Datum.rootFrom n (n.log2 / 2 + 1) 0 != n).toNat ∧
    2 * Datum.rootFrom n (n.log2 / 2 + 1) 0 + (Datum.rootFrom n (n.log2 / 2 + 1) 0 * Datum.rootFrom n (n.log2 / 2 + 1) 0 != n).toNat ≤ 2 ^ 56 := by
  have hz : n ≠ 0 := by have : 0 < 2 ^ 108 := Nat.pow_pos (by decide); omega
  have hl := Nat.lt_log2_self (n := n)
  obtain ⟨s1, s2⟩ := rootFrom_spec n (n.log2 / 2 + 1) 0 (by omega) (by
    rw [Nat.zero_add, ← Nat.pow_add]
    refine Nat.lt_of_lt_of_le hl (Nat.pow_le_pow_right (by decide) (by omega)))
  generalize Datum.rootFrom n (n.log2 / 2 + 1) 0 = w at *
  have e108 : (2 : Nat) ^ 108 = 2 ^ 54 * 2 ^ 54 := by rw [← Nat.pow_add]
  have e110 : (2 : Nat) ^ 110 = 2 ^ 55 * 2 ^ 55 := by rw [← Nat.pow_add]
  have w1 : 2 ^ 54 ≤ w := by
    rcases Nat.lt_or_ge w (2 ^ 54) with h | h
    · exfalso
      have : (w + 1) * (w + 1) ≤ 2 ^ 54 * 2 ^ 54 := Nat.mul_le_mul h h
      omega
    · exact h
  have w2 : w < 2 ^ 55 := by
    rcases Nat.lt_or_ge w (2 ^ 55) with h | h
    · exact h
    · exfalso
      have : 2 ^ 55 * 2 ^ 55 ≤ w * w := Nat.mul_le_mul h h
      omega
  have l3 : (w * w != n).toNat ≤ 1 := by cases (w * w != n) <;> decide
  have e54 : (2 : Nat) ^ 54 = 18014398509481984 := by decide
  have e55 : (2 : Nat) ^ 55 = 36028797018963968 := by decide
  have e56 : (2 : Nat) ^ 56 = 72057594037927936 := by decide
  omega
theorem Sc.sqrt {i j x y X Y a b : Nat} (h : Sc (2 * i) (2 * j) x y a b) (hs : sgnOf a = false) (hx : 52 ≤ x) (hX0 : 52 ≤ X) (hX : 2 * X ≤ x + 960) (hY : y + 1080 ≤ 2 * Y) (hy : Y ≤ 2097) : Sc i j X Y (fsqrt a) (fsqrt b) := by
  by_cases hz : magOf (rungOf a) = 0
  · have ra : rungOf a = 0 := by
      rcases Nat.eq_zero_or_pos (rungOf a) with h | h
      · exact h
      · have := magOf_pos.2 h; omega
    have hzb := h.zero_iff.2 hz
    have rb : rungOf b = 0 := by
      rcases Nat.eq_zero_or_pos (rungOf b) with h | h
      · exact h
      · have := magOf_pos.2 h; omega
    have ea : a = 0 := by have := word_split h.la; rw [hs, ra] at this; simpa using this
    have eb : b = 0 := by have := word_split h.lb; rw [h.sg, hs, rb] at this; simpa using this
    have e0 : fsqrt 0 = 0 := by decide +kernel
    rw [ea, eb, e0]
    exact Sc.word0 false _ _ _ _
  · obtain ⟨m, e, f, r1, r2, m1, m2, ef, x1, x2, y1, y2⟩ := h.norm hx hz
    rw [hs] at r1 r2
    rw [fsqrt_norm r1 m1 m2, fsqrt_norm r2 m1 m2]
    have par : ((-1074 + (f : Int)) - 56) % 2 = ((-1074 + (e : Int)) - 56) % 2 := by omega
    rw [par]
    generalize hk : (((-1074 + (e : Int)) - 56) % 2).toNat = k
    have k1 : k ≤ 1 := by omega
    have hn1 : 2 ^ 108 ≤ m * 2 ^ (56 + k) := by
      have : (2 : Nat) ^ 108 = 2 ^ 52 * 2 ^ 56 := by rw [← Nat.pow_add]
      rw [this]
      exact Nat.mul_le_mul (by rw [show (2 : Nat) ^ 52 = 4503599627370496 by decide]; omega) (Nat.pow_le_pow_right (by decide) (by omega))
    have hn2 : m * 2 ^ (56 + k) < 2 ^ 110 := by
      have : (2 : Nat) ^ 110 = 2 ^ 53 * 2 ^ 57 := by rw [← Nat.pow_add]
      rw [this]
      refine Nat.lt_of_lt_of_le ((Nat.mul_lt_mul_right (Nat.pow_pos (by decide))).2 (show m < 2 ^ 53 by rw [show (2 : Nat) ^ 53 = 9007199254740992 by decide]; omega)) (Nat.mul_le_mul_left _ (Nat.pow_le_pow_right (by decide) (by omega)))
    obtain ⟨q1, q2⟩ := root_bounds hn1 hn2
    refine near_sc (lo := 55) (hi := 56) q1 q2 ?_ hX0 ?_ ?_ ?_ ?_ hy <;> omega
/-- Comparisons. -/
theorem Sc.flt {i j x y x' y' a b a' b' : Nat} (h : Sc i j x y a a') (g : Sc i j x' y' b b') : Go.Sim.flt a' b' = Go.Sim.flt a b := by
  have ha := h.sval
  have hb := g.sval
  have pj : (0 : Int) < 2 ^ j := Int.pow_pos (by decide)
  have pi : (0 : Int) < 2 ^ i := Int.pow_pos (by decide)
  rw [flt_val (fin_not_nan h.fb) (fin_not_nan g.fb), flt_val (fin_not_nan h.fa) (fin_not_nan g.fa)]
  refine decide_eq_decide.2 ?_
  constructor
  · intro e
    have := Int.mul_lt_mul_of_pos_right e pj
    rw [ha, hb] at this
    exact Int.lt_of_mul_lt_mul_right this (Int.le_of_lt pi)
  · intro e
    have := Int.mul_lt_mul_of_pos_right e pi
    rw [← ha, ← hb] at this
    exact Int.lt_of_mul_lt_mul_right this (Int.le_of_lt pj)
theorem Sc.feq {i j x y x' y' a b a' b' : Nat} (h : Sc i j x y a a') (g : Sc i j x' y' b b') : Go.Sim.feq a' b' = Go.Sim.feq a b := by
  have ha := h.sval
  have hb := g.sval
  have pj : (0 : Int) < 2 ^ j := Int.pow_pos (by decide)
  have pi : (0 : Int) < 2 ^ i := Int.pow_pos (by decide)
  rw [feq_val (fin_not_nan h.fb) (fin_not_nan g.fb), feq_val (fin_not_nan h.fa) (fin_not_nan g.fa)]
  refine decide_eq_decide.2 ?_
  constructor
  · intro e
    rw [e, hb] at ha
    exact (Int.eq_of_mul_eq_mul_right (by omega) ha).symm
  · intro e
    rw [e, ← hb] at ha
    exact Int.eq_of_mul_eq_mul_right (by omega) ha
theorem Sc.fle {i j x y x' y' a b a' b' : Nat} (h : Sc i j x y a a') (g : Sc i j x' y' b b') : Go.Sim.fle a' b' = Go.Sim.fle a b := by
  unfold Go.Sim.fle; rw [h.flt g, h.feq g]
theorem Sc.zero (i j x y : Nat) : Sc i j x y 0 0 := Sc.word0 false i j x y
end Go.Sim
