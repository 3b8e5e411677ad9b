/- Powers of two: a float so many times as great, through all that is reckoned. -/
import Derived.Test.YtbkogihigehjlaaSimQuo
import Derived.Test.YtbkogihigehjlaaSimTwice
set_option linter.unusedVariables false
set_option linter.unusedSimpArgs false
namespace Go.Sim
open Ieee
theorem log2_pow {n : Nat} (h : n ≠ 0) (j : Nat) : (n * 2 ^ j).log2 = n.log2 + j := log2_mul_pow h j
theorem RN'_pow {n d : Nat} (h : 52 + d ≤ n.log2) (h0 : n ≠ 0) : ∀ j, RN' (n * 2 ^ j) d = RN' n d + j * 4503599627370496
  | 0 => by rw [Nat.pow_zero, Nat.mul_one]; omega
  | j + 1 => by
    have h1 := RN'_pow h h0 j
    have hp : 0 < 2 ^ j := Nat.pow_pos (by decide)
    have hz : n * 2 ^ j ≠ 0 := Nat.mul_ne_zero h0 (by omega)
    have h2 := RN'_twice (n := n * 2 ^ j) (d := d) (by rw [log2_pow h0]; omega) hz
    have e : n * 2 ^ (j + 1) = 2 * (n * 2 ^ j) := by rw [Nat.pow_succ]; ac_rfl
    rw [e, h2, h1]; omega
theorem magOf_up_pow {r : Nat} (h : 4503599627370496 ≤ r) : ∀ j, magOf (r + j * 4503599627370496) = magOf r * 2 ^ j
  | 0 => by rw [Nat.pow_zero, Nat.mul_one]; simp
  | j + 1 => by
    have e : r + (j + 1) * 4503599627370496 = (r + j * 4503599627370496) + 4503599627370496 := by omega
    rw [e, magOf_up (by omega), magOf_up_pow h j, Nat.pow_succ]; ac_rfl
/-- Rounding and powers of two. -/
theorem RN_sc {n n' d i j : Nat} (h : n' * 2 ^ j = n * 2 ^ i) (hn : n = 0 ∨ 52 + d ≤ n.log2) (hn' : n' = 0 ∨ 52 + d ≤ n'.log2) : magOf (RN' n' d) * 2 ^ j = magOf (RN' n d) * 2 ^ i := by
  have hj : 0 < 2 ^ j := Nat.pow_pos (by decide)
  have hi : 0 < 2 ^ i := Nat.pow_pos (by decide)
  by_cases h0 : n = 0
  · have : n' = 0 := by
      rw [h0, Nat.zero_mul] at h
      exact (Nat.mul_eq_zero.1 h).resolve_right (by omega)
    rw [h0, this, RN'_zero]; simp [magOf_zero]
  · have h0' : n' ≠ 0 := by
      intro e
      rw [e, Nat.zero_mul] at h
      exact Nat.mul_ne_zero h0 (by omega) h.symm
    have hn := hn.resolve_left h0
    have hn' := hn'.resolve_left h0'
    have e1 := RN'_pow hn' h0' j
    have e2 := RN'_pow hn h0 i
    rw [h, e2] at e1
    rw [← magOf_up_pow (RN'_ge hn' h0') j, ← magOf_up_pow (RN'_ge hn h0) i, e1]
theorem RN_dvd {n d x : Nat} (h : 2 ^ (x + d) ∣ n) : 2 ^ x ∣ magOf (RN' n d) := by
  rw [mag_RN']
  rcases Nat.lt_or_ge x (up n d) with hx | hx
  · exact Nat.dvd_trans (Nat.pow_dvd_pow 2 (by omega)) (Nat.dvd_mul_left _ _)
  · obtain ⟨k, hk⟩ := h
    have e : n = k * 2 ^ (x - up n d) * 2 ^ (d + up n d) := by
      rw [Nat.mul_assoc, ← Nat.pow_add]
      have : x - up n d + (d + up n d) = x + d := by omega
      rw [this, Nat.mul_comm k]; exact hk
    have e2 : rte n (d + up n d) = k * 2 ^ (x - up n d) := by
      have := rte_exact (k * 2 ^ (x - up n d)) (d + up n d)
      rw [← e] at this
      exact this
    rw [e2, Nat.mul_assoc, ← Nat.pow_add]
    have : x - up n d + up n d = x := by omega
    rw [this]
    exact Nat.dvd_mul_left _ _
theorem mag_pow {y : Nat} (h : 52 ≤ y) : magOf ((y - 51) * 4503599627370496) = 2 ^ y := by
  have hr : 4503599627370496 ≤ (y - 51) * 4503599627370496 := by omega
  unfold magOf
  rw [if_neg (by omega)]
  have e1 : (y - 51) * 4503599627370496 % 4503599627370496 = 0 := by omega
  have e2 : (y - 51) * 4503599627370496 / 4503599627370496 - 1 = y - 52 := by omega
  rw [e1, e2, Nat.add_zero, show (4503599627370496 : Nat) = 2 ^ 52 by decide, ← Nat.pow_add]
  exact congrArg (fun e => 2 ^ e) (by omega)
theorem RN_top {n d y : Nat} (h : n ≤ 2 ^ (y + d)) (hy : 52 ≤ y) (hy2 : y ≤ 2097) : RN' n d < 9218868437227405312 ∧ magOf (RN' n d) ≤ 2 ^ y := by
  have e : 2 ^ (y + d) = magOf ((y - 51) * 4503599627370496) * 2 ^ d := by rw [mag_pow hy, Nat.pow_add]
  rw [e] at h
  have := RN'_mono h d
  rw [RN'_exact] at this
  refine ⟨by omega, ?_⟩
  rw [← mag_pow hy]
  exact magOf_le_iff.2 this
theorem RN_bottom {n d y : Nat} (h : 2 ^ (y + d) ≤ n) (hy : 52 ≤ y) : 2 ^ y ≤ magOf (RN' n d) := by
  have e : 2 ^ (y + d) = magOf ((y - 51) * 4503599627370496) * 2 ^ d := by rw [mag_pow hy, Nat.pow_add]
  rw [e] at h
  have := RN'_mono h d
  rw [RN'_exact] at this
  rw [← mag_pow hy]
  exact magOf_le_iff.2 this
theorem dvd_of_ge {r x : Nat} (h : 2 ^ (x + 52) ≤ magOf r) : 2 ^ x ∣ magOf r := by
  unfold magOf at h ⊢
  split
  · rename_i hr
    rw [if_pos hr] at h
    have : 2 ^ 52 ≤ 2 ^ (x + 52) := Nat.pow_le_pow_right (by decide) (by omega)
    have e : (2 : Nat) ^ 52 = 4503599627370496 := by decide
    omega
  · rename_i hr
    rw [if_neg hr] at h
    refine Nat.dvd_trans (Nat.pow_dvd_pow 2 ?_) (Nat.dvd_mul_left _ _)
    rcases Nat.lt_or_ge (r / 4503599627370496 - 1) x with hl | hl
    · exfalso
      have e53 : (2 : Nat) ^ 53 = 9007199254740992 := by decide
      have h0 : 4503599627370496 + r % 4503599627370496 < 2 ^ 53 := by omega
      have h1 : (4503599627370496 + r % 4503599627370496) * 2 ^ (r / 4503599627370496 - 1) < 2 ^ 53 * 2 ^ (r / 4503599627370496 - 1) := (Nat.mul_lt_mul_right (Nat.pow_pos (by decide))).2 h0
      rw [← Nat.pow_add] at h1
      have h2 : 2 ^ (53 + (r / 4503599627370496 - 1)) ≤ 2 ^ (x + 52) := Nat.pow_le_pow_right (by decide) (by omega)
      omega
    · exact hl
theorem log2_of_dvd {n x : Nat} (h : 2 ^ x ∣ n) : n = 0 ∨ x ≤ n.log2 := by
  by_cases h0 : n = 0
  · exact .inl h0
  · exact .inr ((Nat.le_log2 h0).2 (Nat.le_of_dvd (Nat.pos_of_ne_zero h0) h))

/-- b is a, times 2^i, over 2^j; both are multiples of 2^x and at most 2^y in units of the least float. -/
structure Sc (i j x y a b : Nat) : Prop where
  la : a < 18446744073709551616
  lb : b < 18446744073709551616
  fa : fin a = true
  fb : fin b = true
  sg : sgnOf b = sgnOf a
  mg : magOf (rungOf b) * 2 ^ j = magOf (rungOf a) * 2 ^ i
  da : 2 ^ x ∣ magOf (rungOf a)
  db : 2 ^ x ∣ magOf (rungOf b)
  ua : magOf (rungOf a) ≤ 2 ^ y
  ub : magOf (rungOf b) ≤ 2 ^ y
theorem Sc.sval {i j x y a b : Nat} (h : Sc i j x y a b) : Go.Sim.sval b * 2 ^ j = Go.Sim.sval a * 2 ^ i := by
  have h1 : ((magOf (rungOf b) * 2 ^ j : Nat) : Int) = ((magOf (rungOf a) * 2 ^ i : Nat) : Int) := congrArg _ h.mg
  rw [Int.natCast_mul, Int.natCast_mul] at h1
  have e1 : ((2 ^ j : Nat) : Int) = 2 ^ j := by simp
  have e2 : ((2 ^ i : Nat) : Int) = 2 ^ i := by simp
  rw [e1, e2] at h1
  rw [sval_sgn, sval_sgn, h.sg]
  cases sgnOf a
  · simpa using h1
  · simp only [if_true, Int.neg_mul, h1]
theorem Sc.word {s : Bool} {r r' i j x y : Nat} (l : r < 9218868437227405312) (l' : r' < 9218868437227405312) (mg : magOf r' * 2 ^ j = magOf r * 2 ^ i) (da : 2 ^ x ∣ magOf r) (db : 2 ^ x ∣ magOf r') (ua : magOf r ≤ 2 ^ y) (ub : magOf r' ≤ 2 ^ y) :
    Sc i j x y (double.word s r) (double.word s r') := by
  have e1 := mag_word (s := s) l
  have e2 := mag_word (s := s) l'
  refine ⟨word_lt64 _ (by omega), word_lt64 _ (by omega), fin_word s l, fin_word s l', by rw [sgn_word _ (by omega), sgn_word _ (by omega)], ?_, ?_, ?_, ?_, ?_⟩
  · rw [e1, e2]; exact mg
  · rw [e1]; exact da
  · rw [e2]; exact db
  · rw [e1]; exact ua
  · rw [e2]; exact ub
theorem Sc.weak {i j x y x' y' a b : Nat} (h : Sc i j x y a b) (hx : x' ≤ x) (hy : y ≤ y') : Sc i j x' y' a b :=
  ⟨h.la, h.lb, h.fa, h.fb, h.sg, h.mg, Nat.dvd_trans (Nat.pow_dvd_pow 2 hx) h.da, Nat.dvd_trans (Nat.pow_dvd_pow 2 hx) h.db, Nat.le_trans h.ua (Nat.pow_le_pow_right (by decide) hy), Nat.le_trans h.ub (Nat.pow_le_pow_right (by decide) hy)⟩
theorem Sc.less {i j t x y a b : Nat} (h : Sc (i + t) (j + t) x y a b) : Sc i j x y a b := by
  refine ⟨h.la, h.lb, h.fa, h.fb, h.sg, ?_, h.da, h.db, h.ua, h.ub⟩
  have := h.mg
  rw [Nat.pow_add, Nat.pow_add, ← Nat.mul_assoc, ← Nat.mul_assoc] at this
  exact Nat.eq_of_mul_eq_mul_right (Nat.pow_pos (by decide)) this
theorem Sc.same {i j x y x' y' a b c : Nat} (h : Sc i j x y a b) (g : Sc i j x' y' a c) : b = c := by
  have e := h.mg.trans g.mg.symm
  have e2 := magOf_inj (Nat.eq_of_mul_eq_mul_right (Nat.pow_pos (by decide)) e)
  have e3 := h.sg.trans g.sg.symm
  rw [word_split h.lb, word_split g.lb, e2, e3]
theorem Sc.neg {i j x y a b : Nat} (h : Sc i j x y a b) : Sc i j x y (fneg a) (fneg b) := by
  have na := fin_not_nan h.fa
  have nb := fin_not_nan h.fb
  have ra := rung_fneg h.la na
  have rb := rung_fneg h.lb nb
  have key : ∀ {z : Nat}, z < 18446744073709551616 → nanb z = false → fneg z < 18446744073709551616 := by
    intro z hz hn
    rw [fneg_of hz hn]; split <;> omega
  refine ⟨key h.la na, key h.lb nb, by rw [fin_iff, ra]; exact fin_iff.1 h.fa, by rw [fin_iff, rb]; exact fin_iff.1 h.fb, by rw [sgn_fneg h.la na, sgn_fneg h.lb nb, h.sg], ?_, ?_, ?_, ?_, ?_⟩
  · rw [ra, rb]; exact h.mg
  · rw [ra]; exact h.da
  · rw [rb]; exact h.db
  · rw [ra]; exact h.ua
  · rw [rb]; exact h.ub
theorem Sc.abs {i j x y a b : Nat} (h : Sc i j x y a b) : Sc i j x y (fabs a) (fabs b) := by
  have na := fin_not_nan h.fa
  have nb := fin_not_nan h.fb
  have ra : fabs a = rungOf a := fabs_of na
  have rb : fabs b = rungOf b := fabs_of nb
  have r1 : rungOf (rungOf a) = rungOf a := by unfold rungOf; omega
  have r2 : rungOf (rungOf b) = rungOf b := by unfold rungOf; omega
  have l1 : rungOf a < 9223372036854775808 := by unfold rungOf; omega
  have l2 : rungOf b < 9223372036854775808 := by unfold rungOf; omega
  have s1 : sgnOf (rungOf a) = false := (sgn_false (by omega)).2 l1
  have s2 : sgnOf (rungOf b) = false := (sgn_false (by omega)).2 l2
  rw [ra, rb]
  refine ⟨by omega, by omega, by rw [fin_iff, r1]; exact fin_iff.1 h.fa, by rw [fin_iff, r2]; exact fin_iff.1 h.fb, by rw [s1, s2], ?_, ?_, ?_, ?_, ?_⟩
  · rw [r1, r2]; exact h.mg
  · rw [r1]; exact h.da
  · rw [r2]; exact h.db
  · rw [r1]; exact h.ua
  · rw [r2]; exact h.ub
theorem dvd_sval {a x : Nat} (h : 2 ^ x ∣ magOf (rungOf a)) : ((2 ^ x : Nat) : Int) ∣ sval a := by
  have h1 : ((2 ^ x : Nat) : Int) ∣ ((magOf (rungOf a) : Nat) : Int) := Int.natCast_dvd_natCast.2 h
  rw [sval_sgn]
  split
  · exact Int.dvd_neg.2 h1
  · exact h1
theorem Sc.add {i j x y a b a' b' : Nat} (h : Sc i j x y a a') (g : Sc i j x y b b') (hx : 52 ≤ x) (hy : y ≤ 2096) (hxy : 51 ≤ y) : Sc i j x (y + 1) (fadd a b) (fadd a' b') := by
  have ha := h.sval
  have hb := g.sval
  have pj : (0 : Int) < 2 ^ j := Int.pow_pos (by decide)
  have pi : (0 : Int) < 2 ^ i := Int.pow_pos (by decide)
  have hs : (Go.Sim.sval a' + Go.Sim.sval b') * 2 ^ j = (Go.Sim.sval a + Go.Sim.sval b) * 2 ^ i := by rw [Int.add_mul, Int.add_mul, ha, hb]
  have dv : ∀ {u v : Nat}, 2 ^ x ∣ magOf (rungOf u) → 2 ^ x ∣ magOf (rungOf v) → 2 ^ (x + 0) ∣ (Go.Sim.sval u + Go.Sim.sval v).natAbs := by
    intro u v hu hv
    have := Int.natAbs_dvd_natAbs.2 (Int.dvd_add (dvd_sval hu) (dvd_sval hv))
    rw [Int.natAbs_natCast] at this
    exact this
  have tp : ∀ {u v : Nat}, magOf (rungOf u) ≤ 2 ^ y → magOf (rungOf v) ≤ 2 ^ y → (Go.Sim.sval u + Go.Sim.sval v).natAbs ≤ 2 ^ (y + 1 + 0) := by
    intro u v hu hv
    have e1 := sval_abs u
    have e2 := sval_abs v
    rw [Nat.add_zero, Nat.pow_succ]
    omega
  have d1 := dv h.da g.da
  have d2 := dv h.db g.db
  have t1 := RN_top (tp h.ua g.ua) (by omega) (by omega)
  have t2 := RN_top (tp h.ub g.ub) (by omega) (by omega)
  rw [fadd_fin h.fa g.fa, fadd_fin h.fb g.fb, RN_self t1.1, RN_self t2.1]
  have hab : (Go.Sim.sval a' + Go.Sim.sval b').natAbs * 2 ^ j = (Go.Sim.sval a + Go.Sim.sval b).natAbs * 2 ^ i := by
    rw [← natAbs_scale, ← natAbs_scale, hs]
  have hl1 := log2_of_dvd d1
  have hl2 := log2_of_dvd d2
  have es : (if Go.Sim.sval a' + Go.Sim.sval b' = 0 then sgnOf a' && sgnOf b' else decide (Go.Sim.sval a' + Go.Sim.sval b' < 0)) = (if Go.Sim.sval a + Go.Sim.sval b = 0 then sgnOf a && sgnOf b else decide (Go.Sim.sval a + Go.Sim.sval b < 0)) := by
    generalize Go.Sim.sval a + Go.Sim.sval b = S at *
    generalize Go.Sim.sval a' + Go.Sim.sval b' = S' at *
    rw [h.sg, g.sg]
    have z : S' = 0 ↔ S = 0 := by
      constructor
      · intro e; rw [e, Int.zero_mul] at hs
        exact (Int.mul_eq_zero.1 hs.symm).resolve_right (by omega)
      · intro e; rw [e, Int.zero_mul] at hs
        exact (Int.mul_eq_zero.1 hs).resolve_right (by omega)
    have n : S' < 0 ↔ S < 0 := by
      constructor
      · intro e
        have := Int.mul_neg_of_neg_of_pos e pj
        rw [hs] at this
        exact Int.lt_of_not_ge fun hc => absurd (Int.mul_nonneg hc (Int.le_of_lt pi)) (by omega)
      · intro e
        have := Int.mul_neg_of_neg_of_pos e pi
        rw [← hs] at this
        exact Int.lt_of_not_ge fun hc => absurd (Int.mul_nonneg hc (Int.le_of_lt pj)) (by omega)
    by_cases hz : S = 0
    · rw [if_pos hz, if_pos (z.2 hz)]
    · rw [if_neg hz, if_neg (fun e => hz (z.1 e))]
      exact decide_eq_decide.2 n
  rw [es]
  exact Sc.word t1.1 t2.1 (RN_sc hab (by omega) (by omega)) (RN_dvd d1) (RN_dvd d2) t1.2 t2.2
theorem Sc.sub {i j x y a b a' b' : Nat} (h : Sc i j x y a a') (g : Sc i j x y b b') (hx : 52 ≤ x) (hy : y ≤ 2096) (hxy : 51 ≤ y) : Sc i j x (y + 1) (fsub a b) (fsub a' b') := by
  rw [sub_add g.la, sub_add g.lb]
  exact h.add g.neg hx hy hxy
theorem Sc.mul {i j x y i' j' x' y' X Y a b a' b' : Nat} (h : Sc i j x y a a') (g : Sc i' j' x' y' b b') (hx : 52 ≤ X) (hX : X + 1074 ≤ x + x') (hY : y + y' ≤ Y + 1074) (h52 : 52 ≤ Y) (hy : Y ≤ 2097) : Sc (i + i') (j + j') X Y (fmul a b) (fmul a' b') := by
  obtain ⟨d, hd⟩ : ∃ d, d = 1074 := ⟨_, rfl⟩
  rw [← hd] at hX hY
  have dv : ∀ {u v : Nat}, 2 ^ x ∣ magOf (rungOf u) → 2 ^ x' ∣ magOf (rungOf v) → 2 ^ (X + d) ∣ magOf (rungOf u) * magOf (rungOf v) := by
    intro u v hu hv
    refine Nat.dvd_trans (Nat.pow_dvd_pow 2 hX) ?_
    rw [Nat.pow_add]
    exact Nat.mul_dvd_mul hu hv
  have tp : ∀ {u v : Nat}, magOf (rungOf u) ≤ 2 ^ y → magOf (rungOf v) ≤ 2 ^ y' → magOf (rungOf u) * magOf (rungOf v) ≤ 2 ^ (Y + d) := by
    intro u v hu hv
    refine Nat.le_trans (Nat.mul_le_mul hu hv) ?_
    rw [← Nat.pow_add]
    exact Nat.pow_le_pow_right (by decide) hY
  have d1 := dv h.da g.da
  have d2 := dv h.db g.db
  have t1 := RN_top (tp h.ua g.ua) h52 hy
  have t2 := RN_top (tp h.ub g.ub) h52 hy
  rw [fmul_fin h.fa g.fa, fmul_fin h.fb g.fb, ← hd, RN_self t1.1, RN_self t2.1, h.sg, g.sg]
  have e : magOf (rungOf a') * magOf (rungOf b') * 2 ^ (j + j') = magOf (rungOf a) * magOf (rungOf b) * 2 ^ (i + i') := by
    have e1 := h.mg
    have e2 := g.mg
    generalize magOf (rungOf a) = A at *
    generalize magOf (rungOf a') = A' at *
    generalize magOf (rungOf b) = B at *
    generalize magOf (rungOf b') = B' at *
    rw [Nat.pow_add, Nat.pow_add]
    have k1 : A' * B' * (2 ^ j * 2 ^ j') = (A' * 2 ^ j) * (B' * 2 ^ j') := by ac_rfl
    have k2 : A * B * (2 ^ i * 2 ^ i') = (A * 2 ^ i) * (B * 2 ^ i') := by ac_rfl
    rw [k1, k2, e1, e2]
  have l1 := log2_of_dvd d1
  have l2 := log2_of_dvd d2
  exact Sc.word t1.1 t2.1 (RN_sc e (by omega) (by omega)) (RN_dvd d1) (RN_dvd d2) t1.2 t2.2
end Go.Sim
