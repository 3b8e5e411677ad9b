/- Laws of the float operations: order of the operands, signs, and what they come to in whole numbers. -/
import Derived.Test.YtbkogihigehjlaaSimFacts
namespace Go.Sim
open Ieee

theorem sgn_neg {a : Nat} (h : a < 18446744073709551616) : sgnOf (Op.negFloat .f64 a) = !sgnOf a := by
  have s1 := @sgn_true a h
  rw [negFloat_eq h]
  by_cases hc : a < 9223372036854775808
  · rw [if_pos hc, sgn_add hc, (sgn_false h).2 hc]; rfl
  · rw [if_neg hc, s1.2 (by omega), (sgn_false (b := a - 9223372036854775808) (by omega)).2 (by omega)]; rfl
theorem fneg_word {a : Nat} (h : a < 18446744073709551616) (hn : nanb a = false) : fneg a = Op.negFloat .f64 a := by
  unfold fneg; exact cn_of_not (by rw [nanb_rung (rung_neg h)]; exact hn)
theorem rung_fneg {a : Nat} (h : a < 18446744073709551616) (hn : nanb a = false) : rungOf (fneg a) = rungOf a := by rw [fneg_word h hn, rung_neg h]
theorem sgn_fneg {a : Nat} (h : a < 18446744073709551616) (hn : nanb a = false) : sgnOf (fneg a) = !sgnOf a := by rw [fneg_word h hn, sgn_neg h]
theorem sval_fneg {a : Nat} (h : a < 18446744073709551616) (hn : nanb a = false) : sval (fneg a) = -sval a := by
  unfold sval; rw [rung_fneg h hn, sgn_fneg h hn]; cases sgnOf a <;> simp
theorem read_fneg {a : Nat} (h : a < 18446744073709551616) (hn : nanb a = false) : double.read (fneg a) = (double.read a).opposite := by
  have hr := not_nan_rung hn
  rw [read_eq, read_eq, rung_fneg h hn, sgn_fneg h hn]
  split
  · rfl
  · split
    · rfl
    · split
      · rfl
      · omega
theorem rung_word (s : Bool) {r : Nat} (h : r ≤ 9218868437227405312) : rungOf (double.word s r) = r := by
  have hs : double.signWeight = 9223372036854775808 := by decide
  unfold Format.word rungOf; rw [hs]; split <;> omega
theorem sgn_word (s : Bool) {r : Nat} (h : r ≤ 9218868437227405312) : sgnOf (double.word s r) = s := by
  have hs : double.signWeight = 9223372036854775808 := by decide
  unfold Format.word; rw [hs]
  cases s
  · rw [if_neg (by decide)]; unfold sgnOf; simp; omega
  · rw [if_pos rfl]; unfold sgnOf; simp; omega
theorem word_lt64 (s : Bool) {r : Nat} (h : r ≤ 9218868437227405312) : double.word s r < 18446744073709551616 := by
  have hs : double.signWeight = 9223372036854775808 := by decide
  unfold Format.word; rw [hs]; split <;> omega
theorem word_neg (s : Bool) {r : Nat} (h : r ≤ 9218868437227405312) : fneg (double.word s r) = double.word (!s) r := by
  have hn : nanb (double.word s r) = false := by
    cases hb : nanb (double.word s r)
    · rfl
    · have := (nanb_iff_rung _).1 hb; rw [rung_word s h] at this; omega
  have hs : double.signWeight = 9223372036854775808 := by decide
  rw [fneg_of (word_lt64 s h) hn]
  unfold Format.word; rw [hs]
  cases s
  · show (if r < 9223372036854775808 then r + 9223372036854775808 else r - 9223372036854775808) = 9223372036854775808 + r
    rw [if_pos (by omega)]; omega
  · show (if 9223372036854775808 + r < 9223372036854775808 then 9223372036854775808 + r + 9223372036854775808 else 9223372036854775808 + r - 9223372036854775808) = r
    rw [if_neg (by omega)]; omega
theorem RN_le (n d : Nat) : RN n d ≤ 9218868437227405312 := by unfold RN; exact Nat.min_le_right _ _
theorem inf_rung : double.infRung = 9218868437227405312 := by decide
theorem nearest_form (m : Nat) (p : Int) : ∃ r, r ≤ 9218868437227405312 ∧ ∀ s, double.nearest s m p = double.word s r := by
  refine ⟨RN (m * 2 ^ (p + 1074 + ((-p).toNat : Nat)).toNat) (-p).toNat, RN_le _ _, fun s => nearest_RN s m p _ (by omega)⟩
theorem write_form {d : Datum} (h : d.isNaN = false) : ∃ r, r ≤ 9218868437227405312 ∧ double.write d = double.word d.neg r ∧ double.write d.opposite = double.word (!d.neg) r := by
  cases d with
  | number s m p =>
    obtain ⟨r, h1, h2⟩ := nearest_form m p
    exact ⟨r, h1, h2 s, h2 (!s)⟩
  | infinity s => exact ⟨9218868437227405312, Nat.le_refl _, by show double.word s double.infRung = _; rw [inf_rung]; rfl, by show double.word (!s) double.infRung = _; rw [inf_rung]; rfl⟩
  | nan s f => cases h
theorem write_opp {d : Datum} (h : d.isNaN = false) : double.write d.opposite = fneg (double.write d) := by
  obtain ⟨r, h1, h2, h3⟩ := write_form h
  rw [h2, h3, word_neg _ h1]
theorem CF.write {d : Datum} (h : d.isNaN = false) : CF (double.write d) := by
  obtain ⟨r, h1, h2, h3⟩ := write_form h
  rw [h2]
  refine ⟨word_lt64 _ h1, fun hn => ?_⟩
  have := (nanb_iff_rung _).1 hn; rw [rung_word _ h1] at this; omega
theorem CF.qnan : CF Go.Sim.qnan := ⟨by decide, fun _ => rfl⟩
theorem CF.opt {o : Option Datum} (h : ∀ d, o = some d → d.isNaN = false) : CF ((o.map double.write).getD Go.Sim.qnan) := by
  cases o with
  | none => exact CF.qnan
  | some d => exact CF.write (h d rfl)
theorem CF.add (a b : Nat) : CF (fadd a b) := CF.opt fun _ h => nan_sum h
theorem CF.sub (a b : Nat) : CF (fsub a b) := CF.opt fun _ h => nan_sum h
theorem CF.mul (a b : Nat) : CF (fmul a b) := CF.opt fun _ h => nan_product h
theorem CF.div (a b : Nat) : CF (fdiv a b) := CF.opt fun _ h => nan_quotient h
theorem CF.sqrt (a : Nat) : CF (fsqrt a) := CF.opt fun _ h => nan_root h

theorem sum_comm (x y : Datum) : x.sum y = y.sum x := by
  cases x <;> cases y <;> simp only [Datum.sum]
  · rename_i s m i t n j
    rw [Int.min_comm j i, Int.add_comm, Bool.and_comm]
  · rename_i s t
    by_cases h : s = t
    · subst h; rfl
    · rw [if_neg h, if_neg (fun e => h e.symm)]
theorem product_comm (x y : Datum) : x.product y = y.product x := by
  cases x <;> cases y <;> simp only [Datum.product]
  · rename_i s m i t n j
    rw [Bool.xor_comm, Nat.mul_comm, Int.add_comm]
  · rename_i s t; rw [Bool.xor_comm]
theorem fadd_comm (a b : Nat) : fadd a b = fadd b a := by unfold fadd Format.add; rw [sum_comm]
theorem fmul_comm (a b : Nat) : fmul a b = fmul b a := by unfold fmul Format.mul; rw [product_comm]
theorem product_opp (x y : Datum) : x.opposite.product y = (x.product y).map Datum.opposite := by
  cases x <;> cases y <;> simp only [Datum.product, Datum.opposite, Option.map_some, Option.map_none, Bool.not_xor, Bool.xor_not]
  all_goals (split <;> rfl)
theorem sub_add {a b : Nat} (hb : b < 18446744073709551616) : fsub a b = fadd a (fneg b) := by
  unfold fsub fadd Format.sub Format.add
  cases hn : nanb b
  · rw [read_fneg hb hn]
  · obtain ⟨s, f, e⟩ := read_of_nanb hn
    obtain ⟨s', f', e'⟩ := read_of_nanb (b := fneg b) (by rw [nanb_fneg hb, hn])
    rw [e, e', opp_nan, sum_nan_r, sum_nan_r]
theorem nan_of_none {o : Option Datum} (h : o = none) : (o.map double.write).getD qnan = qnan := by rw [h]; rfl
theorem fneg_qnan : fneg qnan = qnan := by decide
theorem fmul_nan {a b : Nat} (h : nanb a = true ∨ nanb b = true) : fmul a b = qnan := by
  unfold fmul Format.mul
  rcases h with h | h
  · obtain ⟨s, f, e⟩ := read_of_nanb h; rw [e, product_nan_l]; rfl
  · obtain ⟨s, f, e⟩ := read_of_nanb h; rw [e, product_nan_r]; rfl
theorem fadd_nan {a b : Nat} (h : nanb a = true ∨ nanb b = true) : fadd a b = qnan := by
  unfold fadd Format.add
  rcases h with h | h
  · obtain ⟨s, f, e⟩ := read_of_nanb h; rw [e, sum_nan_l]; rfl
  · obtain ⟨s, f, e⟩ := read_of_nanb h; rw [e, sum_nan_r]; rfl
theorem fmul_neg_l {a b : Nat} (ha : a < 18446744073709551616) : fmul (fneg a) b = fneg (fmul a b) := by
  cases na : nanb a
  · unfold fmul Format.mul
    rw [read_fneg ha na, product_opp]
    cases hp : (double.read a).product (double.read b) with
    | none => exact fneg_qnan.symm
    | some d => exact write_opp (nan_product hp)
  · rw [fmul_nan (.inl na), fmul_nan (.inl (by rw [nanb_fneg ha, na])), fneg_qnan]
theorem fmul_neg_r {a b : Nat} (hb : b < 18446744073709551616) : fmul a (fneg b) = fneg (fmul a b) := by
  rw [fmul_comm, fmul_neg_l hb, fmul_comm]
theorem fmul_neg_neg {a b : Nat} (ha : a < 18446744073709551616) (hb : b < 18446744073709551616) : fmul (fneg a) (fneg b) = fmul a b := by
  rw [fmul_neg_l ha, fmul_neg_r hb, fneg_fneg (CF.mul a b)]

/-- Is it a number? -/
def fin (a : Nat) : Bool := decide (rungOf a < 9218868437227405312)
theorem fin_iff {a : Nat} : fin a = true ↔ rungOf a < 9218868437227405312 := by unfold fin; simp
theorem fin_not_nan {a : Nat} (h : fin a = true) : nanb a = false := by
  cases hn : nanb a
  · rfl
  · have := (nanb_iff_rung a).1 hn; have := fin_iff.1 h; omega
theorem read_num {a : Nat} (h : fin a = true) : ∃ m i, double.read a = .number (sgnOf a) m i ∧ -1074 ≤ i ∧ m * 2 ^ (i + 1074).toNat = magOf (rungOf a) := by
  have hr := fin_iff.1 h
  rw [read_eq]
  unfold magOf
  split
  · exact ⟨_, _, rfl, by omega, by simp⟩
  · refine ⟨_, _, rfl, by omega, ?_⟩
    congr 2; omega
theorem read_inf {a : Nat} (h : rungOf a = 9218868437227405312) : double.read a = .infinity (sgnOf a) := by
  rw [read_eq, h, if_neg (by omega), if_neg (by omega), if_pos rfl]
theorem inf_or {a : Nat} (hn : nanb a = false) : fin a = true ∨ rungOf a = 9218868437227405312 := by
  have := not_nan_rung hn; rw [fin_iff]; omega
theorem signed_mag (s : Bool) {m : Nat} {i : Int} {M : Nat} (h : m * 2 ^ (i + 1074).toNat = M) : signed s m (i + 1074).toNat = if s = true then -(M : Int) else (M : Int) := by
  rw [signed_eq, h]
theorem fmul_fin {a b : Nat} (ha : fin a = true) (hb : fin b = true) : fmul a b = double.word (sgnOf a ^^ sgnOf b) (RN (magOf (rungOf a) * magOf (rungOf b)) 1074) := by
  obtain ⟨m, i, e1, l1, v1⟩ := read_num ha
  obtain ⟨n, j, e2, l2, v2⟩ := read_num hb
  unfold fmul Format.mul
  rw [e1, e2]
  show double.nearest _ (m * n) (i + j) = _
  rw [nearest_RN _ _ _ 1074 (by omega), ← v1, ← v2]
  congr 2
  have : (i + j + 1074 + ((1074 : Nat) : Int)).toNat = (i + 1074).toNat + (j + 1074).toNat := by omega
  rw [this, Nat.pow_add]; ac_rfl
theorem natAbs_scale (t : Int) (k : Nat) : (t * 2 ^ k).natAbs = t.natAbs * 2 ^ k := by
  rw [Int.natAbs_mul, Int.natAbs_pow]; rfl
theorem sum_form {s t : Bool} {m n : Nat} {i j : Int} (l1 : -1074 ≤ i) (l2 : -1074 ≤ j) :
    ∃ d, Datum.sum (.number s m i) (.number t n j) = some d ∧ double.write d = double.word (if signed s m (i + 1074).toNat + signed t n (j + 1074).toNat = 0 then s && t else signed s m (i + 1074).toNat + signed t n (j + 1074).toNat < 0) (RN (signed s m (i + 1074).toNat + signed t n (j + 1074).toNat).natAbs 0) := by
  refine ⟨_, rfl, ?_⟩
  generalize hk : (min i j + 1074).toNat = k
  have e1 : signed s m (i + 1074).toNat = signed s m (i - min i j).toNat * 2 ^ k := by rw [signed_scale]; congr 1; omega
  have e2 : signed t n (j + 1074).toNat = signed t n (j - min i j).toNat * 2 ^ k := by rw [signed_scale]; congr 1; omega
  rw [e1, e2, ← Int.add_mul]
  generalize signed s m (i - min i j).toNat + signed t n (j - min i j).toNat = T
  have hp : (0 : Int) < 2 ^ k := Int.pow_pos (by decide)
  show double.nearest _ _ _ = _
  rw [nearest_RN _ _ _ 0 (by omega), natAbs_scale]
  have e3 : (min i j + 1074 + ((0 : Nat) : Int)).toNat = k := by omega
  rw [e3]
  have z : (T * 2 ^ k = 0) ↔ T = 0 := by rw [Int.mul_eq_zero]; exact ⟨fun h => h.resolve_right (Int.ne_of_gt hp), .inl⟩
  have z2 : (T * 2 ^ k < 0) ↔ T < 0 := by
    constructor
    · intro h; exact Int.lt_of_not_ge fun hc => absurd (Int.mul_nonneg hc (Int.le_of_lt hp)) (by omega)
    · intro h; exact Int.mul_neg_of_neg_of_pos h hp
  simp only [z, z2]
theorem fadd_fin {a b : Nat} (ha : fin a = true) (hb : fin b = true) : fadd a b = double.word (if sval a + sval b = 0 then sgnOf a && sgnOf b else sval a + sval b < 0) (RN (sval a + sval b).natAbs 0) := by
  obtain ⟨m, i, e1, l1, v1⟩ := read_num ha
  obtain ⟨n, j, e2, l2, v2⟩ := read_num hb
  unfold fadd Format.add
  rw [e1, e2]
  obtain ⟨d, h1, h2⟩ := sum_form (s := sgnOf a) (t := sgnOf b) (m := m) (n := n) l1 l2
  rw [h1]
  show double.write d = _
  rw [h2, signed_mag _ v1, signed_mag _ v2]; rfl
theorem fsub_fin {a b : Nat} (hl : b < 18446744073709551616) (ha : fin a = true) (hb : fin b = true) : fsub a b = double.word (if sval a - sval b = 0 then sgnOf a && !sgnOf b else sval a - sval b < 0) (RN (sval a - sval b).natAbs 0) := by
  have hn := fin_not_nan hb
  have hf : fin (fneg b) = true := by rw [fin_iff, rung_fneg hl hn]; exact fin_iff.1 hb
  rw [sub_add hl, fadd_fin ha hf, sval_fneg hl hn, sgn_fneg hl hn, ← Int.sub_eq_add_neg]

theorem sqrt_sign (x : Nat) : nanb (fsqrt x) = true ∨ 0 ≤ key (fsqrt x) := by
  unfold fsqrt Format.sqrt
  cases hr : (double.read x).root (double.fractionBits + 2) with
  | none => left; decide
  | some d =>
    right
    show 0 ≤ key (double.write d)
    have key_word_false : ∀ {r : Nat}, r ≤ 9218868437227405312 → 0 ≤ key (double.word false r) := by
      intro r h; unfold key; rw [sgn_word _ h]; simp
    cases hx : double.read x with
    | nan s f => rw [hx] at hr; cases hr
    | infinity s =>
      rw [hx] at hr; simp only [Datum.root] at hr
      split at hr
      · cases hr
      · cases hr; rename_i hs; have : s = false := by simpa using hs
        subst this; exact key_word_false (by rw [inf_rung]; omega)
    | number s m i =>
      rw [hx] at hr; simp only [Datum.root] at hr
      split at hr
      · rename_i hm
        cases hr
        subst hm
        show 0 ≤ key (double.nearest s 0 i)
        have : double.nearest s 0 i = double.word s 0 := by unfold Format.nearest; rw [if_pos rfl]
        rw [this]; cases s <;> decide
      · split at hr
        · cases hr
        · cases hr
          show 0 ≤ key (double.nearest false _ _)
          obtain ⟨r, h1, h2⟩ := nearest_form (2 * _ + _) _
          rw [h2 false]; exact key_word_false h1
theorem sqrt_le_zero (x : Nat) : fle (fsqrt x) 0 = feq (fsqrt x) 0 := by
  rcases sqrt_sign x with h | h
  · rw [fle_nan (.inl h), feq_nan (.inl h)]
  · cases hn : nanb (fsqrt x)
    · rw [fle_key hn nanb_zero, feq_key hn nanb_zero, key_0, Bool.eq_iff_iff]; simp; omega
    · rw [fle_nan (.inl hn), feq_nan (.inl hn)]
end Go.Sim
