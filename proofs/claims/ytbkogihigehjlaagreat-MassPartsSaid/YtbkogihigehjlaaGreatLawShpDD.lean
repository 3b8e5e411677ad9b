/- Shapes: the program and its reference agree which points are a convex polygon. -/
import Derived.Test.YtbkogihigehjlaaGreatLawShpCD
import Derived.Test.YtbkogihigehjlaaGreatSimRowNear
import Derived.Test.YtbkogihigehjlaaGreatSimErr5
set_option linter.unusedVariables false
set_option linter.unusedSimpArgs false
set_option maxHeartbeats 4000000
namespace Go.Proofs.YtbkogihigehjlaaGreat
open Go.Sim Go.Lst Ieee
theorem rv_max : rv 4787326403894837248 = 1099511627776 := by
  have h : rv 4787326403894837248 = ((1099511627776 : Nat) : Rat) / ((1 : Nat) : Rat) := rv_lit (by decide) (by decide) (by intro d hd; subst hd; decide +kernel)
  have k1 : ((1099511627776 : Nat) : Rat) = 1099511627776 := rfl
  have k2 : ((1 : Nat) : Rat) = 1 := rfl
  rw [h, k1, k2]; grind
theorem within_ok {a : Nat} (h : s_num_Within_float64__0 a 4787326403894837248 = true) : fin a = true ∧ rv (fabs a) ≤ 1099511627776 := by
  unfold s_num_Within_float64__0 at h
  rw [Bool.and_eq_true] at h
  obtain ⟨h1, h2⟩ := h
  have fm : fin 4787326403894837248 = true := by decide
  obtain ⟨e, fn⟩ := rv_neg (show 4787326403894837248 < 18446744073709551616 by decide) fm
  have fa : fin a = true := fin_between h1 h2 (by decide) (by decide)
  rw [rv_le fn fa, decide_eq_true_eq, e, rv_max] at h1
  rw [rv_le fa fm, decide_eq_true_eq, rv_max] at h2
  exact ⟨fa, abs_bound fa h1 h2⟩
theorem in_ok {n : Nat} {f g : Nat → Nat} (h : InS n f g) {i : Nat} (hi : i < n) : (fin (f i) = true ∧ rv (fabs (f i)) ≤ 1099511627776) ∧ (fin (g i) = true ∧ rv (fabs (g i)) ≤ 1099511627776) := by
  have := h i hi
  unfold s_vec_Within_0 at this
  rw [Bool.and_eq_true] at this
  exact ⟨within_ok this.1, within_ok this.2⟩
/-- A difference of places. -/
theorem dif_ok {a b : Nat} (cb : CF b) (ha : fin a = true ∧ rv (fabs a) ≤ 1099511627776) (hb : fin b = true ∧ rv (fabs b) ≤ 1099511627776) : fin (fsub a b) = true ∧ -2200000000000 ≤ rv (fsub a b) ∧ rv (fsub a b) ≤ 2200000000000 := by
  obtain ⟨a1, a2, a3⟩ := abs_le ha.1
  obtain ⟨b1, b2, b3⟩ := abs_le hb.1
  have bg := big_800
  obtain ⟨fs, s1, s2⟩ := rv_sub (B := 2199023255552) cb.lt ha.1 hb.1 (by grind) (by grind) (by grind)
  exact ⟨fs, by grind, by grind⟩
/-- A product of two of them. -/
theorem prd_ok {a b : Nat} (ha : fin a = true ∧ -2200000000000 ≤ rv a ∧ rv a ≤ 2200000000000) (hb : fin b = true ∧ -2200000000000 ≤ rv b ∧ rv b ≤ 2200000000000) : fin (fmul a b) = true ∧ -5000000000000000000000000 ≤ rv (fmul a b) ∧ rv (fmul a b) ≤ 5000000000000000000000000 := by
  have bg := big_800
  have e9 := eta_900
  obtain ⟨m1, m2⟩ := mul_le ha.2.1 ha.2.2 hb.2.1 hb.2.2
  obtain ⟨fm, q1, q2⟩ := rv_mul (B := 4840000000000000000000000) ha.1 hb.1 (by grind) (by grind) (by grind)
  exact ⟨fm, by grind, by grind⟩
theorem sum_ok {a b : Nat} (ha : fin a = true ∧ -5000000000000000000000000 ≤ rv a ∧ rv a ≤ 5000000000000000000000000) (hb : fin b = true ∧ -5000000000000000000000000 ≤ rv b ∧ rv b ≤ 5000000000000000000000000) : fin (fadd a b) = true := by
  have bg := big_800
  exact (rv_add (B := 10000000000000000000000000) ha.1 hb.1 (by grind) (by grind) (by grind)).1
theorem subt_ok {a b : Nat} (cb : CF b) (ha : fin a = true ∧ -5000000000000000000000000 ≤ rv a ∧ rv a ≤ 5000000000000000000000000) (hb : fin b = true ∧ -5000000000000000000000000 ≤ rv b ∧ rv b ≤ 5000000000000000000000000) : fin (fsub a b) = true := by
  have bg := big_800
  exact (rv_sub (B := 10000000000000000000000000) cb.lt ha.1 hb.1 (by grind) (by grind) (by grind)).1
theorem word_num (s : Bool) {r : Nat} (h : r ≤ 9218868437227405312) : nanb (double.word s r) = false := by
  cases hn : nanb (double.word s r) with
  | false => rfl
  | true => rw [nanb_iff_rung, rung_word s h] at hn; omega
theorem root_num {a : Nat} (ca : CF a) (fa : fin a = true) (hs : sgnOf a = false) : nanb (fsqrt a) = false := by
  by_cases h : magOf (rungOf a) = 0
  · have hr : rungOf a = 0 := by
      have := magOf_pos (r := rungOf a)
      omega
    have hw := word_split ca.lt
    rw [hs, hr] at hw
    simp only [Bool.false_eq_true, if_false] at hw
    rw [hw]; decide
  · obtain ⟨N, d, e, _⟩ := fsqrt_fin rfl fa hs h
    rw [e]; exact word_num _ (RN_le _ _)
theorem sq_sgn {a : Nat} (fa : fin a = true) : sgnOf (fmul a a) = false := by
  rw [fmul_fin fa fa, sgn_word _ (RN_le _ _)]; simp
theorem add_sgn {a b : Nat} (fa : fin a = true) (fb : fin b = true) (ha : sgnOf a = false) (hb : sgnOf b = false) : sgnOf (fadd a b) = false := by
  rw [fadd_fin fa fb, sgn_word _ (RN_le _ _)]
  have e1 := sval_sgn a
  have e2 := sval_sgn b
  rw [ha] at e1; rw [hb] at e2
  simp only [Bool.false_eq_true, if_false] at e1 e2
  split
  · rw [ha, hb]; rfl
  · simp only [decide_eq_false_iff_not]; omega
section
variable {n : Nat} {f g : Nat → Nat}
theorem sd_ok (cf : ∀ i, i < n → CF (f i)) (hf : ∀ i, i < n → fin (f i) = true ∧ rv (fabs (f i)) ≤ 1099511627776) {i : Nat} (hi : i < n) : fin (sdX n f i) = true ∧ -2200000000000 ≤ rv (sdX n f i) ∧ rv (sdX n f i) ≤ 2200000000000 :=
  dif_ok (cf i hi) (hf _ (Nat.mod_lt _ (by omega))) (hf i hi)
theorem len_num (cf : ∀ i, i < n → CF (f i)) (cg : ∀ i, i < n → CF (g i)) (h : InS n f g) {i : Nat} (hi : i < n) : nanb (lenS n f g i) = false := by
  have x := sd_ok cf (fun i hi => (in_ok h hi).1) hi
  have y := sd_ok cg (fun i hi => (in_ok h hi).2) hi
  have xx := prd_ok x x
  have yy := prd_ok y y
  have s := sum_ok xx yy
  exact root_num (CF.add _ _) s (add_sgn xx.1 yy.1 (sq_sgn x.1) (sq_sgn y.1))
theorem cr_fin (cf : ∀ i, i < n → CF (f i)) (cg : ∀ i, i < n → CF (g i)) (h : InS n f g) {i j : Nat} (hi : i < n) (hj : j < n) : fin (crS n f g i j) = true := by
  have x := sd_ok cf (fun i hi => (in_ok h hi).1) hi
  have y := sd_ok cg (fun i hi => (in_ok h hi).2) hi
  have p := dif_ok (cg i hi) (in_ok h hj).2 (in_ok h hi).2
  have q := dif_ok (cf i hi) (in_ok h hj).1 (in_ok h hi).1
  exact subt_ok (CF.mul _ _) (prd_ok x p) (prd_ok y q)
theorem le_lt {a b : Nat} (ha : nanb a = false) (hb : nanb b = false) : fle a b = !(flt b a) := by
  rw [fle_val ha hb, flt_val hb ha]
  by_cases h : sval a ≤ sval b
  · simp [h, show ¬ sval b < sval a by omega]
  · simp [h, show sval b < sval a by omega]
/-- The points that do not lie on a side, counted from it. -/
theorem round_ok {i : Nat} (hi : i < n) {P : Nat → Prop} : (∀ k, 2 ≤ k → k < n → P ((i + k) % n)) ↔ (∀ k, k < n → k ≠ i → k ≠ (i + 1) % n → P k) := by
  constructor
  · intro h k hk h1 h2
    by_cases hki : i < k
    · have := h (k - i) (by
        have : k ≠ i + 1 := fun e => by
          rw [← e, Nat.mod_eq_of_lt hk] at h2; exact h2 rfl
        omega) (by omega)
      rwa [show i + (k - i) = k by omega, Nat.mod_eq_of_lt hk] at this
    · have := h (k + n - i) (by
        by_cases he : i + 1 = n
        · have h3 : (i + 1) % n = 0 := by rw [he]; exact Nat.mod_self n
          omega
        · omega) (by omega)
      rwa [show i + (k + n - i) = k + n by omega, Nat.add_mod_right, Nat.mod_eq_of_lt hk] at this
  · intro h k h1 h2
    have hm : (i + k) % n < n := Nat.mod_lt _ (by omega)
    have hd : (i + k) % n = if i + k < n then i + k else i + k - n := by
      split
      · rename_i hl; exact Nat.mod_eq_of_lt hl
      · rw [Nat.mod_eq_sub_mod (by omega), Nat.mod_eq_of_lt (by omega)]
    have hd1 : (i + 1) % n = if i + 1 < n then i + 1 else 0 := by
      split
      · rename_i hl; exact Nat.mod_eq_of_lt hl
      · rw [show i + 1 = n by omega]; exact Nat.mod_self n
    refine h _ hm ?_ ?_
    · rw [hd]; split <;> omega
    · rw [hd, hd1]; split <;> split <;> omega
theorem good_same (cf : ∀ i, i < n → CF (f i)) (cg : ∀ i, i < n → CF (g i)) (h : InS n f g) {i : Nat} (hi : i < n) : GoodS n f g i ↔ GoodR n f g i := by
  unfold GoodS GoodR
  have hl := le_lt (a := 4472074429978902528) (b := lenS n f g i) (by decide) (len_num cf cg h hi)
  have e1 : flt (lenS n f g i) 4472074429978902528 = false ↔ fle 4472074429978902528 (lenS n f g i) = true := by rw [hl]; cases flt (lenS n f g i) 4472074429978902528 <;> simp
  have e2 : (∀ k, 2 ≤ k → k < n → fle (crS n f g i ((i + k) % n)) 0 = false) ↔ (∀ k, k < n → k ≠ i → k ≠ (i + 1) % n → flt 0 (crS n f g i k) = true) := by
    rw [round_ok (P := fun k => fle (crS n f g i k) 0 = false) hi]
    constructor
    · intro q k hk a b
      have := q k hk a b
      rw [le_lt (fin_not_nan (cr_fin cf cg h hi hk)) nanb_zero] at this
      simpa using this
    · intro q k hk a b
      have := q k hk a b
      rw [le_lt (fin_not_nan (cr_fin cf cg h hi hk)) nanb_zero, this]; rfl
  rw [e1, e2]
theorem abs_within {a : Nat} (ha : CF a) : s_num_Within_float64__0 a 4787326403894837248 = fle (fabs a) 4787326403894837248 := by
  unfold s_num_Within_float64__0
  cases na : nanb a
  · have hm : (4787326403894837248 : Nat) < 18446744073709551616 := by decide
    have k1 : key (fneg 4787326403894837248) = -4787326403894837248 := by decide
    have k2 : key 4787326403894837248 = 4787326403894837248 := by decide
    have n1 : nanb (fneg 4787326403894837248) = false := by decide
    have n2 : nanb 4787326403894837248 = false := by decide
    have n3 : nanb (fabs a) = false := by rw [nanb_fabs]; exact na
    rw [fle_key n1 na, fle_key na n2, fle_key n3 n2, k1, k2, key_fabs na]
    have := key_abs a
    rcases key_abs a with h | h <;> rw [h] <;> simp only [← Bool.decide_and] <;> apply decide_eq_decide.2 <;> omega
  · have nb : nanb (fabs a) = true := by rw [nanb_fabs]; exact na
    rw [fle_nan (.inl nb), fle_nan (b := a) (.inr na)]; rfl
theorem within_same {a b : Nat} (ha : CF a) (hb : CF b) : s_vec_Within_0 a b 4787326403894837248 = s_ref02_Within_0 a b 4787326403894837248 := by
  unfold s_vec_Within_0 s_ref02_Within_0
  rw [abs_within ha, abs_within hb]
theorem in_same (cf : ∀ i, i < n → CF (f i)) (cg : ∀ i, i < n → CF (g i)) : InS n f g ↔ InR n f g := by
  unfold InS InR
  constructor
  · intro h i hi; rw [← within_same (cf i hi) (cg i hi)]; exact h i hi
  · intro h i hi; rw [within_same (cf i hi) (cg i hi)]; exact h i hi
/-- Points seen in two ways. -/
def EqN (n : Nat) (f f' : Nat → Nat) : Prop := ∀ i, i < n → f' i = f i
theorem EqN.good {f' g' : Nat → Nat} (hf : EqN n f f') (hg : EqN n g g') {i : Nat} (hi : i < n) : GoodS n f' g' i ↔ GoodS n f g i := by
  have m : ∀ k, k % n < n := fun k => Nat.mod_lt _ (by omega)
  have sx : sdX n f' i = sdX n f i := by unfold sdX; rw [hf i hi, hf _ (m _)]
  have sy : sdY n g' i = sdY n g i := by unfold sdY; rw [hg i hi, hg _ (m _)]
  have cr : ∀ j, j < n → crS n f' g' i j = crS n f g i j := fun j hj => by unfold crS; rw [sx, sy, hf i hi, hg i hi, hf j hj, hg j hj]
  unfold GoodS lenS
  rw [sx, sy]
  constructor
  · rintro ⟨a, b⟩; exact ⟨a, fun k h1 h2 => by rw [← cr _ (m _)]; exact b k h1 h2⟩
  · rintro ⟨a, b⟩; exact ⟨a, fun k h1 h2 => by rw [cr _ (m _)]; exact b k h1 h2⟩
theorem EqN.ins {f' g' : Nat → Nat} (hf : EqN n f f') (hg : EqN n g g') : InS n f' g' ↔ InS n f g := by
  unfold InS
  constructor
  · intro h i hi; rw [← hf i hi, ← hg i hi]; exact h i hi
  · intro h i hi; rw [hf i hi, hg i hi]; exact h i hi
theorem poly_same {f' g' : Nat → Nat} (hf : EqN n f f') (hg : EqN n g g') (cf : ∀ i, i < n → CF (f i)) (cg : ∀ i, i < n → CF (g i)) (h64 : n ≤ 64) (h3 : 3 ≤ n) :
    s_poly_Check_0 n f' g' = s_ref06_Check_0 n f g := by
  have a := (check_ok (f := f') (g := g') h64 h3).2
  have b := (rcheck_ok (f := f) (g := g) h64 h3).2
  rw [EqN.ins hf hg] at a
  rw [← in_same cf cg] at b
  rcases a with ⟨a1, a2, a3⟩ | ⟨a1, a2⟩ | ⟨a1, a2, i, hi, a3⟩ <;> rcases b with ⟨b1, b2, b3⟩ | ⟨b1, b2⟩ | ⟨b1, b2, j, hj, b3⟩
  · rw [a1, b1]
  · exact absurd a2 b2
  · exact absurd ((good_same cf cg a2 hj).1 ((EqN.good hf hg hj).1 (a3 j hj))) b3
  · exact absurd b2 a2
  · rw [a1, b1]
  · exact absurd b2 a2
  · exact absurd ((EqN.good hf hg hi).2 ((good_same cf cg a2 hi).2 (b3 i hi))) a3
  · exact absurd a2 b2
  · rw [a1, b1]
end
end Go.Proofs.YtbkogihigehjlaaGreat
