/- The document's order of floats is that of the floats, and what it calls within. -/
import Derived.Test.YtefmihgjheokeaaFns
import Derived.Test.YtefmihgjheokeaaSimValues
set_option linter.unusedVariables false
namespace Go.Proofs.Ytefmihgjheokeaa
open Go.Sim
theorem wrap_i64 {n : Int} (h1 : -9223372036854775808 ≤ n) (h2 : n < 9223372036854775808) : IntKind.i64.wrap n = n := by
  have e : IntKind.i64.wrap n = if n % 18446744073709551616 ≥ 9223372036854775808 then n % 18446744073709551616 - 18446744073709551616 else n % 18446744073709551616 := by
    simp [IntKind.wrap, IntKind.bits, IntKind.signed]
  rw [e]; split <;> omega
theorem ieq_true {a b : Int} (h : a = b) : ieq a b = true := by simp [ieq, h]
theorem ieq_false {a b : Int} (h : a ≠ b) : ieq a b = false := by simp [ieq, h]
theorem sign_true {a : Nat} (ha : a < 18446744073709551616) (h : 9223372036854775808 ≤ a) : ieq ((a : Int).fdiv 9223372036854775808) 1 = true := by
  apply ieq_true; rw [show (9223372036854775808 : Int) = ((9223372036854775808 : Nat) : Int) from rfl, ← Int.ofNat_fdiv]; omega
theorem sign_false {a : Nat} (h : a < 9223372036854775808) : ieq ((a : Int).fdiv 9223372036854775808) 1 = false := by
  apply ieq_false; rw [show (9223372036854775808 : Int) = ((9223372036854775808 : Nat) : Int) from rfl, ← Int.ofNat_fdiv]; omega
theorem low_bits (a : Nat) (ha : a < 18446744073709551616) : IntKind.i64.wrap ((IntKind.u64.wrap ((a : Int) * 2)).fdiv 2) = (rungOf a : Int) := by
  rw [wrap_u64]
  have : ((a : Int) * 2 % 18446744073709551616).fdiv 2 = (rungOf a : Int) := by
    rw [Int.fdiv_eq_ediv_of_nonneg _ (by decide)]; unfold rungOf; omega
  rw [this]; apply wrap_i64 <;> unfold rungOf <;> omega
theorem neg_bits (a : Nat) : IntKind.i64.wrap (IntKind.i64.wrap (0 - (rungOf a : Int)) - 1) = -(rungOf a : Int) - 1 := by
  have h : rungOf a < 9223372036854775808 := by unfold rungOf; omega
  rw [wrap_i64 (n := 0 - (rungOf a : Int)) (by omega) (by omega), wrap_i64 (by omega) (by omega)]; omega
theorem above_eq {a b : Nat} (ha : CF a) (hb : CF b) : s_ref01_above_0 a b = flt b a := by
  unfold s_ref01_above_0
  rw [low_bits a ha.lt, low_bits b hb.lt, neg_bits a, neg_bits b]
  cases na : nanb a
  · cases nb : nanb b
    · rw [flt_key nb na]
      have sa := @sgn_true a ha.lt
      have sb := @sgn_true b hb.lt
      unfold key
      simp only [Bool.not_false, Bool.true_and]
      by_cases ca : 9223372036854775808 ≤ a
      · rw [sign_true ha.lt ca, if_pos (sa.2 ca), cond_true]
        by_cases cb : 9223372036854775808 ≤ b
        · rw [sign_true hb.lt cb, if_pos (sb.2 cb)]
          simp only [cond_true]
          by_cases e1 : rungOf a = 0
          · rw [ieq_true (by omega), cond_true]
            by_cases e2 : rungOf b = 0
            · rw [ieq_true (by omega), cond_true]; simp [e1, e2]
            · rw [ieq_false (by omega), cond_false]; unfold ilt; apply decide_eq_decide.2; omega
          · rw [ieq_false (by omega), cond_false]
            by_cases e2 : rungOf b = 0
            · rw [ieq_true (by omega), cond_true]; unfold ilt; apply decide_eq_decide.2; omega
            · rw [ieq_false (by omega), cond_false]; unfold ilt; apply decide_eq_decide.2; omega
        · rw [sign_false (by omega), if_neg (fun h => cb (sb.1 h))]
          simp only [cond_false]
          rw [ieq_false (a := (rungOf b : Int)) (by omega), cond_false, cond_false]
          by_cases e1 : rungOf a = 0
          · rw [ieq_true (by omega), cond_true]; unfold ilt; apply decide_eq_decide.2; omega
          · rw [ieq_false (by omega), cond_false]; unfold ilt; apply decide_eq_decide.2; omega
      · rw [sign_false (by omega), if_neg (fun h => ca (sa.1 h)), cond_false]
        rw [ieq_false (a := (rungOf a : Int)) (by omega), cond_false]
        by_cases cb : 9223372036854775808 ≤ b
        · rw [sign_true hb.lt cb, if_pos (sb.2 cb)]
          simp only [cond_true]
          by_cases e2 : rungOf b = 0
          · rw [ieq_true (by omega), cond_true]; unfold ilt; apply decide_eq_decide.2; omega
          · rw [ieq_false (by omega), cond_false]; unfold ilt; apply decide_eq_decide.2; omega
        · rw [sign_false (by omega), if_neg (fun h => cb (sb.1 h))]
          simp only [cond_false]
          rw [ieq_false (a := (rungOf b : Int)) (by omega), cond_false]; unfold ilt; apply decide_eq_decide.2; omega
    · rw [flt_nan (.inl nb)]; rfl
  · rw [flt_nan (.inr na)]; rfl
theorem ref_within {a m : Nat} (ha : CF a) (hm : CF m) : s_ref01_Within_0 a m = (fle (fneg m) a && fle a m) := by
  unfold s_ref01_Within_0
  cases na : nanb a
  · cases nm : nanb m
    · rw [above_eq ha hm, above_eq hm.fneg ha]
      have nf : nanb (fneg m) = false := by rw [nanb_fneg hm.lt]; exact nm
      rw [flt_key nm na, flt_key na nf, fle_key nf na, fle_key na nm, key_fneg hm.lt nm, Bool.eq_iff_iff]
      simp; omega
    · rw [fle_nan (a := a) (.inr nm)]; simp
  · rw [fle_nan (a := a) (.inl na)]; simp
end Go.Proofs.Ytefmihgjheokeaa
