/- Sums and products that come out exactly. -/
import Derived.Test.YtbkogihigehjlaaSimEnds
namespace Go.Sim
open Ieee
/-- A number that stands for 'n' (in units of 2^-1074). -/
def V (a : Nat) (n : Int) : Prop := fin a = true ∧ sval a = n
theorem sval_word (s : Bool) {r : Nat} (h : r ≤ 9218868437227405312) : sval (double.word s r) = if s = true then -(magOf r : Int) else (magOf r : Int) := by
  unfold sval; rw [rung_word s h, sgn_word s h]
theorem V.self {a : Nat} (h : fin a = true) : V a (sval a) := ⟨h, rfl⟩
theorem natAbs_sval (a : Nat) : (sval a).natAbs = magOf (rungOf a) := by unfold sval; split <;> omega
theorem V.neg {a : Nat} {n : Int} (hl : a < 18446744073709551616) (h : V a n) : V (fneg a) (-n) := by
  have hn := fin_not_nan h.1
  exact ⟨by rw [fin_iff, rung_fneg hl hn]; exact fin_iff.1 h.1, by rw [sval_fneg hl hn, h.2]⟩
theorem V.add {a b c : Nat} {m n k : Int} (ha : V a m) (hb : V b n) (hc : V c k) (h : m + n = k) : V (fadd a b) k := by
  rw [fadd_fin ha.1 hb.1, ha.2, hb.2, h]
  have e : k.natAbs = magOf (rungOf c) * 2 ^ 0 := by rw [← hc.2, natAbs_sval]; simp
  have hr := fin_iff.1 hc.1
  rw [e, RN_exact (by omega)]
  refine ⟨by rw [fin_iff, rung_word _ (by omega)]; exact hr, ?_⟩
  rw [sval_word _ (by omega), ← natAbs_sval, hc.2]
  by_cases h0 : k = 0
  · subst h0; simp
  · rw [if_neg h0]
    by_cases hl : k < 0
    · simp [hl]; omega
    · simp [hl]; omega
theorem V.sub {a b c : Nat} {m n k : Int} (hl : b < 18446744073709551616) (ha : V a m) (hb : V b n) (hc : V c k) (h : m - n = k) : V (fsub a b) k := by
  rw [sub_add hl]; exact V.add ha (hb.neg hl) hc (by omega)
theorem V.feq {a b : Nat} {m n : Int} (ha : V a m) (hb : V b n) : feq a b = decide (m = n) := by
  rw [feq_val (fin_not_nan ha.1) (fin_not_nan hb.1), ha.2, hb.2]
theorem V.feq_of {a b : Nat} {n : Int} (ha : V a n) (hb : V b n) : Go.Sim.feq a b = true := by rw [ha.feq hb]; simp
theorem one_mag {d : Nat} (hd : d = 1074) : magOf (rungOf 4607182418800017408) = 2 ^ d := by
  obtain ⟨k, hk⟩ : ∃ k, k = 1022 := ⟨_, rfl⟩
  have e : rungOf 4607182418800017408 = k * 4503599627370496 + 4503599627370496 := by rw [hk]; decide
  rw [e, magOf_parts (.inr ⟨by omega, by omega⟩), show (4503599627370496 : Nat) = 2 ^ 52 by decide, ← Nat.pow_add]
  refine congrArg (fun e => 2 ^ e) ?_
  omega
theorem fin_one : fin 4607182418800017408 = true := by decide
theorem V.zero : V 0 0 := ⟨by decide, by decide⟩
theorem V.nought : V 9223372036854775808 0 := ⟨by decide, by decide⟩
theorem V.word0 (s : Bool) : V (double.word s 0) 0 := by cases s <;> exact ⟨by decide, by decide⟩
theorem V.mul_one {a : Nat} {n : Int} (ha : V a n) : V (fmul a 4607182418800017408) n := by
  have hr := fin_iff.1 ha.1
  have h1 := fmul_fin ha.1 fin_one
  obtain ⟨d, hd⟩ : ∃ d, d = 1074 := ⟨_, rfl⟩
  rw [← hd] at h1
  rw [h1, one_mag hd, RN_exact (by omega)]
  refine ⟨by rw [fin_iff, rung_word _ (by omega)]; exact hr, ?_⟩
  have : sgnOf 4607182418800017408 = false := by decide
  rw [sval_word _ (by omega), this, ← ha.2, Bool.xor_false]; rfl
theorem V.one_mul {a : Nat} {n : Int} (ha : V a n) : V (fmul 4607182418800017408 a) n := by rw [fmul_comm]; exact ha.mul_one
theorem V.mul_zero {a : Nat} {n : Int} (ha : V a n) : V (fmul a 0) 0 := by
  have e : magOf (rungOf 0) = 0 := by decide
  rw [fmul_fin ha.1 (by decide), e, Nat.mul_zero, RN_zero]; exact V.word0 _
theorem V.zero_mul {a : Nat} {n : Int} (ha : V a n) : V (fmul 0 a) 0 := by rw [fmul_comm]; exact ha.mul_zero
theorem V.mul_nought {a : Nat} {n : Int} (ha : V a n) : V (fmul a 9223372036854775808) 0 := by
  have e : magOf (rungOf 9223372036854775808) = 0 := by decide
  rw [fmul_fin ha.1 (by decide), e, Nat.mul_zero, RN_zero]; exact V.word0 _
theorem V.mul_neg_one {a : Nat} {n : Int} (ha : V a n) : V (fmul a 13830554455654793216) (-n) := by
  have e : (13830554455654793216 : Nat) = fneg 4607182418800017408 := by decide
  rw [e, fmul_neg_r (by decide)]
  exact ha.mul_one.neg (CF.mul _ _).lt
theorem fin_of_le {a m : Nat} (h : fle a m = true) (hm : key m < 9218868437227405312) (l : -9218868437227405312 < key a) : fin a = true := by
  cases na : nanb a
  · cases nm : nanb m
    · rw [fle_key na nm] at h; rw [fin_iff]
      have := key_abs a
      simp only [decide_eq_true_eq] at h
      have := not_nan_rung na
      omega
    · rw [fle_nan (.inr nm)] at h; cases h
  · rw [fle_nan (.inl na)] at h; cases h
theorem fin_between {a l m : Nat} (h1 : fle l a = true) (h2 : fle a m = true) (hl : -9218868437227405312 < key l) (hm : key m < 9218868437227405312) : fin a = true := by
  cases na : nanb a
  · cases nl : nanb l
    · rw [fle_key nl na] at h1
      simp only [decide_eq_true_eq] at h1
      exact fin_of_le h2 hm (by omega)
    · rw [fle_nan (.inl nl)] at h1; cases h1
  · rw [fle_nan (.inr na)] at h1; cases h1
end Go.Sim
