/- Twice and half a float, exactly. -/
import Derived.Test.YtbkogihigehjlaaSimErr5
set_option linter.unusedVariables false
set_option linter.unusedSimpArgs false
namespace Go.Sim
open Ieee
theorem log2_twice {n : Nat} (h : n ≠ 0) : (2 * n).log2 = n.log2 + 1 := by
  have := log2_mul_pow h 1
  rw [Nat.pow_one, Nat.mul_comm] at this; exact this
/-- Twice as much, where nothing is below the least place. -/
theorem RN'_twice {n d : Nat} (h : 52 + d ≤ n.log2) (h0 : n ≠ 0) : RN' (2 * n) d = RN' n d + 4503599627370496 := by
  have hu : up (2 * n) d = up n d + 1 := by unfold up; rw [log2_twice h0]; omega
  unfold RN'
  rw [hu]
  have := rte_scale n (d + up n d) 1
  rw [Nat.pow_one, Nat.mul_comm n 2] at this
  have e : d + (up n d + 1) = d + up n d + 1 := by omega
  rw [e, this]; omega
theorem magOf_up {r : Nat} (h : 4503599627370496 ≤ r) : magOf (r + 4503599627370496) = 2 * magOf r := by
  unfold magOf
  rw [if_neg (by omega), if_neg (by omega)]
  have e1 : (r + 4503599627370496) % 4503599627370496 = r % 4503599627370496 := by omega
  have e2 : (r + 4503599627370496) / 4503599627370496 - 1 = (r / 4503599627370496 - 1) + 1 := by omega
  rw [e1, e2, Nat.pow_succ]; ac_rfl
theorem RN'_ge {n d : Nat} (h : 52 + d ≤ n.log2) (h0 : n ≠ 0) : 4503599627370496 ≤ RN' n d := by
  have hl := Nat.log2_self_le h0
  have h1 : magOf 4503599627370496 * 2 ^ d ≤ n := by
    have e : magOf 4503599627370496 = 2 ^ 52 := by decide
    rw [e, ← Nat.pow_add]
    exact Nat.le_trans (Nat.pow_le_pow_right (by decide) (by omega)) hl
  have := RN'_mono h1 d
  rw [RN'_exact] at this; exact this
theorem mag_twice {n d : Nat} (h : n = 0 ∨ 52 + d ≤ n.log2) : magOf (RN' (2 * n) d) = 2 * magOf (RN' n d) := by
  by_cases h0 : n = 0
  · subst h0
    have e : RN' 0 d = 0 := by unfold RN' up rte; simp
    rw [Nat.mul_zero, e]; rfl
  · have h := h.resolve_left h0
    rw [RN'_twice h h0, magOf_up (RN'_ge h h0)]
theorem mag_word {s : Bool} {r : Nat} (h : r < 9218868437227405312) : magOf (rungOf (double.word s r)) = magOf r := by rw [rung_word s (by omega)]
/-- Twice a float. -/
theorem two_mag {d : Nat} (hd : d = 1074) : magOf (rungOf 4611686018427387904) = 2 * 2 ^ d := by
  obtain ⟨k, hk⟩ : ∃ k, k = 1023 := ⟨_, rfl⟩
  have e : rungOf 4611686018427387904 = k * 4503599627370496 + 4503599627370496 := by rw [hk]; decide
  rw [e, magOf_parts (.inr ⟨by omega, by omega⟩), show (4503599627370496 : Nat) = 2 ^ 52 by decide, ← Nat.pow_add, Nat.mul_comm, ← Nat.pow_succ]
  refine congrArg (fun e => 2 ^ e) ?_
  omega
theorem half_mag {d : Nat} (hd : d = 1073) : magOf (rungOf 4602678819172646912) = 2 ^ d := by
  obtain ⟨k, hk⟩ : ∃ k, k = 1021 := ⟨_, rfl⟩
  have e : rungOf 4602678819172646912 = k * 4503599627370496 + 4503599627370496 := by rw [hk]; decide
  rw [e, magOf_parts (.inr ⟨by omega, by omega⟩), show (4503599627370496 : Nat) = 2 ^ 52 by decide, ← Nat.pow_add]
  refine congrArg (fun e => 2 ^ e) ?_
  omega
theorem RN_mag {r d : Nat} (h : r < 9218868437227405312) : RN (magOf r * 2 ^ d) d = r := RN_exact (by omega) d
theorem two_word {a : Nat} (fa : fin a = true) (h1 : 4503599627370496 ≤ rungOf a) (h2 : rungOf a + 4503599627370496 < 9218868437227405312) : fmul 4611686018427387904 a = double.word (sgnOf a) (rungOf a + 4503599627370496) := by
  obtain ⟨d, hd⟩ : ∃ d, d = 1074 := ⟨_, rfl⟩
  rw [fmul_fin (by decide) fa, ← hd, two_mag hd, show sgnOf 4611686018427387904 = false by decide, Bool.false_xor]
  have e : 2 * 2 ^ d * magOf (rungOf a) = magOf (rungOf a + 4503599627370496) * 2 ^ d := by rw [magOf_up h1]; ac_rfl
  rw [e, RN_mag h2]
theorem half_word {a : Nat} (fa : fin a = true) (h1 : 9007199254740992 ≤ rungOf a) : fdiv a 4611686018427387904 = double.word (sgnOf a) (rungOf a - 4503599627370496) := by
  obtain ⟨d, hd⟩ : ∃ d, d = 1073 := ⟨_, rfl⟩
  have hd' : (1074 : Nat) = d + 1 := by omega
  have hr := fin_iff.1 fa
  rw [fdiv_two, fmul_fin fa (by decide), half_mag hd, show sgnOf 4602678819172646912 = false by decide, Bool.xor_false, hd']
  have e0 : magOf (rungOf a) = 2 * magOf (rungOf a - 4503599627370496) := by
    rw [← magOf_up (by omega)]; congr 1; omega
  have e : magOf (rungOf a) * 2 ^ d = magOf (rungOf a - 4503599627370496) * 2 ^ (d + 1) := by
    rw [e0]
    generalize magOf (rungOf a - 4503599627370496) = m
    rw [Nat.pow_succ]; ac_rfl
  rw [e, RN_mag (by omega)]
theorem zero_mul_word {a : Nat} (fa : fin a = true) (h : rungOf a = 0) : fmul 4611686018427387904 a = double.word (sgnOf a) 0 ∧ fdiv a 4611686018427387904 = double.word (sgnOf a) 0 := by
  have z : magOf 0 = 0 := rfl
  constructor
  · rw [fmul_fin (by decide) fa, h, z, Nat.mul_zero, RN_zero, show sgnOf 4611686018427387904 = false by decide, Bool.false_xor]
  · rw [fdiv_two, fmul_fin fa (by decide), h, z, Nat.zero_mul, RN_zero, show sgnOf 4602678819172646912 = false by decide, Bool.xor_false]
/-- Nought, or with room for a half and for twice as much. -/
def Nt (a : Nat) : Prop := fin a = true ∧ (rungOf a = 0 ∨ (9007199254740992 ≤ rungOf a ∧ rungOf a + 4503599627370496 < 9218868437227405312))
theorem Nt.two {a : Nat} (h : Nt a) : ∃ r, fmul 4611686018427387904 a = double.word (sgnOf a) r ∧ r < 9218868437227405312 ∧ magOf r = 2 * magOf (rungOf a) := by
  obtain ⟨fa, h | ⟨h1, h2⟩⟩ := h
  · exact ⟨0, (zero_mul_word fa h).1, by omega, by rw [h]; rfl⟩
  · exact ⟨_, two_word fa (by omega) h2, h2, magOf_up (by omega)⟩
theorem Nt.half {a : Nat} (h : Nt a) : ∃ r, fdiv a 4611686018427387904 = double.word (sgnOf a) r ∧ r < 9218868437227405312 ∧ 2 * magOf r = magOf (rungOf a) := by
  obtain ⟨fa, h | ⟨h1, h2⟩⟩ := h
  · exact ⟨0, (zero_mul_word fa h).2, by omega, by rw [h]; rfl⟩
  · refine ⟨_, half_word fa h1, by omega, ?_⟩
    rw [← magOf_up (by omega)]; congr 1; omega
theorem swap_halves {t x : Nat} (ht : Nt t) (hx : Nt x) : fmul (fmul 4611686018427387904 t) (fdiv x 4611686018427387904) = fmul t x := by
  obtain ⟨r, e1, l1, v1⟩ := ht.two
  obtain ⟨q, e2, l2, v2⟩ := hx.half
  rw [e1, e2, fmul_fin (fin_word _ l1) (fin_word _ l2), fmul_fin ht.1 hx.1, sgn_word _ (by omega), sgn_word _ (by omega), rung_word _ (by omega), rung_word _ (by omega), v1, ← v2]
  congr 2
  generalize magOf q = m
  generalize magOf (rungOf t) = n
  ac_rfl
theorem swap_halves' {t x : Nat} (ht : Nt t) (hx : Nt x) : fmul (fdiv x 4611686018427387904) (fmul 4611686018427387904 t) = fmul x t := by
  rw [fmul_comm, swap_halves ht hx, fmul_comm]
theorem V.twice {z : Nat} {k : Int} (h : V z k) (hr : rungOf z = 0 ∨ (4503599627370496 ≤ rungOf z ∧ rungOf z + 4503599627370496 < 9218868437227405312)) : V (fmul 4611686018427387904 z) (2 * k) := by
  obtain ⟨fz, hk⟩ := h
  have hs : sval z = if sgnOf z = true then -(magOf (rungOf z) : Int) else (magOf (rungOf z) : Int) := rfl
  rcases hr with h | ⟨h1, h2⟩
  · rw [(zero_mul_word fz h).1]
    rw [h, show magOf 0 = 0 from rfl] at hs
    have : k = 0 := by rw [← hk, hs]; split <;> rfl
    rw [this]; exact V.word0 _
  · rw [two_word fz h1 h2]
    refine ⟨fin_word _ h2, ?_⟩
    rw [sval_word _ (by omega), magOf_up h1, ← hk, hs]
    generalize magOf (rungOf z) = m
    split <;> omega
theorem RN_self {M d : Nat} (h : RN' M d < 9218868437227405312) : RN M d = RN' M d := by rw [RN_eq]; exact Nat.min_eq_left (Nat.le_of_lt h)
theorem RN'_zero (d : Nat) : RN' 0 d = 0 := by unfold RN' up rte; simp
theorem twice_facts {M d : Nat} (hM : M = 0 ∨ 52 + d ≤ M.log2) (hU : RN' M d + 4503599627370496 < 9218868437227405312) :
    ∃ R R2, RN M d = R ∧ RN (2 * M) d = R2 ∧ R < 9218868437227405312 ∧ R2 < 9218868437227405312 ∧ magOf R2 = 2 * magOf R ∧ (R = 0 ∨ (4503599627370496 ≤ R ∧ R + 4503599627370496 < 9218868437227405312)) := by
  have hl : RN' M d < 9218868437227405312 := Nat.lt_of_le_of_lt (Nat.le_add_right _ _) hU
  by_cases h0 : M = 0
  · subst h0
    refine ⟨0, 0, ?_, ?_, by decide, by decide, rfl, .inl rfl⟩
    · exact RN_zero d
    · rw [Nat.mul_zero]; exact RN_zero d
  · have hl2 : RN' (2 * M) d < 9218868437227405312 := by rw [RN'_twice (hM.resolve_left h0) h0]; exact hU
    exact ⟨_, _, RN_self hl, RN_self hl2, hl, hl2, mag_twice hM, .inr ⟨RN'_ge (hM.resolve_left h0) h0, hU⟩⟩
theorem mag_prod (m n : Nat) : m * (2 * n) = 2 * (m * n) := by ac_rfl
theorem twice_words {s : Bool} {p p2 R R2 : Nat} (e1 : p = double.word s R) (e2 : p2 = double.word s R2) (l1 : R < 9218868437227405312) (l2 : R2 < 9218868437227405312) (hm : magOf R2 = 2 * magOf R) (hR : R = 0 ∨ (4503599627370496 ≤ R ∧ R + 4503599627370496 < 9218868437227405312)) :
    feq (fadd 0 p2) (fmul 4611686018427387904 (fadd 0 p)) = true := by
  obtain ⟨k, hk⟩ : ∃ k, k = sval p := ⟨_, rfl⟩
  have w1 := sval_word s (Nat.le_of_lt l1)
  have w2 := sval_word s (Nat.le_of_lt l2)
  rw [← e1] at w1
  rw [← e2, hm] at w2
  have vp : V p k := ⟨by rw [e1]; exact fin_word _ l1, hk.symm⟩
  have vp2 : V p2 (2 * k) := by
    refine ⟨by rw [e2]; exact fin_word _ l2, ?_⟩
    rw [hk, w1, w2]
    generalize magOf R = m
    cases s
    · simp
    · simp only [if_true]; omega
  have vz : V (fadd 0 p) k := V.add V.zero vp vp (Int.zero_add k)
  have rz : rungOf (fadd 0 p) = R := by
    apply magOf_inj
    rw [← natAbs_sval, vz.2, hk, natAbs_sval, e1, rung_word _ (Nat.le_of_lt l1)]
  have v2 : V (fmul 4611686018427387904 (fadd 0 p)) (2 * k) := vz.twice (by rw [rz]; exact hR)
  exact V.feq_of (V.add V.zero vp2 vp2 (Int.zero_add _)) v2
/-- A product with twice a float is twice the product. -/
theorem twice_prod {t x : Nat} (ft : fin t = true) (hx : Nt x) (hM : magOf (rungOf t) * magOf (rungOf x) = 0 ∨ 1126 ≤ (magOf (rungOf t) * magOf (rungOf x)).log2)
    (hU : ∀ d, d = 1074 → RN' (magOf (rungOf t) * magOf (rungOf x)) d + 4503599627370496 < 9218868437227405312) :
    feq (fadd 0 (fmul t (fmul 4611686018427387904 x))) (fmul 4611686018427387904 (fadd 0 (fmul t x))) = true := by
  obtain ⟨d, hd⟩ : ∃ d, d = 1074 := ⟨_, rfl⟩
  obtain ⟨r, e1, l1, v1⟩ := hx.two
  have ep : fmul t x = double.word (sgnOf t ^^ sgnOf x) (RN (magOf (rungOf t) * magOf (rungOf x)) d) := by rw [hd]; exact fmul_fin ft hx.1
  have ep2 : fmul t (fmul 4611686018427387904 x) = double.word (sgnOf t ^^ sgnOf x) (RN (2 * (magOf (rungOf t) * magOf (rungOf x))) d) := by
    rw [e1, hd, fmul_fin ft (fin_word _ l1), sgn_word _ (Nat.le_of_lt l1), rung_word _ (Nat.le_of_lt l1), v1, mag_prod]
  have hM' : magOf (rungOf t) * magOf (rungOf x) = 0 ∨ 52 + d ≤ (magOf (rungOf t) * magOf (rungOf x)).log2 := by rw [hd]; exact hM
  obtain ⟨R, R2, q1, q2, l3, l4, hm, hR⟩ := twice_facts hM' (hU d hd)
  rw [q1] at ep
  rw [q2] at ep2
  exact twice_words ep ep2 l3 l4 hm hR
end Go.Sim
