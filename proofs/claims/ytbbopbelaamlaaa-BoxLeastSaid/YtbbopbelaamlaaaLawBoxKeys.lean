/- Boxes by the places of their floats. -/
import Derived.Test.YtbbopbelaamlaaaLawBoxOf
set_option linter.unusedVariables false
set_option linter.unusedSimpArgs false
namespace Go.Proofs.Ytbbopbelaamlaaa
open Go.Sim Go.Lst
theorem finite_eq {x : Nat} (h : CF x) : s_num_Finite_float64__0 x = fin x := by
  unfold s_num_Finite_float64__0
  cases hf : fin x
  · cases he : feq (fsub x x) 0
    · rfl
    · rw [end_sub he] at hf; cases hf
  · exact V.feq_of (V.sub h.lt (V.self hf) (V.self hf) V.zero (by omega)) V.zero
theorem check_ok {a b c d : Nat} (ca : CF a) (cb : CF b) (cc : CF c) (cd : CF d) : ieq (s_box_Check_0 a b c d) 0 = (fin a && fin b && fin c && fin d && decide (key a ≤ key c) && decide (key b ≤ key d)) := by
  unfold s_box_Check_0 s_vec_Finite_0
  rw [finite_eq ca, finite_eq cb, finite_eq cc, finite_eq cd]
  cases fa : fin a
  · rfl
  cases fb : fin b
  · rfl
  cases fc : fin c
  · rfl
  cases fd : fin d
  · rfl
  rw [flt_key (fin_not_nan fc) (fin_not_nan fa), flt_key (fin_not_nan fd) (fin_not_nan fb)]
  by_cases h1 : key c < key a
  · have : ¬ key a ≤ key c := by omega
    simp [h1, this, ieq]
  · have : key a ≤ key c := by omega
    by_cases h2 : key d < key b
    · have h3 : ¬ key b ≤ key d := by omega
      simp [h1, h2, h3, ieq]
    · have h3 : key b ≤ key d := by omega
      simp [h1, h2, h3, this, ieq]
theorem place_inj {a b : Nat} (ha : a < 18446744073709551616) (hb : b < 18446744073709551616) (h : s_ref01_place_0 a = s_ref01_place_0 b) : a = b := by
  rw [place_eq ha, place_eq hb] at h
  have wa := word_eq ha
  have wb := word_eq hb
  by_cases h1 : 9223372036854775808 ≤ a <;> by_cases h2 : 9223372036854775808 ≤ b <;> simp only [h1, h2, if_true, if_false] at h wa wb <;> omega
/-- The place is the key, or one below. -/
theorem place_le {a b : Nat} (ha : a < 18446744073709551616) (hb : b < 18446744073709551616) (h : s_ref01_place_0 a ≤ s_ref01_place_0 b) : key a ≤ key b := by
  rw [place_eq ha, place_eq hb] at h
  rw [key_place ha, key_place hb]
  by_cases h1 : 9223372036854775808 ≤ a <;> by_cases h2 : 9223372036854775808 ≤ b <;> simp only [h1, h2, if_true, if_false] at h ⊢ <;> omega
noncomputable abbrev LE (a b : Nat) : Nat := s_num_Least_float64__0 a b
noncomputable abbrev MO (a b : Nat) : Nat := s_num_Most_float64__0 a b
theorem le_form {a b : Nat} (ca : CF a) (cb : CF b) (fa : fin a = true) (fb : fin b = true) : LE a b = if s_ref01_place_0 a ≤ s_ref01_place_0 b then a else b := by
  unfold LE
  rw [least_eq ca cb]; unfold s_ref01_Least_0
  rw [fin_not_nan fa, fin_not_nan fb]
  unfold ile
  by_cases h : s_ref01_place_0 a ≤ s_ref01_place_0 b <;> simp [h]
theorem mo_form {a b : Nat} (ca : CF a) (cb : CF b) (fa : fin a = true) (fb : fin b = true) : MO a b = if s_ref01_place_0 b ≤ s_ref01_place_0 a then a else b := by
  unfold MO
  rw [most_eq ca cb]; unfold s_ref01_Most_0
  rw [fin_not_nan fa, fin_not_nan fb]
  unfold ile
  by_cases h : s_ref01_place_0 b ≤ s_ref01_place_0 a <;> simp [h]
theorem le_comm' {a b : Nat} (ca : CF a) (cb : CF b) (fa : fin a = true) (fb : fin b = true) : LE a b = LE b a := by
  rw [le_form ca cb fa fb, le_form cb ca fb fa]
  split <;> split
  · exact place_inj ca.lt cb.lt (by omega)
  · rfl
  · rfl
  · omega
theorem mo_comm' {a b : Nat} (ca : CF a) (cb : CF b) (fa : fin a = true) (fb : fin b = true) : MO a b = MO b a := by
  rw [mo_form ca cb fa fb, mo_form cb ca fb fa]
  split <;> split
  · exact place_inj ca.lt cb.lt (by omega)
  · rfl
  · rfl
  · omega
theorem le_key {a b : Nat} (ca : CF a) (cb : CF b) (fa : fin a = true) (fb : fin b = true) : (key (LE a b) ≤ key a ∧ key (LE a b) ≤ key b ∧ (key (LE a b) = key a ∨ key (LE a b) = key b)) ∧ fin (LE a b) = true ∧ CF (LE a b) := by
  rw [le_form ca cb fa fb]
  split
  · rename_i h; have := place_le ca.lt cb.lt h; exact ⟨by omega, fa, ca⟩
  · rename_i h; have := place_le (a := b) (b := a) cb.lt ca.lt (by omega); exact ⟨by omega, fb, cb⟩
theorem mo_key {a b : Nat} (ca : CF a) (cb : CF b) (fa : fin a = true) (fb : fin b = true) : (key a ≤ key (MO a b) ∧ key b ≤ key (MO a b) ∧ (key (MO a b) = key a ∨ key (MO a b) = key b)) ∧ fin (MO a b) = true ∧ CF (MO a b) := by
  rw [mo_form ca cb fa fb]
  split
  · rename_i h; have := place_le (a := b) (b := a) cb.lt ca.lt h; exact ⟨by omega, fa, ca⟩
  · rename_i h; have := place_le (a := a) (b := b) ca.lt cb.lt (by omega); exact ⟨by omega, fb, cb⟩
theorem fleF {a b : Nat} (fa : fin a = true) (fb : fin b = true) : fle a b = decide (key a ≤ key b) := fle_key (fin_not_nan fa) (fin_not_nan fb)
theorem feqF {a b : Nat} (fa : fin a = true) (fb : fin b = true) : feq a b = decide (key a = key b) := feq_key (fin_not_nan fa) (fin_not_nan fb)
theorem beq_prop (a b : Bool) : ((a == b) = true) = ((a = true) ↔ (b = true)) := by cases a <;> cases b <;> simp
end Go.Proofs.Ytbbopbelaamlaaa
