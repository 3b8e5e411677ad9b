/- A turn whose square is near one has finite parts. -/
import Derived.Test.YtefmihgjheokeaaLawRef01
import Derived.Test.YtefmihgjheokeaaSimEnds
set_option linter.unusedVariables false
namespace Go.Proofs.Ytefmihgjheokeaa
open Go.Sim
theorem fin_of_le {a m : Nat} (h : fle a m = true) (hm : key m < 9218868437227405312) (l : -9218868437227405312 < key a) : fin a = true := by
  cases na : nanb a
  · cases nm : nanb m
    · rw [fle_key na nm] at h; rw [fin_iff]
      have := key_abs a
      simp only [decide_eq_true_eq] at h
      have := not_nan_rung na
      omega
    · rw [fle_nan (.inr nm)] at h; cases h
  · rw [fle_nan (.inl na)] at h; cases h
theorem fin_between {a l m : Nat} (h1 : fle l a = true) (h2 : fle a m = true) (hl : -9218868437227405312 < key l) (hm : key m < 9218868437227405312) : fin a = true := by
  cases na : nanb a
  · cases nl : nanb l
    · rw [fle_key nl na] at h1
      simp only [decide_eq_true_eq] at h1
      exact fin_of_le h2 hm (by omega)
    · rw [fle_nan (.inl nl)] at h1; cases h1
  · rw [fle_nan (.inr na)] at h1; cases h1
theorem max_le {a : Nat} : s_ref03_finite_0 a = fin a := by
  unfold s_ref03_finite_0
  have n1 : nanb 18442240474082181119 = false := by decide
  have n2 : nanb 9218868437227405311 = false := by decide
  have k1 : key 18442240474082181119 = -9218868437227405311 := by decide
  have k2 : key 9218868437227405311 = 9218868437227405311 := by decide
  cases na : nanb a
  · rw [fle_key n1 na, fle_key na n2, k1, k2]
    unfold fin
    have := key_abs a
    rw [Bool.eq_iff_iff]; simp; omega
  · rw [fle_nan (.inr na)]
    unfold fin
    have := (nanb_iff_rung a).1 na
    simp; omega
theorem check_eq (r i : Nat) : s_turn_Check_0 r i = s_ref03_Check_0 r i := by
  unfold s_turn_Check_0 s_ref03_Check_0
  rw [max_le, max_le]
  show (bif fle 4607182418800009216 (s_turn_square_0 r i) then bif fle (s_turn_square_0 r i) 4607182418800021504 then (0 : Int) else 30 else 30) = bif !!fin r then bif !!fin i then bif fle 4607182418800009216 (s_turn_square_0 r i) then bif !fle (s_turn_square_0 r i) 4607182418800021504 then 30 else 0 else 30 else 30 else 30
  have k1 : -9218868437227405312 < key 4607182418800009216 := by decide
  have k2 : key 4607182418800021504 < 9218868437227405312 := by decide
  cases h1 : fle 4607182418800009216 (s_turn_square_0 r i)
  · cases fin r <;> cases fin i <;> rfl
  · cases h2 : fle (s_turn_square_0 r i) 4607182418800021504
    · cases fin r <;> cases fin i <;> rfl
    · have f := fin_between h1 h2 k1 k2
      obtain ⟨f1, f2⟩ := fin_add f
      rw [(fin_mul f1).1, (fin_mul f2).1]; rfl
end Go.Proofs.Ytefmihgjheokeaa
