/- One mass: may it be, how hard is it to turn about a place, one over it: the program's answers and the document's are the same words. -/
import Derived.Test.YtbkogihigehjlaaLawLBase
set_option linter.unusedVariables false
set_option linter.unusedSimpArgs false
namespace Go.Proofs.Ytbkogihigehjlaa
open Go.Sim Go.Lst
theorem cf_max : CF 4787326403894837248 := ⟨by decide, fun h => absurd h (by decide)⟩
theorem nan_max : nanb 4787326403894837248 = false := by decide
theorem abs_within {a : Nat} (ha : CF a) : fle (fabs a) 4787326403894837248 = (fle (fneg 4787326403894837248) a && fle a 4787326403894837248) := by
  cases na : nanb a
  · have nf : nanb (fneg 4787326403894837248) = false := by rw [nanb_fneg cf_max.lt]; exact nan_max
    have nb : nanb (fabs a) = false := by rw [nanb_fabs]; exact na
    rw [fle_key nb nan_max, fle_key nf na, fle_key na nan_max, key_fneg cf_max.lt nan_max, key_fabs na]
    have hk : key a = (rungOf a : Int) ∨ key a = -(rungOf a : Int) := by unfold key; split <;> simp
    have hm : key 4787326403894837248 = 4787326403894837248 := by decide
    rw [hm, Bool.eq_iff_iff]
    simp
    omega
  · have nb : nanb (fabs a) = true := by rw [nanb_fabs]; exact na
    rw [fle_nan (.inl nb), fle_nan (b := a) (.inr na)]; rfl
theorem ends_same (a : Nat) : s_mass_weight_0 a = s_ref08_End_0 a := by
  unfold s_mass_weight_0 s_ref08_End_0 s_num_Finite_float64__0
  rw [Bool.and_comm]
theorem within_same {a b : Nat} (ha : CF a) (hb : CF b) : s_vec_Within_0 a b 4787326403894837248 = s_ref02_Within_0 a b 4787326403894837248 := by
  unfold s_vec_Within_0 s_ref02_Within_0 s_num_Within_float64__0
  rw [abs_within ha, abs_within hb]
theorem check_same {a b c d : Nat} (hc : CF c) (hd : CF d) : s_mass_Check_0 a b c d = s_ref08_Check_0 a b c d := by
  unfold s_mass_Check_0 s_ref08_Check_0
  rw [ends_same, ends_same, within_same hc hd]
theorem check_two (a b c d : Nat) : s_ref08_Check_0 a b c d = 80 ∨ s_ref08_Check_0 a b c d = 0 := by
  unfold s_ref08_Check_0
  cases ((!(s_ref08_End_0 a)) || (!(s_ref08_End_0 b))) || (!(s_ref02_Within_0 c d 4787326403894837248))
  · exact .inr rfl
  · exact .inl rfl
theorem about_same {a b c d p q : Nat} (hc : CF c) (hd : CF d) (hp : CF p) (hq : CF q) : s_mass_About_0 a b c d p q = s_ref08_About_0 a b c d p q ∧ s_mass_About_1 a b c d p q = s_ref08_About_1 a b c d p q := by
  unfold s_mass_About_0 s_ref08_About_0 s_mass_About_1 s_ref08_About_1
  rw [check_same hc hd, within_same hp hq]
  refine ⟨rfl, ?_⟩
  rcases check_two a b c d with h | h <;> rw [h] <;> rfl
theorem over_same (a : Nat) : s_mass_over_0 a = s_ref08_over_0 a := by
  unfold s_mass_over_0 s_ref08_over_0 s_num_Finite_float64__0
  cases feq (fsub (fdiv 4607182418800017408 a) (fdiv 4607182418800017408 a)) 0 <;> rfl
theorem still_same {a b c d : Nat} (hc : CF c) (hd : CF d) : s_mass_Still_0 a b c d = s_ref08_Still_0 a b c d ∧ s_mass_Still_1 a b c d = s_ref08_Still_1 a b c d ∧ s_mass_Still_2 a b c d = s_ref08_Still_2 a b c d := by
  unfold s_mass_Still_0 s_ref08_Still_0 s_mass_Still_1 s_ref08_Still_1 s_mass_Still_2 s_ref08_Still_2
  rw [check_same hc hd, over_same, over_same]
  refine ⟨rfl, rfl, ?_⟩
  rcases check_two a b c d with h | h <;> rw [h] <;> rfl
theorem is_same (a : Nat) : s_ref02_Is_0 a a = true := by unfold s_ref02_Is_0; exact ieq_self _
theorem law_MassOnes (a b c d p q : Nat) (hm : GoodAs ([.f, .f, .f, .f] : List Kd) [AV.float a, AV.float b, AV.float c, AV.float d] 0) (hp : GoodAs ([.f, .f] : List Kd) [AV.float p, AV.float q] 0) : T_law08_MassOnes a b c d p q = true := by
  simp only [GoodAs, GoodA, atL, flO, List.getD_cons_zero, List.getD_cons_succ] at hm hp
  obtain ⟨_, _, cc, cd, _⟩ := hm
  obtain ⟨cp, cq, _⟩ := hp
  obtain ⟨h1, h2⟩ := about_same (a := a) (b := b) cc cd cp cq
  obtain ⟨h3, h4, h5⟩ := still_same (a := a) (b := b) cc cd
  unfold T_law08_MassOnes
  rw [check_same cc cd, h1, h2, h3, h4, h5, show s_law08_alive_0 = true from rfl, ieq_self, ieq_self, ieq_self, is_same, is_same, is_same]
  rfl
end Go.Proofs.Ytbkogihigehjlaa
