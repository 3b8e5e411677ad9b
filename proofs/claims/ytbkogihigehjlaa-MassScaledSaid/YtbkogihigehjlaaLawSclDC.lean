/- Shapes that may be, what is known of their numbers; what they weigh, so many times as great. -/
import Derived.Test.YtbkogihigehjlaaLawSclCC
set_option linter.unusedVariables false
set_option linter.unusedSimpArgs false
set_option maxHeartbeats 4000000
set_option exponentiation.threshold 3000
namespace Go.Proofs.Ytbkogihigehjlaa
open Go.Sim Go.Lst Ieee
theorem bif_self (c : Int) : (bif !(ieq c 0) then c else 0) = c := by
  cases h : ieq c 0
  · rfl
  · simp only [Bool.not_true, cond_false]
    have : c = 0 := by simpa [ieq] using h
    exact this.symm
theorem ieq_int (a b : Int) : ieq a b = decide (a = b) := rfl
theorem ilt_int (a b : Int) : ilt a b = decide (a < b) := rfl
theorem ile_int (a b : Int) : ile a b = decide (a ≤ b) := rfl
/-- What a shape may be. -/
inductive Sh (k : Int) (r n : Nat) (f g : Nat → Nat) : Prop where
  | circ (hk : k = 1) (hn : n = 1) (hw : s_vec_Within_0 (f 0) (g 0) 4787326403894837248 = true) (hr : s_shape_length_0 r = true)
  | caps (hk : k = 2) (hn : n = 2) (hw : s_vec_Within_0 (f 0) (g 0) 4787326403894837248 = true) (hv : s_vec_Within_0 (f 1) (g 1) 4787326403894837248 = true) (hr : s_shape_length_0 r = true)
  | poly (hk : k = 3) (h3 : 3 ≤ n) (h8 : n ≤ 8) (hi : InS n f g) (hg : ∀ m, m < n → GoodS n f g m)
theorem shape_ok {n : Nat} {f g : Nat → Nat} {k : Int} {r : Nat} (k0 : 0 ≤ k) (k1 : k ≤ 255) : o_shape_Check k r n f g = true ∧ (ieq (s_shape_Check_0 k r n f g) 0 = false ∨ Sh k r n f g) := by
  by_cases h1 : k = 1 ∧ n = 1
  · obtain ⟨rfl, rfl⟩ := h1
    have e1 : s_shape_Check_0 1 r 1 f g = s__shape_circle__check_0 (f 0) (g 0) r := by
      unfold s_shape_Check_0
      exact bif_self _
    refine ⟨by unfold o_shape_Check; simp [ieq, ilt, ile, mrg_same, mrgB_eq, Nat.blt], ?_⟩
    rw [e1]
    unfold s__shape_circle__check_0
    cases a : s_vec_Within_0 (f 0) (g 0) 4787326403894837248
    · exact .inl rfl
    · cases b : s_shape_length_0 r
      · exact .inl rfl
      · exact .inr (.circ rfl rfl a b)
  by_cases h2 : k = 2 ∧ n = 2
  · obtain ⟨rfl, rfl⟩ := h2
    have e1 : s_shape_Check_0 2 r 2 f g = s__shape_capsule__check_0 (f 0) (g 0) (f 1) (g 1) r := by
      unfold s_shape_Check_0
      exact bif_self _
    refine ⟨by unfold o_shape_Check; simp [ieq, ilt, ile, mrg_same, mrgB_eq, Nat.blt], ?_⟩
    rw [e1]
    unfold s__shape_capsule__check_0
    cases a : s_vec_Within_0 (f 0) (g 0) 4787326403894837248
    · exact .inl rfl
    · cases b : s_vec_Within_0 (f 1) (g 1) 4787326403894837248
      · exact .inl rfl
      · cases c : s_shape_length_0 r
        · exact .inl rfl
        · exact .inr (.caps rfl rfl a b c)
  have n1 : ieq (Int.ofNat n) 1 = decide (n = 1) := ieq_nat n 1
  have n2 : ieq (Int.ofNat n) 2 = decide (n = 2) := ieq_nat n 2
  have c1 : (ieq k 1 && ieq (Int.ofNat n) 1) = false := by
    rw [n1, ieq_int]
    by_cases a : k = 1 <;> by_cases b : n = 1 <;> simp [a, b] <;> exact h1 ⟨a, b⟩
  have c2 : (ieq k 2 && ieq (Int.ofNat n) 2) = false := by
    rw [n2, ieq_int]
    by_cases a : k = 2 <;> by_cases b : n = 2 <;> simp [a, b] <;> exact h2 ⟨a, b⟩
  by_cases h3 : k = 3 ∧ 3 ≤ n ∧ n ≤ 8 ∧ feq r 0 = true
  · obtain ⟨rfl, a3, a8, hr⟩ := h3
    have l3 : ile (3 : Int) (Int.ofNat n) = true := ile_true (by simp only [Int.ofNat_eq_natCast]; omega)
    have l4 : ile (Int.ofNat n) 8 = true := ile_true (by simp only [Int.ofNat_eq_natCast]; omega)
    have a1 : ieq (3 : Int) 1 = false := rfl
    have a2 : ieq (3 : Int) 2 = false := rfl
    have b1 : ilt (3 : Int) 1 = false := rfl
    have b2 : ilt (3 : Int) 3 = false := rfl
    have a4 : ieq (3 : Int) 3 = true := rfl
    obtain ⟨co, cc⟩ := check_ok (f := f) (g := g) (show n ≤ 64 by omega) a3
    have e1 : s_shape_Check_0 3 r n f g = s_poly_Check_0 n f g := by
      unfold s_shape_Check_0
      simp only [a1, a2, a4, b1, b2, l3, l4, hr, Bool.false_and, Bool.and_true, Bool.or_true, Bool.or_false, Bool.false_or, Bool.not_true, cond_true, cond_false]
      exact bif_self _
    refine ⟨?_, ?_⟩
    · unfold o_shape_Check
      simp only [a1, a2, a4, b1, b2, l3, l4, hr, Bool.false_and, Bool.and_true, Bool.or_true, Bool.or_false, Bool.false_or, mrg_same]
      unfold o__shape_polygon__check
      rw [co]
      simp [mrgB_eq, ieq]
    · rw [e1]
      rcases cc with ⟨c, d, e⟩ | ⟨c, _⟩ | ⟨c, _⟩
      · exact .inr (.poly rfl a3 a8 d e)
      · rw [c]; exact .inl rfl
      · rw [c]; exact .inl rfl
  have c3 : (((ieq k 3 && ile 3 (Int.ofNat n)) && ile (Int.ofNat n) 8) && feq r 0) = false := by
    rw [ieq_int, ile_int, ile_int]
    by_cases a : k = 3
    · by_cases b : 3 ≤ n
      · by_cases c : n ≤ 8
        · cases d : feq r 0
          · simp
          · exact absurd ⟨a, b, c, d⟩ h3
        · simp; omega
      · simp; omega
    · simp [a]
  by_cases hk : k < 1 ∨ 3 < k
  · have x : (ilt k 1 || ilt 3 k) = true := by rw [ilt_int, ilt_int]; simpa using hk
    refine ⟨?_, .inl ?_⟩
    · unfold o_shape_Check
      simp only [c1, c2, c3, x, Bool.true_or, cond_true, cond_false, mrgB_eq]
      rfl
    · unfold s_shape_Check_0
      simp only [c1, c2, c3, x, Bool.true_or, cond_true, cond_false]
      rfl
  · have x : (ilt k 1 || ilt 3 k) = false := by rw [ilt_int, ilt_int]; simp; omega
    refine ⟨?_, .inl ?_⟩
    · unfold o_shape_Check
      simp only [c1, c2, c3, x, Bool.false_or, cond_true, cond_false, mrgB_eq]
      rfl
    · unfold s_shape_Check_0
      simp only [c1, c2, c3, x, Bool.false_or, cond_true, cond_false]
      rfl
theorem of_o {n : Nat} {f g : Nat → Nat} {k : Int} {r d : Nat} (k0 : 0 ≤ k) (k1 : k ≤ 255) : o_mass_Of k r n f g d = true := by
  obtain ⟨so, sh⟩ := shape_ok (n := n) (f := f) (g := g) (r := r) k0 k1
  unfold o_mass_Of
  rw [so]
  simp only [mrg_same, Bool.and_true]
  rcases sh with h | h
  · rw [h]; simp only [Bool.not_false, mrgB_eq, cond_true]
  · cases h with
    | circ hk hn _ _ => subst hk; subst hn; simp only [mrgB_eq, show ieq (1 : Int) 1 = true from rfl, cond_true, show Nat.blt 0 1 = true from rfl, Bool.cond_self]
    | caps hk hn _ _ _ => subst hk; subst hn; simp only [mrgB_eq, show ieq (2 : Int) 1 = false from rfl, show ieq (2 : Int) 2 = true from rfl, cond_true, cond_false, show Nat.blt 0 2 = true from rfl, show Nat.blt 1 2 = true from rfl, Bool.and_self, Bool.cond_self]
    | poly hk h3 h8 _ _ => subst hk; rw [opoly (show n ≤ 64 by omega) h3]; simp only [mrgB_eq, show ieq (3 : Int) 1 = false from rfl, show ieq (3 : Int) 2 = false from rfl, cond_false, Bool.cond_self]
/-- What is weighed where it may be. -/
theorem of_parts {k : Int} {r n d : Nat} {f g : Nat → Nat} (k0 : 0 ≤ k) (k1 : k ≤ 255) (h : ieq (s_mass_Of_4 k r n f g d) 0 = true) : Sh k r n f g ∧ s_num_Within_float64__0 d 4787326403894837248 = true ∧ flt d 0 = false ∧
    ∃ a b c e, s_mass_Of_0 k r n f g d = a ∧ s_mass_Of_1 k r n f g d = b ∧ s_mass_Of_2 k r n f g d = c ∧ s_mass_Of_3 k r n f g d = e ∧ s_vec_Within_0 c e 4787326403894837248 = true ∧
      ((k = 1 ∧ a = s_mass_circle_0 k r n f g d ∧ b = s_mass_circle_1 k r n f g d ∧ c = s_mass_circle_2 k r n f g d ∧ e = s_mass_circle_3 k r n f g d) ∨
       (k = 2 ∧ a = s_mass_capsule_0 k r n f g d ∧ b = s_mass_capsule_1 k r n f g d ∧ c = s_mass_capsule_2 k r n f g d ∧ e = s_mass_capsule_3 k r n f g d) ∨
       (k = 3 ∧ ieq (s_mass_polygon_4 k r n f g d) 0 = true ∧ a = s_mass_polygon_0 k r n f g d ∧ b = s_mass_polygon_1 k r n f g d ∧ c = s_mass_polygon_2 k r n f g d ∧ e = s_mass_polygon_3 k r n f g d)) := by
  obtain ⟨_, sh⟩ := shape_ok (n := n) (f := f) (g := g) (r := r) k0 k1
  have i5 : ieq (5 : Int) 0 = false := rfl
  have i80 : ieq (80 : Int) 0 = false := rfl
  have zz : ieq (0 : Int) 0 = true := rfl
  unfold s_mass_Of_4 at h
  dsimp only at h
  rcases sh with hs | hs
  · rw [hs] at h; simp only [Bool.not_false, cond_true] at h; rw [hs] at h; cases h
  · cases hz : ieq (s_shape_Check_0 k r n f g) 0
    · rw [hz] at h; simp only [Bool.not_false, cond_true] at h; rw [hz] at h; cases h
    rw [hz] at h
    simp only [Bool.not_true, cond_false] at h
    cases hw : s_num_Within_float64__0 d 4787326403894837248
    · rw [hw] at h; simp only [Bool.not_false, Bool.true_or, cond_true, i5] at h; cases h
    cases hl : flt d 0
    case true => rw [hw, hl] at h; simp only [Bool.not_true, Bool.or_true, cond_true, i5] at h; cases h
    rw [hw, hl] at h
    simp only [Bool.not_true, Bool.or_self, cond_false] at h
    refine ⟨hs, rfl, rfl, ?_⟩
    have ck : ∀ {a b c e : Nat}, ieq (s_mass_checked_4 a b c e) 0 = true → s_mass_checked_0 a b c e = a ∧ s_mass_checked_1 a b c e = b ∧ s_mass_checked_2 a b c e = c ∧ s_mass_checked_3 a b c e = e ∧ s_vec_Within_0 c e 4787326403894837248 = true := by
      intro a b c e h
      have h0 : ieq (s_mass_Check_0 a b c e) 0 = true := by
        unfold s_mass_checked_4 at h
        cases hh : ieq (s_mass_Check_0 a b c e) 0
        · rw [hh] at h; simp only [Bool.not_false, cond_true] at h; rw [hh] at h; cases h
        · rfl
      unfold s_mass_checked_0 s_mass_checked_1 s_mass_checked_2 s_mass_checked_3
      rw [h0]
      refine ⟨rfl, rfl, rfl, rfl, ?_⟩
      unfold s_mass_Check_0 at h0
      cases hv : s_vec_Within_0 c e 4787326403894837248
      · rw [hv] at h0; simp only [Bool.not_false, Bool.or_true, cond_true, i80] at h0; cases h0
      · rfl
    unfold s_mass_Of_0 s_mass_Of_1 s_mass_Of_2 s_mass_Of_3
    rw [hz, hw, hl]
    simp only [Bool.not_true, Bool.or_self, cond_false]
    have hk : k = 1 ∨ k = 2 ∨ k = 3 := by cases hs with
      | circ hk _ _ _ => exact .inl hk
      | caps hk _ _ _ _ => exact .inr (.inl hk)
      | poly hk _ _ _ _ => exact .inr (.inr hk)
    rcases hk with hk | hk | hk
    · have e1 : ieq k 1 = true := by rw [hk]; rfl
      rw [e1] at h ⊢
      simp only [cond_true, zz, Bool.not_true, cond_false] at h ⊢
      obtain ⟨a, b, c, e, w⟩ := ck h
      exact ⟨_, _, _, _, a, b, c, e, w, .inl ⟨hk, rfl, rfl, rfl, rfl⟩⟩
    · have e1 : ieq k 1 = false := by rw [hk]; rfl
      have e2 : ieq k 2 = true := by rw [hk]; rfl
      rw [e1, e2] at h ⊢
      simp only [cond_true, zz, Bool.not_true, cond_false] at h ⊢
      obtain ⟨a, b, c, e, w⟩ := ck h
      exact ⟨_, _, _, _, a, b, c, e, w, .inr (.inl ⟨hk, rfl, rfl, rfl, rfl⟩)⟩
    · have e1 : ieq k 1 = false := by rw [hk]; rfl
      have e2 : ieq k 2 = false := by rw [hk]; rfl
      rw [e1, e2] at h ⊢
      simp only [cond_false] at h ⊢
      cases hp : ieq (s_mass_polygon_4 k r n f g d) 0
      · rw [hp] at h; simp only [Bool.not_false, cond_true] at h; rw [hp] at h; cases h
      rw [hp] at h
      simp only [Bool.not_true, cond_false] at h ⊢
      obtain ⟨a, b, c, e, w⟩ := ck h
      exact ⟨_, _, _, _, a, b, c, e, w, .inr (.inr ⟨hk, trivial, rfl, rfl, rfl, rfl⟩)⟩
end Go.Proofs.Ytbkogihigehjlaa
