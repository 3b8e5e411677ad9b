/- Shapes: what they weigh: the program and its reference agree. -/
import Derived.Test.YtbkogihigehjlaaGreatLawShpGD
set_option linter.unusedVariables false
set_option linter.unusedSimpArgs false
set_option maxHeartbeats 4000000
namespace Go.Proofs.YtbkogihigehjlaaGreat
open Go.Sim Go.Lst Ieee
variable {n : Nat} {f g f' g' : Nat → Nat}
theorem cf_nil : CF 0 := ⟨by decide, fun h => absurd h (by decide)⟩
theorem cf_bif {b : Bool} {x : Nat} (h : CF x) : CF (bif b then 0 else x) := by cases b; exact h; exact cf_nil
theorem dens_same {d : Nat} (cd : CF d) : (!(s_num_Within_float64__0 d 4787326403894837248) || flt d 0) = !(fle 0 d && fle d 4787326403894837248) := by
  unfold s_num_Within_float64__0
  cases nd : nanb d
  · have n1 : nanb (fneg 4787326403894837248) = false := by decide
    have n2 : nanb 4787326403894837248 = false := by decide
    have k1 : key (fneg 4787326403894837248) = -4787326403894837248 := by decide
    have k0 : key 0 = 0 := key_0
    rw [fle_key n1 nd, fle_key nd n2, flt_key nd nanb_zero, fle_key nanb_zero nd, k1, k0]
    by_cases h0 : 0 ≤ key d
    · simp only [decide_eq_true h0, decide_eq_false (show ¬ key d < 0 by omega), decide_eq_true (show (-4787326403894837248 : Int) ≤ key d by omega), Bool.true_and, Bool.or_false]
    · simp only [decide_eq_false h0, decide_eq_true (show key d < 0 by omega), Bool.false_and, Bool.or_true, Bool.not_false]
  · rw [fle_nan (b := d) (.inr nd), fle_nan (a := d) (.inl nd)]; simp
theorem ends_same (a : Nat) : s_mass_weight_0 a = s_ref08_End_0 a := by
  unfold s_mass_weight_0 s_ref08_End_0 s_num_Finite_float64__0
  rw [Bool.and_comm]
theorem mcheck_same {a b c d : Nat} (hc : CF c) (hd : CF d) : s_mass_Check_0 a b c d = s_ref08_Check_0 a b c d := by
  unfold s_mass_Check_0 s_ref08_Check_0
  rw [ends_same, ends_same, within_same hc hd]
/-- A mass, if it may be: both ways. -/
theorem told_same {a b c d a' b' c' d' : Nat} (ha : a = a') (hb : b = b') (hc : c = c') (hd : d = d') (cc : CF c') (cd : CF d') :
    s_mass_checked_0 a b c d = s_ref08_told_0 a' b' c' d' ∧ s_mass_checked_1 a b c d = s_ref08_told_1 a' b' c' d' ∧ s_mass_checked_2 a b c d = s_ref08_told_2 a' b' c' d' ∧ s_mass_checked_3 a b c d = s_ref08_told_3 a' b' c' d' ∧ s_mass_checked_4 a b c d = s_ref08_told_4 a' b' c' d' := by
  subst ha; subst hb; subst hc; subst hd
  unfold s_mass_checked_0 s_mass_checked_1 s_mass_checked_2 s_mass_checked_3 s_mass_checked_4 s_ref08_told_0 s_ref08_told_1 s_ref08_told_2 s_ref08_told_3 s_ref08_told_4
  rw [mcheck_same cc cd]; exact ⟨rfl, rfl, rfl, rfl, rfl⟩
structure OfSame (k : Int) (r n : Nat) (f g f' g' : Nat → Nat) (d : Nat) : Prop where
  e0 : s_mass_Of_0 k r n f' g' d = s_ref08_Of_0 k r n f g d
  e1 : s_mass_Of_1 k r n f' g' d = s_ref08_Of_1 k r n f g d
  e2 : s_mass_Of_2 k r n f' g' d = s_ref08_Of_2 k r n f g d
  e3 : s_mass_Of_3 k r n f' g' d = s_ref08_Of_3 k r n f g d
  e4 : s_mass_Of_4 k r n f' g' d = s_ref08_Of_4 k r n f g d
  op : o_mass_Of k r n f' g' d = true
  or : o_ref08_Of k r n f g d = true
theorem half_two (x : Nat) : fmul x 4602678819172646912 = fdiv x 4611686018427387904 := (fdiv_two x).symm
theorem centre_cf (n : Nat) (f g : Nat → Nat) (k : Int) (r d : Nat) : CF (s_ref08_polygon_2 k r n f g d) ∧ CF (s_ref08_polygon_3 k r n f g d) := by
  unfold s_ref08_polygon_2 s_ref08_polygon_3 s_ref06_Centre_0 s_ref06_Centre_1
  exact ⟨cf_bif (cf_bif (cf_bif (CF.add _ _))), cf_bif (cf_bif (cf_bif (CF.add _ _)))⟩
theorem of_same (t : Two n f g f' g') {k : Int} {r d : Nat} (k0 : 0 ≤ k) (k1 : k ≤ 255) (h100 : n ≤ 1000000) (cd : CF d) : OfSame k r n f g f' g' d := by
  obtain ⟨c, o1, o2, hs⟩ := shape_same t (r := r) k0 k1 h100
  have hd := dens_same cd
  cases hz : ieq (s_ref07_Check_0 k r n f g) 0
  · -- no shape
    have hz' : ieq (s_shape_Check_0 k r n f' g') 0 = false := by rw [c]; exact hz
    refine ⟨?_, ?_, ?_, ?_, ?_, ?_, ?_⟩
    · unfold s_mass_Of_0 s_ref08_Of_0; simp only [hz, hz', Bool.not_false, cond_true]
    · unfold s_mass_Of_1 s_ref08_Of_1; simp only [hz, hz', Bool.not_false, cond_true]
    · unfold s_mass_Of_2 s_ref08_Of_2; simp only [hz, hz', Bool.not_false, cond_true]
    · unfold s_mass_Of_3 s_ref08_Of_3; simp only [hz, hz', Bool.not_false, cond_true]
    · unfold s_mass_Of_4 s_ref08_Of_4; simp only [hz, hz', Bool.not_false, cond_true]; exact c
    · unfold o_mass_Of; simp only [hz', o1, Bool.not_false, mrgB_eq, cond_true]
    · unfold o_ref08_Of; simp only [hz, o2, Bool.not_false, mrgB_eq, cond_true]
  · have hz' : ieq (s_shape_Check_0 k r n f' g') 0 = true := by rw [c]; exact hz
    cases hq : (fle 0 d && fle d 4787326403894837248)
    · -- a density that may not be
      have hq' : (!(s_num_Within_float64__0 d 4787326403894837248) || flt d 0) = true := by rw [hd, hq]; rfl
      refine ⟨?_, ?_, ?_, ?_, ?_, ?_, ?_⟩
      · unfold s_mass_Of_0 s_ref08_Of_0; simp only [hz, hz', hq, hq', Bool.not_false, Bool.not_true, cond_true, cond_false]
      · unfold s_mass_Of_1 s_ref08_Of_1; simp only [hz, hz', hq, hq', Bool.not_false, Bool.not_true, cond_true, cond_false]
      · unfold s_mass_Of_2 s_ref08_Of_2; simp only [hz, hz', hq, hq', Bool.not_false, Bool.not_true, cond_true, cond_false]
      · unfold s_mass_Of_3 s_ref08_Of_3; simp only [hz, hz', hq, hq', Bool.not_false, Bool.not_true, cond_true, cond_false]
      · unfold s_mass_Of_4 s_ref08_Of_4; simp only [hz, hz', hq, hq', Bool.not_false, Bool.not_true, cond_true, cond_false]
      · unfold o_mass_Of; simp only [hz', hq', o1, mrg_same, Bool.not_true, mrgB_eq, cond_true, cond_false, Bool.cond_self]
      · unfold o_ref08_Of; simp only [hz, hq, o2, mrg_same, Bool.not_true, Bool.not_false, mrgB_eq, cond_true, cond_false, Bool.cond_self]
    · have hq' : (!(s_num_Within_float64__0 d 4787326403894837248) || flt d 0) = false := by rw [hd, hq]; rfl
      rcases hs with hs | hs
      · rw [hz] at hs; cases hs
      have a11 : ieq (1 : Int) 1 = true := rfl
      have a21 : ieq (2 : Int) 1 = false := rfl
      have a22 : ieq (2 : Int) 2 = true := rfl
      have a31 : ieq (3 : Int) 1 = false := rfl
      have a32 : ieq (3 : Int) 2 = false := rfl
      have a00 : ieq (0 : Int) 0 = true := rfl
      cases hs with
      | circ hk hn =>
        subst hk; subst hn
        obtain ⟨t0, t1, t2, t3, t4⟩ := told_same (a := s_mass_circle_0 1 r 1 f' g' d) (b := s_mass_circle_1 1 r 1 f' g' d) (c := s_mass_circle_2 1 r 1 f' g' d) (d := s_mass_circle_3 1 r 1 f' g' d)
          (a' := s_ref08_circle_0 1 r 1 f g d) (b' := s_ref08_circle_1 1 r 1 f g d) (c' := s_ref08_circle_2 1 r 1 f g d) (d' := s_ref08_circle_3 1 r 1 f g d) rfl rfl (t.ef 0 (by omega)) (t.eg 0 (by omega)) (t.cf 0 (by omega)) (t.cg 0 (by omega))
        refine ⟨?_, ?_, ?_, ?_, ?_, ?_, ?_⟩
        · unfold s_mass_Of_0 s_ref08_Of_0; simp only [hz, hz', hq, hq', a11, a00, Bool.not_false, Bool.not_true, cond_true, cond_false]; exact t0
        · unfold s_mass_Of_1 s_ref08_Of_1; simp only [hz, hz', hq, hq', a11, a00, Bool.not_false, Bool.not_true, cond_true, cond_false]; exact t1
        · unfold s_mass_Of_2 s_ref08_Of_2; simp only [hz, hz', hq, hq', a11, a00, Bool.not_false, Bool.not_true, cond_true, cond_false]; exact t2
        · unfold s_mass_Of_3 s_ref08_Of_3; simp only [hz, hz', hq, hq', a11, a00, Bool.not_false, Bool.not_true, cond_true, cond_false]; exact t3
        · unfold s_mass_Of_4 s_ref08_Of_4; simp only [hz, hz', hq, hq', a11, a00, Bool.not_false, Bool.not_true, cond_true, cond_false]; exact t4
        · unfold o_mass_Of; simp only [hz', hq', o1, a11, a00, mrg_same, Bool.not_true, mrgB_eq, cond_true, cond_false, Bool.cond_self]; rfl
        · unfold o_ref08_Of; simp only [hz, hq, o2, a11, a00, mrg_same, Bool.not_true, Bool.not_false, mrgB_eq, cond_true, cond_false, Bool.cond_self]; rfl
      | caps hk hn =>
        subst hk; subst hn
        have f0 := t.ef 0 (by omega)
        have f1 := t.ef 1 (by omega)
        have g0 := t.eg 0 (by omega)
        have g1 := t.eg 1 (by omega)
        obtain ⟨t0, t1, t2, t3, t4⟩ := told_same (a := s_mass_capsule_0 2 r 2 f' g' d) (b := s_mass_capsule_1 2 r 2 f' g' d) (c := s_mass_capsule_2 2 r 2 f' g' d) (d := s_mass_capsule_3 2 r 2 f' g' d)
          (a' := s_ref08_capsule_0 2 r 2 f g d) (b' := s_ref08_capsule_1 2 r 2 f g d) (c' := s_ref08_capsule_2 2 r 2 f g d) (d' := s_ref08_capsule_3 2 r 2 f g d)
          (by unfold s_mass_capsule_0 s_ref08_capsule_0; rw [f0, f1, g0, g1]; rfl) (by unfold s_mass_capsule_1 s_ref08_capsule_1; rw [f0, f1, g0, g1]; rfl)
          (by unfold s_mass_capsule_2 s_ref08_capsule_2 s_vec_Middle_0 s_ref02_Middle_0 s_vec_Scale_0 s_ref02_Vec_0; rw [f0, f1, g0, g1, half_two]; rfl)
          (by unfold s_mass_capsule_3 s_ref08_capsule_3 s_vec_Middle_1 s_ref02_Middle_1 s_vec_Scale_1 s_ref02_Vec_1; rw [f0, f1, g0, g1, half_two]; rfl)
          (by unfold s_ref08_capsule_2 s_ref02_Middle_0 s_ref02_Vec_0; exact CF.div _ _) (by unfold s_ref08_capsule_3 s_ref02_Middle_1 s_ref02_Vec_1; exact CF.div _ _)
        refine ⟨?_, ?_, ?_, ?_, ?_, ?_, ?_⟩
        · unfold s_mass_Of_0 s_ref08_Of_0; simp only [hz, hz', hq, hq', a21, a22, a00, Bool.not_false, Bool.not_true, cond_true, cond_false]; exact t0
        · unfold s_mass_Of_1 s_ref08_Of_1; simp only [hz, hz', hq, hq', a21, a22, a00, Bool.not_false, Bool.not_true, cond_true, cond_false]; exact t1
        · unfold s_mass_Of_2 s_ref08_Of_2; simp only [hz, hz', hq, hq', a21, a22, a00, Bool.not_false, Bool.not_true, cond_true, cond_false]; exact t2
        · unfold s_mass_Of_3 s_ref08_Of_3; simp only [hz, hz', hq, hq', a21, a22, a00, Bool.not_false, Bool.not_true, cond_true, cond_false]; exact t3
        · unfold s_mass_Of_4 s_ref08_Of_4; simp only [hz, hz', hq, hq', a21, a22, a00, Bool.not_false, Bool.not_true, cond_true, cond_false]; exact t4
        · unfold o_mass_Of; simp only [hz', hq', o1, a21, a22, a00, mrg_same, Bool.not_true, mrgB_eq, cond_true, cond_false, Bool.cond_self]; rfl
        · unfold o_ref08_Of; simp only [hz, hq, o2, a21, a22, a00, mrg_same, Bool.not_true, Bool.not_false, mrgB_eq, cond_true, cond_false, Bool.cond_self]; rfl
      | poly hk h3 h8 hr =>
        subst hk
        have p4 := t.p4 (show n ≤ 64 by omega) h3 3 r d
        obtain ⟨cc2, cc3⟩ := centre_cf n f g 3 r d
        obtain ⟨t0, t1, t2, t3, t4⟩ := told_same (t.p0 (show n ≤ 64 by omega) h3 3 r d) (t.p1 (show n ≤ 64 by omega) h3 3 r d) (t.p2 (show n ≤ 64 by omega) h3 3 r d) (t.p3 (show n ≤ 64 by omega) h3 3 r d) cc2 cc3
        refine ⟨?_, ?_, ?_, ?_, ?_, ?_, ?_⟩
        · unfold s_mass_Of_0 s_ref08_Of_0; simp only [hz, hz', hq, hq', a31, a32, p4, Bool.not_false, Bool.not_true, cond_true, cond_false]; rw [t0]
        · unfold s_mass_Of_1 s_ref08_Of_1; simp only [hz, hz', hq, hq', a31, a32, p4, Bool.not_false, Bool.not_true, cond_true, cond_false]; rw [t1]
        · unfold s_mass_Of_2 s_ref08_Of_2; simp only [hz, hz', hq, hq', a31, a32, p4, Bool.not_false, Bool.not_true, cond_true, cond_false]; rw [t2]
        · unfold s_mass_Of_3 s_ref08_Of_3; simp only [hz, hz', hq, hq', a31, a32, p4, Bool.not_false, Bool.not_true, cond_true, cond_false]; rw [t3]
        · unfold s_mass_Of_4 s_ref08_Of_4; simp only [hz, hz', hq, hq', a31, a32, p4, Bool.not_false, Bool.not_true, cond_true, cond_false]; rw [t4]
        · unfold o_mass_Of; simp only [hz', hq', o1, a31, a32, opoly (show n ≤ 64 by omega) h3, mrg_same, Bool.not_true, Bool.and_self, mrgB_eq, cond_true, cond_false, Bool.cond_self]
        · unfold o_ref08_Of; simp only [hz, hq, o2, a31, a32, orpoly (show n ≤ 64 by omega) h3, mrg_same, Bool.not_true, Bool.not_false, Bool.and_self, mrgB_eq, cond_true, cond_false, Bool.cond_self]
end Go.Proofs.YtbkogihigehjlaaGreat
