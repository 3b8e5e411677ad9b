/- BoxSets: boxes are sets of places. -/
import Derived.Test.YtbbopbelaamlaaaLawBoxEasy
set_option linter.unusedVariables false
set_option linter.unusedSimpArgs false
namespace Go.Proofs.Ytbbopbelaamlaaa
open Go.Sim
theorem finite_eq {x : Nat} (h : CF x) : s_num_Finite_float64__0 x = fin x := by
  unfold s_num_Finite_float64__0
  cases hf : fin x
  · cases he : feq (fsub x x) 0
    · rfl
    · rw [end_sub he] at hf; cases hf
  · exact V.feq_of (V.sub h.lt (V.self hf) (V.self hf) V.zero (by omega)) V.zero
theorem check_ok {a b c d : Nat} (ca : CF a) (cb : CF b) (cc : CF c) (cd : CF d) : ieq (s_box_Check_0 a b c d) 0 = (fin a && fin b && fin c && fin d && decide (key a ≤ key c) && decide (key b ≤ key d)) := by
  unfold s_box_Check_0 s_vec_Finite_0
  rw [finite_eq ca, finite_eq cb, finite_eq cc, finite_eq cd]
  cases fa : fin a
  · rfl
  cases fb : fin b
  · rfl
  cases fc : fin c
  · rfl
  cases fd : fin d
  · rfl
  rw [flt_key (fin_not_nan fc) (fin_not_nan fa), flt_key (fin_not_nan fd) (fin_not_nan fb)]
  by_cases h1 : key c < key a
  · have : ¬ key a ≤ key c := by omega
    simp [h1, this, ieq]
  · have : key a ≤ key c := by omega
    by_cases h2 : key d < key b
    · have h3 : ¬ key b ≤ key d := by omega
      simp [h1, h2, h3, ieq]
    · have h3 : key b ≤ key d := by omega
      simp [h1, h2, h3, this, ieq]
theorem place_inj {a b : Nat} (ha : a < 18446744073709551616) (hb : b < 18446744073709551616) (h : s_ref01_place_0 a = s_ref01_place_0 b) : a = b := by
  rw [place_eq ha, place_eq hb] at h
  have wa := word_eq ha
  have wb := word_eq hb
  by_cases h1 : 9223372036854775808 ≤ a <;> by_cases h2 : 9223372036854775808 ≤ b <;> simp only [h1, h2, if_true, if_false] at h wa wb <;> omega
/-- The place is the key, or one below. -/
theorem place_le {a b : Nat} (ha : a < 18446744073709551616) (hb : b < 18446744073709551616) (h : s_ref01_place_0 a ≤ s_ref01_place_0 b) : key a ≤ key b := by
  rw [place_eq ha, place_eq hb] at h
  rw [key_place ha, key_place hb]
  by_cases h1 : 9223372036854775808 ≤ a <;> by_cases h2 : 9223372036854775808 ≤ b <;> simp only [h1, h2, if_true, if_false] at h ⊢ <;> omega
noncomputable abbrev LE (a b : Nat) : Nat := s_num_Least_float64__0 a b
noncomputable abbrev MO (a b : Nat) : Nat := s_num_Most_float64__0 a b
theorem le_form {a b : Nat} (ca : CF a) (cb : CF b) (fa : fin a = true) (fb : fin b = true) : LE a b = if s_ref01_place_0 a ≤ s_ref01_place_0 b then a else b := by
  unfold LE
  rw [least_eq ca cb]; unfold s_ref01_Least_0
  rw [fin_not_nan fa, fin_not_nan fb]
  unfold ile
  by_cases h : s_ref01_place_0 a ≤ s_ref01_place_0 b <;> simp [h]
theorem mo_form {a b : Nat} (ca : CF a) (cb : CF b) (fa : fin a = true) (fb : fin b = true) : MO a b = if s_ref01_place_0 b ≤ s_ref01_place_0 a then a else b := by
  unfold MO
  rw [most_eq ca cb]; unfold s_ref01_Most_0
  rw [fin_not_nan fa, fin_not_nan fb]
  unfold ile
  by_cases h : s_ref01_place_0 b ≤ s_ref01_place_0 a <;> simp [h]
theorem le_comm' {a b : Nat} (ca : CF a) (cb : CF b) (fa : fin a = true) (fb : fin b = true) : LE a b = LE b a := by
  rw [le_form ca cb fa fb, le_form cb ca fb fa]
  split <;> split
  · exact place_inj ca.lt cb.lt (by omega)
  · rfl
  · rfl
  · omega
theorem mo_comm' {a b : Nat} (ca : CF a) (cb : CF b) (fa : fin a = true) (fb : fin b = true) : MO a b = MO b a := by
  rw [mo_form ca cb fa fb, mo_form cb ca fb fa]
  split <;> split
  · exact place_inj ca.lt cb.lt (by omega)
  · rfl
  · rfl
  · omega
theorem le_key {a b : Nat} (ca : CF a) (cb : CF b) (fa : fin a = true) (fb : fin b = true) : (key (LE a b) ≤ key a ∧ key (LE a b) ≤ key b ∧ (key (LE a b) = key a ∨ key (LE a b) = key b)) ∧ fin (LE a b) = true ∧ CF (LE a b) := by
  rw [le_form ca cb fa fb]
  split
  · rename_i h; have := place_le ca.lt cb.lt h; exact ⟨by omega, fa, ca⟩
  · rename_i h; have := place_le (a := b) (b := a) cb.lt ca.lt (by omega); exact ⟨by omega, fb, cb⟩
theorem mo_key {a b : Nat} (ca : CF a) (cb : CF b) (fa : fin a = true) (fb : fin b = true) : (key a ≤ key (MO a b) ∧ key b ≤ key (MO a b) ∧ (key (MO a b) = key a ∨ key (MO a b) = key b)) ∧ fin (MO a b) = true ∧ CF (MO a b) := by
  rw [mo_form ca cb fa fb]
  split
  · rename_i h; have := place_le (a := b) (b := a) cb.lt ca.lt h; exact ⟨by omega, fa, ca⟩
  · rename_i h; have := place_le (a := a) (b := b) ca.lt cb.lt (by omega); exact ⟨by omega, fb, cb⟩
theorem fleF {a b : Nat} (fa : fin a = true) (fb : fin b = true) : fle a b = decide (key a ≤ key b) := fle_key (fin_not_nan fa) (fin_not_nan fb)
theorem feqF {a b : Nat} (fa : fin a = true) (fb : fin b = true) : feq a b = decide (key a = key b) := feq_key (fin_not_nan fa) (fin_not_nan fb)
theorem beq_prop (a b : Bool) : ((a == b) = true) = ((a = true) ↔ (b = true)) := by cases a <;> cases b <;> simp
theorem law_BoxSets (a b c d e f g k x y : Nat) (ca : CF a) (cb : CF b) (cc : CF c) (cd : CF d) (ce : CF e) (cf : CF f) (cg : CF g) (ck : CF k) (cx : CF x) (cy : CF y) : T_law05_BoxSets a b c d e f g k x y = true := by
  unfold T_law05_BoxSets
  simp only []
  rw [check_ok ca cb cc cd, check_ok ce cf cg ck]
  by_cases h1 : (fin a && fin b && fin c && fin d && decide (key a ≤ key c) && decide (key b ≤ key d)) = true
  · by_cases h2 : (fin e && fin f && fin g && fin k && decide (key e ≤ key g) && decide (key f ≤ key k)) = true
    · rw [h1, h2]
      simp only [Bool.and_eq_true, decide_eq_true_eq] at h1 h2
      obtain ⟨⟨⟨⟨⟨fa, fb⟩, fc⟩, fd⟩, k1⟩, k2⟩ := h1
      obtain ⟨⟨⟨⟨⟨fe, ff⟩, fg⟩, fk⟩, k3⟩, k4⟩ := h2
      obtain ⟨L1, F1, C1⟩ := le_key ca ce fa fe
      obtain ⟨L2, F2, C2⟩ := le_key cb cf fb ff
      obtain ⟨L3, F3, C3⟩ := mo_key cc cg fc fg
      obtain ⟨L4, F4, C4⟩ := mo_key cd ck fd fk
      obtain ⟨L5, F5, C5⟩ := mo_key ca ce fa fe
      obtain ⟨L6, F6, C6⟩ := mo_key cb cf fb ff
      obtain ⟨L7, F7, C7⟩ := le_key cc cg fc fg
      obtain ⟨L8, F8, C8⟩ := le_key cd ck fd fk
      have over : s_box_Over_0 a b c d e f g k = (decide (key a ≤ key g) && decide (key b ≤ key k) && (decide (key e ≤ key c) && decide (key f ≤ key d))) := by
        unfold s_box_Over_0 s_box_below_0; rw [fleF fa fg, fleF fb fk, fleF fe fc, fleF ff fd]
      have over' : s_box_Over_0 e f g k a b c d = s_box_Over_0 a b c d e f g k := by
        rw [over]; unfold s_box_Over_0 s_box_below_0; rw [fleF fa fg, fleF fb fk, fleF fe fc, fleF ff fd]
        generalize decide (key a ≤ key g) = q1
        generalize decide (key b ≤ key k) = q2
        generalize decide (key e ≤ key c) = q3
        generalize decide (key f ≤ key d) = q4
        cases q1 <;> cases q2 <;> cases q3 <;> cases q4 <;> rfl
      have j0 : s_box_Join_0 a b c d e f g k = LE a e := rfl
      have j1 : s_box_Join_1 a b c d e f g k = LE b f := rfl
      have j2 : s_box_Join_2 a b c d e f g k = MO c g := rfl
      have j3 : s_box_Join_3 a b c d e f g k = MO d k := rfl
      have j0' : s_box_Join_0 e f g k a b c d = LE a e := (le_comm' ca ce fa fe).symm
      have j1' : s_box_Join_1 e f g k a b c d = LE b f := (le_comm' cb cf fb ff).symm
      have j2' : s_box_Join_2 e f g k a b c d = MO c g := (mo_comm' cc cg fc fg).symm
      have j3' : s_box_Join_3 e f g k a b c d = MO d k := (mo_comm' cd ck fd fk).symm
      have m4 : s_box_Meet_4 a b c d e f g k = s_box_Over_0 a b c d e f g k := by unfold s_box_Meet_4; cases s_box_Over_0 a b c d e f g k <;> rfl
      have m4' : s_box_Meet_4 e f g k a b c d = s_box_Over_0 a b c d e f g k := by unfold s_box_Meet_4; rw [over']; cases s_box_Over_0 a b c d e f g k <;> rfl
      have m0' : s_box_Meet_0 e f g k a b c d = s_box_Meet_0 a b c d e f g k := by unfold s_box_Meet_0; rw [over', show s_box_most_0 e f a b = s_box_most_0 a b e f from (mo_comm' ca ce fa fe).symm]
      have m1' : s_box_Meet_1 e f g k a b c d = s_box_Meet_1 a b c d e f g k := by unfold s_box_Meet_1; rw [over', show s_box_most_1 e f a b = s_box_most_1 a b e f from (mo_comm' cb cf fb ff).symm]
      have m2' : s_box_Meet_2 e f g k a b c d = s_box_Meet_2 a b c d e f g k := by unfold s_box_Meet_2; rw [over', show s_box_least_0 g k c d = s_box_least_0 c d g k from (le_comm' cc cg fc fg).symm]
      have m3' : s_box_Meet_3 e f g k a b c d = s_box_Meet_3 a b c d e f g k := by unfold s_box_Meet_3; rw [over', show s_box_least_1 g k c d = s_box_least_1 c d g k from (le_comm' cd ck fd fk).symm]
      rw [j0', j1', j2', j3', m0', m1', m2', m3', m4', over', j0, j1, j2, j3, m4, same_of rfl rfl rfl rfl, same_of rfl rfl rfl rfl, check_ok C1 C2 C3 C4, F1, F2, F3, F4]
      have nk : ∀ u v, fin u = true → fle u v = (decide (key u ≤ key v) && !nanb v) := fun u v hu => by
        cases nv : nanb v
        · rw [fle_key (fin_not_nan hu) nv]; simp
        · rw [fle_nan (.inr nv)]; simp
      have kn : ∀ u v, fin v = true → fle u v = (decide (key u ≤ key v) && !nanb u) := fun u v hv => by
        cases nu : nanb u
        · rw [fle_key nu (fin_not_nan hv)]; simp
        · rw [fle_nan (.inl nu)]; simp
      have has : ∀ p q r s, fin p = true → fin q = true → fin r = true → fin s = true → s_box_Has_0 p q r s x y = (decide (key p ≤ key x) && !nanb x && (decide (key q ≤ key y) && !nanb y) && (decide (key x ≤ key r) && !nanb x && (decide (key y ≤ key s) && !nanb y))) := by
        intro p q r s hp hq hr hs
        unfold s_box_Has_0 s_box_below_0
        rw [nk p x hp, nk q y hq, kn x r hr, kn y s hs]
      have hasF : ∀ p q r s u v, fin p = true → fin q = true → fin r = true → fin s = true → fin u = true → fin v = true → s_box_Has_0 p q r s u v = (decide (key p ≤ key u) && decide (key q ≤ key v) && (decide (key u ≤ key r) && decide (key v ≤ key s))) := by
        intro p q r s u v hp hq hr hs hu hv
        unfold s_box_Has_0 s_box_below_0
        rw [fleF hp hu, fleF hq hv, fleF hu hr, fleF hv hs]
      have inF : ∀ p q r s u v w z, fin p = true → fin q = true → fin r = true → fin s = true → fin u = true → fin v = true → fin w = true → fin z = true → s_box_In_0 p q r s u v w z = (decide (key u ≤ key p) && decide (key v ≤ key q) && (decide (key r ≤ key w) && decide (key s ≤ key z))) := by
        intro p q r s u v w z hp hq hr hs hu hv hw hz
        unfold s_box_In_0 s_box_below_0
        rw [fleF hu hp, fleF hv hq, fleF hr hw, fleF hs hz]
      rw [inF a b c d _ _ _ _ fa fb fc fd F1 F2 F3 F4, inF e f g k _ _ _ _ fe ff fg fk F1 F2 F3 F4, inF a b c d a b c d fa fb fc fd fa fb fc fd,
        has a b c d fa fb fc fd, has e f g k fe ff fg fk, has _ _ _ _ F1 F2 F3 F4, hasF e f g k a b fe ff fg fk fa fb, hasF e f g k c d fe ff fg fk fc fd, hasF e f g k a d fe ff fg fk fa fd, inF a b c d e f g k fa fb fc fd fe ff fg fk, feqF F1 fa, feqF F1 fe, feqF F4 fd, feqF F4 fk]
      cases ho : s_box_Over_0 a b c d e f g k
      · rw [over] at ho
        clear over over' m0' m1' m2' m3' m4' m4 j0 j1 j2 j3 j0' j1' j2' j3' nk kn has hasF inF
        generalize key (LE a e) = l1 at *
        generalize key (LE b f) = l2 at *
        generalize key (MO c g) = l3 at *
        generalize key (MO d k) = l4 at *
        simp only [Bool.and_eq_false_iff, decide_eq_false_iff_not] at ho
        cases nx : nanb x <;> cases ny : nanb y <;> simp [-beq_iff_eq, beq_prop] <;> omega
      · have m0 : s_box_Meet_0 a b c d e f g k = MO a e := by unfold s_box_Meet_0; rw [ho]; rfl
        have m1 : s_box_Meet_1 a b c d e f g k = MO b f := by unfold s_box_Meet_1; rw [ho]; rfl
        have m2 : s_box_Meet_2 a b c d e f g k = LE c g := by unfold s_box_Meet_2; rw [ho]; rfl
        have m3 : s_box_Meet_3 a b c d e f g k = LE d k := by unfold s_box_Meet_3; rw [ho]; rfl
        rw [m0, m1, m2, m3, check_ok C5 C6 C7 C8, F5, F6, F7, F8, inF _ _ _ _ a b c d F5 F6 F7 F8 fa fb fc fd, inF _ _ _ _ e f g k F5 F6 F7 F8 fe ff fg fk, hasF a b c d _ _ fa fb fc fd F5 F6, hasF e f g k _ _ fe ff fg fk F5 F6, hasF a b c d _ _ fa fb fc fd F7 F8, hasF e f g k _ _ fe ff fg fk F7 F8, has _ _ _ _ F5 F6 F7 F8]
        rw [over] at ho
        clear over over' m0' m1' m2' m3' m4' m4 j0 j1 j2 j3 j0' j1' j2' j3' nk kn has hasF inF m0 m1 m2 m3
        generalize key (LE a e) = l1 at *
        generalize key (LE b f) = l2 at *
        generalize key (MO c g) = l3 at *
        generalize key (MO d k) = l4 at *
        generalize key (MO a e) = l5 at *
        generalize key (MO b f) = l6 at *
        generalize key (LE c g) = l7 at *
        generalize key (LE d k) = l8 at *
        simp only [Bool.and_eq_true, decide_eq_true_eq] at ho
        cases nx : nanb x <;> cases ny : nanb y <;> simp [-beq_iff_eq, beq_prop] <;> omega
    · have h2' : (fin e && fin f && fin g && fin k && decide (key e ≤ key g) && decide (key f ≤ key k)) = false := by simpa using h2
      rw [h2']; simp
  · have h1' : (fin a && fin b && fin c && fin d && decide (key a ≤ key c) && decide (key b ≤ key d)) = false := by simpa using h1
    rw [h1']; simp
end Go.Proofs.Ytbbopbelaamlaaa
