/- The laws of layer 2 that hold bit by bit. -/
import Derived.Test.YtjikamcdcjaibaaFns
import Derived.Test.YtjikamcdcjaibaaSimValues
set_option linter.unusedVariables false
namespace Go.Proofs.Ytjikamcdcjaibaa
open Go.Sim
theorem ieq_self (a : Int) : ieq a a = true := by simp [ieq]
theorem ieq_nat (a b : Nat) : ieq (a : Int) (b : Int) = decide (a = b) := by
  unfold ieq; by_cases h : a = b
  · subst h; simp
  · have : ¬ ((a : Int) = (b : Int)) := by omega
    simp [h, this]
theorem bif_true {α : Type} {c : Bool} {x y z : α} (hc : c = true) (hx : x = z) : (bif c then x else y) = z := by rw [hc]; exact hx
theorem end_true {b : Bool} (h : b = true) : endP (AV.bool b) [] = some (.bool true, []) := by rw [h]; rfl
theorem bits_self (a : Nat) : s_ref02_Is_0 a a = true := ieq_self _
theorem one_self (a : Nat) : s_law02_one_0 a a = true := ieq_self _
theorem one_of {a b : Nat} (h : a = b) : s_law02_one_0 a b = true := by rw [h]; exact one_self b
theorem is_self (a b : Nat) : s_law02_is_0 a b a b = true := by
  unfold s_law02_is_0 s_ref02_Same_0; rw [bits_self, bits_self]; rfl
theorem is_of {a b c d : Nat} (h : a = c) (k : b = d) : s_law02_is_0 a b c d = true := by rw [h, k]; exact is_self c d
theorem ref_bits {a : Nat} (h : CF a) : s_ref02_Bits_0 a = (a : Int) := by
  unfold s_ref02_Bits_0; rw [feq_self]
  cases hn : nanb a
  · rfl
  · rw [h.nan hn]; rfl
theorem ref_is {a b : Nat} (ha : CF a) (hb : CF b) : s_ref02_Is_0 a b = decide (a = b) := by
  unfold s_ref02_Is_0; rw [ref_bits ha, ref_bits hb, ieq_nat]
theorem minus_zero : s_num_minus_float64__0 0 = false := by decide
theorem minus_nought : s_num_minus_float64__0 9223372036854775808 = true := by decide
theorem num_same {a b : Nat} (ha : CF a) (hb : CF b) : s_num_Same_float64__0 a b = decide (a = b) := by
  unfold s_num_Same_float64__0 s_num_none_float64__0
  rw [feq_self, feq_self]
  cases na : nanb a
  · cases nb : nanb b
    · by_cases za : feq a 0 = true
      · rw [za]
        by_cases zb : feq b 0 = true
        · rw [zb]
          rcases (feq_zero ha.lt na).1 za with rfl | rfl <;> rcases (feq_zero hb.lt nb).1 zb with rfl | rfl <;> simp [minus_zero, minus_nought]
        · have zb' : feq b 0 = false := by simpa using zb
          rw [zb']
          have : feq a b = false := by
            rw [feq_key na nb]
            have h1 := (feq_zero ha.lt na).1 za
            have h2 : key b ≠ 0 := fun h => zb ((feq_zero hb.lt nb).2 ((key_zero hb.lt).1 h))
            have h3 := (key_zero ha.lt).2 h1
            simp; omega
          rw [this]
          have : a ≠ b := fun h => zb (h ▸ za)
          simp [this]
      · have za' : feq a 0 = false := by simpa using za
        rw [za']
        have h2 : key a ≠ 0 := fun h => za ((feq_zero ha.lt na).2 ((key_zero ha.lt).1 h))
        rw [feq_key na nb]
        by_cases hk : key a = key b
        · have := key_inj ha.lt hb.lt hk h2
          simp [this]
        · have : a ≠ b := fun h => hk (by rw [h])
          simp [hk, this]
    · have h1 := hb.nan nb
      have : a ≠ b := fun h => by rw [h, nb] at na; cases na
      rw [feq_nan (a := b) (.inl nb), feq_nan (a := a) (b := b) (.inr nb)]
      cases feq a 0 <;> simp [this]
  · have h1 := ha.nan na
    cases nb : nanb b
    · have : a ≠ b := fun h => by rw [← h, na] at nb; cases nb
      rw [feq_nan (a := a) (.inl na), feq_nan (a := a) (b := b) (.inl na)]
      simp [this]
    · have h2 := hb.nan nb
      rw [feq_nan (a := a) (.inl na), feq_nan (a := a) (b := b) (.inl na)]
      simp [h1, h2]
theorem vec_same {a b c d : Nat} (ha : CF a) (hb : CF b) (hc : CF c) (hd : CF d) : s_vec_Same_0 a b c d = (decide (a = c) && decide (b = d)) := by
  unfold s_vec_Same_0 s_vec_both_0
  rw [num_same ha hc, num_same hb hd]
  unfold s_num_Bits_0 s_num_none_float64__0
  simp only [feq_self]
  by_cases h1 : (feq a c && (feq b d && true)) = true
  · rw [h1]
    simp only [Bool.and_eq_true] at h1
    obtain ⟨g1, g2, _⟩ := h1
    have n1 : nanb a = false := by cases h : nanb a with | false => rfl | true => rw [feq_nan (.inl h)] at g1; cases g1
    have n2 : nanb c = false := by cases h : nanb c with | false => rfl | true => rw [feq_nan (.inr h)] at g1; cases g1
    have n3 : nanb b = false := by cases h : nanb b with | false => rfl | true => rw [feq_nan (.inl h)] at g2; cases g2
    have n4 : nanb d = false := by cases h : nanb d with | false => rfl | true => rw [feq_nan (.inr h)] at g2; cases g2
    rw [n1, n2, n3, n4]
    simp only [Bool.not_not, Bool.not_false, Bool.not_true, cond_false, cond_true, ieq_nat]
    by_cases e1 : a = c <;> by_cases e2 : b = d <;> simp [e1, e2]
  · have h1' : (feq a c && (feq b d && true)) = false := by simpa using h1
    rw [h1']; rfl
theorem law_VecProducts (a b c d : Nat) (ha : CF a) (hb : CF b) (hc : CF c) (hd : CF d) : T_law02_VecProducts a b c d = some (.bool true, []) := by
  unfold T_law02_VecProducts
  repeat' first
    | exact end_true (one_self _)
    | refine bif_true (one_self _) ?_
theorem within_abs {a m : Nat} (ha : CF a) (hm : CF m) : s_num_Within_float64__0 a m = fle (fabs a) m := by
  unfold s_num_Within_float64__0
  cases na : nanb a
  · cases nm : nanb m
    · rw [fle_key (by rw [nanb_fneg hm.lt]; exact nm) na, fle_key na nm, fle_key (by rw [nanb_fabs]; exact na) nm, key_fneg hm.lt nm, key_fabs na]
      have := key_abs a
      rw [Bool.eq_iff_iff]; simp; omega
    · rw [fle_nan (a := a) (.inr nm), fle_nan (a := fabs a) (.inr nm), Bool.and_false]
  · rw [fle_nan (b := a) (.inr na), fle_nan (a := fabs a) (.inl (by rw [nanb_fabs]; exact na)), Bool.false_and]
theorem law_VecCompared (a b c d m : Nat) (ha : CF a) (hb : CF b) (hc : CF c) (hd : CF d) (hm : CF m) : T_law02_VecCompared a b c d m = some (.bool true, []) := by
  unfold T_law02_VecCompared
  refine bif_true ?_ (bif_true ?_ (bif_true ?_ (end_true ?_)))
  · rw [vec_same ha hb hc hd]; unfold s_ref02_Same_0; rw [ref_is ha hc, ref_is hb hd]; exact beq_self_eq_true _
  · rw [vec_same ha hb ha hb]; simp
  · exact beq_self_eq_true _
  · unfold s_vec_Within_0 s_ref02_Within_0
    rw [within_abs ha hm, within_abs hb hm]; exact beq_self_eq_true _
theorem law_VecParts (a b c d m : Nat) (ha : CF a) (hb : CF b) (hc : CF c) (hd : CF d) (hm : CF m) : T_law02_VecParts a b c d m = some (.bool true, []) := by
  unfold T_law02_VecParts
  repeat' first
    | refine bif_true (is_self _ _) ?_
  exact end_true (is_of (fdiv_two _).symm (fdiv_two _).symm)
theorem law_VecTurned (a b w : Nat) (ha : CF a) (hb : CF b) (hw : CF w) : T_law02_VecTurned a b w = some (.bool true, []) := by
  have h : fle (s_vec_Length_0 a b) 0 = feq (s_vec_Length_0 a b) 0 := sqrt_le_zero _
  have hl : s_ref02_Length_0 a b = s_vec_Length_0 a b := rfl
  unfold T_law02_VecTurned
  refine bif_true (is_self _ _) (bif_true (is_of ?_ rfl) (bif_true (is_self _ _) (bif_true (is_of ?_ ?_) (end_true ?_))))
  · exact fneg_fneg hb
  · unfold s_vec_Unit_0 s_ref02_Unit_0; rw [hl, h]; rfl
  · unfold s_vec_Unit_1 s_ref02_Unit_1; rw [hl, h]; rfl
  · unfold s_vec_Unit_2 s_ref02_Unit_2; rw [hl, h]; exact beq_self_eq_true _
end Go.Proofs.Ytjikamcdcjaibaa
