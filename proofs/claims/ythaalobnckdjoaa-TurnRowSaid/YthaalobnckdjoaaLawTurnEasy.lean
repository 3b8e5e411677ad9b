/- The laws of layer 3 that ask for no bound of what is lost. -/
import Derived.Test.YthaalobnckdjoaaLawNum
import Derived.Test.YthaalobnckdjoaaSimVal
set_option linter.unusedVariables false
set_option linter.unusedSimpArgs false
namespace Go.Proofs.Ythaalobnckdjoaa
open Go.Sim
theorem fsame_self (a : Nat) : fsame a a = true := by unfold fsame; cases nanb a <;> simp
theorem sameVec_self (a b : Nat) : s_ref03_SameVec_0 a b a b = true := by unfold s_ref03_SameVec_0; rw [fsame_self, fsame_self]; rfl
theorem sameTurn_self (a b : Nat) : s_ref03_Same_0 a b a b = true := by unfold s_ref03_Same_0; rw [fsame_self, fsame_self]; rfl
theorem fsame_eq {a b : Nat} (ha : CF a) (hb : CF b) : fsame a b = decide (a = b) := by
  unfold fsame
  cases na : nanb a
  · rfl
  · have h1 := ha.nan na
    cases nb : nanb b
    · have : ¬ a = b := fun e => by rw [← e, na] at nb; cases nb
      simp [this]
    · have h2 := hb.nan nb
      simp [h1, h2]
theorem law_TurnWay (a0 a1 b0 b1 : Nat) (h0 : a0 < 18446744073709551616) (h1 : a1 < 18446744073709551616) (k0 : b0 < 18446744073709551616) (k1 : b1 < 18446744073709551616) :
    T_law03_TurnWay a0 a1 b0 b1 = some (.bool true, []) := by
  unfold T_law03_TurnWay
  exact bif_true (u64ok_of h0) (bif_true (u64ok_of h1) (bif_true (u64ok_of k0) (bif_true (u64ok_of k1) (bif_true (sameVec_self ..) (end_true (sameVec_self ..))))))
theorem side_cases (r i : Nat) : (s_turn_side_0 r i = 2 ∧ (nanb r = true ∨ nanb i = true)) ∨ (nanb r = false ∧ nanb i = false ∧ s_turn_side_0 r i = if 0 < key i ∨ (key i = 0 ∧ 0 ≤ key r) then 0 else 1) := by
  unfold s_turn_side_0
  rw [feq_self, feq_self]
  cases nr : nanb r
  · cases ni : nanb i
    · right
      refine ⟨rfl, rfl, ?_⟩
      rw [flt_key nanb_zero ni, feq_key ni nanb_zero, fle_key nanb_zero nr, key_0]
      by_cases h1 : 0 < key i
      · simp [h1]
      · by_cases h2 : key i = 0
        · by_cases h3 : 0 ≤ key r <;> simp [h2, h3]
        · simp [h1, h2]
    · left; exact ⟨rfl, .inr rfl⟩
  · left; exact ⟨rfl, .inl rfl⟩
def lex (a b c a' b' c' : Int) : Int := if a < a' then -1 else if a' < a then 1 else if b < b' then -1 else if b' < b then 1 else if c < c' then -1 else if c' < c then 1 else 0
noncomputable def k2 (r i : Nat) : Int := if s_turn_side_0 r i = 2 then 0 else if s_turn_side_0 r i = 0 then -key r else key r
noncomputable def k3 (r i : Nat) : Int := if s_turn_side_0 r i = 2 then 0 else key i
theorem order_lex (r i r' i' : Nat) : s_turn_Order_0 r i r' i' = lex (s_turn_side_0 r i) (k2 r i) (k3 r i) (s_turn_side_0 r' i') (k2 r' i') (k3 r' i') := by
  have hs := side_cases r i
  have ht := side_cases r' i'
  unfold s_turn_Order_0 lex k2 k3
  generalize s_turn_side_0 r i = s at *
  generalize s_turn_side_0 r' i' = t at *
  unfold ilt ieq
  by_cases h1 : s < t
  · simp [h1]
  · by_cases h2 : t < s
    · simp [h1, h2]
    · have e : s = t := by omega
      subst e
      by_cases h3 : s = 2
      · subst h3; simp
      · rcases hs with ⟨e1, _⟩ | ⟨n1, n2, e1⟩
        · exact absurd e1 h3
        · rcases ht with ⟨e2, _⟩ | ⟨n3, n4, e2⟩
          · exact absurd e2 h3
          · rw [feq_key n1 n3, feq_key n2 n4, flt_key n2 n4, flt_key n3 n1]
            have h01 : s = 0 ∨ s = 1 := by rw [e1]; split <;> simp
            rcases h01 with hs0 | hs1
            · subst hs0
              simp only [Int.lt_irrefl, decide_false, cond_false, if_false, if_true, decide_true]
              by_cases q1 : key r = key r' <;> by_cases q2 : key i = key i' <;> by_cases q3 : key i < key i' <;> by_cases q4 : key r' < key r <;> simp [q1, q2, q3, q4] <;> omega
            · subst hs1
              simp only [Int.lt_irrefl, decide_false, cond_false, if_false, if_true, decide_true]
              by_cases q1 : key r = key r' <;> by_cases q2 : key i = key i' <;> by_cases q3 : key i < key i' <;> by_cases q4 : key r' < key r <;> simp [q1, q2, q3, q4] <;> omega
theorem k_word : ∀ s t : Int, (s = 0 ∨ s = 1 ∨ s = 2) → (t = 0 ∨ t = 1 ∨ t = 2) → s ≠ t → s_ref03_sign_0 (FloatKind.f64.nearest s) (FloatKind.f64.nearest t) = if s < t then -1 else 1 := by
  intro s t hs ht hne
  rcases hs with rfl | rfl | rfl <;> rcases ht with rfl | rfl | rfl <;> first | exact absurd rfl hne | decide
theorem side_range (r i : Nat) : s_turn_side_0 r i = 0 ∨ s_turn_side_0 r i = 1 ∨ s_turn_side_0 r i = 2 := by
  rcases side_cases r i with ⟨h, _⟩ | ⟨_, _, h⟩
  · omega
  · rw [h]; split <;> simp
theorem sign_key {a b : Nat} (ha : nanb a = false) (hb : nanb b = false) : s_ref03_sign_0 a b = if key a < key b then -1 else if key b < key a then 1 else 0 := by
  unfold s_ref03_sign_0
  rw [flt_key ha hb, flt_key hb ha]
  by_cases h1 : key a < key b <;> by_cases h2 : key b < key a <;> simp [h1, h2]
theorem wrap_sign (s : Int) (h : s = -1 ∨ s = 0 ∨ s = 1) : IntKind.i64.wrap (0 - s) = -s := by rcases h with rfl | rfl | rfl <;> decide
theorem ref_order_lex (r i r' i' : Nat) : s_ref03_Order_0 r i r' i' = lex (s_turn_side_0 r i) (k2 r i) (k3 r i) (s_turn_side_0 r' i') (k2 r' i') (k3 r' i') := by
  have hs := side_cases r i
  have ht := side_cases r' i'
  have ws := k_word _ _ (side_range r i) (side_range r' i')
  show (bif !ieq (s_turn_side_0 r i) (s_turn_side_0 r' i') then s_ref03_sign_0 (FloatKind.f64.nearest (s_turn_side_0 r i)) (FloatKind.f64.nearest (s_turn_side_0 r' i')) else bif ieq (s_turn_side_0 r i) 2 then 0 else bif ieq (s_turn_side_0 r i) 0 then bif !ieq (IntKind.i64.wrap (0 - s_ref03_sign_0 r r')) 0 then IntKind.i64.wrap (0 - s_ref03_sign_0 r r') else s_ref03_sign_0 i i' else bif !ieq (s_ref03_sign_0 r r') 0 then s_ref03_sign_0 r r' else s_ref03_sign_0 i i') = _
  unfold lex k2 k3
  generalize s_turn_side_0 r i = s at *
  generalize s_turn_side_0 r' i' = t at *
  by_cases e : s = t
  · subst e
    have : ieq s s = true := by simp [ieq]
    rw [this]
    by_cases h3 : s = 2
    · subst h3; simp [ieq]
    · rcases hs with ⟨e1, _⟩ | ⟨n1, n2, e1⟩
      · exact absurd e1 h3
      · rcases ht with ⟨e2, _⟩ | ⟨n3, n4, e2⟩
        · exact absurd e2 h3
        · have hr : s_ref03_sign_0 r r' = -1 ∨ s_ref03_sign_0 r r' = 0 ∨ s_ref03_sign_0 r r' = 1 := by
            rw [sign_key n1 n3]; by_cases q1 : key r < key r' <;> by_cases q2 : key r' < key r <;> simp [q1, q2]
          rw [wrap_sign _ hr, sign_key n1 n3, sign_key n2 n4]
          have h01 : s = 0 ∨ s = 1 := by rw [e1]; split <;> simp
          rcases h01 with hs0 | hs1
          · subst hs0
            simp only [Int.lt_irrefl, if_false, if_true, ieq]
            by_cases q1 : key r < key r' <;> by_cases q2 : key r' < key r <;> by_cases q3 : key i < key i' <;> by_cases q4 : key i' < key i <;> simp [q1, q2, q3, q4] <;> omega
          · subst hs1
            simp only [Int.lt_irrefl, if_false, if_true, ieq]
            by_cases q1 : key r < key r' <;> by_cases q2 : key r' < key r <;> by_cases q3 : key i < key i' <;> by_cases q4 : key i' < key i <;> simp [q1, q2, q3, q4] <;> omega
  · have : ieq s t = false := by simp [ieq, e]
    rw [this]
    simp only [Bool.not_false, cond_true]
    rw [ws e]
    by_cases h1 : s < t
    · simp [h1]
    · have : t < s := by omega
      simp [h1, this]
theorem turn_same {r i r' i' : Nat} (h1 : CF r) (h2 : CF i) (h3 : CF r') (h4 : CF i') : s_turn_Same_0 r i r' i' = (decide (r = r') && decide (i = i')) := by
  unfold s_turn_Same_0; rw [num_same h1 h3, num_same h2 h4]
theorem law_TurnTwo (a0 a1 b0 b1 : Nat) (h0 : a0 < 18446744073709551616) (h1 : a1 < 18446744073709551616) (k0 : b0 < 18446744073709551616) (k1 : b1 < 18446744073709551616) :
    T_law03_TurnTwo a0 a1 b0 b1 = some (.bool true, []) := by
  unfold T_law03_TurnTwo
  refine bif_true (u64ok_of h0) (bif_true (u64ok_of h1) (bif_true (u64ok_of k0) (bif_true (u64ok_of k1) (bif_true (sameTurn_self ..) (bif_true ?_ (bif_true ?_ (end_true (fsame_self _))))))))
  · rw [order_lex, ref_order_lex]; simp [ieq]
  · have c0 := CF.cn h0; have c1 := CF.cn h1; have d0 := CF.cn k0; have d1 := CF.cn k1
    have e : ∀ x : Nat, (Int.ofNat x).toNat = x := fun x => rfl
    rw [e, e, e, e, turn_same c0 c1 d0 d1]
    unfold s_ref03_Same_0
    rw [fsame_eq c0 d0, fsame_eq c1 d1]; exact beq_self_eq_true _
end Go.Proofs.Ythaalobnckdjoaa
