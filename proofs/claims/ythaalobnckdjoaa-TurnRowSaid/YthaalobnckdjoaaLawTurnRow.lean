/- TurnRow: the row of turns is a row. -/
import Derived.Test.YthaalobnckdjoaaLawTurnEasy
set_option linter.unusedVariables false
namespace Go.Proofs.Ythaalobnckdjoaa
open Go.Sim
theorem lex_range (a b c a' b' c' : Int) : lex a b c a' b' c' = -1 ∨ lex a b c a' b' c' = 0 ∨ lex a b c a' b' c' = 1 := by
  unfold lex; repeat' split
  all_goals omega
theorem lex_swap (a b c a' b' c' : Int) : lex a' b' c' a b c = -lex a b c a' b' c' := by
  unfold lex; repeat' split
  all_goals omega
theorem lex_self (a b c : Int) : lex a b c a b c = 0 := by unfold lex; simp
theorem lex_neg (a b c a' b' c' : Int) : lex a b c a' b' c' ≤ 0 ↔ (a < a' ∨ (a = a' ∧ (b < b' ∨ (b = b' ∧ c ≤ c')))) := by
  unfold lex; repeat' split
  all_goals omega
theorem lex_pos (a b c a' b' c' : Int) : 0 ≤ lex a b c a' b' c' ↔ (a' < a ∨ (a = a' ∧ (b' < b ∨ (b = b' ∧ c' ≤ c)))) := by
  unfold lex; repeat' split
  all_goals omega
theorem law_TurnRow (a0 a1 b0 b1 c0 c1 : Nat) (h0 : a0 < 18446744073709551616) (h1 : a1 < 18446744073709551616) (k0 : b0 < 18446744073709551616) (k1 : b1 < 18446744073709551616)
    (l0 : c0 < 18446744073709551616) (l1 : c1 < 18446744073709551616) :
    T_law03_TurnRow a0 a1 b0 b1 c0 c1 = some (.bool true, []) := by
  have e : ∀ x : Nat, (Int.ofNat x).toNat = x := fun x => rfl
  unfold T_law03_TurnRow
  simp only [u64ok_of h0, u64ok_of h1, u64ok_of k0, u64ok_of k1, u64ok_of l0, u64ok_of l1, cond_true, e]
  have hx0 := CF.cn h0; have hx1 := CF.cn h1; have hy0 := CF.cn k0; have hy1 := CF.cn k1
  generalize cn a0 = x0 at *
  generalize cn a1 = x1 at *
  generalize cn b0 = y0 at *
  generalize cn b1 = y1 at *
  generalize cn c0 = z0 at *
  generalize cn c1 = z1 at *
  have o1 : s_turn_Order_0 x0 x1 x0 x1 = 0 := by rw [order_lex, lex_self]
  have o2 : s_turn_Order_0 y0 y1 x0 x1 = -s_turn_Order_0 x0 x1 y0 y1 := by rw [order_lex, order_lex, lex_swap]
  have r1 : s_turn_Order_0 x0 x1 y0 y1 = -1 ∨ s_turn_Order_0 x0 x1 y0 y1 = 0 ∨ s_turn_Order_0 x0 x1 y0 y1 = 1 := by rw [order_lex]; exact lex_range ..
  have r2 : s_turn_Order_0 y0 y1 z0 z1 = -1 ∨ s_turn_Order_0 y0 y1 z0 z1 = 0 ∨ s_turn_Order_0 y0 y1 z0 z1 = 1 := by rw [order_lex]; exact lex_range ..
  have r3 : s_turn_Order_0 x0 x1 z0 z1 = -1 ∨ s_turn_Order_0 x0 x1 z0 z1 = 0 ∨ s_turn_Order_0 x0 x1 z0 z1 = 1 := by rw [order_lex]; exact lex_range ..
  have t1 : s_turn_Order_0 x0 x1 y0 y1 ≤ 0 → s_turn_Order_0 y0 y1 z0 z1 ≤ 0 → s_turn_Order_0 x0 x1 z0 z1 ≤ 0 := by
    rw [order_lex, order_lex, order_lex, lex_neg, lex_neg, lex_neg]; omega
  have t2 : 0 ≤ s_turn_Order_0 x0 x1 y0 y1 → 0 ≤ s_turn_Order_0 y0 y1 z0 z1 → 0 ≤ s_turn_Order_0 x0 x1 z0 z1 := by
    rw [order_lex, order_lex, order_lex, lex_pos, lex_pos, lex_pos]; omega
  have hs : s_turn_Same_0 x0 x1 y0 y1 = true → s_turn_Order_0 x0 x1 y0 y1 = 0 := by
    intro h
    rw [turn_same hx0 hx1 hy0 hy1] at h
    simp only [Bool.and_eq_true, decide_eq_true_eq] at h
    rw [← h.1, ← h.2]; exact o1
  have w : IntKind.i64.wrap (0 - s_turn_Order_0 x0 x1 y0 y1) = -s_turn_Order_0 x0 x1 y0 y1 := wrap_sign _ r1
  rw [w, o1, o2]
  generalize s_turn_Order_0 x0 x1 y0 y1 = X at *
  generalize s_turn_Order_0 y0 y1 z0 z1 = Y at *
  generalize s_turn_Order_0 x0 x1 z0 z1 = Z at *
  generalize s_turn_Same_0 x0 x1 y0 y1 = S at *
  have hS : S = true → X = 0 := hs
  rcases r1 with rfl | rfl | rfl <;> rcases r2 with rfl | rfl | rfl <;> rcases r3 with rfl | rfl | rfl <;>
    first
      | exact absurd (t1 (by decide) (by decide)) (by decide)
      | exact absurd (t2 (by decide) (by decide)) (by decide)
      | (cases S <;> first | rfl | exact absurd (hS rfl) (by decide))
end Go.Proofs.Ythaalobnckdjoaa
