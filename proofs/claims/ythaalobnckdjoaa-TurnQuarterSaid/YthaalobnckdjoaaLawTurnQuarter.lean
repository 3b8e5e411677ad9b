/- TurnQuarter: behind a turn a quarter exchanges its parts. -/
import Derived.Test.YthaalobnckdjoaaLawTurnEasy
set_option linter.unusedVariables false
namespace Go.Proofs.Ythaalobnckdjoaa
open Go.Sim
theorem check_fin {r i : Nat} (h : s_turn_Check_0 r i = 0) : fin r = true ∧ fin i = true := by
  have k1 : -9218868437227405312 < key 4607182418800009216 := by decide
  have k2 : key 4607182418800021504 < 9218868437227405312 := by decide
  unfold s_turn_Check_0 at h
  cases h1 : fle 4607182418800009216 (s_turn_square_0 r i)
  · rw [h1] at h; cases h
  · cases h2 : fle (s_turn_square_0 r i) 4607182418800021504
    · rw [h1, h2] at h; cases h
    · have f := fin_between h1 h2 k1 k2
      obtain ⟨f1, f2⟩ := fin_add f
      exact ⟨(fin_mul f1).1, (fin_mul f2).1⟩
theorem q0 {r i : Nat} {m n : Int} (cr : CF r) (ci : CF i) (hr : V r m) (hi : V i n) : V (s_turn_Then_0 r i 0 4607182418800017408) (-n) :=
  V.sub (CF.mul _ _).lt hr.mul_zero hi.mul_one (hi.neg ci.lt) (by omega)
theorem q1 {r i : Nat} {m n : Int} (cr : CF r) (ci : CF i) (hr : V r m) (hi : V i n) : V (s_turn_Then_1 r i 0 4607182418800017408) m :=
  V.add hr.mul_one hi.mul_zero hr (by omega)
theorem o0 {r i : Nat} {m n : Int} (cr : CF r) (ci : CF i) (hr : V r m) (hi : V i n) : V (s_turn_Then_0 r i 4607182418800017408 0) m :=
  V.sub (CF.mul _ _).lt hr.mul_one hi.mul_zero hr (by omega)
theorem o1 {r i : Nat} {m n : Int} (cr : CF r) (ci : CF i) (hr : V r m) (hi : V i n) : V (s_turn_Then_1 r i 4607182418800017408 0) n :=
  V.add hr.mul_zero hi.mul_one hi (by omega)
theorem h0 {r i : Nat} {m n : Int} (cr : CF r) (ci : CF i) (hr : V r m) (hi : V i n) : V (s_turn_Then_0 r i 13830554455654793216 0) (-m) :=
  V.sub (CF.mul _ _).lt hr.mul_neg_one hi.mul_zero (hr.neg cr.lt) (by omega)
theorem h1 {r i : Nat} {m n : Int} (cr : CF r) (ci : CF i) (hr : V r m) (hi : V i n) : V (s_turn_Then_1 r i 13830554455654793216 0) (-n) :=
  V.add hr.mul_zero hi.mul_neg_one (hi.neg ci.lt) (by omega)
theorem n0 {r i : Nat} {m n : Int} (cr : CF r) (ci : CF i) (hr : V r m) (hi : V i n) : V (s_turn_Then_0 r i 9223372036854775808 13830554455654793216) n :=
  V.sub (CF.mul _ _).lt hr.mul_nought hi.mul_neg_one hi (by omega)
theorem n1 {r i : Nat} {m n : Int} (cr : CF r) (ci : CF i) (hr : V r m) (hi : V i n) : V (s_turn_Then_1 r i 9223372036854775808 13830554455654793216) (-m) :=
  V.add hr.mul_neg_one hi.mul_nought (hr.neg cr.lt) (by omega)
theorem a0 {r i : Nat} {m n : Int} (cr : CF r) (ci : CF i) (hr : V r m) (hi : V i n) : V (s_turn_Apply_0 0 4607182418800017408 r i) (-n) :=
  V.sub (CF.mul _ _).lt hr.zero_mul hi.one_mul (hi.neg ci.lt) (by omega)
theorem a1 {r i : Nat} {m n : Int} (cr : CF r) (ci : CF i) (hr : V r m) (hi : V i n) : V (s_turn_Apply_1 0 4607182418800017408 r i) m :=
  V.add hr.one_mul hi.zero_mul hr (by omega)
theorem fin_abs {a : Nat} (ca : CF a) (h : fle (fabs a) 5958262307011166208 = true) : fin a = true := by
  have k : key 5958262307011166208 < 9218868437227405312 := by decide
  have nm : nanb 5958262307011166208 = false := by decide
  cases na : nanb a
  · rw [fle_key (by rw [nanb_fabs]; exact na) nm, key_fabs na] at h
    simp only [decide_eq_true_eq] at h
    rw [fin_iff]; omega
  · rw [fle_nan (.inl (by rw [nanb_fabs]; exact na))] at h; cases h
theorem law_TurnQuarter (p0 p1 w0 w1 : Nat) (g0 : p0 < 18446744073709551616) (g1 : p1 < 18446744073709551616) (k0 : w0 < 18446744073709551616) (k1 : w1 < 18446744073709551616) :
    T_law03_TurnQuarter p0 p1 w0 w1 = some (.bool true, []) := by
  have e : ∀ x : Nat, (Int.ofNat x).toNat = x := fun x => rfl
  unfold T_law03_TurnQuarter
  simp only [u64ok_of g0, u64ok_of g1, u64ok_of k0, u64ok_of k1, cond_true, e]
  have cr := CF.cn g0; have ci := CF.cn g1; have cx := CF.cn k0; have cy := CF.cn k1
  generalize cn p0 = r at *
  generalize cn p1 = i at *
  generalize cn w0 = x at *
  generalize cn w1 = y at *
  by_cases hc : s_turn_Check_0 r i = 0
  · obtain ⟨fr, fi⟩ := check_fin hc
    have hr := V.self fr
    have hi := V.self fi
    have hq0 := q0 cr ci hr hi
    have hq1 := q1 cr ci hr hi
    have cq0 : CF (s_turn_Then_0 r i 0 4607182418800017408) := CF.sub _ _
    have cq1 : CF (s_turn_Then_1 r i 0 4607182418800017408) := CF.add _ _
    have z0 := q0 cq0 cq1 hq0 hq1
    have z1 := q1 cq0 cq1 hq0 hq1
    have y0 := n0 cq0 cq1 hq0 hq1
    have y1 := n1 cq0 cq1 hq0 hq1
    have cz0 : CF (s_turn_Then_0 (s_turn_Then_0 r i 0 4607182418800017408) (s_turn_Then_1 r i 0 4607182418800017408) 0 4607182418800017408) := CF.sub _ _
    have cz1 : CF (s_turn_Then_1 (s_turn_Then_0 r i 0 4607182418800017408) (s_turn_Then_1 r i 0 4607182418800017408) 0 4607182418800017408) := CF.add _ _
    have u0 := h0 cz0 cz1 z0 z1
    have u1 := h1 cz0 cz1 z0 z1
    have t0 := o0 cr ci hr hi
    have t1 := o1 cr ci hr hi
    rw [hc, V.feq_of hq0 (hi.neg ci.lt), V.feq_of hq1 hr, V.feq_of t0 hr, V.feq_of t1 hi, V.feq_of u0 (by simpa using y0), V.feq_of u1 (by simpa using y1)]
    rw [V.feq_of u0 (by simpa using hr), V.feq_of u1 (by simpa using hi)]
    cases f1 : fle (fabs x) 5958262307011166208
    · rfl
    · cases f2 : fle (fabs y) 5958262307011166208
      · rfl
      · have hx := V.self (fin_abs cx f1)
        have hy := V.self (fin_abs cy f2)
        have b0 := a0 cx cy hx hy
        have b1 := a1 cx cy hx hy
        rw [V.feq_of b0 (hy.neg cy.lt), V.feq_of b1 hx]; rfl
  · have : ieq (s_turn_Check_0 r i) 0 = false := by simp [ieq, hc]
    rw [this]; rfl
end Go.Proofs.Ythaalobnckdjoaa
