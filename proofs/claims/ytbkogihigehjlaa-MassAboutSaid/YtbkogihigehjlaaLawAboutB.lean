/- Masses in both orders: what Join gives, in each case. -/
import Derived.Test.YtbkogihigehjlaaLawAboutA
set_option linter.unusedVariables false
set_option linter.unusedSimpArgs false
set_option maxHeartbeats 4000000
namespace Go.Proofs.Ytbkogihigehjlaa
open Go.Sim Go.Lst
theorem cf0 : CF 0 := ⟨by decide, fun h => absurd h (by decide)⟩
theorem rv_0 : rv 0 = 0 := by
  have h : sval 0 = 0 := by decide
  unfold rv; rw [h, Rat.div_def]; exact Rat.zero_mul _
theorem fin_0 : fin 0 = true := by decide
theorem check_two (a b c d : Nat) : s_mass_Check_0 a b c d = 80 ∨ s_mass_Check_0 a b c d = 0 := by
  unfold s_mass_Check_0
  cases (((!(s_mass_weight_0 a)) || (!(s_mass_weight_0 b))) || (!(s_vec_Within_0 c d 4787326403894837248)))
  · exact .inr rfl
  · exact .inl rfl
theorem rv_max : rv 4787326403894837248 = 1099511627776 := by
  have h : rv 4787326403894837248 = ((1099511627776 : Nat) : Rat) / ((1 : Nat) : Rat) := rv_lit (by decide) (by decide) (by intro d hd; subst hd; decide +kernel)
  have k1 : ((1099511627776 : Nat) : Rat) = 1099511627776 := rfl
  have k2 : ((1 : Nat) : Rat) = 1 := rfl
  rw [h, k1, k2]; grind
theorem within_ok {a : Nat} (h : s_num_Within_float64__0 a 4787326403894837248 = true) : fin a = true ∧ rv (fabs a) ≤ 1099511627776 := by
  unfold s_num_Within_float64__0 at h
  rw [Bool.and_eq_true] at h
  obtain ⟨h1, h2⟩ := h
  have fm : fin 4787326403894837248 = true := by decide
  obtain ⟨e, fn⟩ := rv_neg (show 4787326403894837248 < 18446744073709551616 by decide) fm
  have fa : fin a = true := fin_between h1 h2 (by decide) (by decide)
  rw [rv_le fn fa, decide_eq_true_eq, e, rv_max] at h1
  rw [rv_le fa fm, decide_eq_true_eq, rv_max] at h2
  exact ⟨fa, abs_bound fa h1 h2⟩
theorem weight_ok {a : Nat} (h : s_mass_weight_0 a = true) : fin a = true ∧ 0 ≤ rv a := by
  unfold s_mass_weight_0 s_num_Finite_float64__0 at h
  rw [Bool.and_eq_true] at h
  have fa := end_sub h.1
  have h2 := h.2
  rw [rv_le fin_0 fa, decide_eq_true_eq, rv_0] at h2
  exact ⟨fa, h2⟩
theorem check_ok {a b c d : Nat} (h : s_mass_Check_0 a b c d = 0) : (fin a = true ∧ 0 ≤ rv a) ∧ (fin b = true ∧ 0 ≤ rv b) ∧ (fin c = true ∧ rv (fabs c) ≤ 1099511627776) ∧ (fin d = true ∧ rv (fabs d) ≤ 1099511627776) ∧ s_vec_Within_0 c d 4787326403894837248 = true := by
  unfold s_mass_Check_0 at h
  cases h1 : s_mass_weight_0 a
  · rw [h1] at h; simp at h
  cases h2 : s_mass_weight_0 b
  · rw [h1, h2] at h; simp at h
  cases h3 : s_vec_Within_0 c d 4787326403894837248
  · rw [h1, h2, h3] at h; simp at h
  have h4 := h3
  unfold s_vec_Within_0 at h4
  rw [Bool.and_eq_true] at h4
  exact ⟨weight_ok h1, weight_ok h2, within_ok h4.1, within_ok h4.2, rfl⟩
theorem check_ieq {a b c d : Nat} : ieq (s_mass_Check_0 a b c d) 0 = true → s_mass_Check_0 a b c d = 0 := by
  intro h; simpa [ieq] using h
/-- About a place, of a mass that may be. -/
theorem about_ok {M I c d O P : Nat} (cc : CF c) (cd : CF d) (cO : CF O) (cP : CF P) (h : s_mass_Check_0 M I c d = 0) :
    s_mass_About_1 M I c d c d = 0 ∧ feq (s_mass_About_0 M I c d c d) I = true ∧ s_mass_About_1 M I c d O P = (bif s_vec_Within_0 O P 4787326403894837248 then 0 else 5) ∧ (s_vec_Within_0 O P 4787326403894837248 = true → flt (s_mass_About_0 M I c d O P) (s_mass_About_0 M I c d c d) = false) := by
  obtain ⟨⟨fM, M0⟩, ⟨fI, I0⟩, ⟨fc, bc⟩, ⟨fd, bd⟩, hw⟩ := check_ok h
  have hi : ieq (0 : Int) 0 = true := rfl
  have bg := big_800
  have sz : ∀ {x : Nat}, fin x = true → CF x → V (fsub x x) 0 := fun {x} fx cx => V.sub cx.lt (V.self fx) (V.self fx) V.zero (by omega)
  have mz : ∀ {x : Nat}, V x 0 → V (fmul x x) 0 := fun {x} hx => by
    have r0 : rv x = 0 := (by unfold rv; rw [hx.2, Rat.div_def]; exact Rat.zero_mul _)
    obtain ⟨f, e⟩ := rv_mul_zero hx.1 hx.1 (by rw [r0]; grind)
    exact ⟨f, rv_zero_sval e⟩
  have v1 : V (fadd (fmul (fsub c c) (fsub c c)) (fmul (fsub d d) (fsub d d))) 0 := V.add (mz (sz fc cc)) (mz (sz fd cd)) V.zero (by omega)
  have v2 : V (fmul M (fadd (fmul (fsub c c) (fsub c c)) (fmul (fsub d d) (fsub d d)))) 0 := by
    have r0 : rv (fadd (fmul (fsub c c) (fsub c c)) (fmul (fsub d d) (fsub d d))) = 0 := by unfold rv; rw [v1.2, Rat.div_def]; exact Rat.zero_mul _
    obtain ⟨f, e⟩ := rv_mul_zero fM v1.1 (by rw [r0]; grind)
    exact ⟨f, rv_zero_sval e⟩
  have v3 : V (fadd I (fmul M (fadd (fmul (fsub c c) (fsub c c)) (fmul (fsub d d) (fsub d d))))) (sval I) := V.add (V.self fI) v2 (V.self fI) (by omega)
  have e0 : s_mass_About_0 M I c d c d = fadd I (fmul M (fadd (fmul (fsub c c) (fsub c c)) (fmul (fsub d d) (fsub d d)))) := by
    unfold s_mass_About_0
    rw [h, hw, hi]; rfl
  refine ⟨?_, ?_, ?_, ?_⟩
  · unfold s_mass_About_1; rw [h, hw, hi]; rfl
  · rw [e0]; exact V.feq_of v3 (V.self fI)
  · unfold s_mass_About_1; rw [h, hi]
    cases s_vec_Within_0 O P 4787326403894837248 <;> rfl
  · intro hO
    have e1 : s_mass_About_0 M I c d O P = fadd I (fmul M (fadd (fmul (fsub O c) (fsub O c)) (fmul (fsub P d) (fsub P d)))) := by
      unfold s_mass_About_0
      rw [h, hO, hi]; rfl
    have hO' := hO
    unfold s_vec_Within_0 at hO'
    rw [Bool.and_eq_true] at hO'
    obtain ⟨fO, bO⟩ := within_ok hO'.1
    obtain ⟨fP, bP⟩ := within_ok hO'.2
    obtain ⟨o1, o2, o3⟩ := abs_le fO
    obtain ⟨p1, p2, p3⟩ := abs_le fP
    obtain ⟨c1, c2, c3⟩ := abs_le fc
    obtain ⟨d1, d2, d3⟩ := abs_le fd
    have e9 := eta_900
    have sq : ∀ {x y : Nat}, fin x = true → fin y = true → CF y → rv (fabs x) ≤ 1099511627776 → rv (fabs y) ≤ 1099511627776 → fin (fmul (fsub x y) (fsub x y)) = true ∧ 0 ≤ rv (fmul (fsub x y) (fsub x y)) ∧ rv (fmul (fsub x y) (fsub x y)) ≤ 100000000000000000000000000 := by
      intro x y fx fy cy bx by'
      obtain ⟨x1, x2, x3⟩ := abs_le fx
      obtain ⟨y1, y2, y3⟩ := abs_le fy
      obtain ⟨fs, s1, s2⟩ := rv_sub (B := 2199023255552) cy.lt fx fy (by grind) (by grind) (by grind)
      have sb : rv (fsub x y) ≤ 2200000000000 := by grind
      have sb' : -2200000000000 ≤ rv (fsub x y) := by grind
      have q1 := Rat.mul_nonneg (show 0 ≤ 2200000000000 - rv (fsub x y) by grind) (show 0 ≤ 2200000000000 + rv (fsub x y) by grind)
      have q2 : 0 ≤ rv (fsub x y) * rv (fsub x y) := by
        rcases Rat.le_total (a := 0) (b := rv (fsub x y)) with h' | h'
        · exact Rat.mul_nonneg h' h'
        · have := Rat.mul_nonneg (show 0 ≤ -rv (fsub x y) by grind) (show 0 ≤ -rv (fsub x y) by grind)
          grind
      have q3 : (2200000000000 - rv (fsub x y)) * (2200000000000 + rv (fsub x y)) = 4840000000000000000000000 - rv (fsub x y) * rv (fsub x y) := by grind
      rw [q3] at q1
      obtain ⟨fm, m1, m2⟩ := rv_mul (B := 4840000000000000000000000) fs fs (by grind) (by grind) (by grind)
      refine ⟨fm, ?_, by grind⟩
      have hs := fmul_fin fs fs
      have sg : sgnOf (fmul (fsub x y) (fsub x y)) = false := by rw [hs, sgn_word _ (RN_le _ _)]; simp
      have := rv_sgn fm
      rw [sg] at this; simp only [Bool.false_eq_true, if_false] at this
      rw [this]; exact (abs_le fm).2.2
    obtain ⟨f1, n1, m1⟩ := sq fO fc cc bO bc
    obtain ⟨f2, n2, m2⟩ := sq fP fd cd bP bd
    obtain ⟨f3, a1, a2⟩ := rv_add (B := rv (fmul (fsub O c) (fsub O c)) + rv (fmul (fsub P d) (fsub P d))) f1 f2 (by grind) (by grind) (by grind)
    rw [e1, e0]
    exact not_less fI I0 fM M0 f3 (by grind) v3.1 v3.2
def allS (e0 : Nat → Nat) (n : Nat) : Nat := sumQ e0 (n - 1)
def prdS (e0 e2 : Nat → Nat) (n : Nat) : Nat := sumQ (fun j => fmul (e0 j) (e2 j)) (n - 1)
theorem sumF_Q (F : Nat → Nat) : ∀ k, sumF F k = sumQ F k
  | 0 => rfl
  | k + 1 => by show fadd (sumF F k) (F (k + 1)) = fadd (sumQ F k) (F (k + 1)); rw [sumF_Q F k]
/-- What Join gives. -/
inductive Jn (n : Nat) (e0 e1 e2 e3 : Nat → Nat) : Prop where
  | bad (m : Nat) (h : m < n) (hb : ∀ i, i < m → s_mass_Check_0 (e0 i) (e1 i) (e2 i) (e3 i) = 0) (hm : s_mass_Check_0 (e0 m) (e1 m) (e2 m) (e3 m) = 80) (h4 : s_mass_Join_4 n e0 e1 e2 e3 = 80)
  | nil (h : n = 0) (h0 : s_mass_Join_0 n e0 e1 e2 e3 = 0) (h1 : s_mass_Join_1 n e0 e1 e2 e3 = 0) (h2 : s_mass_Join_2 n e0 e1 e2 e3 = 0) (h3 : s_mass_Join_3 n e0 e1 e2 e3 = 0) (h4 : s_mass_Join_4 n e0 e1 e2 e3 = 0)
  | one (h : n = 1) (hb : s_mass_Check_0 (e0 0) (e1 0) (e2 0) (e3 0) = 0) (h0 : s_mass_Join_0 n e0 e1 e2 e3 = e0 0) (h1 : s_mass_Join_1 n e0 e1 e2 e3 = e1 0) (h2 : s_mass_Join_2 n e0 e1 e2 e3 = e2 0) (h3 : s_mass_Join_3 n e0 e1 e2 e3 = e3 0) (h4 : s_mass_Join_4 n e0 e1 e2 e3 = 0)
  | nought (h : 2 ≤ n) (hb : ∀ i, i < n → s_mass_Check_0 (e0 i) (e1 i) (e2 i) (e3 i) = 0) (ha : feq (allS e0 n) 0 = true) (h0 : s_mass_Join_0 n e0 e1 e2 e3 = 0) (h1 : s_mass_Join_1 n e0 e1 e2 e3 = 0) (h2 : s_mass_Join_2 n e0 e1 e2 e3 = 0) (h3 : s_mass_Join_3 n e0 e1 e2 e3 = 0) (h4 : s_mass_Join_4 n e0 e1 e2 e3 = 0)
  | some (h : 2 ≤ n) (hb : ∀ i, i < n → s_mass_Check_0 (e0 i) (e1 i) (e2 i) (e3 i) = 0) (ha : feq (allS e0 n) 0 = false) (t : Nat) (h0 : s_mass_Join_0 n e0 e1 e2 e3 = s_mass_checked_0 (allS e0 n) t (fdiv (prdS e0 e2 n) (allS e0 n)) (fdiv (prdS e0 e3 n) (allS e0 n))) (h1 : s_mass_Join_1 n e0 e1 e2 e3 = s_mass_checked_1 (allS e0 n) t (fdiv (prdS e0 e2 n) (allS e0 n)) (fdiv (prdS e0 e3 n) (allS e0 n))) (h2 : s_mass_Join_2 n e0 e1 e2 e3 = s_mass_checked_2 (allS e0 n) t (fdiv (prdS e0 e2 n) (allS e0 n)) (fdiv (prdS e0 e3 n) (allS e0 n))) (h3 : s_mass_Join_3 n e0 e1 e2 e3 = s_mass_checked_3 (allS e0 n) t (fdiv (prdS e0 e2 n) (allS e0 n)) (fdiv (prdS e0 e3 n) (allS e0 n))) (h4 : s_mass_Join_4 n e0 e1 e2 e3 = s_mass_checked_4 (allS e0 n) t (fdiv (prdS e0 e2 n) (allS e0 n)) (fdiv (prdS e0 e3 n) (allS e0 n)))
theorem join_ok {n : Nat} {e0 e1 e2 e3 : Nat → Nat} (h64 : n ≤ 64) : o_mass_Join n e0 e1 e2 e3 = true ∧ Jn n e0 e1 e2 e3 := by
  obtain ⟨m, hm, hall, hend⟩ := first_not (p := fun i => ieq (s_mass_Check_0 (e0 i) (e1 i) (e2 i) (e3 i)) 0) n
  obtain ⟨hE, hL⟩ := mass_Join_loop (e0 := e0) (e1 := e1) (e2 := e2) (e3 := e3) (show n ≤ 300 by omega) hm hall hend
  have hbig : ilt (16384 : Int) (Int.ofNat n) = false := ilt_false (by simp; omega)
  have i00 : ieq (0 : Int) 0 = true := rfl
  have i80 : ieq (80 : Int) 0 = false := rfl
  have hg : ∀ i, i < m → s_mass_Check_0 (e0 i) (e1 i) (e2 i) (e3 i) = 0 := fun i hi => check_ieq (hall i hi)
  by_cases hmn : m < n
  · -- a mass that may not be
    have h1 : ieq (s_mass_Check_0 (e0 m) (e1 m) (e2 m) (e3 m)) 0 = false := hend.resolve_left (by omega)
    have h2 : s_mass_Check_0 (e0 m) (e1 m) (e2 m) (e3 m) = 80 := by
      rcases check_two (e0 m) (e1 m) (e2 m) (e3 m) with h | h
      · exact h
      · rw [h] at h1; cases h1
    have hlt : ilt (Int.ofNat m) (Int.ofNat n) = true := by rw [ilt_ofNat]; exact decide_eq_true hmn
    constructor
    · unfold o_mass_Join
      simp only [hE, hL, toNat_of, hbig, hlt, h2, i80, mrgB_eq, Bool.not_true, Bool.not_false, cond_true, cond_false]
    · refine .bad m hmn hg h2 ?_
      unfold s_mass_Join_4
      simp only [hL, toNat_of, hbig, hlt, h2, i80, Bool.not_true, Bool.not_false, cond_true, cond_false]
  · have hmn' : m = n := by omega
    subst hmn'
    have hlt : ilt (Int.ofNat m) (Int.ofNat m) = false := by rw [ilt_ofNat]; simp
    by_cases h0 : m = 0
    · subst h0
      have z0 : ieq (Int.ofNat 0) 0 = true := rfl
      constructor
      · unfold o_mass_Join
        simp only [hE, hL, toNat_of, hbig, hlt, z0, mrgB_eq, Bool.not_true, Bool.not_false, Bool.true_or, cond_true, cond_false]
      · refine .nil rfl ?_ ?_ ?_ ?_ ?_
        · unfold s_mass_Join_0; simp only [hL, toNat_of, hbig, hlt, z0, Bool.not_true, Bool.not_false, Bool.true_or, cond_true, cond_false]
        · unfold s_mass_Join_1; simp only [hL, toNat_of, hbig, hlt, z0, Bool.not_true, Bool.not_false, Bool.true_or, cond_true, cond_false]
        · unfold s_mass_Join_2; simp only [hL, toNat_of, hbig, hlt, z0, Bool.not_true, Bool.not_false, Bool.true_or, cond_true, cond_false]
        · unfold s_mass_Join_3; simp only [hL, toNat_of, hbig, hlt, z0, Bool.not_true, Bool.not_false, Bool.true_or, cond_true, cond_false]
        · unfold s_mass_Join_4; simp only [hL, toNat_of, hbig, hlt, z0, Bool.not_true, Bool.not_false, Bool.true_or, cond_true, cond_false]
    have z0 : ieq (Int.ofNat m) 0 = false := ieq_false (by simp; omega)
    by_cases h1 : m = 1
    · subst h1
      have z1 : ieq (Int.ofNat 1) 1 = true := rfl
      constructor
      · unfold o_mass_Join
        simp only [hE, hL, toNat_of, hbig, hlt, z0, z1, mrgB_eq, Bool.not_true, Bool.not_false, Bool.false_or, cond_true, cond_false, Bool.and_true, show Nat.blt 0 1 = true from rfl]
      · refine .one rfl (hg 0 (by omega)) ?_ ?_ ?_ ?_ ?_
        · unfold s_mass_Join_0; simp only [hL, toNat_of, hbig, hlt, z0, z1, Bool.not_true, Bool.not_false, Bool.false_or, cond_true, cond_false]
        · unfold s_mass_Join_1; simp only [hL, toNat_of, hbig, hlt, z0, z1, Bool.not_true, Bool.not_false, Bool.false_or, cond_true, cond_false]
        · unfold s_mass_Join_2; simp only [hL, toNat_of, hbig, hlt, z0, z1, Bool.not_true, Bool.not_false, Bool.false_or, cond_true, cond_false]
        · unfold s_mass_Join_3; simp only [hL, toNat_of, hbig, hlt, z0, z1, Bool.not_true, Bool.not_false, Bool.false_or, cond_true, cond_false]
        · unfold s_mass_Join_4; simp only [hL, toNat_of, hbig, hlt, z0, z1, Bool.not_true, Bool.not_false, Bool.false_or, cond_true, cond_false]
    have z1 : ieq (Int.ofNat m) 1 = false := ieq_false (by simp; omega)
    obtain ⟨a0, b0⟩ := sum_v0 (e0 := e0) (e1 := e1) (e2 := e2) (e3 := e3) (show 0 < m by omega) (show m ≤ 300 by omega)
    obtain ⟨a1, b1⟩ := sum_v1 (e0 := e0) (e1 := e1) (e2 := e2) (e3 := e3) (show 0 < m by omega) (show m ≤ 300 by omega)
    obtain ⟨a2, b2⟩ := sum_v2 (e0 := e0) (e1 := e1) (e2 := e2) (e3 := e3) (show 0 < m by omega) (show m ≤ 300 by omega)
    have q0 : s_mass_sum_0 m e0 e1 e2 e3 = allS e0 m := a0.trans (sumF_Q _ _)
    have q1 : s_mass_sum_v1_0 m e0 e1 e2 e3 = prdS e0 e2 m := a1.trans (sumF_Q _ _)
    have q2 : s_mass_sum_v2_0 m e0 e1 e2 e3 = prdS e0 e3 m := a2.trans (sumF_Q _ _)
    obtain ⟨a3, b3⟩ := sum_v3 (e0 := e0) (e1 := e1) (e2 := e2) (e3 := e3) (p := fdiv (prdS e0 e2 m) (allS e0 m)) (q := fdiv (prdS e0 e3 m) (allS e0 m)) (show 0 < m by omega) (show m ≤ 300 by omega)
    cases ha : feq (allS e0 m) 0
    · constructor
      · unfold o_mass_Join
        simp only [hE, hL, toNat_of, hbig, hlt, z0, z1, q0, q1, q2, ha, b0, b1, b2, b3, mrgB_eq, Bool.not_true, Bool.not_false, Bool.false_or, cond_true, cond_false, Bool.and_true]
      · refine .some (by omega) hg ha (s_mass_sum_v3_0 m e0 e1 e2 e3 (fdiv (prdS e0 e2 m) (allS e0 m)) (fdiv (prdS e0 e3 m) (allS e0 m))) ?_ ?_ ?_ ?_ ?_
        · unfold s_mass_Join_0; simp only [hL, toNat_of, hbig, hlt, z0, z1, q0, q1, q2, ha, Bool.not_true, Bool.not_false, Bool.false_or, cond_true, cond_false]
        · unfold s_mass_Join_1; simp only [hL, toNat_of, hbig, hlt, z0, z1, q0, q1, q2, ha, Bool.not_true, Bool.not_false, Bool.false_or, cond_true, cond_false]
        · unfold s_mass_Join_2; simp only [hL, toNat_of, hbig, hlt, z0, z1, q0, q1, q2, ha, Bool.not_true, Bool.not_false, Bool.false_or, cond_true, cond_false]
        · unfold s_mass_Join_3; simp only [hL, toNat_of, hbig, hlt, z0, z1, q0, q1, q2, ha, Bool.not_true, Bool.not_false, Bool.false_or, cond_true, cond_false]
        · unfold s_mass_Join_4; simp only [hL, toNat_of, hbig, hlt, z0, z1, q0, q1, q2, ha, Bool.not_true, Bool.not_false, Bool.false_or, cond_true, cond_false]
    · constructor
      · unfold o_mass_Join
        simp only [hE, hL, toNat_of, hbig, hlt, z0, z1, q0, q1, q2, ha, b0, b1, b2, b3, mrgB_eq, Bool.not_true, Bool.not_false, Bool.false_or, cond_true, cond_false, Bool.and_true]
      · refine .nought (by omega) hg ha ?_ ?_ ?_ ?_ ?_
        · unfold s_mass_Join_0; simp only [hL, toNat_of, hbig, hlt, z0, z1, q0, q1, q2, ha, Bool.not_true, Bool.not_false, Bool.false_or, cond_true, cond_false]
        · unfold s_mass_Join_1; simp only [hL, toNat_of, hbig, hlt, z0, z1, q0, q1, q2, ha, Bool.not_true, Bool.not_false, Bool.false_or, cond_true, cond_false]
        · unfold s_mass_Join_2; simp only [hL, toNat_of, hbig, hlt, z0, z1, q0, q1, q2, ha, Bool.not_true, Bool.not_false, Bool.false_or, cond_true, cond_false]
        · unfold s_mass_Join_3; simp only [hL, toNat_of, hbig, hlt, z0, z1, q0, q1, q2, ha, Bool.not_true, Bool.not_false, Bool.false_or, cond_true, cond_false]
        · unfold s_mass_Join_4; simp only [hL, toNat_of, hbig, hlt, z0, z1, q0, q1, q2, ha, Bool.not_true, Bool.not_false, Bool.false_or, cond_true, cond_false]
end Go.Proofs.Ytbkogihigehjlaa
