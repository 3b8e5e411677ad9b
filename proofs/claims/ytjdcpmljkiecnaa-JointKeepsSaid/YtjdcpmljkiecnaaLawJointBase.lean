/- Joints: the check of the program and of the document; impulses that are kept. -/
import Derived.Test.YtjdcpmljkiecnaaLawLWithin
set_option linter.unusedVariables false
set_option linter.unusedSimpArgs false
namespace Go.Proofs.Ytjdcpmljkiecnaa
open Go.Sim Go.Lst
theorem real_within {a : Nat} (h : CF a) : s_ref04_Real_0 a = s_num_Within_float64__0 a 4787326403894837248 := by
  unfold s_ref04_Real_0
  rw [ref_within h ⟨by decide, by intro h; exact absurd h (by decide)⟩]; rfl
theorem within_fin {a : Nat} (h : s_num_Within_float64__0 a 4787326403894837248 = true) : fin a = true := by
  unfold s_num_Within_float64__0 at h
  simp only [Bool.and_eq_true] at h
  exact fin_between h.1 h.2 (by decide) (by decide)
theorem sq_word {x : Nat} (h : fin x = true) : ∃ r, r ≤ 9218868437227405312 ∧ fmul x x = Ieee.double.word false r := by
  rw [fmul_fin h h, Bool.xor_self]; exact ⟨_, RN_le _ _, rfl⟩
theorem nanb_word (s : Bool) {r : Nat} (h : r ≤ 9218868437227405312) : nanb (Ieee.double.word s r) = false := by
  cases hn : nanb (Ieee.double.word s r)
  · rfl
  · have := (nanb_iff_rung _).1 hn; rw [rung_word s h] at this; omega
theorem add_some {p q : Nat} (h : (Ieee.double.read p).sum (Ieee.double.read q) ≠ none) : nanb (fadd p q) = false := by
  unfold fadd
  cases e : Ieee.double.add p q with
  | none =>
    unfold Ieee.Format.add at e
    cases e2 : (Ieee.double.read p).sum (Ieee.double.read q) with
    | none => exact absurd e2 h
    | some d => rw [e2] at e; cases e
  | some r => exact nan_add e
theorem add_pos {p q : Nat} {r s : Nat} (hr : r ≤ 9218868437227405312) (hs : s ≤ 9218868437227405312) (ep : p = Ieee.double.word false r) (eq : q = Ieee.double.word false s) : nanb (fadd p q) = false := by
  have np : nanb p = false := by rw [ep]; exact nanb_word _ hr
  have nq : nanb q = false := by rw [eq]; exact nanb_word _ hs
  have gp : sgnOf p = false := by rw [ep]; exact sgn_word _ hr
  have gq : sgnOf q = false := by rw [eq]; exact sgn_word _ hs
  apply add_some
  rcases inf_or np with fp | ip
  · obtain ⟨m, i, e, _⟩ := read_num fp
    rcases inf_or nq with fq | iq
    · obtain ⟨m', i', e', _⟩ := read_num fq
      rw [e, e']; simp [Ieee.Datum.sum]
    · rw [e, read_inf iq, gq]; simp [Ieee.Datum.sum]
  · rcases inf_or nq with fq | iq
    · obtain ⟨m, i, e, _⟩ := read_num fq
      rw [e, read_inf ip, gp]; simp [Ieee.Datum.sum]
    · rw [read_inf ip, read_inf iq, gp, gq]; simp [Ieee.Datum.sum]
theorem square_num {x y : Nat} (hx : fin x = true) (hy : fin y = true) : nanb (s_vec_Square_0 x y) = false := by
  obtain ⟨r, hr, er⟩ := sq_word hx
  obtain ⟨s, hs, es⟩ := sq_word hy
  exact add_pos hr hs er es
theorem not_lt {a b : Nat} (ha : nanb a = false) (hb : nanb b = false) : fle a b = !flt b a := by
  rw [fle_key ha hb, flt_key hb ha, Bool.eq_iff_iff]; simp
noncomputable abbrev W (a : Nat) : Bool := s_num_Within_float64__0 a 4787326403894837248
def allN (p : Nat → Bool) : Nat → Bool
  | 0 => true
  | k + 1 => allN p k && p k
theorem allN_true {p : Nat → Bool} : ∀ {n : Nat}, (∀ i, i < n → p i = true) → allN p n = true
  | 0, _ => rfl
  | n + 1, h => by simp only [allN]; rw [allN_true fun i hi => h i (by omega), h n (by omega)]; rfl
theorem allN_false {p : Nat → Bool} {j : Nat} (hj : p j = false) : ∀ {n : Nat}, j < n → allN p n = false
  | 0, h => by omega
  | n + 1, h => by
    simp only [allN]
    by_cases e : j = n
    · subst e; rw [hj]; simp
    · rw [allN_false hj (by omega)]; rfl
theorem first_not {p : Nat → Bool} : ∀ (n : Nat), ∃ j, j ≤ n ∧ (∀ i, i < j → p i = true) ∧ (j = n ∨ p j = false)
  | 0 => ⟨0, by omega, fun i hi => by omega, .inl rfl⟩
  | n + 1 => by
    obtain ⟨j, h1, h2, h3⟩ := first_not (p := p) n
    rcases h3 with rfl | h3
    · cases hp : p j with
      | false => exact ⟨j, by omega, h2, .inr hp⟩
      | true => exact ⟨j + 1, by omega, fun i hi => by
          by_cases hij : i = j
          · subst hij; exact hp
          · exact h2 i (by omega), .inl rfl⟩
    · exact ⟨j, by omega, h2, .inr h3⟩
theorem reals_eq {n : Nat} (hn : n < 9223372036854775807) (g : Nat → Nat) : s_joint_reals_0 n g = allN (fun i => W (g i)) n ∧ o_joint_reals n g = true := by
  obtain ⟨j, hj, hf, he⟩ := first_not (p := fun i => W (g i)) n
  have hl : E_joint_reals_L0 n g (Int.ofNat n) (V_joint_reals_L0.mk 0) = true ∧ L_joint_reals_L0 n g (Int.ofNat n) (V_joint_reals_L0.mk 0) = V_joint_reals_L0.mk (Int.ofNat j) := by
    refine run_to (fun k => V_joint_reals_L0.mk (Int.ofNat k)) j (fun k hk => ?_) (fun k hk => ?_) (fun k hk => ?_) ?_
    · unfold ok_joint_reals_L0
      simp only [ile_ofNat, toNat_of, ilt_ofNat, Bool.true_and, mrgB_eq]
      by_cases hkn : k < n
      · rw [blt_true hkn]; simp
      · simp [hkn]
    · unfold go_joint_reals_L0
      simp only [toNat_of, ilt_ofNat]
      have h1 : k < n := by omega
      have h2 : s_num_Within_float64__0 (g k) 4787326403894837248 = true := hf k hk
      rw [h2]; simp [h1]
    · unfold step_joint_reals_L0
      simp only
      rw [succ_i64 (by omega)]
    · unfold go_joint_reals_L0
      simp only [toNat_of, ilt_ofNat]
      rcases he with rfl | he
      · simp
      · have he : s_num_Within_float64__0 (g j) 4787326403894837248 = false := he
        rw [he]; simp
  unfold s_joint_reals_0 o_joint_reals
  rw [hl.1, hl.2, mrgB_self]
  refine ⟨?_, rfl⟩
  simp only [toNat_of, ilt_ofNat]
  by_cases hjn : j = n
  · subst hjn
    rw [allN_true hf]; simp
  · have he : W (g j) = false := by rcases he with he | he; exact absurd he hjn; exact he
    rw [allN_false (p := fun i => W (g i)) he (by omega)]
    have hlt : j < n := by omega
    have he' : s_num_Within_float64__0 (g j) 4787326403894837248 = false := he
    rw [he']; simp [hlt]
theorem check_eq (a0 a1 a2 a3 a4 : Int) (a5 a6 a7 a8 a9 a10 a11 a12 : Nat) (a13 : Bool) (a14 a15 : Nat) (a16 : Bool) (a17 a18 a19 a20 a21 : Nat) (c5 : CF a5) (c6 : CF a6) (c7 : CF a7) (c8 : CF a8) (c9 : CF a9) (c10 : CF a10) (c11 : CF a11) (c12 : CF a12) (c14 : CF a14) (c15 : CF a15) (c17 : CF a17) (c18 : CF a18) (c19 : CF a19) (c20 : CF a20) (c21 : CF a21) : s_joint_Check_0 a0 a1 a2 a3 a4 a5 a6 a7 a8 a9 a10 a11 a12 a13 a14 a15 a16 a17 a18 a19 a20 a21 = s_ref19_Check_0 a0 a1 a2 a3 a4 a5 a6 a7 a8 a9 a10 a11 a12 a13 a14 a15 a16 a17 a18 a19 a20 a21 := by
  unfold s_joint_Check_0 s_ref19_Check_0
  simp only []
  rw [real_within c5, real_within c6, real_within c7, real_within c8, real_within c9, real_within c10, real_within c11, real_within c12, real_within c14, real_within c15, real_within c17, real_within c18, real_within c19, real_within c20, real_within c21]
  generalize h12 : s_joint_reals_0 12 _ = r12
  generalize h3 : s_joint_reals_0 3 _ = r3
  have e12 : r12 = (((((((((((( true && W a5) && W a6) && W a7) && W a8) && W a9) && W a10) && W a11) && W a12) && W a14) && W a15) && W a17) && W a18) := by rw [← h12, (reals_eq (by omega) _).1]; rfl
  have e3 : r3 = (((true && W a19) && W a20) && W a21) := by rw [← h3, (reals_eq (by omega) _).1]; rfl
  rw [e12, e3]
  unfold W
  clear h12 h3 e12 e3
  have hk2 : ieq a0 2 = decide (a0 = 2) := rfl
  have hk3 : ieq a0 3 = decide (a0 = 3) := rfl
  have hk5 : ieq a0 5 = decide (a0 = 5) := rfl
  rw [hk2, hk3, hk5]
  cases ilt a0 1
  case true => rfl
  cases ilt 5 a0
  case true => rfl
  cases ieq a1 a3
  case true => rfl
  cases w5 : s_num_Within_float64__0 a5 4787326403894837248
  case false => first | rfl | simp
  cases w6 : s_num_Within_float64__0 a6 4787326403894837248
  case false => first | rfl | simp
  cases w7 : s_num_Within_float64__0 a7 4787326403894837248
  case false => first | rfl | simp
  cases w8 : s_num_Within_float64__0 a8 4787326403894837248
  case false => first | rfl | simp
  cases w9 : s_num_Within_float64__0 a9 4787326403894837248
  case false => first | rfl | simp
  cases w10 : s_num_Within_float64__0 a10 4787326403894837248
  case false => first | rfl | simp
  cases w11 : s_num_Within_float64__0 a11 4787326403894837248
  case false => first | rfl | simp
  cases w12 : s_num_Within_float64__0 a12 4787326403894837248
  case false => first | rfl | simp
  cases w14 : s_num_Within_float64__0 a14 4787326403894837248
  case false => first | rfl | simp
  cases w15 : s_num_Within_float64__0 a15 4787326403894837248
  case false => first | rfl | simp
  cases w17 : s_num_Within_float64__0 a17 4787326403894837248
  case false => first | rfl | simp
  cases w18 : s_num_Within_float64__0 a18 4787326403894837248
  case false => first | rfl | simp
  cases w19 : s_num_Within_float64__0 a19 4787326403894837248
  case false => first | rfl | simp
  cases w20 : s_num_Within_float64__0 a20 4787326403894837248
  case false => first | rfl | simp
  cases w21 : s_num_Within_float64__0 a21 4787326403894837248
  case false => first | rfl | simp
  have ns := square_num (within_fin w9) (within_fin w10)
  have e : s_ref19_dot_0 a9 a10 a9 a10 = s_vec_Square_0 a9 a10 := rfl
  rw [e, not_lt (b := s_vec_Square_0 a9 a10) (by decide) ns, not_lt ns (by decide)]
  generalize flt (s_vec_Square_0 a9 a10) 4607182418800009216 = L
  generalize flt 4607182418800021504 (s_vec_Square_0 a9 a10) = H
  generalize flt a15 0 = F1
  generalize flt a18 a17 = F2
  generalize flt a11 0 = F3
  generalize flt a17 0 = F4
  generalize flt (fabs a12) 4472074429978902528 = F5
  clear w5 w6 w7 w8 w9 w10 w11 w12 w14 w15 w17 w18 w19 w20 w21 ns e
  by_cases k2 : a0 = 2
  · subst k2; cases F1 <;> cases a16 <;> cases F2 <;> cases F3 <;> cases F4 <;> rfl
  · by_cases k3 : a0 = 3
    · subst k3; cases F1 <;> cases a16 <;> cases F2 <;> cases L <;> cases H <;> rfl
    · by_cases k5 : a0 = 5
      · subst k5; cases F1 <;> cases a16 <;> cases F2 <;> cases F5 <;> rfl
      · have d2 : decide (a0 = 2) = false := by simp [k2]
        have d3 : decide (a0 = 3) = false := by simp [k3]
        have d5 : decide (a0 = 5) = false := by simp [k5]
        rw [d2, d3, d5]; cases F1 <;> cases a16 <;> cases F2 <;> rfl
end Go.Proofs.Ytjdcpmljkiecnaa
