/- JointChecks: which joints may be. -/
import Derived.Test.YtjdcpmljkiecnaaLawWithin
set_option linter.unusedVariables false
namespace Go.Proofs.Ytjdcpmljkiecnaa
open Go.Sim
theorem real_within {a : Nat} (h : CF a) : s_ref04_Real_0 a = s_num_Within_float64__0 a 4787326403894837248 := by
  unfold s_ref04_Real_0
  rw [ref_within h ⟨by decide, by intro h; exact absurd h (by decide)⟩]; rfl
theorem within_fin {a : Nat} (h : s_num_Within_float64__0 a 4787326403894837248 = true) : fin a = true := by
  unfold s_num_Within_float64__0 at h
  simp only [Bool.and_eq_true] at h
  exact fin_between h.1 h.2 (by decide) (by decide)
theorem sq_word {x : Nat} (h : fin x = true) : ∃ r, r ≤ 9218868437227405312 ∧ fmul x x = Ieee.double.word false r := by
  rw [fmul_fin h h, Bool.xor_self]; exact ⟨_, RN_le _ _, rfl⟩
theorem nanb_word (s : Bool) {r : Nat} (h : r ≤ 9218868437227405312) : nanb (Ieee.double.word s r) = false := by
  cases hn : nanb (Ieee.double.word s r)
  · rfl
  · have := (nanb_iff_rung _).1 hn; rw [rung_word s h] at this; omega
theorem add_some {p q : Nat} (h : (Ieee.double.read p).sum (Ieee.double.read q) ≠ none) : nanb (fadd p q) = false := by
  unfold fadd
  cases e : Ieee.double.add p q with
  | none =>
    unfold Ieee.Format.add at e
    cases e2 : (Ieee.double.read p).sum (Ieee.double.read q) with
    | none => exact absurd e2 h
    | some d => rw [e2] at e; cases e
  | some r => exact nan_add e
theorem add_pos {p q : Nat} {r s : Nat} (hr : r ≤ 9218868437227405312) (hs : s ≤ 9218868437227405312) (ep : p = Ieee.double.word false r) (eq : q = Ieee.double.word false s) : nanb (fadd p q) = false := by
  have np : nanb p = false := by rw [ep]; exact nanb_word _ hr
  have nq : nanb q = false := by rw [eq]; exact nanb_word _ hs
  have gp : sgnOf p = false := by rw [ep]; exact sgn_word _ hr
  have gq : sgnOf q = false := by rw [eq]; exact sgn_word _ hs
  apply add_some
  rcases inf_or np with fp | ip
  · obtain ⟨m, i, e, _⟩ := read_num fp
    rcases inf_or nq with fq | iq
    · obtain ⟨m', i', e', _⟩ := read_num fq
      rw [e, e']; simp [Ieee.Datum.sum]
    · rw [e, read_inf iq, gq]; simp [Ieee.Datum.sum]
  · rcases inf_or nq with fq | iq
    · obtain ⟨m, i, e, _⟩ := read_num fq
      rw [e, read_inf ip, gp]; simp [Ieee.Datum.sum]
    · rw [read_inf ip, read_inf iq, gp, gq]; simp [Ieee.Datum.sum]
theorem square_num {x y : Nat} (hx : fin x = true) (hy : fin y = true) : nanb (s_vec_Square_0 x y) = false := by
  obtain ⟨r, hr, er⟩ := sq_word hx
  obtain ⟨s, hs, es⟩ := sq_word hy
  exact add_pos hr hs er es
theorem not_lt {a b : Nat} (ha : nanb a = false) (hb : nanb b = false) : fle a b = !flt b a := by
  rw [fle_key ha hb, flt_key hb ha, Bool.eq_iff_iff]; simp
theorem law_JointChecks (a0 a1 a2 a3 a4 : Nat) (a5 a6 a7 a8 a9 a10 a11 a12 : Nat) (b13 : Bool) (a14 a15 : Nat) (b16 : Bool) (a17 a18 a19 a20 a21 : Nat)
    (g0 : Int.ofNat a0 ≤ IntKind.u8.max) (g1 : Int.ofNat a1 ≤ IntKind.u32.max) (g2 : Int.ofNat a2 ≤ IntKind.u32.max) (g3 : Int.ofNat a3 ≤ IntKind.u32.max) (g4 : Int.ofNat a4 ≤ IntKind.u32.max)
    (c5 : CF a5) (c6 : CF a6) (c7 : CF a7) (c8 : CF a8) (c9 : CF a9) (c10 : CF a10) (c11 : CF a11) (c12 : CF a12) (c14 : CF a14) (c15 : CF a15) (c17 : CF a17) (c18 : CF a18) (c19 : CF a19) (c20 : CF a20) (c21 : CF a21) :
    T_law19_JointChecks a0 a1 a2 a3 a4 a5 a6 a7 a8 a9 a10 a11 a12 b13 a14 a15 b16 a17 a18 a19 a20 a21 = true := by
  unfold T_law19_JointChecks
  refine ieq_of ?_
  unfold s_joint_Check_0 s_ref19_Check_0
  simp only []
  rw [real_within c5, real_within c6, real_within c7, real_within c8, real_within c9, real_within c10, real_within c11, real_within c12, real_within c14, real_within c15, real_within c17, real_within c18, real_within c19, real_within c20, real_within c21]
  have hk2 : ieq (Int.ofNat a0) 2 = decide (a0 = 2) := by unfold ieq; apply decide_eq_decide.2; simp only [Int.ofNat_eq_natCast]; omega
  have hk3 : ieq (Int.ofNat a0) 3 = decide (a0 = 3) := by unfold ieq; apply decide_eq_decide.2; simp only [Int.ofNat_eq_natCast]; omega
  have hk5 : ieq (Int.ofNat a0) 5 = decide (a0 = 5) := by unfold ieq; apply decide_eq_decide.2; simp only [Int.ofNat_eq_natCast]; omega
  rw [hk2, hk3, hk5]
  cases ilt (Int.ofNat a0) 1
  case true => rfl
  cases ilt 5 (Int.ofNat a0)
  case true => rfl
  cases ieq (Int.ofNat a1) (Int.ofNat a3)
  case true => rfl
  cases w5 : s_num_Within_float64__0 a5 4787326403894837248
  case false => rfl
  cases w6 : s_num_Within_float64__0 a6 4787326403894837248
  case false => rfl
  cases w7 : s_num_Within_float64__0 a7 4787326403894837248
  case false => rfl
  cases w8 : s_num_Within_float64__0 a8 4787326403894837248
  case false => rfl
  cases w9 : s_num_Within_float64__0 a9 4787326403894837248
  case false => rfl
  cases w10 : s_num_Within_float64__0 a10 4787326403894837248
  case false => rfl
  cases w11 : s_num_Within_float64__0 a11 4787326403894837248
  case false => rfl
  cases w12 : s_num_Within_float64__0 a12 4787326403894837248
  case false => rfl
  cases w14 : s_num_Within_float64__0 a14 4787326403894837248
  case false => rfl
  cases w15 : s_num_Within_float64__0 a15 4787326403894837248
  case false => rfl
  cases w17 : s_num_Within_float64__0 a17 4787326403894837248
  case false => rfl
  cases w18 : s_num_Within_float64__0 a18 4787326403894837248
  case false => rfl
  cases w19 : s_num_Within_float64__0 a19 4787326403894837248
  case false => rfl
  cases w20 : s_num_Within_float64__0 a20 4787326403894837248
  case false => rfl
  cases w21 : s_num_Within_float64__0 a21 4787326403894837248
  case false => rfl
  have ns := square_num (within_fin w9) (within_fin w10)
  have e : s_ref19_dot_0 a9 a10 a9 a10 = s_vec_Square_0 a9 a10 := rfl
  rw [e, not_lt (b := s_vec_Square_0 a9 a10) (by decide) ns, not_lt ns (by decide)]
  generalize flt (s_vec_Square_0 a9 a10) 4607182418800009216 = L
  generalize flt 4607182418800021504 (s_vec_Square_0 a9 a10) = H
  generalize flt a15 0 = F1
  generalize flt a18 a17 = F2
  generalize flt a11 0 = F3
  generalize flt a17 0 = F4
  generalize flt (fabs a12) 4472074429978902528 = F5
  clear w5 w6 w7 w8 w9 w10 w11 w12 w14 w15 w17 w18 w19 w20 w21 ns e
  by_cases k2 : a0 = 2
  · subst k2; cases F1 <;> cases b16 <;> cases F2 <;> cases F3 <;> cases F4 <;> rfl
  · by_cases k3 : a0 = 3
    · subst k3; cases F1 <;> cases b16 <;> cases F2 <;> cases L <;> cases H <;> rfl
    · by_cases k5 : a0 = 5
      · subst k5; cases F1 <;> cases b16 <;> cases F2 <;> cases F5 <;> rfl
      · have d2 : decide (a0 = 2) = false := by simp [k2]
        have d3 : decide (a0 = 3) = false := by simp [k3]
        have d5 : decide (a0 = 5) = false := by simp [k5]
        rw [d2, d3, d5]; cases F1 <;> cases b16 <;> cases F2 <;> rfl
end Go.Proofs.Ytjdcpmljkiecnaa
