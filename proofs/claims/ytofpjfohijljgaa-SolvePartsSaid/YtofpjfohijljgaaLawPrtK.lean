/- Rows and stills: the answers of Only and of the document's Apart; lists lent, kept and spoiled. -/
import Derived.Test.YtofpjfohijljgaaLawPrtP
set_option linter.unusedVariables false
set_option linter.unusedSimpArgs false
set_option linter.unusedSectionVars false
set_option maxHeartbeats 4000000
set_option maxRecDepth 4000
namespace Go.Proofs.Ytofpjfohijljgaa
open Go.Sim Go.Lst
noncomputable def onPl (n : Nat) (l : Nat → Rw) (q : Nat) (B : Nat → Int) (j : Nat) : Rw := ⟨s_solve_Only_6 n (fun j => (l j).v0) (fun j => (l j).v1) (fun j => (l j).v2) (fun j => (l j).v3) (fun j => (l j).v4) (fun j => (l j).v5) (fun j => (l j).v6) (fun j => (l j).v7) (fun j => (l j).v8) (fun j => (l j).v9) (fun j => (l j).v10) (fun j => (l j).v11) (fun j => (l j).v12) (fun j => (l j).v13) q B j, s_solve_Only_7 n (fun j => (l j).v0) (fun j => (l j).v1) (fun j => (l j).v2) (fun j => (l j).v3) (fun j => (l j).v4) (fun j => (l j).v5) (fun j => (l j).v6) (fun j => (l j).v7) (fun j => (l j).v8) (fun j => (l j).v9) (fun j => (l j).v10) (fun j => (l j).v11) (fun j => (l j).v12) (fun j => (l j).v13) q B j, s_solve_Only_8 n (fun j => (l j).v0) (fun j => (l j).v1) (fun j => (l j).v2) (fun j => (l j).v3) (fun j => (l j).v4) (fun j => (l j).v5) (fun j => (l j).v6) (fun j => (l j).v7) (fun j => (l j).v8) (fun j => (l j).v9) (fun j => (l j).v10) (fun j => (l j).v11) (fun j => (l j).v12) (fun j => (l j).v13) q B j, s_solve_Only_9 n (fun j => (l j).v0) (fun j => (l j).v1) (fun j => (l j).v2) (fun j => (l j).v3) (fun j => (l j).v4) (fun j => (l j).v5) (fun j => (l j).v6) (fun j => (l j).v7) (fun j => (l j).v8) (fun j => (l j).v9) (fun j => (l j).v10) (fun j => (l j).v11) (fun j => (l j).v12) (fun j => (l j).v13) q B j, s_solve_Only_10 n (fun j => (l j).v0) (fun j => (l j).v1) (fun j => (l j).v2) (fun j => (l j).v3) (fun j => (l j).v4) (fun j => (l j).v5) (fun j => (l j).v6) (fun j => (l j).v7) (fun j => (l j).v8) (fun j => (l j).v9) (fun j => (l j).v10) (fun j => (l j).v11) (fun j => (l j).v12) (fun j => (l j).v13) q B j, s_solve_Only_11 n (fun j => (l j).v0) (fun j => (l j).v1) (fun j => (l j).v2) (fun j => (l j).v3) (fun j => (l j).v4) (fun j => (l j).v5) (fun j => (l j).v6) (fun j => (l j).v7) (fun j => (l j).v8) (fun j => (l j).v9) (fun j => (l j).v10) (fun j => (l j).v11) (fun j => (l j).v12) (fun j => (l j).v13) q B j, s_solve_Only_12 n (fun j => (l j).v0) (fun j => (l j).v1) (fun j => (l j).v2) (fun j => (l j).v3) (fun j => (l j).v4) (fun j => (l j).v5) (fun j => (l j).v6) (fun j => (l j).v7) (fun j => (l j).v8) (fun j => (l j).v9) (fun j => (l j).v10) (fun j => (l j).v11) (fun j => (l j).v12) (fun j => (l j).v13) q B j, s_solve_Only_13 n (fun j => (l j).v0) (fun j => (l j).v1) (fun j => (l j).v2) (fun j => (l j).v3) (fun j => (l j).v4) (fun j => (l j).v5) (fun j => (l j).v6) (fun j => (l j).v7) (fun j => (l j).v8) (fun j => (l j).v9) (fun j => (l j).v10) (fun j => (l j).v11) (fun j => (l j).v12) (fun j => (l j).v13) q B j, s_solve_Only_14 n (fun j => (l j).v0) (fun j => (l j).v1) (fun j => (l j).v2) (fun j => (l j).v3) (fun j => (l j).v4) (fun j => (l j).v5) (fun j => (l j).v6) (fun j => (l j).v7) (fun j => (l j).v8) (fun j => (l j).v9) (fun j => (l j).v10) (fun j => (l j).v11) (fun j => (l j).v12) (fun j => (l j).v13) q B j, s_solve_Only_15 n (fun j => (l j).v0) (fun j => (l j).v1) (fun j => (l j).v2) (fun j => (l j).v3) (fun j => (l j).v4) (fun j => (l j).v5) (fun j => (l j).v6) (fun j => (l j).v7) (fun j => (l j).v8) (fun j => (l j).v9) (fun j => (l j).v10) (fun j => (l j).v11) (fun j => (l j).v12) (fun j => (l j).v13) q B j, s_solve_Only_16 n (fun j => (l j).v0) (fun j => (l j).v1) (fun j => (l j).v2) (fun j => (l j).v3) (fun j => (l j).v4) (fun j => (l j).v5) (fun j => (l j).v6) (fun j => (l j).v7) (fun j => (l j).v8) (fun j => (l j).v9) (fun j => (l j).v10) (fun j => (l j).v11) (fun j => (l j).v12) (fun j => (l j).v13) q B j, s_solve_Only_17 n (fun j => (l j).v0) (fun j => (l j).v1) (fun j => (l j).v2) (fun j => (l j).v3) (fun j => (l j).v4) (fun j => (l j).v5) (fun j => (l j).v6) (fun j => (l j).v7) (fun j => (l j).v8) (fun j => (l j).v9) (fun j => (l j).v10) (fun j => (l j).v11) (fun j => (l j).v12) (fun j => (l j).v13) q B j, s_solve_Only_18 n (fun j => (l j).v0) (fun j => (l j).v1) (fun j => (l j).v2) (fun j => (l j).v3) (fun j => (l j).v4) (fun j => (l j).v5) (fun j => (l j).v6) (fun j => (l j).v7) (fun j => (l j).v8) (fun j => (l j).v9) (fun j => (l j).v10) (fun j => (l j).v11) (fun j => (l j).v12) (fun j => (l j).v13) q B j, s_solve_Only_19 n (fun j => (l j).v0) (fun j => (l j).v1) (fun j => (l j).v2) (fun j => (l j).v3) (fun j => (l j).v4) (fun j => (l j).v5) (fun j => (l j).v6) (fun j => (l j).v7) (fun j => (l j).v8) (fun j => (l j).v9) (fun j => (l j).v10) (fun j => (l j).v11) (fun j => (l j).v12) (fun j => (l j).v13) q B j⟩
noncomputable def onRl (n : Nat) (l : Nat → Rw) (q : Nat) (B : Nat → Int) (j : Nat) : Rw := ⟨s_ref21_Only_6 n (fun j => (l j).v0) (fun j => (l j).v1) (fun j => (l j).v2) (fun j => (l j).v3) (fun j => (l j).v4) (fun j => (l j).v5) (fun j => (l j).v6) (fun j => (l j).v7) (fun j => (l j).v8) (fun j => (l j).v9) (fun j => (l j).v10) (fun j => (l j).v11) (fun j => (l j).v12) (fun j => (l j).v13) q B j, s_ref21_Only_7 n (fun j => (l j).v0) (fun j => (l j).v1) (fun j => (l j).v2) (fun j => (l j).v3) (fun j => (l j).v4) (fun j => (l j).v5) (fun j => (l j).v6) (fun j => (l j).v7) (fun j => (l j).v8) (fun j => (l j).v9) (fun j => (l j).v10) (fun j => (l j).v11) (fun j => (l j).v12) (fun j => (l j).v13) q B j, s_ref21_Only_8 n (fun j => (l j).v0) (fun j => (l j).v1) (fun j => (l j).v2) (fun j => (l j).v3) (fun j => (l j).v4) (fun j => (l j).v5) (fun j => (l j).v6) (fun j => (l j).v7) (fun j => (l j).v8) (fun j => (l j).v9) (fun j => (l j).v10) (fun j => (l j).v11) (fun j => (l j).v12) (fun j => (l j).v13) q B j, s_ref21_Only_9 n (fun j => (l j).v0) (fun j => (l j).v1) (fun j => (l j).v2) (fun j => (l j).v3) (fun j => (l j).v4) (fun j => (l j).v5) (fun j => (l j).v6) (fun j => (l j).v7) (fun j => (l j).v8) (fun j => (l j).v9) (fun j => (l j).v10) (fun j => (l j).v11) (fun j => (l j).v12) (fun j => (l j).v13) q B j, s_ref21_Only_10 n (fun j => (l j).v0) (fun j => (l j).v1) (fun j => (l j).v2) (fun j => (l j).v3) (fun j => (l j).v4) (fun j => (l j).v5) (fun j => (l j).v6) (fun j => (l j).v7) (fun j => (l j).v8) (fun j => (l j).v9) (fun j => (l j).v10) (fun j => (l j).v11) (fun j => (l j).v12) (fun j => (l j).v13) q B j, s_ref21_Only_11 n (fun j => (l j).v0) (fun j => (l j).v1) (fun j => (l j).v2) (fun j => (l j).v3) (fun j => (l j).v4) (fun j => (l j).v5) (fun j => (l j).v6) (fun j => (l j).v7) (fun j => (l j).v8) (fun j => (l j).v9) (fun j => (l j).v10) (fun j => (l j).v11) (fun j => (l j).v12) (fun j => (l j).v13) q B j, s_ref21_Only_12 n (fun j => (l j).v0) (fun j => (l j).v1) (fun j => (l j).v2) (fun j => (l j).v3) (fun j => (l j).v4) (fun j => (l j).v5) (fun j => (l j).v6) (fun j => (l j).v7) (fun j => (l j).v8) (fun j => (l j).v9) (fun j => (l j).v10) (fun j => (l j).v11) (fun j => (l j).v12) (fun j => (l j).v13) q B j, s_ref21_Only_13 n (fun j => (l j).v0) (fun j => (l j).v1) (fun j => (l j).v2) (fun j => (l j).v3) (fun j => (l j).v4) (fun j => (l j).v5) (fun j => (l j).v6) (fun j => (l j).v7) (fun j => (l j).v8) (fun j => (l j).v9) (fun j => (l j).v10) (fun j => (l j).v11) (fun j => (l j).v12) (fun j => (l j).v13) q B j, s_ref21_Only_14 n (fun j => (l j).v0) (fun j => (l j).v1) (fun j => (l j).v2) (fun j => (l j).v3) (fun j => (l j).v4) (fun j => (l j).v5) (fun j => (l j).v6) (fun j => (l j).v7) (fun j => (l j).v8) (fun j => (l j).v9) (fun j => (l j).v10) (fun j => (l j).v11) (fun j => (l j).v12) (fun j => (l j).v13) q B j, s_ref21_Only_15 n (fun j => (l j).v0) (fun j => (l j).v1) (fun j => (l j).v2) (fun j => (l j).v3) (fun j => (l j).v4) (fun j => (l j).v5) (fun j => (l j).v6) (fun j => (l j).v7) (fun j => (l j).v8) (fun j => (l j).v9) (fun j => (l j).v10) (fun j => (l j).v11) (fun j => (l j).v12) (fun j => (l j).v13) q B j, s_ref21_Only_16 n (fun j => (l j).v0) (fun j => (l j).v1) (fun j => (l j).v2) (fun j => (l j).v3) (fun j => (l j).v4) (fun j => (l j).v5) (fun j => (l j).v6) (fun j => (l j).v7) (fun j => (l j).v8) (fun j => (l j).v9) (fun j => (l j).v10) (fun j => (l j).v11) (fun j => (l j).v12) (fun j => (l j).v13) q B j, s_ref21_Only_17 n (fun j => (l j).v0) (fun j => (l j).v1) (fun j => (l j).v2) (fun j => (l j).v3) (fun j => (l j).v4) (fun j => (l j).v5) (fun j => (l j).v6) (fun j => (l j).v7) (fun j => (l j).v8) (fun j => (l j).v9) (fun j => (l j).v10) (fun j => (l j).v11) (fun j => (l j).v12) (fun j => (l j).v13) q B j, s_ref21_Only_18 n (fun j => (l j).v0) (fun j => (l j).v1) (fun j => (l j).v2) (fun j => (l j).v3) (fun j => (l j).v4) (fun j => (l j).v5) (fun j => (l j).v6) (fun j => (l j).v7) (fun j => (l j).v8) (fun j => (l j).v9) (fun j => (l j).v10) (fun j => (l j).v11) (fun j => (l j).v12) (fun j => (l j).v13) q B j, s_ref21_Only_19 n (fun j => (l j).v0) (fun j => (l j).v1) (fun j => (l j).v2) (fun j => (l j).v3) (fun j => (l j).v4) (fun j => (l j).v5) (fun j => (l j).v6) (fun j => (l j).v7) (fun j => (l j).v8) (fun j => (l j).v9) (fun j => (l j).v10) (fun j => (l j).v11) (fun j => (l j).v12) (fun j => (l j).v13) q B j⟩
theorem ieq_bif (e b : Bool) : (!(ieq (bif e then (4 : Int) else bif b then 200 else 0) 0)) = (e || b) := by cases e <;> cases b <;> rfl
theorem one_ok {n q : Nat} {l : Nat → Rw} (h : onE n q l = 0) : n ≤ 1048576 ∧ q ≤ 1024 ∧ ∀ i, i < n → -1 ≤ (l i).v12 ∧ (l i).v12 < (n : Int) := by
  unfold onE at h
  cases hb : (ilt (1048576 : Int) (Int.ofNat n)) || (ilt (1024 : Int) (Int.ofNat q)) with
  | true => rw [hb] at h; cases h
  | false =>
    rw [hb, cond_false] at h
    cases hl : badL n 1024 l with
    | true => rw [hl] at h; cases h
    | false =>
      have h1 : n ≤ 1048576 ∧ q ≤ 1024 := by
        unfold ilt at hb; simp at hb; omega
      refine ⟨h1.1, h1.2, fun i hi => ?_⟩
      have hbad : bad n 1024 (l i) = false := by
        cases e : bad n 1024 (l i) with
        | false => rfl
        | true => exact absurd ⟨i, hi, e⟩ (of_decide_eq_false hl)
      unfold bad at hbad
      cases hm : may (l i) with
      | false => rw [hm] at hbad; simp at hbad
      | true =>
        rw [hm] at hbad
        unfold may s_ref20_May_0 at hm
        simp only [Bool.and_eq_true, ile, decide_eq_true_eq] at hm
        simp only [Bool.not_true, Bool.false_or, Bool.or_eq_false_iff, ile, decide_eq_false_iff_not, Int.ofNat_eq_natCast] at hbad
        exact ⟨by omega, by omega⟩
theorem onlyP {n q : Nat} {l : Nat → Rw} {B : Nat → Int} (hn : n < 9223372036854775807) :
    s_solve_Only_4 n (fun j => (l j).v0) (fun j => (l j).v1) (fun j => (l j).v2) (fun j => (l j).v3) (fun j => (l j).v4) (fun j => (l j).v5) (fun j => (l j).v6) (fun j => (l j).v7) (fun j => (l j).v8) (fun j => (l j).v9) (fun j => (l j).v10) (fun j => (l j).v11) (fun j => (l j).v12) (fun j => (l j).v13) q B = onE n q l ∧ o_solve_Only n (fun j => (l j).v0) (fun j => (l j).v1) (fun j => (l j).v2) (fun j => (l j).v3) (fun j => (l j).v4) (fun j => (l j).v5) (fun j => (l j).v6) (fun j => (l j).v7) (fun j => (l j).v8) (fun j => (l j).v9) (fun j => (l j).v10) (fun j => (l j).v11) (fun j => (l j).v12) (fun j => (l j).v13) q B = true ∧
    s_solve_Only_0 n (fun j => (l j).v0) (fun j => (l j).v1) (fun j => (l j).v2) (fun j => (l j).v3) (fun j => (l j).v4) (fun j => (l j).v5) (fun j => (l j).v6) (fun j => (l j).v7) (fun j => (l j).v8) (fun j => (l j).v9) (fun j => (l j).v10) (fun j => (l j).v11) (fun j => (l j).v12) (fun j => (l j).v13) q B = (bif ieq (onE n q l) 0 then cnt (pk q B l) n else 0) ∧ s_solve_Only_2 n (fun j => (l j).v0) (fun j => (l j).v1) (fun j => (l j).v2) (fun j => (l j).v3) (fun j => (l j).v4) (fun j => (l j).v5) (fun j => (l j).v6) (fun j => (l j).v7) (fun j => (l j).v8) (fun j => (l j).v9) (fun j => (l j).v10) (fun j => (l j).v11) (fun j => (l j).v12) (fun j => (l j).v13) q B = (bif ieq (onE n q l) 0 then cnt (pk q B l) n else 0) ∧
    (onE n q l = 0 → s_solve_Only_5 n (fun j => (l j).v0) (fun j => (l j).v1) (fun j => (l j).v2) (fun j => (l j).v3) (fun j => (l j).v4) (fun j => (l j).v5) (fun j => (l j).v6) (fun j => (l j).v7) (fun j => (l j).v8) (fun j => (l j).v9) (fun j => (l j).v10) (fun j => (l j).v11) (fun j => (l j).v12) (fun j => (l j).v13) q B = cnt (pk q B l) n ∧ s_solve_Only_20 n (fun j => (l j).v0) (fun j => (l j).v1) (fun j => (l j).v2) (fun j => (l j).v3) (fun j => (l j).v4) (fun j => (l j).v5) (fun j => (l j).v6) (fun j => (l j).v7) (fun j => (l j).v8) (fun j => (l j).v9) (fun j => (l j).v10) (fun j => (l j).v11) (fun j => (l j).v12) (fun j => (l j).v13) q B = cnt (pk q B l) n ∧ s_solve_Only_21 n (fun j => (l j).v0) (fun j => (l j).v1) (fun j => (l j).v2) (fun j => (l j).v3) (fun j => (l j).v4) (fun j => (l j).v5) (fun j => (l j).v6) (fun j => (l j).v7) (fun j => (l j).v8) (fun j => (l j).v9) (fun j => (l j).v10) (fun j => (l j).v11) (fun j => (l j).v12) (fun j => (l j).v13) q B = NL (pk q B l) n ∧ onPl n l q B = F2 (NW (pk q B l) n) (OL (pk q B l) l n) (cnt (pk q B l) n)) := by
  obtain ⟨h1, h2⟩ := onP_rows (l := l) hn
  have hbad : ∀ e : Bool, (bif e then (4 : Int) else (bif (badL n 1024 l) then 200 else 0)) = (bif e then (4 : Int) else (bif (bif (!(ilt (L_solve_Only_L0 n (fun j => (l j).v0) (fun j => (l j).v1) (fun j => (l j).v2) (fun j => (l j).v3) (fun j => (l j).v4) (fun j => (l j).v5) (fun j => (l j).v6) (fun j => (l j).v7) (fun j => (l j).v8) (fun j => (l j).v9) (fun j => (l j).v10) (fun j => (l j).v11) (fun j => (l j).v12) (fun j => (l j).v13) (Int.ofNat n) (V_solve_Only_L0.mk (0 : Int))).v0 (Int.ofNat n))) then false else bad n 1024 (l (Int.toNat (L_solve_Only_L0 n (fun j => (l j).v0) (fun j => (l j).v1) (fun j => (l j).v2) (fun j => (l j).v3) (fun j => (l j).v4) (fun j => (l j).v5) (fun j => (l j).v6) (fun j => (l j).v7) (fun j => (l j).v8) (fun j => (l j).v9) (fun j => (l j).v10) (fun j => (l j).v11) (fun j => (l j).v12) (fun j => (l j).v13) (Int.ofNat n) (V_solve_Only_L0.mk (0 : Int))).v0))) then (bif bad n 1024 (l (Int.toNat (L_solve_Only_L0 n (fun j => (l j).v0) (fun j => (l j).v1) (fun j => (l j).v2) (fun j => (l j).v3) (fun j => (l j).v4) (fun j => (l j).v5) (fun j => (l j).v6) (fun j => (l j).v7) (fun j => (l j).v8) (fun j => (l j).v9) (fun j => (l j).v10) (fun j => (l j).v11) (fun j => (l j).v12) (fun j => (l j).v13) (Int.ofNat n) (V_solve_Only_L0.mk (0 : Int))).v0)) then 200 else 0) else 0)) := by
    intro e
    simp only at h1
    rw [h1]
    cases e
    · cases hb : badL n 1024 l
      · rfl
      · rw [hb] at h1
        rw [bif_dec] at h1
        have := (Bool.and_eq_true _ _ ▸ h1 : _ ∧ _).2
        rw [this]; rfl
    · rfl
  have hz : ieq (onE n q l) 0 = !(((ilt (1048576 : Int) (Int.ofNat n)) || (ilt (1024 : Int) (Int.ofNat q))) || badL n 1024 l) := by
    rw [← ieq_bif ((ilt (1048576 : Int) (Int.ofNat n)) || (ilt (1024 : Int) (Int.ofNat q))) (badL n 1024 l), Bool.not_not]; rfl
  refine ⟨?_, ?_, ?_, ?_, ?_⟩
  · unfold s_solve_Only_4 onE
    simp only [checkP', ieq_200]
    exact (hbad _).symm
  · unfold o_solve_Only
    simp only [checkP', ieq_200, mrgB_eq]
    simp only at h1
    rw [h1]
    cases he : (ilt (1048576 : Int) (Int.ofNat n)) || (ilt (1024 : Int) (Int.ofNat q)) with
    | true => rfl
    | false =>
      cases hb : badL n 1024 l with
      | true => exact h2
      | false =>
        have h0 : onE n q l = 0 := by unfold onE; rw [he, hb]; rfl
        obtain ⟨b1, b2, b3⟩ := one_ok h0
        have r1 := run1P (B := B) (l := l) b1 b2
        have hc := cnt_le (pk q B l) n
        have r2 := run2P (n := n) (c := cnt (pk q B l) n) (w := NW (pk q B l) n) (f := OL (pk q B l) l n) (by omega) (fun k hk => by
          rw [OL_at n k hk]
          obtain ⟨w, c1, c2, _⟩ := NL_lt n k hk
          rw [c2, toNat_of]; exact (b3 w c1).2)
        rw [cond_false, cond_false, h2, r1.1, r1.2, ile_true (Int.le_refl (Int.ofNat n)), ile_true (show (8 : Int) * (Int.ofNat n) ≤ 281474976710656 by simp; omega), ile_true (show Int.ofNat n ≤ 9223372036854775807 by simp; omega)]
        exact r2.1
  · unfold s_solve_Only_0
    simp only [checkP', ieq_200, csame_eq]
    simp only at h1
    rw [h1, hz]
    cases he : (ilt (1048576 : Int) (Int.ofNat n)) || (ilt (1024 : Int) (Int.ofNat q)) with
    | true => rfl
    | false =>
      cases hb : badL n 1024 l with
      | true => rfl
      | false =>
        have h0 : onE n q l = 0 := by unfold onE; rw [he, hb]; rfl
        obtain ⟨b1, b2, b3⟩ := one_ok h0
        rw [(run1P (B := B) (l := l) b1 b2).2]; rfl
  · unfold s_solve_Only_2
    simp only [checkP', ieq_200, csame_eq]
    simp only at h1
    rw [h1, hz]
    cases he : (ilt (1048576 : Int) (Int.ofNat n)) || (ilt (1024 : Int) (Int.ofNat q)) with
    | true => rfl
    | false =>
      cases hb : badL n 1024 l with
      | true => rfl
      | false =>
        have h0 : onE n q l = 0 := by unfold onE; rw [he, hb]; rfl
        obtain ⟨b1, b2, b3⟩ := one_ok h0
        rw [(run1P (B := B) (l := l) b1 b2).2]; rfl
  · intro h0
    obtain ⟨b1, b2, b3⟩ := one_ok h0
    have r1 := (run1P (B := B) (l := l) b1 b2).2
    have hc := cnt_le (pk q B l) n
    have r2 := run2P (n := n) (c := cnt (pk q B l) n) (w := NW (pk q B l) n) (f := OL (pk q B l) l n) (by omega) (fun k hk => by
      rw [OL_at n k hk]
      obtain ⟨w, c1, c2, _⟩ := NL_lt n k hk
      rw [c2, toNat_of]; exact (b3 w c1).2)
    have g : ∀ X : V_solve_Only_L1, X = V_solve_Only_L1.mk (cnt (pk q B l) n) (Int.ofNat n) (NW (pk q B l) n) (fun j => ((OL (pk q B l) l n) j).v0) (fun j => ((OL (pk q B l) l n) j).v1) (fun j => ((OL (pk q B l) l n) j).v2) (fun j => ((OL (pk q B l) l n) j).v3) (fun j => ((OL (pk q B l) l n) j).v4) (fun j => ((OL (pk q B l) l n) j).v5) (fun j => ((OL (pk q B l) l n) j).v6) (fun j => ((OL (pk q B l) l n) j).v7) (fun j => ((OL (pk q B l) l n) j).v8) (fun j => ((OL (pk q B l) l n) j).v9) (fun j => ((OL (pk q B l) l n) j).v10) (fun j => ((OL (pk q B l) l n) j).v11) (fun j => ((OL (pk q B l) l n) j).v12) (fun j => ((OL (pk q B l) l n) j).v13) (NL (pk q B l) n) →
        X.v0 = cnt (pk q B l) n ∧ X.v17 = NL (pk q B l) n ∧ (fun j => (⟨(L_solve_Only_L2 X.v0 n (Int.ofNat X.v0) X.v2 (V_solve_Only_L2.mk (0 : Int) X.v3 X.v4 X.v5 X.v6 X.v7 X.v8 X.v9 X.v10 X.v11 X.v12 X.v13 X.v14 X.v15 X.v16)).v1 j, (L_solve_Only_L2 X.v0 n (Int.ofNat X.v0) X.v2 (V_solve_Only_L2.mk (0 : Int) X.v3 X.v4 X.v5 X.v6 X.v7 X.v8 X.v9 X.v10 X.v11 X.v12 X.v13 X.v14 X.v15 X.v16)).v2 j, (L_solve_Only_L2 X.v0 n (Int.ofNat X.v0) X.v2 (V_solve_Only_L2.mk (0 : Int) X.v3 X.v4 X.v5 X.v6 X.v7 X.v8 X.v9 X.v10 X.v11 X.v12 X.v13 X.v14 X.v15 X.v16)).v3 j, (L_solve_Only_L2 X.v0 n (Int.ofNat X.v0) X.v2 (V_solve_Only_L2.mk (0 : Int) X.v3 X.v4 X.v5 X.v6 X.v7 X.v8 X.v9 X.v10 X.v11 X.v12 X.v13 X.v14 X.v15 X.v16)).v4 j, (L_solve_Only_L2 X.v0 n (Int.ofNat X.v0) X.v2 (V_solve_Only_L2.mk (0 : Int) X.v3 X.v4 X.v5 X.v6 X.v7 X.v8 X.v9 X.v10 X.v11 X.v12 X.v13 X.v14 X.v15 X.v16)).v5 j, (L_solve_Only_L2 X.v0 n (Int.ofNat X.v0) X.v2 (V_solve_Only_L2.mk (0 : Int) X.v3 X.v4 X.v5 X.v6 X.v7 X.v8 X.v9 X.v10 X.v11 X.v12 X.v13 X.v14 X.v15 X.v16)).v6 j, (L_solve_Only_L2 X.v0 n (Int.ofNat X.v0) X.v2 (V_solve_Only_L2.mk (0 : Int) X.v3 X.v4 X.v5 X.v6 X.v7 X.v8 X.v9 X.v10 X.v11 X.v12 X.v13 X.v14 X.v15 X.v16)).v7 j, (L_solve_Only_L2 X.v0 n (Int.ofNat X.v0) X.v2 (V_solve_Only_L2.mk (0 : Int) X.v3 X.v4 X.v5 X.v6 X.v7 X.v8 X.v9 X.v10 X.v11 X.v12 X.v13 X.v14 X.v15 X.v16)).v8 j, (L_solve_Only_L2 X.v0 n (Int.ofNat X.v0) X.v2 (V_solve_Only_L2.mk (0 : Int) X.v3 X.v4 X.v5 X.v6 X.v7 X.v8 X.v9 X.v10 X.v11 X.v12 X.v13 X.v14 X.v15 X.v16)).v9 j, (L_solve_Only_L2 X.v0 n (Int.ofNat X.v0) X.v2 (V_solve_Only_L2.mk (0 : Int) X.v3 X.v4 X.v5 X.v6 X.v7 X.v8 X.v9 X.v10 X.v11 X.v12 X.v13 X.v14 X.v15 X.v16)).v10 j, (L_solve_Only_L2 X.v0 n (Int.ofNat X.v0) X.v2 (V_solve_Only_L2.mk (0 : Int) X.v3 X.v4 X.v5 X.v6 X.v7 X.v8 X.v9 X.v10 X.v11 X.v12 X.v13 X.v14 X.v15 X.v16)).v11 j, (L_solve_Only_L2 X.v0 n (Int.ofNat X.v0) X.v2 (V_solve_Only_L2.mk (0 : Int) X.v3 X.v4 X.v5 X.v6 X.v7 X.v8 X.v9 X.v10 X.v11 X.v12 X.v13 X.v14 X.v15 X.v16)).v12 j, (L_solve_Only_L2 X.v0 n (Int.ofNat X.v0) X.v2 (V_solve_Only_L2.mk (0 : Int) X.v3 X.v4 X.v5 X.v6 X.v7 X.v8 X.v9 X.v10 X.v11 X.v12 X.v13 X.v14 X.v15 X.v16)).v13 j, (L_solve_Only_L2 X.v0 n (Int.ofNat X.v0) X.v2 (V_solve_Only_L2.mk (0 : Int) X.v3 X.v4 X.v5 X.v6 X.v7 X.v8 X.v9 X.v10 X.v11 X.v12 X.v13 X.v14 X.v15 X.v16)).v14 j⟩ : Rw)) = F2 (NW (pk q B l) n) (OL (pk q B l) l n) (cnt (pk q B l) n) := by
      rintro _ rfl
      refine ⟨rfl, rfl, ?_⟩
      show (fun j => (⟨(L_solve_Only_L2 (cnt (pk q B l) n) n (Int.ofNat (cnt (pk q B l) n)) (NW (pk q B l) n) (V_solve_Only_L2.mk (0 : Int) (fun j => ((OL (pk q B l) l n) j).v0) (fun j => ((OL (pk q B l) l n) j).v1) (fun j => ((OL (pk q B l) l n) j).v2) (fun j => ((OL (pk q B l) l n) j).v3) (fun j => ((OL (pk q B l) l n) j).v4) (fun j => ((OL (pk q B l) l n) j).v5) (fun j => ((OL (pk q B l) l n) j).v6) (fun j => ((OL (pk q B l) l n) j).v7) (fun j => ((OL (pk q B l) l n) j).v8) (fun j => ((OL (pk q B l) l n) j).v9) (fun j => ((OL (pk q B l) l n) j).v10) (fun j => ((OL (pk q B l) l n) j).v11) (fun j => ((OL (pk q B l) l n) j).v12) (fun j => ((OL (pk q B l) l n) j).v13))).v1 j, (L_solve_Only_L2 (cnt (pk q B l) n) n (Int.ofNat (cnt (pk q B l) n)) (NW (pk q B l) n) (V_solve_Only_L2.mk (0 : Int) (fun j => ((OL (pk q B l) l n) j).v0) (fun j => ((OL (pk q B l) l n) j).v1) (fun j => ((OL (pk q B l) l n) j).v2) (fun j => ((OL (pk q B l) l n) j).v3) (fun j => ((OL (pk q B l) l n) j).v4) (fun j => ((OL (pk q B l) l n) j).v5) (fun j => ((OL (pk q B l) l n) j).v6) (fun j => ((OL (pk q B l) l n) j).v7) (fun j => ((OL (pk q B l) l n) j).v8) (fun j => ((OL (pk q B l) l n) j).v9) (fun j => ((OL (pk q B l) l n) j).v10) (fun j => ((OL (pk q B l) l n) j).v11) (fun j => ((OL (pk q B l) l n) j).v12) (fun j => ((OL (pk q B l) l n) j).v13))).v2 j, (L_solve_Only_L2 (cnt (pk q B l) n) n (Int.ofNat (cnt (pk q B l) n)) (NW (pk q B l) n) (V_solve_Only_L2.mk (0 : Int) (fun j => ((OL (pk q B l) l n) j).v0) (fun j => ((OL (pk q B l) l n) j).v1) (fun j => ((OL (pk q B l) l n) j).v2) (fun j => ((OL (pk q B l) l n) j).v3) (fun j => ((OL (pk q B l) l n) j).v4) (fun j => ((OL (pk q B l) l n) j).v5) (fun j => ((OL (pk q B l) l n) j).v6) (fun j => ((OL (pk q B l) l n) j).v7) (fun j => ((OL (pk q B l) l n) j).v8) (fun j => ((OL (pk q B l) l n) j).v9) (fun j => ((OL (pk q B l) l n) j).v10) (fun j => ((OL (pk q B l) l n) j).v11) (fun j => ((OL (pk q B l) l n) j).v12) (fun j => ((OL (pk q B l) l n) j).v13))).v3 j, (L_solve_Only_L2 (cnt (pk q B l) n) n (Int.ofNat (cnt (pk q B l) n)) (NW (pk q B l) n) (V_solve_Only_L2.mk (0 : Int) (fun j => ((OL (pk q B l) l n) j).v0) (fun j => ((OL (pk q B l) l n) j).v1) (fun j => ((OL (pk q B l) l n) j).v2) (fun j => ((OL (pk q B l) l n) j).v3) (fun j => ((OL (pk q B l) l n) j).v4) (fun j => ((OL (pk q B l) l n) j).v5) (fun j => ((OL (pk q B l) l n) j).v6) (fun j => ((OL (pk q B l) l n) j).v7) (fun j => ((OL (pk q B l) l n) j).v8) (fun j => ((OL (pk q B l) l n) j).v9) (fun j => ((OL (pk q B l) l n) j).v10) (fun j => ((OL (pk q B l) l n) j).v11) (fun j => ((OL (pk q B l) l n) j).v12) (fun j => ((OL (pk q B l) l n) j).v13))).v4 j, (L_solve_Only_L2 (cnt (pk q B l) n) n (Int.ofNat (cnt (pk q B l) n)) (NW (pk q B l) n) (V_solve_Only_L2.mk (0 : Int) (fun j => ((OL (pk q B l) l n) j).v0) (fun j => ((OL (pk q B l) l n) j).v1) (fun j => ((OL (pk q B l) l n) j).v2) (fun j => ((OL (pk q B l) l n) j).v3) (fun j => ((OL (pk q B l) l n) j).v4) (fun j => ((OL (pk q B l) l n) j).v5) (fun j => ((OL (pk q B l) l n) j).v6) (fun j => ((OL (pk q B l) l n) j).v7) (fun j => ((OL (pk q B l) l n) j).v8) (fun j => ((OL (pk q B l) l n) j).v9) (fun j => ((OL (pk q B l) l n) j).v10) (fun j => ((OL (pk q B l) l n) j).v11) (fun j => ((OL (pk q B l) l n) j).v12) (fun j => ((OL (pk q B l) l n) j).v13))).v5 j, (L_solve_Only_L2 (cnt (pk q B l) n) n (Int.ofNat (cnt (pk q B l) n)) (NW (pk q B l) n) (V_solve_Only_L2.mk (0 : Int) (fun j => ((OL (pk q B l) l n) j).v0) (fun j => ((OL (pk q B l) l n) j).v1) (fun j => ((OL (pk q B l) l n) j).v2) (fun j => ((OL (pk q B l) l n) j).v3) (fun j => ((OL (pk q B l) l n) j).v4) (fun j => ((OL (pk q B l) l n) j).v5) (fun j => ((OL (pk q B l) l n) j).v6) (fun j => ((OL (pk q B l) l n) j).v7) (fun j => ((OL (pk q B l) l n) j).v8) (fun j => ((OL (pk q B l) l n) j).v9) (fun j => ((OL (pk q B l) l n) j).v10) (fun j => ((OL (pk q B l) l n) j).v11) (fun j => ((OL (pk q B l) l n) j).v12) (fun j => ((OL (pk q B l) l n) j).v13))).v6 j, (L_solve_Only_L2 (cnt (pk q B l) n) n (Int.ofNat (cnt (pk q B l) n)) (NW (pk q B l) n) (V_solve_Only_L2.mk (0 : Int) (fun j => ((OL (pk q B l) l n) j).v0) (fun j => ((OL (pk q B l) l n) j).v1) (fun j => ((OL (pk q B l) l n) j).v2) (fun j => ((OL (pk q B l) l n) j).v3) (fun j => ((OL (pk q B l) l n) j).v4) (fun j => ((OL (pk q B l) l n) j).v5) (fun j => ((OL (pk q B l) l n) j).v6) (fun j => ((OL (pk q B l) l n) j).v7) (fun j => ((OL (pk q B l) l n) j).v8) (fun j => ((OL (pk q B l) l n) j).v9) (fun j => ((OL (pk q B l) l n) j).v10) (fun j => ((OL (pk q B l) l n) j).v11) (fun j => ((OL (pk q B l) l n) j).v12) (fun j => ((OL (pk q B l) l n) j).v13))).v7 j, (L_solve_Only_L2 (cnt (pk q B l) n) n (Int.ofNat (cnt (pk q B l) n)) (NW (pk q B l) n) (V_solve_Only_L2.mk (0 : Int) (fun j => ((OL (pk q B l) l n) j).v0) (fun j => ((OL (pk q B l) l n) j).v1) (fun j => ((OL (pk q B l) l n) j).v2) (fun j => ((OL (pk q B l) l n) j).v3) (fun j => ((OL (pk q B l) l n) j).v4) (fun j => ((OL (pk q B l) l n) j).v5) (fun j => ((OL (pk q B l) l n) j).v6) (fun j => ((OL (pk q B l) l n) j).v7) (fun j => ((OL (pk q B l) l n) j).v8) (fun j => ((OL (pk q B l) l n) j).v9) (fun j => ((OL (pk q B l) l n) j).v10) (fun j => ((OL (pk q B l) l n) j).v11) (fun j => ((OL (pk q B l) l n) j).v12) (fun j => ((OL (pk q B l) l n) j).v13))).v8 j, (L_solve_Only_L2 (cnt (pk q B l) n) n (Int.ofNat (cnt (pk q B l) n)) (NW (pk q B l) n) (V_solve_Only_L2.mk (0 : Int) (fun j => ((OL (pk q B l) l n) j).v0) (fun j => ((OL (pk q B l) l n) j).v1) (fun j => ((OL (pk q B l) l n) j).v2) (fun j => ((OL (pk q B l) l n) j).v3) (fun j => ((OL (pk q B l) l n) j).v4) (fun j => ((OL (pk q B l) l n) j).v5) (fun j => ((OL (pk q B l) l n) j).v6) (fun j => ((OL (pk q B l) l n) j).v7) (fun j => ((OL (pk q B l) l n) j).v8) (fun j => ((OL (pk q B l) l n) j).v9) (fun j => ((OL (pk q B l) l n) j).v10) (fun j => ((OL (pk q B l) l n) j).v11) (fun j => ((OL (pk q B l) l n) j).v12) (fun j => ((OL (pk q B l) l n) j).v13))).v9 j, (L_solve_Only_L2 (cnt (pk q B l) n) n (Int.ofNat (cnt (pk q B l) n)) (NW (pk q B l) n) (V_solve_Only_L2.mk (0 : Int) (fun j => ((OL (pk q B l) l n) j).v0) (fun j => ((OL (pk q B l) l n) j).v1) (fun j => ((OL (pk q B l) l n) j).v2) (fun j => ((OL (pk q B l) l n) j).v3) (fun j => ((OL (pk q B l) l n) j).v4) (fun j => ((OL (pk q B l) l n) j).v5) (fun j => ((OL (pk q B l) l n) j).v6) (fun j => ((OL (pk q B l) l n) j).v7) (fun j => ((OL (pk q B l) l n) j).v8) (fun j => ((OL (pk q B l) l n) j).v9) (fun j => ((OL (pk q B l) l n) j).v10) (fun j => ((OL (pk q B l) l n) j).v11) (fun j => ((OL (pk q B l) l n) j).v12) (fun j => ((OL (pk q B l) l n) j).v13))).v10 j, (L_solve_Only_L2 (cnt (pk q B l) n) n (Int.ofNat (cnt (pk q B l) n)) (NW (pk q B l) n) (V_solve_Only_L2.mk (0 : Int) (fun j => ((OL (pk q B l) l n) j).v0) (fun j => ((OL (pk q B l) l n) j).v1) (fun j => ((OL (pk q B l) l n) j).v2) (fun j => ((OL (pk q B l) l n) j).v3) (fun j => ((OL (pk q B l) l n) j).v4) (fun j => ((OL (pk q B l) l n) j).v5) (fun j => ((OL (pk q B l) l n) j).v6) (fun j => ((OL (pk q B l) l n) j).v7) (fun j => ((OL (pk q B l) l n) j).v8) (fun j => ((OL (pk q B l) l n) j).v9) (fun j => ((OL (pk q B l) l n) j).v10) (fun j => ((OL (pk q B l) l n) j).v11) (fun j => ((OL (pk q B l) l n) j).v12) (fun j => ((OL (pk q B l) l n) j).v13))).v11 j, (L_solve_Only_L2 (cnt (pk q B l) n) n (Int.ofNat (cnt (pk q B l) n)) (NW (pk q B l) n) (V_solve_Only_L2.mk (0 : Int) (fun j => ((OL (pk q B l) l n) j).v0) (fun j => ((OL (pk q B l) l n) j).v1) (fun j => ((OL (pk q B l) l n) j).v2) (fun j => ((OL (pk q B l) l n) j).v3) (fun j => ((OL (pk q B l) l n) j).v4) (fun j => ((OL (pk q B l) l n) j).v5) (fun j => ((OL (pk q B l) l n) j).v6) (fun j => ((OL (pk q B l) l n) j).v7) (fun j => ((OL (pk q B l) l n) j).v8) (fun j => ((OL (pk q B l) l n) j).v9) (fun j => ((OL (pk q B l) l n) j).v10) (fun j => ((OL (pk q B l) l n) j).v11) (fun j => ((OL (pk q B l) l n) j).v12) (fun j => ((OL (pk q B l) l n) j).v13))).v12 j, (L_solve_Only_L2 (cnt (pk q B l) n) n (Int.ofNat (cnt (pk q B l) n)) (NW (pk q B l) n) (V_solve_Only_L2.mk (0 : Int) (fun j => ((OL (pk q B l) l n) j).v0) (fun j => ((OL (pk q B l) l n) j).v1) (fun j => ((OL (pk q B l) l n) j).v2) (fun j => ((OL (pk q B l) l n) j).v3) (fun j => ((OL (pk q B l) l n) j).v4) (fun j => ((OL (pk q B l) l n) j).v5) (fun j => ((OL (pk q B l) l n) j).v6) (fun j => ((OL (pk q B l) l n) j).v7) (fun j => ((OL (pk q B l) l n) j).v8) (fun j => ((OL (pk q B l) l n) j).v9) (fun j => ((OL (pk q B l) l n) j).v10) (fun j => ((OL (pk q B l) l n) j).v11) (fun j => ((OL (pk q B l) l n) j).v12) (fun j => ((OL (pk q B l) l n) j).v13))).v13 j, (L_solve_Only_L2 (cnt (pk q B l) n) n (Int.ofNat (cnt (pk q B l) n)) (NW (pk q B l) n) (V_solve_Only_L2.mk (0 : Int) (fun j => ((OL (pk q B l) l n) j).v0) (fun j => ((OL (pk q B l) l n) j).v1) (fun j => ((OL (pk q B l) l n) j).v2) (fun j => ((OL (pk q B l) l n) j).v3) (fun j => ((OL (pk q B l) l n) j).v4) (fun j => ((OL (pk q B l) l n) j).v5) (fun j => ((OL (pk q B l) l n) j).v6) (fun j => ((OL (pk q B l) l n) j).v7) (fun j => ((OL (pk q B l) l n) j).v8) (fun j => ((OL (pk q B l) l n) j).v9) (fun j => ((OL (pk q B l) l n) j).v10) (fun j => ((OL (pk q B l) l n) j).v11) (fun j => ((OL (pk q B l) l n) j).v12) (fun j => ((OL (pk q B l) l n) j).v13))).v14 j⟩ : Rw)) = _
      rw [r2.2]
    obtain ⟨g1, g2, g3⟩ := g _ r1
    exact ⟨g1, g1, g2, g3⟩
theorem onlyR {n q : Nat} {l : Nat → Rw} {B : Nat → Int} (hn : n < 9223372036854775807) :
    s_ref21_Only_4 n (fun j => (l j).v0) (fun j => (l j).v1) (fun j => (l j).v2) (fun j => (l j).v3) (fun j => (l j).v4) (fun j => (l j).v5) (fun j => (l j).v6) (fun j => (l j).v7) (fun j => (l j).v8) (fun j => (l j).v9) (fun j => (l j).v10) (fun j => (l j).v11) (fun j => (l j).v12) (fun j => (l j).v13) q B = onE n q l ∧ o_ref21_Only n (fun j => (l j).v0) (fun j => (l j).v1) (fun j => (l j).v2) (fun j => (l j).v3) (fun j => (l j).v4) (fun j => (l j).v5) (fun j => (l j).v6) (fun j => (l j).v7) (fun j => (l j).v8) (fun j => (l j).v9) (fun j => (l j).v10) (fun j => (l j).v11) (fun j => (l j).v12) (fun j => (l j).v13) q B = true ∧
    s_ref21_Only_0 n (fun j => (l j).v0) (fun j => (l j).v1) (fun j => (l j).v2) (fun j => (l j).v3) (fun j => (l j).v4) (fun j => (l j).v5) (fun j => (l j).v6) (fun j => (l j).v7) (fun j => (l j).v8) (fun j => (l j).v9) (fun j => (l j).v10) (fun j => (l j).v11) (fun j => (l j).v12) (fun j => (l j).v13) q B = (bif ieq (onE n q l) 0 then cnt (pk q B l) n else 0) ∧ s_ref21_Only_2 n (fun j => (l j).v0) (fun j => (l j).v1) (fun j => (l j).v2) (fun j => (l j).v3) (fun j => (l j).v4) (fun j => (l j).v5) (fun j => (l j).v6) (fun j => (l j).v7) (fun j => (l j).v8) (fun j => (l j).v9) (fun j => (l j).v10) (fun j => (l j).v11) (fun j => (l j).v12) (fun j => (l j).v13) q B = (bif ieq (onE n q l) 0 then cnt (pk q B l) n else 0) ∧
    (onE n q l = 0 → s_ref21_Only_5 n (fun j => (l j).v0) (fun j => (l j).v1) (fun j => (l j).v2) (fun j => (l j).v3) (fun j => (l j).v4) (fun j => (l j).v5) (fun j => (l j).v6) (fun j => (l j).v7) (fun j => (l j).v8) (fun j => (l j).v9) (fun j => (l j).v10) (fun j => (l j).v11) (fun j => (l j).v12) (fun j => (l j).v13) q B = cnt (pk q B l) n ∧ s_ref21_Only_20 n (fun j => (l j).v0) (fun j => (l j).v1) (fun j => (l j).v2) (fun j => (l j).v3) (fun j => (l j).v4) (fun j => (l j).v5) (fun j => (l j).v6) (fun j => (l j).v7) (fun j => (l j).v8) (fun j => (l j).v9) (fun j => (l j).v10) (fun j => (l j).v11) (fun j => (l j).v12) (fun j => (l j).v13) q B = cnt (pk q B l) n ∧ s_ref21_Only_21 n (fun j => (l j).v0) (fun j => (l j).v1) (fun j => (l j).v2) (fun j => (l j).v3) (fun j => (l j).v4) (fun j => (l j).v5) (fun j => (l j).v6) (fun j => (l j).v7) (fun j => (l j).v8) (fun j => (l j).v9) (fun j => (l j).v10) (fun j => (l j).v11) (fun j => (l j).v12) (fun j => (l j).v13) q B = NL (pk q B l) n ∧ onRl n l q B = fun j => hang (OL (pk q B l) l n j) (G4 (cnt (pk q B l) n) (NL (pk q B l) n) (fun j => (OL (pk q B l) l n j).v12) (cnt (pk q B l) n) j)) := by
  obtain ⟨h1, h2⟩ := onR_rows (l := l) hn
  have hz : ieq (onE n q l) 0 = !(((ilt (1048576 : Int) (Int.ofNat n)) || (ilt (1024 : Int) (Int.ofNat q))) || badL n 1024 l) := by
    rw [← ieq_bif ((ilt (1048576 : Int) (Int.ofNat n)) || (ilt (1024 : Int) (Int.ofNat q))) (badL n 1024 l), Bool.not_not]; rfl
  refine ⟨?_, ?_, ?_, ?_, ?_⟩
  · unfold s_ref21_Only_4 onE
    simp only [checkR', ieq_200]
    simp only at h1
    rw [h1]
  · unfold o_ref21_Only
    simp only [checkR', ieq_200, mrgB_eq]
    simp only at h1
    rw [h1]
    cases he : (ilt (1048576 : Int) (Int.ofNat n)) || (ilt (1024 : Int) (Int.ofNat q)) with
    | true => rfl
    | false =>
      cases hb : badL n 1024 l with
      | true => exact h2
      | false =>
        have h0 : onE n q l = 0 := by unfold onE; rw [he, hb]; rfl
        obtain ⟨b1, b2, b3⟩ := one_ok h0
        have r1 := run2R (B := B) (l := l) b1 b2
        have hc := cnt_le (pk q B l) n
        have r4 := run4R (c := cnt (pk q B l) n) (N := NL (pk q B l) n) (g := fun j => (OL (pk q B l) l n j).v12) (by omega)
        rw [cond_false, cond_false, h2, r1.1, r1.2]
        exact r4.1
  · unfold s_ref21_Only_0
    simp only [checkR', ieq_200, csame_eq]
    simp only at h1
    rw [h1, hz]
    cases he : (ilt (1048576 : Int) (Int.ofNat n)) || (ilt (1024 : Int) (Int.ofNat q)) with
    | true => rfl
    | false =>
      cases hb : badL n 1024 l with
      | true => rfl
      | false =>
        have h0 : onE n q l = 0 := by unfold onE; rw [he, hb]; rfl
        obtain ⟨b1, b2, b3⟩ := one_ok h0
        rw [(run2R (B := B) (l := l) b1 b2).2]; rfl
  · unfold s_ref21_Only_2
    simp only [checkR', ieq_200, csame_eq]
    simp only at h1
    rw [h1, hz]
    cases he : (ilt (1048576 : Int) (Int.ofNat n)) || (ilt (1024 : Int) (Int.ofNat q)) with
    | true => rfl
    | false =>
      cases hb : badL n 1024 l with
      | true => rfl
      | false =>
        have h0 : onE n q l = 0 := by unfold onE; rw [he, hb]; rfl
        obtain ⟨b1, b2, b3⟩ := one_ok h0
        rw [(run2R (B := B) (l := l) b1 b2).2]; rfl
  · intro h0
    obtain ⟨b1, b2, b3⟩ := one_ok h0
    have r1 := (run2R (B := B) (l := l) b1 b2).2
    have hc := cnt_le (pk q B l) n
    have r4 := run4R (c := cnt (pk q B l) n) (N := NL (pk q B l) n) (g := fun j => (OL (pk q B l) l n j).v12) (by omega)
    have g : ∀ X : V_ref21_Only_L2, X = V_ref21_Only_L2.mk (cnt (pk q B l) n) (Int.ofNat n) (fun j => ((OL (pk q B l) l n) j).v0) (fun j => ((OL (pk q B l) l n) j).v1) (fun j => ((OL (pk q B l) l n) j).v2) (fun j => ((OL (pk q B l) l n) j).v3) (fun j => ((OL (pk q B l) l n) j).v4) (fun j => ((OL (pk q B l) l n) j).v5) (fun j => ((OL (pk q B l) l n) j).v6) (fun j => ((OL (pk q B l) l n) j).v7) (fun j => ((OL (pk q B l) l n) j).v8) (fun j => ((OL (pk q B l) l n) j).v9) (fun j => ((OL (pk q B l) l n) j).v10) (fun j => ((OL (pk q B l) l n) j).v11) (fun j => ((OL (pk q B l) l n) j).v12) (fun j => ((OL (pk q B l) l n) j).v13) (NL (pk q B l) n) →
        X.v0 = cnt (pk q B l) n ∧ X.v16 = NL (pk q B l) n ∧ (fun j => (⟨X.v2 j, X.v3 j, X.v4 j, X.v5 j, X.v6 j, X.v7 j, X.v8 j, X.v9 j, X.v10 j, X.v11 j, X.v12 j, X.v13 j, (L_ref21_Only_L4 X.v0 X.v16 (V_ref21_Only_L4.mk (0 : Int) X.v14)).v1 j, X.v15 j⟩ : Rw)) = fun j => hang (OL (pk q B l) l n j) (G4 (cnt (pk q B l) n) (NL (pk q B l) n) (fun j => (OL (pk q B l) l n j).v12) (cnt (pk q B l) n) j) := by
      rintro _ rfl
      refine ⟨rfl, rfl, ?_⟩
      show (fun j => (⟨(OL (pk q B l) l n j).v0, (OL (pk q B l) l n j).v1, (OL (pk q B l) l n j).v2, (OL (pk q B l) l n j).v3, (OL (pk q B l) l n j).v4, (OL (pk q B l) l n j).v5, (OL (pk q B l) l n j).v6, (OL (pk q B l) l n j).v7, (OL (pk q B l) l n j).v8, (OL (pk q B l) l n j).v9, (OL (pk q B l) l n j).v10, (OL (pk q B l) l n j).v11, (L_ref21_Only_L4 (cnt (pk q B l) n) (NL (pk q B l) n) (V_ref21_Only_L4.mk (0 : Int) (fun j => (OL (pk q B l) l n j).v12))).v1 j, (OL (pk q B l) l n j).v13⟩ : Rw)) = _
      rw [r4.2]; rfl
    obtain ⟨g1, g2, g3⟩ := g _ r1
    exact ⟨g1, g1, g2, g3⟩
/-- both ways answer the same rows -/
theorem only_same {n q : Nat} {l : Nat → Rw} {B : Nat → Int} (h : onE n q l = 0) : ∀ j, j < cnt (pk q B l) n → F2 (NW (pk q B l) n) (OL (pk q B l) l n) (cnt (pk q B l) n) j = hang (OL (pk q B l) l n j) (G4 (cnt (pk q B l) n) (NL (pk q B l) n) (fun j => (OL (pk q B l) l n j).v12) (cnt (pk q B l) n) j) := by
  intro j hj
  obtain ⟨b1, b2, b3⟩ := one_ok h
  rw [F2_lt _ hj, G4_lt _ hj]
  obtain ⟨w, c1, c2, _⟩ := NL_lt n j hj
  have e : OL (pk q B l) l n j = l w := by rw [OL_at n j hj, c2]; rfl
  have := b3 w c1
  show hang (OL (pk q B l) l n j) (of2 (NW (pk q B l) n) (OL (pk q B l) l n j).v12) = hang (OL (pk q B l) l n j) (last (NL (pk q B l) n) (OL (pk q B l) l n j).v12 (cnt (pk q B l) n))
  rw [e, of_same b1 this.1 this.2]
theorem ofP {n m k : Nat} {l : Nat → Rw} (hn : n ≤ 1048576) (h : inv n m l) : s_ref21_of_0 n (fun j => (l j).v0) (fun j => (l j).v1) (fun j => (l j).v2) (fun j => (l j).v3) (fun j => (l j).v4) (fun j => (l j).v5) (fun j => (l j).v6) (fun j => (l j).v7) (fun j => (l j).v8) (fun j => (l j).v9) (fun j => (l j).v10) (fun j => (l j).v11) (fun j => (l j).v12) (fun j => (l j).v13) (Int.ofNat k) = hasF n l k ∧ o_ref21_of n (fun j => (l j).v0) (fun j => (l j).v1) (fun j => (l j).v2) (fun j => (l j).v3) (fun j => (l j).v4) (fun j => (l j).v5) (fun j => (l j).v6) (fun j => (l j).v7) (fun j => (l j).v8) (fun j => (l j).v9) (fun j => (l j).v10) (fun j => (l j).v11) (fun j => (l j).v12) (fun j => (l j).v13) (Int.ofNat k) = true := by
  obtain ⟨j, hj, h1, h2, h3⟩ := scan (ok := ok_ref21_of_L0 n (fun j => (l j).v0) (fun j => (l j).v1) (Int.ofNat k)) (go := go_ref21_of_L0 n (fun j => (l j).v0) (fun j => (l j).v1) (Int.ofNat k)) (step := step_ref21_of_L0 n (fun j => (l j).v0) (fun j => (l j).v1) (Int.ofNat k)) V_ref21_of_L0.mk (fun i => ieq (l i).v0 (Int.ofNat k) || ieq (l i).v1 (Int.ofNat k)) n
    (fun k hk => by
      unfold ok_ref21_of_L0
      simp only [toNat_of, mrgB_eq, ilt_ofNat, ile_ofNat, Bool.true_and, Bool.and_self, Bool.cond_self]
      exact ok_dec _ hk) (fun k hk => by
      unfold go_ref21_of_L0
      simp only [toNat_of, ilt_ofNat]
      exact not_dec _ _ _) (fun k hk => by
      unfold step_ref21_of_L0
      simp only
      rw [succ_i64 (by omega)])
  have e : (L_ref21_of_L0 n (fun j => (l j).v0) (fun j => (l j).v1) (Int.ofNat k) (V_ref21_of_L0.mk (0 : Int))).v0 = Int.ofNat j := congrArg V_ref21_of_L0.v0 h2
  constructor
  · unfold s_ref21_of_0
    simp only [e, ilt_ofNat, toNat_of, bif_dec, Bool.and_true]
    rw [h3]
    apply decide_eq_decide.2
    constructor
    · rintro ⟨i, hi, h'⟩
      refine ⟨i, hi, ?_⟩
      simp only [Bool.or_eq_true, ieq, decide_eq_true_eq] at h'
      rcases h' with h' | h'
      · left; rw [h']; rfl
      · right; rw [h']; rfl
    · rintro ⟨i, hi, h'⟩
      refine ⟨i, hi, ?_⟩
      have hr := h i hi
      have a0 := hr.a0
      have b0 := hr.b0
      simp only [Bool.or_eq_true, ieq, decide_eq_true_eq, Int.ofNat_eq_natCast]
      omega
  · unfold o_ref21_of
    simp only [mrgB_self]
    exact h1
theorem apartR {n n' m : Nat} {l l' : Nat → Rw} {s : Nat → Sl} (hn : n < 9223372036854775807) (hn' : n' < 9223372036854775807) (hm : m < 9223372036854775807) (c : ∀ k, k < m → CF (s k).v0 ∧ CF (s k).v1) :
    s_ref21_Apart_1 n (fun j => (l j).v0) (fun j => (l j).v1) (fun j => (l j).v2) (fun j => (l j).v3) (fun j => (l j).v4) (fun j => (l j).v5) (fun j => (l j).v6) (fun j => (l j).v7) (fun j => (l j).v8) (fun j => (l j).v9) (fun j => (l j).v10) (fun j => (l j).v11) (fun j => (l j).v12) (fun j => (l j).v13) n' (fun j => (l' j).v0) (fun j => (l' j).v1) (fun j => (l' j).v2) (fun j => (l' j).v3) (fun j => (l' j).v4) (fun j => (l' j).v5) (fun j => (l' j).v6) (fun j => (l' j).v7) (fun j => (l' j).v8) (fun j => (l' j).v9) (fun j => (l' j).v10) (fun j => (l' j).v11) (fun j => (l' j).v12) (fun j => (l' j).v13) m (fun j => (s j).v0) (fun j => (s j).v1) (fun j => (s j).v2) (fun j => (s j).v3) (fun j => (s j).v4) = (bif (!(ieq (askN n m l s) 0) || !(ieq (askN n' m l' s) 0)) then (bif !(ieq (askN n m l s) 0) then askN n m l s else askN n' m l' s) else 0) ∧
    s_ref21_Apart_0 n (fun j => (l j).v0) (fun j => (l j).v1) (fun j => (l j).v2) (fun j => (l j).v3) (fun j => (l j).v4) (fun j => (l j).v5) (fun j => (l j).v6) (fun j => (l j).v7) (fun j => (l j).v8) (fun j => (l j).v9) (fun j => (l j).v10) (fun j => (l j).v11) (fun j => (l j).v12) (fun j => (l j).v13) n' (fun j => (l' j).v0) (fun j => (l' j).v1) (fun j => (l' j).v2) (fun j => (l' j).v3) (fun j => (l' j).v4) (fun j => (l' j).v5) (fun j => (l' j).v6) (fun j => (l' j).v7) (fun j => (l' j).v8) (fun j => (l' j).v9) (fun j => (l' j).v10) (fun j => (l' j).v11) (fun j => (l' j).v12) (fun j => (l' j).v13) m (fun j => (s j).v0) (fun j => (s j).v1) (fun j => (s j).v2) (fun j => (s j).v3) (fun j => (s j).v4) = (bif (!(ieq (askN n m l s) 0) || !(ieq (askN n' m l' s) 0)) then false else !(both n l n' l' m s)) ∧ o_ref21_Apart n (fun j => (l j).v0) (fun j => (l j).v1) (fun j => (l j).v2) (fun j => (l j).v3) (fun j => (l j).v4) (fun j => (l j).v5) (fun j => (l j).v6) (fun j => (l j).v7) (fun j => (l j).v8) (fun j => (l j).v9) (fun j => (l j).v10) (fun j => (l j).v11) (fun j => (l j).v12) (fun j => (l j).v13) n' (fun j => (l' j).v0) (fun j => (l' j).v1) (fun j => (l' j).v2) (fun j => (l' j).v3) (fun j => (l' j).v4) (fun j => (l' j).v5) (fun j => (l' j).v6) (fun j => (l' j).v7) (fun j => (l' j).v8) (fun j => (l' j).v9) (fun j => (l' j).v10) (fun j => (l' j).v11) (fun j => (l' j).v12) (fun j => (l' j).v13) m (fun j => (s j).v0) (fun j => (s j).v1) (fun j => (s j).v2) (fun j => (s j).v3) (fun j => (s j).v4) = true := by
  obtain ⟨a1, a2⟩ := askR (l := l) (s := s) hn hm c
  obtain ⟨a3, a4⟩ := askR (l := l') (s := s) hn' hm c
  have main : askN n m l s = 0 → askN n' m l' s = 0 → ∃ j, j ≤ m ∧ E_ref21_Apart_L0 n (fun j => (l j).v0) (fun j => (l j).v1) (fun j => (l j).v2) (fun j => (l j).v3) (fun j => (l j).v4) (fun j => (l j).v5) (fun j => (l j).v6) (fun j => (l j).v7) (fun j => (l j).v8) (fun j => (l j).v9) (fun j => (l j).v10) (fun j => (l j).v11) (fun j => (l j).v12) (fun j => (l j).v13) n' (fun j => (l' j).v0) (fun j => (l' j).v1) (fun j => (l' j).v2) (fun j => (l' j).v3) (fun j => (l' j).v4) (fun j => (l' j).v5) (fun j => (l' j).v6) (fun j => (l' j).v7) (fun j => (l' j).v8) (fun j => (l' j).v9) (fun j => (l' j).v10) (fun j => (l' j).v11) (fun j => (l' j).v12) (fun j => (l' j).v13) m (fun j => (s j).v0) (fun j => (s j).v1) (fun j => (s j).v2) (fun j => (s j).v3) (fun j => (s j).v4) (V_ref21_Apart_L0.mk (0 : Int)) = true ∧ (L_ref21_Apart_L0 n (fun j => (l j).v0) (fun j => (l j).v1) (fun j => (l j).v2) (fun j => (l j).v3) (fun j => (l j).v4) (fun j => (l j).v5) (fun j => (l j).v6) (fun j => (l j).v7) (fun j => (l j).v8) (fun j => (l j).v9) (fun j => (l j).v10) (fun j => (l j).v11) (fun j => (l j).v12) (fun j => (l j).v13) n' (fun j => (l' j).v0) (fun j => (l' j).v1) (fun j => (l' j).v2) (fun j => (l' j).v3) (fun j => (l' j).v4) (fun j => (l' j).v5) (fun j => (l' j).v6) (fun j => (l' j).v7) (fun j => (l' j).v8) (fun j => (l' j).v9) (fun j => (l' j).v10) (fun j => (l' j).v11) (fun j => (l' j).v12) (fun j => (l' j).v13) m (fun j => (s j).v0) (fun j => (s j).v1) (fun j => (s j).v2) (fun j => (s j).v3) (fun j => (s j).v4) (V_ref21_Apart_L0.mk (0 : Int))).v0 = Int.ofNat j ∧
      (decide (j < m) && (((mv (s j)) && s_ref21_of_0 n (fun j => (l j).v0) (fun j => (l j).v1) (fun j => (l j).v2) (fun j => (l j).v3) (fun j => (l j).v4) (fun j => (l j).v5) (fun j => (l j).v6) (fun j => (l j).v7) (fun j => (l j).v8) (fun j => (l j).v9) (fun j => (l j).v10) (fun j => (l j).v11) (fun j => (l j).v12) (fun j => (l j).v13) (Int.ofNat j)) && s_ref21_of_0 n' (fun j => (l' j).v0) (fun j => (l' j).v1) (fun j => (l' j).v2) (fun j => (l' j).v3) (fun j => (l' j).v4) (fun j => (l' j).v5) (fun j => (l' j).v6) (fun j => (l' j).v7) (fun j => (l' j).v8) (fun j => (l' j).v9) (fun j => (l' j).v10) (fun j => (l' j).v11) (fun j => (l' j).v12) (fun j => (l' j).v13) (Int.ofNat j))) = both n l n' l' m s := fun h1 h2 => by
    obtain ⟨b1, b2, hi, _⟩ := ask_ok h1
    obtain ⟨c1, _, hi', _⟩ := ask_ok h2
    have f1 : ∀ k, s_ref21_of_0 n (fun j => (l j).v0) (fun j => (l j).v1) (fun j => (l j).v2) (fun j => (l j).v3) (fun j => (l j).v4) (fun j => (l j).v5) (fun j => (l j).v6) (fun j => (l j).v7) (fun j => (l j).v8) (fun j => (l j).v9) (fun j => (l j).v10) (fun j => (l j).v11) (fun j => (l j).v12) (fun j => (l j).v13) (Int.ofNat k) = hasF n l k := fun k => (ofP b1 hi).1
    have f2 : ∀ k, s_ref21_of_0 n' (fun j => (l' j).v0) (fun j => (l' j).v1) (fun j => (l' j).v2) (fun j => (l' j).v3) (fun j => (l' j).v4) (fun j => (l' j).v5) (fun j => (l' j).v6) (fun j => (l' j).v7) (fun j => (l' j).v8) (fun j => (l' j).v9) (fun j => (l' j).v10) (fun j => (l' j).v11) (fun j => (l' j).v12) (fun j => (l' j).v13) (Int.ofNat k) = hasF n' l' k := fun k => (ofP c1 hi').1
    have g1 : ∀ k, o_ref21_of n (fun j => (l j).v0) (fun j => (l j).v1) (fun j => (l j).v2) (fun j => (l j).v3) (fun j => (l j).v4) (fun j => (l j).v5) (fun j => (l j).v6) (fun j => (l j).v7) (fun j => (l j).v8) (fun j => (l j).v9) (fun j => (l j).v10) (fun j => (l j).v11) (fun j => (l j).v12) (fun j => (l j).v13) (Int.ofNat k) = true := fun k => (ofP b1 hi).2
    have g2 : ∀ k, o_ref21_of n' (fun j => (l' j).v0) (fun j => (l' j).v1) (fun j => (l' j).v2) (fun j => (l' j).v3) (fun j => (l' j).v4) (fun j => (l' j).v5) (fun j => (l' j).v6) (fun j => (l' j).v7) (fun j => (l' j).v8) (fun j => (l' j).v9) (fun j => (l' j).v10) (fun j => (l' j).v11) (fun j => (l' j).v12) (fun j => (l' j).v13) (Int.ofNat k) = true := fun k => (ofP c1 hi').2
    obtain ⟨j, hj, e1, e2, e3⟩ := scan (ok := ok_ref21_Apart_L0 n (fun j => (l j).v0) (fun j => (l j).v1) (fun j => (l j).v2) (fun j => (l j).v3) (fun j => (l j).v4) (fun j => (l j).v5) (fun j => (l j).v6) (fun j => (l j).v7) (fun j => (l j).v8) (fun j => (l j).v9) (fun j => (l j).v10) (fun j => (l j).v11) (fun j => (l j).v12) (fun j => (l j).v13) n' (fun j => (l' j).v0) (fun j => (l' j).v1) (fun j => (l' j).v2) (fun j => (l' j).v3) (fun j => (l' j).v4) (fun j => (l' j).v5) (fun j => (l' j).v6) (fun j => (l' j).v7) (fun j => (l' j).v8) (fun j => (l' j).v9) (fun j => (l' j).v10) (fun j => (l' j).v11) (fun j => (l' j).v12) (fun j => (l' j).v13) m (fun j => (s j).v0) (fun j => (s j).v1) (fun j => (s j).v2) (fun j => (s j).v3) (fun j => (s j).v4)) (go := go_ref21_Apart_L0 n (fun j => (l j).v0) (fun j => (l j).v1) (fun j => (l j).v2) (fun j => (l j).v3) (fun j => (l j).v4) (fun j => (l j).v5) (fun j => (l j).v6) (fun j => (l j).v7) (fun j => (l j).v8) (fun j => (l j).v9) (fun j => (l j).v10) (fun j => (l j).v11) (fun j => (l j).v12) (fun j => (l j).v13) n' (fun j => (l' j).v0) (fun j => (l' j).v1) (fun j => (l' j).v2) (fun j => (l' j).v3) (fun j => (l' j).v4) (fun j => (l' j).v5) (fun j => (l' j).v6) (fun j => (l' j).v7) (fun j => (l' j).v8) (fun j => (l' j).v9) (fun j => (l' j).v10) (fun j => (l' j).v11) (fun j => (l' j).v12) (fun j => (l' j).v13) m (fun j => (s j).v0) (fun j => (s j).v1) (fun j => (s j).v2) (fun j => (s j).v3) (fun j => (s j).v4)) (step := step_ref21_Apart_L0 n (fun j => (l j).v0) (fun j => (l j).v1) (fun j => (l j).v2) (fun j => (l j).v3) (fun j => (l j).v4) (fun j => (l j).v5) (fun j => (l j).v6) (fun j => (l j).v7) (fun j => (l j).v8) (fun j => (l j).v9) (fun j => (l j).v10) (fun j => (l j).v11) (fun j => (l j).v12) (fun j => (l j).v13) n' (fun j => (l' j).v0) (fun j => (l' j).v1) (fun j => (l' j).v2) (fun j => (l' j).v3) (fun j => (l' j).v4) (fun j => (l' j).v5) (fun j => (l' j).v6) (fun j => (l' j).v7) (fun j => (l' j).v8) (fun j => (l' j).v9) (fun j => (l' j).v10) (fun j => (l' j).v11) (fun j => (l' j).v12) (fun j => (l' j).v13) m (fun j => (s j).v0) (fun j => (s j).v1) (fun j => (s j).v2) (fun j => (s j).v3) (fun j => (s j).v4)) V_ref21_Apart_L0.mk (fun k => ((mv (s k)) && hasF n l k) && hasF n' l' k) m
      (fun k hk => by
        unfold ok_ref21_Apart_L0
        simp only [toNat_of, mrgB_eq, ilt_ofNat, ile_ofNat, Bool.true_and, allB_true, g1, g2, Bool.cond_self]
        exact ok_dec _ hk) (fun k hk => by
        unfold go_ref21_Apart_L0
        simp only [toNat_of, ilt_ofNat, f1, f2]
        exact not_dec _ _ _) (fun k hk => by
        unfold step_ref21_Apart_L0
        simp only
        rw [succ_i64 (by omega)])
    refine ⟨j, hj, e1, congrArg V_ref21_Apart_L0.v0 e2, ?_⟩
    rw [f1, f2, e3]
    apply decide_eq_decide.2
    constructor
    · rintro ⟨i, hi, h⟩
      refine ⟨i, hi, ?_⟩
      rw [heldF_eq, heldF_eq]
      simp only [Bool.and_eq_true] at h ⊢
      exact ⟨⟨h.1.2, h.1.1⟩, h.2, h.1.1⟩
    · rintro ⟨i, hi, h⟩
      refine ⟨i, hi, ?_⟩
      rw [heldF_eq, heldF_eq] at h
      simp only [Bool.and_eq_true] at h ⊢
      exact ⟨⟨h.1.2, h.1.1⟩, h.2.1⟩
  refine ⟨?_, ?_, ?_⟩
  · unfold s_ref21_Apart_1
    simp only [a1, a3, Bool.cond_self]
    cases ieq (askN n m l s) 0 <;> cases ieq (askN n' m l' s) 0 <;> rfl
  · unfold s_ref21_Apart_0
    simp only [a1, a3]
    by_cases h1 : askN n m l s = 0
    · by_cases h2 : askN n' m l' s = 0
      · obtain ⟨j, hj, e1, e2, e3⟩ := main h1 h2
        rw [h1, h2, e2, toNat_of, ilt_ofNat, ← e3]
        show (bif _ then false else bif _ then false else bif (bif !(decide (j < m)) then false else (((mv (s j)) && s_ref21_of_0 n (fun j => (l j).v0) (fun j => (l j).v1) (fun j => (l j).v2) (fun j => (l j).v3) (fun j => (l j).v4) (fun j => (l j).v5) (fun j => (l j).v6) (fun j => (l j).v7) (fun j => (l j).v8) (fun j => (l j).v9) (fun j => (l j).v10) (fun j => (l j).v11) (fun j => (l j).v12) (fun j => (l j).v13) (Int.ofNat j)) && s_ref21_of_0 n' (fun j => (l' j).v0) (fun j => (l' j).v1) (fun j => (l' j).v2) (fun j => (l' j).v3) (fun j => (l' j).v4) (fun j => (l' j).v5) (fun j => (l' j).v6) (fun j => (l' j).v7) (fun j => (l' j).v8) (fun j => (l' j).v9) (fun j => (l' j).v10) (fun j => (l' j).v11) (fun j => (l' j).v12) (fun j => (l' j).v13) (Int.ofNat j))) then false else true) = _
        rw [bif_dec (((mv (s j)) && s_ref21_of_0 n (fun j => (l j).v0) (fun j => (l j).v1) (fun j => (l j).v2) (fun j => (l j).v3) (fun j => (l j).v4) (fun j => (l j).v5) (fun j => (l j).v6) (fun j => (l j).v7) (fun j => (l j).v8) (fun j => (l j).v9) (fun j => (l j).v10) (fun j => (l j).v11) (fun j => (l j).v12) (fun j => (l j).v13) (Int.ofNat j)) && s_ref21_of_0 n' (fun j => (l' j).v0) (fun j => (l' j).v1) (fun j => (l' j).v2) (fun j => (l' j).v3) (fun j => (l' j).v4) (fun j => (l' j).v5) (fun j => (l' j).v6) (fun j => (l' j).v7) (fun j => (l' j).v8) (fun j => (l' j).v9) (fun j => (l' j).v10) (fun j => (l' j).v11) (fun j => (l' j).v12) (fun j => (l' j).v13) (Int.ofNat j)) (decide (j < m))]
        cases decide (j < m) && (((mv (s j)) && s_ref21_of_0 n (fun j => (l j).v0) (fun j => (l j).v1) (fun j => (l j).v2) (fun j => (l j).v3) (fun j => (l j).v4) (fun j => (l j).v5) (fun j => (l j).v6) (fun j => (l j).v7) (fun j => (l j).v8) (fun j => (l j).v9) (fun j => (l j).v10) (fun j => (l j).v11) (fun j => (l j).v12) (fun j => (l j).v13) (Int.ofNat j)) && s_ref21_of_0 n' (fun j => (l' j).v0) (fun j => (l' j).v1) (fun j => (l' j).v2) (fun j => (l' j).v3) (fun j => (l' j).v4) (fun j => (l' j).v5) (fun j => (l' j).v6) (fun j => (l' j).v7) (fun j => (l' j).v8) (fun j => (l' j).v9) (fun j => (l' j).v10) (fun j => (l' j).v11) (fun j => (l' j).v12) (fun j => (l' j).v13) (Int.ofNat j)) <;> rfl
      · rw [ieq0 h2]; cases ieq (askN n m l s) 0 <;> rfl
    · rw [ieq0 h1]; rfl
  · unfold o_ref21_Apart
    simp only [a1, a2, a3, a4, mrgB_eq]
    by_cases h1 : askN n m l s = 0
    · by_cases h2 : askN n' m l' s = 0
      · obtain ⟨j, hj, e1, e2, e3⟩ := main h1 h2
        rw [h1, h2, e1]
        simp only [Bool.and_self, Bool.cond_self]
      · rw [ieq0 h2]; cases ieq (askN n m l s) 0 <;> rfl
    · rw [ieq0 h1]; rfl
end Go.Proofs.Ytofpjfohijljgaa
