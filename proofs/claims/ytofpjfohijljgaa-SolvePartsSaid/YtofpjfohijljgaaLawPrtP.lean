/- The rows of some stills: what the program's and the document's loops come to. -/
import Derived.Test.YtofpjfohijljgaaLawPrtO
set_option linter.unusedVariables false
set_option linter.unusedSimpArgs false
set_option linter.unusedSectionVars false
set_option maxHeartbeats 4000000
set_option maxRecDepth 4000
namespace Go.Proofs.Ytofpjfohijljgaa
open Go.Sim Go.Lst
noncomputable def onE (n q : Nat) (l : Nat → Rw) : Int := bif (ilt (1048576 : Int) (Int.ofNat n)) || (ilt (1024 : Int) (Int.ofNat q)) then 4 else bif badL n 1024 l then 200 else 0
theorem checkP' (n : Nat) (r : Rw) : s_rows_Check_0 r.v0 r.v1 r.v2 r.v3 r.v4 r.v5 r.v6 r.v7 r.v8 r.v9 r.v10 r.v11 r.v12 r.v13 (Int.ofNat n) (1024 : Int) = bif bad n 1024 r then 200 else 0 := checkP n 1024 r
theorem checkR' (n : Nat) (r : Rw) : s_ref20_Check_0 r.v0 r.v1 r.v2 r.v3 r.v4 r.v5 r.v6 r.v7 r.v8 r.v9 r.v10 r.v11 r.v12 r.v13 (Int.ofNat n) (1024 : Int) = bif bad n 1024 r then 200 else 0 := checkR n 1024 r
theorem onP_rows {n : Nat} {l : Nat → Rw} (hn : n < 9223372036854775807) :
    (let x0 := (L_solve_Only_L0 n (fun j => (l j).v0) (fun j => (l j).v1) (fun j => (l j).v2) (fun j => (l j).v3) (fun j => (l j).v4) (fun j => (l j).v5) (fun j => (l j).v6) (fun j => (l j).v7) (fun j => (l j).v8) (fun j => (l j).v9) (fun j => (l j).v10) (fun j => (l j).v11) (fun j => (l j).v12) (fun j => (l j).v13) (Int.ofNat n) (V_solve_Only_L0.mk (0 : Int))).v0; (bif (!(ilt x0 (Int.ofNat n))) then false else (bad n 1024 (l (Int.toNat x0))))) = badL n 1024 l ∧ E_solve_Only_L0 n (fun j => (l j).v0) (fun j => (l j).v1) (fun j => (l j).v2) (fun j => (l j).v3) (fun j => (l j).v4) (fun j => (l j).v5) (fun j => (l j).v6) (fun j => (l j).v7) (fun j => (l j).v8) (fun j => (l j).v9) (fun j => (l j).v10) (fun j => (l j).v11) (fun j => (l j).v12) (fun j => (l j).v13) (Int.ofNat n) (V_solve_Only_L0.mk (0 : Int)) = true := by
  obtain ⟨j, hj, h1, h2, h3⟩ := scan (ok := ok_solve_Only_L0 n (fun j => (l j).v0) (fun j => (l j).v1) (fun j => (l j).v2) (fun j => (l j).v3) (fun j => (l j).v4) (fun j => (l j).v5) (fun j => (l j).v6) (fun j => (l j).v7) (fun j => (l j).v8) (fun j => (l j).v9) (fun j => (l j).v10) (fun j => (l j).v11) (fun j => (l j).v12) (fun j => (l j).v13) (Int.ofNat n)) (go := go_solve_Only_L0 n (fun j => (l j).v0) (fun j => (l j).v1) (fun j => (l j).v2) (fun j => (l j).v3) (fun j => (l j).v4) (fun j => (l j).v5) (fun j => (l j).v6) (fun j => (l j).v7) (fun j => (l j).v8) (fun j => (l j).v9) (fun j => (l j).v10) (fun j => (l j).v11) (fun j => (l j).v12) (fun j => (l j).v13) (Int.ofNat n)) (step := step_solve_Only_L0 n (fun j => (l j).v0) (fun j => (l j).v1) (fun j => (l j).v2) (fun j => (l j).v3) (fun j => (l j).v4) (fun j => (l j).v5) (fun j => (l j).v6) (fun j => (l j).v7) (fun j => (l j).v8) (fun j => (l j).v9) (fun j => (l j).v10) (fun j => (l j).v11) (fun j => (l j).v12) (fun j => (l j).v13) (Int.ofNat n)) V_solve_Only_L0.mk (fun i => bad n 1024 (l i)) n
    (fun k hk => by
      unfold ok_solve_Only_L0
      simp only [toNat_of, mrgB_eq, ilt_ofNat, ile_ofNat, checkP', ieq_200, Bool.true_and]
      exact ok_dec _ hk) (fun k hk => by
      unfold go_solve_Only_L0
      simp only [toNat_of, ilt_ofNat, checkP', ieq_200]
      exact not_dec _ _ _) (fun k hk => by
      unfold step_solve_Only_L0
      simp only
      rw [succ_i64 (by omega)])
  refine ⟨?_, h1⟩
  have e : (L_solve_Only_L0 n (fun j => (l j).v0) (fun j => (l j).v1) (fun j => (l j).v2) (fun j => (l j).v3) (fun j => (l j).v4) (fun j => (l j).v5) (fun j => (l j).v6) (fun j => (l j).v7) (fun j => (l j).v8) (fun j => (l j).v9) (fun j => (l j).v10) (fun j => (l j).v11) (fun j => (l j).v12) (fun j => (l j).v13) (Int.ofNat n) (V_solve_Only_L0.mk (0 : Int))).v0 = Int.ofNat j := congrArg V_solve_Only_L0.v0 h2
  simp only [e, ilt_ofNat, toNat_of, bif_dec]
  exact h3
theorem onR_rows {n : Nat} {l : Nat → Rw} (hn : n < 9223372036854775807) :
    (let x0 := (L_ref21_Only_L0 n (fun j => (l j).v0) (fun j => (l j).v1) (fun j => (l j).v2) (fun j => (l j).v3) (fun j => (l j).v4) (fun j => (l j).v5) (fun j => (l j).v6) (fun j => (l j).v7) (fun j => (l j).v8) (fun j => (l j).v9) (fun j => (l j).v10) (fun j => (l j).v11) (fun j => (l j).v12) (fun j => (l j).v13) (V_ref21_Only_L0.mk (0 : Int))).v0; (bif (!(ilt x0 (Int.ofNat n))) then false else (bad n 1024 (l (Int.toNat x0))))) = badL n 1024 l ∧ E_ref21_Only_L0 n (fun j => (l j).v0) (fun j => (l j).v1) (fun j => (l j).v2) (fun j => (l j).v3) (fun j => (l j).v4) (fun j => (l j).v5) (fun j => (l j).v6) (fun j => (l j).v7) (fun j => (l j).v8) (fun j => (l j).v9) (fun j => (l j).v10) (fun j => (l j).v11) (fun j => (l j).v12) (fun j => (l j).v13) (V_ref21_Only_L0.mk (0 : Int)) = true := by
  obtain ⟨j, hj, h1, h2, h3⟩ := scan (ok := ok_ref21_Only_L0 n (fun j => (l j).v0) (fun j => (l j).v1) (fun j => (l j).v2) (fun j => (l j).v3) (fun j => (l j).v4) (fun j => (l j).v5) (fun j => (l j).v6) (fun j => (l j).v7) (fun j => (l j).v8) (fun j => (l j).v9) (fun j => (l j).v10) (fun j => (l j).v11) (fun j => (l j).v12) (fun j => (l j).v13)) (go := go_ref21_Only_L0 n (fun j => (l j).v0) (fun j => (l j).v1) (fun j => (l j).v2) (fun j => (l j).v3) (fun j => (l j).v4) (fun j => (l j).v5) (fun j => (l j).v6) (fun j => (l j).v7) (fun j => (l j).v8) (fun j => (l j).v9) (fun j => (l j).v10) (fun j => (l j).v11) (fun j => (l j).v12) (fun j => (l j).v13)) (step := step_ref21_Only_L0 n (fun j => (l j).v0) (fun j => (l j).v1) (fun j => (l j).v2) (fun j => (l j).v3) (fun j => (l j).v4) (fun j => (l j).v5) (fun j => (l j).v6) (fun j => (l j).v7) (fun j => (l j).v8) (fun j => (l j).v9) (fun j => (l j).v10) (fun j => (l j).v11) (fun j => (l j).v12) (fun j => (l j).v13)) V_ref21_Only_L0.mk (fun i => bad n 1024 (l i)) n
    (fun k hk => by
      unfold ok_ref21_Only_L0
      simp only [toNat_of, mrgB_eq, ilt_ofNat, ile_ofNat, checkR', ieq_200, Bool.true_and]
      exact ok_dec _ hk) (fun k hk => by
      unfold go_ref21_Only_L0
      simp only [toNat_of, ilt_ofNat, checkR', ieq_200]
      exact not_dec _ _ _) (fun k hk => by
      unfold step_ref21_Only_L0
      simp only
      rw [succ_i64 (by omega)])
  refine ⟨?_, h1⟩
  have e : (L_ref21_Only_L0 n (fun j => (l j).v0) (fun j => (l j).v1) (fun j => (l j).v2) (fun j => (l j).v3) (fun j => (l j).v4) (fun j => (l j).v5) (fun j => (l j).v6) (fun j => (l j).v7) (fun j => (l j).v8) (fun j => (l j).v9) (fun j => (l j).v10) (fun j => (l j).v11) (fun j => (l j).v12) (fun j => (l j).v13) (V_ref21_Only_L0.mk (0 : Int))).v0 = Int.ofNat j := congrArg V_ref21_Only_L0.v0 h2
  simp only [e, ilt_ofNat, toNat_of, bif_dec]
  exact h3
theorem bif2R (p b : Bool) (x y : Rw) : (bif p then (bif b then x else y) else x) = ⟨bif p then (bif b then x.v0 else y.v0) else x.v0, bif p then (bif b then x.v1 else y.v1) else x.v1, bif p then (bif b then x.v2 else y.v2) else x.v2, bif p then (bif b then x.v3 else y.v3) else x.v3, bif p then (bif b then x.v4 else y.v4) else x.v4, bif p then (bif b then x.v5 else y.v5) else x.v5, bif p then (bif b then x.v6 else y.v6) else x.v6, bif p then (bif b then x.v7 else y.v7) else x.v7, bif p then (bif b then x.v8 else y.v8) else x.v8, bif p then (bif b then x.v9 else y.v9) else x.v9, bif p then (bif b then x.v10 else y.v10) else x.v10, bif p then (bif b then x.v11 else y.v11) else x.v11, bif p then (bif b then x.v12 else y.v12) else x.v12, bif p then (bif b then x.v13 else y.v13) else x.v13⟩ := by cases p <;> cases b <;> rfl
noncomputable abbrev pk (q : Nat) (B : Nat → Int) (l : Nat → Rw) (i : Nat) : Bool := sel q B (l i)
theorem run1P {n q : Nat} {B : Nat → Int} {l : Nat → Rw} (hn : n ≤ 1048576) (hq : q ≤ 1024) :
    E_solve_Only_L1 q B n (fun j => (l j).v0) (fun j => (l j).v1) (fun j => (l j).v2) (fun j => (l j).v3) (fun j => (l j).v4) (fun j => (l j).v5) (fun j => (l j).v6) (fun j => (l j).v7) (fun j => (l j).v8) (fun j => (l j).v9) (fun j => (l j).v10) (fun j => (l j).v11) (fun j => (l j).v12) (fun j => (l j).v13) (Int.ofNat n) (V_solve_Only_L1.mk 0 (0 : Int) (fun j0 => (0 : Int)) (fun j0 => (0 : Int)) (fun j0 => (0 : Int)) (fun j0 => 0) (fun j0 => 0) (fun j0 => 0) (fun j0 => 0) (fun j0 => 0) (fun j0 => 0) (fun j0 => 0) (fun j0 => 0) (fun j0 => 0) (fun j0 => 0) (fun j0 => (0 : Int)) (fun j0 => 0) (fun j0 => (0 : Int))) = true ∧
    L_solve_Only_L1 q B n (fun j => (l j).v0) (fun j => (l j).v1) (fun j => (l j).v2) (fun j => (l j).v3) (fun j => (l j).v4) (fun j => (l j).v5) (fun j => (l j).v6) (fun j => (l j).v7) (fun j => (l j).v8) (fun j => (l j).v9) (fun j => (l j).v10) (fun j => (l j).v11) (fun j => (l j).v12) (fun j => (l j).v13) (Int.ofNat n) (V_solve_Only_L1.mk 0 (0 : Int) (fun j0 => (0 : Int)) (fun j0 => (0 : Int)) (fun j0 => (0 : Int)) (fun j0 => 0) (fun j0 => 0) (fun j0 => 0) (fun j0 => 0) (fun j0 => 0) (fun j0 => 0) (fun j0 => 0) (fun j0 => 0) (fun j0 => 0) (fun j0 => 0) (fun j0 => (0 : Int)) (fun j0 => 0) (fun j0 => (0 : Int))) = V_solve_Only_L1.mk (cnt (pk q B l) n) (Int.ofNat n) (NW (pk q B l) n) (fun j => ((OL (pk q B l) l n) j).v0) (fun j => ((OL (pk q B l) l n) j).v1) (fun j => ((OL (pk q B l) l n) j).v2) (fun j => ((OL (pk q B l) l n) j).v3) (fun j => ((OL (pk q B l) l n) j).v4) (fun j => ((OL (pk q B l) l n) j).v5) (fun j => ((OL (pk q B l) l n) j).v6) (fun j => ((OL (pk q B l) l n) j).v7) (fun j => ((OL (pk q B l) l n) j).v8) (fun j => ((OL (pk q B l) l n) j).v9) (fun j => ((OL (pk q B l) l n) j).v10) (fun j => ((OL (pk q B l) l n) j).v11) (fun j => ((OL (pk q B l) l n) j).v12) (fun j => ((OL (pk q B l) l n) j).v13) (NL (pk q B l) n) := by
  have hc1 : ∀ v, s_slices_Contains___int_int__0 q B v = isin q B v := fun v => (containsP (by omega)).1
  have hc2 : ∀ v, o_slices_Contains___int_int_ q B v = true := fun v => (containsP (by omega)).2
  exact run_to (ok := ok_solve_Only_L1 q B n (fun j => (l j).v0) (fun j => (l j).v1) (fun j => (l j).v2) (fun j => (l j).v3) (fun j => (l j).v4) (fun j => (l j).v5) (fun j => (l j).v6) (fun j => (l j).v7) (fun j => (l j).v8) (fun j => (l j).v9) (fun j => (l j).v10) (fun j => (l j).v11) (fun j => (l j).v12) (fun j => (l j).v13) (Int.ofNat n)) (go := go_solve_Only_L1 q B n (fun j => (l j).v0) (fun j => (l j).v1) (fun j => (l j).v2) (fun j => (l j).v3) (fun j => (l j).v4) (fun j => (l j).v5) (fun j => (l j).v6) (fun j => (l j).v7) (fun j => (l j).v8) (fun j => (l j).v9) (fun j => (l j).v10) (fun j => (l j).v11) (fun j => (l j).v12) (fun j => (l j).v13) (Int.ofNat n)) (step := step_solve_Only_L1 q B n (fun j => (l j).v0) (fun j => (l j).v1) (fun j => (l j).v2) (fun j => (l j).v3) (fun j => (l j).v4) (fun j => (l j).v5) (fun j => (l j).v6) (fun j => (l j).v7) (fun j => (l j).v8) (fun j => (l j).v9) (fun j => (l j).v10) (fun j => (l j).v11) (fun j => (l j).v12) (fun j => (l j).v13) (Int.ofNat n))
    (fun k => V_solve_Only_L1.mk (cnt (pk q B l) k) (Int.ofNat k) (NW (pk q B l) k) (fun j => ((OL (pk q B l) l k) j).v0) (fun j => ((OL (pk q B l) l k) j).v1) (fun j => ((OL (pk q B l) l k) j).v2) (fun j => ((OL (pk q B l) l k) j).v3) (fun j => ((OL (pk q B l) l k) j).v4) (fun j => ((OL (pk q B l) l k) j).v5) (fun j => ((OL (pk q B l) l k) j).v6) (fun j => ((OL (pk q B l) l k) j).v7) (fun j => ((OL (pk q B l) l k) j).v8) (fun j => ((OL (pk q B l) l k) j).v9) (fun j => ((OL (pk q B l) l k) j).v10) (fun j => ((OL (pk q B l) l k) j).v11) (fun j => ((OL (pk q B l) l k) j).v12) (fun j => ((OL (pk q B l) l k) j).v13) (NL (pk q B l) k)) n
    (fun k hk => by
      have hc := cnt_le (pk q B l) k
      unfold ok_solve_Only_L1
      simp only [toNat_of, mrgB_eq, ilt_ofNat, ile_ofNat, Bool.true_and, allB_true, hc1, hc2, ble_true (Nat.le_refl (cnt (pk q B l) k)), ble_true (show (cnt (pk q B l) k + 1) * 8 ≤ 140737488355328 by omega), ble_true (show (cnt (pk q B l) k + 1) * 112 ≤ 140737488355328 by omega)]
      by_cases hk : k < n
      · simp only [decide_eq_true hk, blt_true hk, Bool.not_true, cond_false, Bool.and_self, Bool.cond_self]
      · simp only [decide_eq_false hk, Bool.not_false, cond_true])
    (fun k hk => by unfold go_solve_Only_L1; simp only [ilt_ofNat]; simp [hk])
    (fun k hk => by
      have e : OL (pk q B l) l (k + 1) = fun j => (⟨bif sel q B (l k) then (bif Nat.blt j (cnt (pk q B l) k) then (OL (pk q B l) l k j).v0 else (l k).v0) else (OL (pk q B l) l k j).v0, bif sel q B (l k) then (bif Nat.blt j (cnt (pk q B l) k) then (OL (pk q B l) l k j).v1 else (l k).v1) else (OL (pk q B l) l k j).v1, bif sel q B (l k) then (bif Nat.blt j (cnt (pk q B l) k) then (OL (pk q B l) l k j).v2 else (l k).v2) else (OL (pk q B l) l k j).v2, bif sel q B (l k) then (bif Nat.blt j (cnt (pk q B l) k) then (OL (pk q B l) l k j).v3 else (l k).v3) else (OL (pk q B l) l k j).v3, bif sel q B (l k) then (bif Nat.blt j (cnt (pk q B l) k) then (OL (pk q B l) l k j).v4 else (l k).v4) else (OL (pk q B l) l k j).v4, bif sel q B (l k) then (bif Nat.blt j (cnt (pk q B l) k) then (OL (pk q B l) l k j).v5 else (l k).v5) else (OL (pk q B l) l k j).v5, bif sel q B (l k) then (bif Nat.blt j (cnt (pk q B l) k) then (OL (pk q B l) l k j).v6 else (l k).v6) else (OL (pk q B l) l k j).v6, bif sel q B (l k) then (bif Nat.blt j (cnt (pk q B l) k) then (OL (pk q B l) l k j).v7 else (l k).v7) else (OL (pk q B l) l k j).v7, bif sel q B (l k) then (bif Nat.blt j (cnt (pk q B l) k) then (OL (pk q B l) l k j).v8 else (l k).v8) else (OL (pk q B l) l k j).v8, bif sel q B (l k) then (bif Nat.blt j (cnt (pk q B l) k) then (OL (pk q B l) l k j).v9 else (l k).v9) else (OL (pk q B l) l k j).v9, bif sel q B (l k) then (bif Nat.blt j (cnt (pk q B l) k) then (OL (pk q B l) l k j).v10 else (l k).v10) else (OL (pk q B l) l k j).v10, bif sel q B (l k) then (bif Nat.blt j (cnt (pk q B l) k) then (OL (pk q B l) l k j).v11 else (l k).v11) else (OL (pk q B l) l k j).v11, bif sel q B (l k) then (bif Nat.blt j (cnt (pk q B l) k) then (OL (pk q B l) l k j).v12 else (l k).v12) else (OL (pk q B l) l k j).v12, bif sel q B (l k) then (bif Nat.blt j (cnt (pk q B l) k) then (OL (pk q B l) l k j).v13 else (l k).v13) else (OL (pk q B l) l k j).v13⟩ : Rw) := funext fun j => bif2R _ _ _ _
      unfold step_solve_Only_L1
      simp only [toNat_of, hc1, isin_or, csame_eq]
      rw [succ_i64 (by omega), e]; rfl)
    (by unfold go_solve_Only_L1; simp only [ilt_ofNat]; simp)
theorem run2R {n q : Nat} {B : Nat → Int} {l : Nat → Rw} (hn : n ≤ 1048576) (hq : q ≤ 1024) :
    E_ref21_Only_L2 n (fun j => (l j).v0) (fun j => (l j).v1) (fun j => (l j).v2) (fun j => (l j).v3) (fun j => (l j).v4) (fun j => (l j).v5) (fun j => (l j).v6) (fun j => (l j).v7) (fun j => (l j).v8) (fun j => (l j).v9) (fun j => (l j).v10) (fun j => (l j).v11) (fun j => (l j).v12) (fun j => (l j).v13) q B (V_ref21_Only_L2.mk 0 (0 : Int) (fun j0 => (0 : Int)) (fun j0 => (0 : Int)) (fun j0 => 0) (fun j0 => 0) (fun j0 => 0) (fun j0 => 0) (fun j0 => 0) (fun j0 => 0) (fun j0 => 0) (fun j0 => 0) (fun j0 => 0) (fun j0 => 0) (fun j0 => (0 : Int)) (fun j0 => 0) (fun j0 => (0 : Int))) = true ∧
    L_ref21_Only_L2 n (fun j => (l j).v0) (fun j => (l j).v1) (fun j => (l j).v2) (fun j => (l j).v3) (fun j => (l j).v4) (fun j => (l j).v5) (fun j => (l j).v6) (fun j => (l j).v7) (fun j => (l j).v8) (fun j => (l j).v9) (fun j => (l j).v10) (fun j => (l j).v11) (fun j => (l j).v12) (fun j => (l j).v13) q B (V_ref21_Only_L2.mk 0 (0 : Int) (fun j0 => (0 : Int)) (fun j0 => (0 : Int)) (fun j0 => 0) (fun j0 => 0) (fun j0 => 0) (fun j0 => 0) (fun j0 => 0) (fun j0 => 0) (fun j0 => 0) (fun j0 => 0) (fun j0 => 0) (fun j0 => 0) (fun j0 => (0 : Int)) (fun j0 => 0) (fun j0 => (0 : Int))) = V_ref21_Only_L2.mk (cnt (pk q B l) n) (Int.ofNat n) (fun j => ((OL (pk q B l) l n) j).v0) (fun j => ((OL (pk q B l) l n) j).v1) (fun j => ((OL (pk q B l) l n) j).v2) (fun j => ((OL (pk q B l) l n) j).v3) (fun j => ((OL (pk q B l) l n) j).v4) (fun j => ((OL (pk q B l) l n) j).v5) (fun j => ((OL (pk q B l) l n) j).v6) (fun j => ((OL (pk q B l) l n) j).v7) (fun j => ((OL (pk q B l) l n) j).v8) (fun j => ((OL (pk q B l) l n) j).v9) (fun j => ((OL (pk q B l) l n) j).v10) (fun j => ((OL (pk q B l) l n) j).v11) (fun j => ((OL (pk q B l) l n) j).v12) (fun j => ((OL (pk q B l) l n) j).v13) (NL (pk q B l) n) :=
  run_to (ok := ok_ref21_Only_L2 n (fun j => (l j).v0) (fun j => (l j).v1) (fun j => (l j).v2) (fun j => (l j).v3) (fun j => (l j).v4) (fun j => (l j).v5) (fun j => (l j).v6) (fun j => (l j).v7) (fun j => (l j).v8) (fun j => (l j).v9) (fun j => (l j).v10) (fun j => (l j).v11) (fun j => (l j).v12) (fun j => (l j).v13) q B) (go := go_ref21_Only_L2 n (fun j => (l j).v0) (fun j => (l j).v1) (fun j => (l j).v2) (fun j => (l j).v3) (fun j => (l j).v4) (fun j => (l j).v5) (fun j => (l j).v6) (fun j => (l j).v7) (fun j => (l j).v8) (fun j => (l j).v9) (fun j => (l j).v10) (fun j => (l j).v11) (fun j => (l j).v12) (fun j => (l j).v13) q B) (step := step_ref21_Only_L2 n (fun j => (l j).v0) (fun j => (l j).v1) (fun j => (l j).v2) (fun j => (l j).v3) (fun j => (l j).v4) (fun j => (l j).v5) (fun j => (l j).v6) (fun j => (l j).v7) (fun j => (l j).v8) (fun j => (l j).v9) (fun j => (l j).v10) (fun j => (l j).v11) (fun j => (l j).v12) (fun j => (l j).v13) q B)
    (fun k => V_ref21_Only_L2.mk (cnt (pk q B l) k) (Int.ofNat k) (fun j => ((OL (pk q B l) l k) j).v0) (fun j => ((OL (pk q B l) l k) j).v1) (fun j => ((OL (pk q B l) l k) j).v2) (fun j => ((OL (pk q B l) l k) j).v3) (fun j => ((OL (pk q B l) l k) j).v4) (fun j => ((OL (pk q B l) l k) j).v5) (fun j => ((OL (pk q B l) l k) j).v6) (fun j => ((OL (pk q B l) l k) j).v7) (fun j => ((OL (pk q B l) l k) j).v8) (fun j => ((OL (pk q B l) l k) j).v9) (fun j => ((OL (pk q B l) l k) j).v10) (fun j => ((OL (pk q B l) l k) j).v11) (fun j => ((OL (pk q B l) l k) j).v12) (fun j => ((OL (pk q B l) l k) j).v13) (NL (pk q B l) k)) n
    (fun k hk => by
      have hc := cnt_le (pk q B l) k
      unfold ok_ref21_Only_L2
      by_cases hk : k < n
      · simp only [toNat_of, mrgB_eq, ilt_ofNat, ile_ofNat, Bool.true_and, allB_true, eqT_self, (isR (B := B) (l := l) (show q < 9223372036854775807 by omega) hk).1, (isR (B := B) (l := l) (show q < 9223372036854775807 by omega) hk).2, ble_true (Nat.le_refl (cnt (pk q B l) k)), ble_true (show (cnt (pk q B l) k + 1) * 8 ≤ 140737488355328 by omega), ble_true (show (cnt (pk q B l) k + 1) * 112 ≤ 140737488355328 by omega), decide_eq_true hk, blt_true hk, Bool.not_true, cond_false, Bool.and_self, Bool.cond_self]
      · simp only [mrgB_eq, ilt_ofNat, decide_eq_false hk, Bool.not_false, cond_true])
    (fun k hk => by unfold go_ref21_Only_L2; simp only [ilt_ofNat]; simp [hk])
    (fun k hk => by
      have e : OL (pk q B l) l (k + 1) = fun j => (⟨bif sel q B (l k) then (bif Nat.blt j (cnt (pk q B l) k) then (OL (pk q B l) l k j).v0 else (l k).v0) else (OL (pk q B l) l k j).v0, bif sel q B (l k) then (bif Nat.blt j (cnt (pk q B l) k) then (OL (pk q B l) l k j).v1 else (l k).v1) else (OL (pk q B l) l k j).v1, bif sel q B (l k) then (bif Nat.blt j (cnt (pk q B l) k) then (OL (pk q B l) l k j).v2 else (l k).v2) else (OL (pk q B l) l k j).v2, bif sel q B (l k) then (bif Nat.blt j (cnt (pk q B l) k) then (OL (pk q B l) l k j).v3 else (l k).v3) else (OL (pk q B l) l k j).v3, bif sel q B (l k) then (bif Nat.blt j (cnt (pk q B l) k) then (OL (pk q B l) l k j).v4 else (l k).v4) else (OL (pk q B l) l k j).v4, bif sel q B (l k) then (bif Nat.blt j (cnt (pk q B l) k) then (OL (pk q B l) l k j).v5 else (l k).v5) else (OL (pk q B l) l k j).v5, bif sel q B (l k) then (bif Nat.blt j (cnt (pk q B l) k) then (OL (pk q B l) l k j).v6 else (l k).v6) else (OL (pk q B l) l k j).v6, bif sel q B (l k) then (bif Nat.blt j (cnt (pk q B l) k) then (OL (pk q B l) l k j).v7 else (l k).v7) else (OL (pk q B l) l k j).v7, bif sel q B (l k) then (bif Nat.blt j (cnt (pk q B l) k) then (OL (pk q B l) l k j).v8 else (l k).v8) else (OL (pk q B l) l k j).v8, bif sel q B (l k) then (bif Nat.blt j (cnt (pk q B l) k) then (OL (pk q B l) l k j).v9 else (l k).v9) else (OL (pk q B l) l k j).v9, bif sel q B (l k) then (bif Nat.blt j (cnt (pk q B l) k) then (OL (pk q B l) l k j).v10 else (l k).v10) else (OL (pk q B l) l k j).v10, bif sel q B (l k) then (bif Nat.blt j (cnt (pk q B l) k) then (OL (pk q B l) l k j).v11 else (l k).v11) else (OL (pk q B l) l k j).v11, bif sel q B (l k) then (bif Nat.blt j (cnt (pk q B l) k) then (OL (pk q B l) l k j).v12 else (l k).v12) else (OL (pk q B l) l k j).v12, bif sel q B (l k) then (bif Nat.blt j (cnt (pk q B l) k) then (OL (pk q B l) l k j).v13 else (l k).v13) else (OL (pk q B l) l k j).v13⟩ : Rw) := funext fun j => bif2R _ _ _ _
      unfold step_ref21_Only_L2
      simp only [toNat_of, (isR (B := B) (l := l) (show q < 9223372036854775807 by omega) hk).1, csame_eq]
      rw [succ_i64 (by omega), e]; rfl)
    (by unfold go_ref21_Only_L2; simp only [ilt_ofNat]; simp)
theorem run2P {n c : Nat} {w : Nat → Int} {f : Nat → Rw} (hc : c ≤ 1048576) (hf : ∀ k, k < c → (f k).v12 < (n : Int)) :
    E_solve_Only_L2 c n (Int.ofNat c) w (V_solve_Only_L2.mk (0 : Int) (fun j => (f j).v0) (fun j => (f j).v1) (fun j => (f j).v2) (fun j => (f j).v3) (fun j => (f j).v4) (fun j => (f j).v5) (fun j => (f j).v6) (fun j => (f j).v7) (fun j => (f j).v8) (fun j => (f j).v9) (fun j => (f j).v10) (fun j => (f j).v11) (fun j => (f j).v12) (fun j => (f j).v13)) = true ∧ L_solve_Only_L2 c n (Int.ofNat c) w (V_solve_Only_L2.mk (0 : Int) (fun j => (f j).v0) (fun j => (f j).v1) (fun j => (f j).v2) (fun j => (f j).v3) (fun j => (f j).v4) (fun j => (f j).v5) (fun j => (f j).v6) (fun j => (f j).v7) (fun j => (f j).v8) (fun j => (f j).v9) (fun j => (f j).v10) (fun j => (f j).v11) (fun j => (f j).v12) (fun j => (f j).v13)) = V_solve_Only_L2.mk (Int.ofNat c) (fun j => ((F2 w f c) j).v0) (fun j => ((F2 w f c) j).v1) (fun j => ((F2 w f c) j).v2) (fun j => ((F2 w f c) j).v3) (fun j => ((F2 w f c) j).v4) (fun j => ((F2 w f c) j).v5) (fun j => ((F2 w f c) j).v6) (fun j => ((F2 w f c) j).v7) (fun j => ((F2 w f c) j).v8) (fun j => ((F2 w f c) j).v9) (fun j => ((F2 w f c) j).v10) (fun j => ((F2 w f c) j).v11) (fun j => ((F2 w f c) j).v12) (fun j => ((F2 w f c) j).v13) :=
  run_to (ok := ok_solve_Only_L2 c n (Int.ofNat c) w) (go := go_solve_Only_L2 c n (Int.ofNat c) w) (step := step_solve_Only_L2 c n (Int.ofNat c) w)
    (fun k => V_solve_Only_L2.mk (Int.ofNat k) (fun j => ((F2 w f k) j).v0) (fun j => ((F2 w f k) j).v1) (fun j => ((F2 w f k) j).v2) (fun j => ((F2 w f k) j).v3) (fun j => ((F2 w f k) j).v4) (fun j => ((F2 w f k) j).v5) (fun j => ((F2 w f k) j).v6) (fun j => ((F2 w f k) j).v7) (fun j => ((F2 w f k) j).v8) (fun j => ((F2 w f k) j).v9) (fun j => ((F2 w f k) j).v10) (fun j => ((F2 w f k) j).v11) (fun j => ((F2 w f k) j).v12) (fun j => ((F2 w f k) j).v13)) c
    (fun k hk => by
      unfold ok_solve_Only_L2
      simp only [toNat_of, mrgB_eq, ilt_ofNat, ile_ofNat, Bool.true_and, F2_ge k (Nat.le_refl k)]
      by_cases hk : k < c
      · have h12 := hf k hk
        simp only [decide_eq_true hk, blt_true hk, Bool.not_true, cond_false, Bool.and_self, Bool.true_and]
        by_cases hv : 0 ≤ (f k).v12
        · simp only [ile_true hv, blt_true (toNat_lt hv h12), Bool.cond_self, Bool.and_self]
        · simp only [ile_false (show (f k).v12 < 0 by omega), cond_false]
      · simp only [decide_eq_false hk, Bool.not_false, cond_true])
    (fun k hk => by unfold go_solve_Only_L2; simp only [ilt_ofNat]; simp [hk])
    (fun k hk => by
      unfold step_solve_Only_L2
      simp only [toNat_of, Bool.cond_self]
      rw [succ_i64 (by omega)]; rfl)
    (by unfold go_solve_Only_L2; simp only [ilt_ofNat]; simp)
theorem run3R {c i : Nat} {N g : Nat → Int} (hc : c ≤ 1048576) (hi : i < c) :
    (L_ref21_Only_L3 c (Int.ofNat i) g N (V_ref21_Only_L3.mk (-1 : Int) (0 : Int))).v0 = last N (g i) c ∧ E_ref21_Only_L3 c (Int.ofNat i) g N (V_ref21_Only_L3.mk (-1 : Int) (0 : Int)) = true := by
  have hr := run_to (ok := ok_ref21_Only_L3 c (Int.ofNat i) g N) (go := go_ref21_Only_L3 c (Int.ofNat i) g N) (step := step_ref21_Only_L3 c (Int.ofNat i) g N)
    (fun k => V_ref21_Only_L3.mk (last N (g i) k) (Int.ofNat k)) c
    (fun k hk => by
      unfold ok_ref21_Only_L3
      simp only [toNat_of, mrgB_eq, ilt_ofNat, ile_ofNat, Bool.true_and, blt_true hi, Bool.cond_self]
      by_cases hk : k < c
      · simp only [decide_eq_true hk, blt_true hk, Bool.not_true, cond_false, Bool.and_self]
      · simp only [decide_eq_false hk, Bool.not_false, cond_true])
    (fun k hk => by unfold go_ref21_Only_L3; simp only [ilt_ofNat]; simp [hk])
    (fun k hk => by
      unfold step_ref21_Only_L3
      simp only [toNat_of]
      rw [succ_i64 (by omega)]; rfl)
    (by unfold go_ref21_Only_L3; simp only [ilt_ofNat]; simp)
  exact ⟨congrArg V_ref21_Only_L3.v0 hr.2, hr.1⟩
theorem run4R {c : Nat} {N g : Nat → Int} (hc : c ≤ 1048576) :
    E_ref21_Only_L4 c N (V_ref21_Only_L4.mk (0 : Int) g) = true ∧ L_ref21_Only_L4 c N (V_ref21_Only_L4.mk (0 : Int) g) = V_ref21_Only_L4.mk (Int.ofNat c) (G4 c N g c) :=
  run_to (ok := ok_ref21_Only_L4 c N) (go := go_ref21_Only_L4 c N) (step := step_ref21_Only_L4 c N)
    (fun k => V_ref21_Only_L4.mk (Int.ofNat k) (G4 c N g k)) c
    (fun k hk => by
      unfold ok_ref21_Only_L4
      by_cases hk : k < c
      · simp only [toNat_of, mrgB_eq, ilt_ofNat, ile_ofNat, Bool.true_and, allB_true, eqT_self, decide_eq_true hk, blt_true hk, (run3R (N := N) (g := G4 c N g k) hc hk).2, Bool.not_true, cond_false, Bool.and_self]
      · simp only [mrgB_eq, ilt_ofNat, decide_eq_false hk, Bool.not_false, cond_true])
    (fun k hk => by unfold go_ref21_Only_L4; simp only [ilt_ofNat]; simp [hk])
    (fun k hk => by
      unfold step_ref21_Only_L4
      simp only [toNat_of, (run3R (N := N) (g := G4 c N g k) hc hk).1]
      rw [succ_i64 (by omega), G4_ge k (Nat.le_refl k)]
      show V_ref21_Only_L4.mk _ (fun j => bif Nat.beq j k then last N (g k) c else G4 c N g k j) = V_ref21_Only_L4.mk _ (fun j => bif Nat.beq j k then last N (G4 c N g k k) c else G4 c N g k j)
      rw [G4_ge k (Nat.le_refl k)])
    (by unfold go_ref21_Only_L4; simp only [ilt_ofNat]; simp)
end Go.Proofs.Ytofpjfohijljgaa
