/- The rows of some stills: what the program's loops come to. -/
import Derived.Test.YtofpjfohijljgaaLawOnyT
set_option linter.unusedVariables false
set_option linter.unusedSimpArgs false
set_option linter.unusedSectionVars false
set_option maxHeartbeats 4000000
set_option maxRecDepth 4000
namespace Go.Proofs.Ytofpjfohijljgaa
open Go.Sim Go.Lst
noncomputable def sel (q : Nat) (B : Nat → Int) (r : Rw) : Bool := decide (∃ k, k < q ∧ (r.v0 = B k ∨ r.v1 = B k))
noncomputable def isin (q : Nat) (B : Nat → Int) (v : Int) : Bool := decide (∃ k, k < q ∧ ieq v (B k) = true)
theorem isin_or (q : Nat) (B : Nat → Int) (r : Rw) : (isin q B r.v0 || isin q B r.v1) = sel q B r := by
  rw [Bool.eq_iff_iff]
  unfold isin sel
  simp only [Bool.or_eq_true, decide_eq_true_eq, ieq]
  constructor
  · rintro (⟨k, hk, h⟩ | ⟨k, hk, h⟩)
    · exact ⟨k, hk, .inl h⟩
    · exact ⟨k, hk, .inr h⟩
  · rintro ⟨k, hk, h | h⟩
    · exact .inl ⟨k, hk, h⟩
    · exact .inr ⟨k, hk, h⟩
theorem containsP {q : Nat} {B : Nat → Int} {v : Int} (hq : q < 9223372036854775807) : s_slices_Contains___int_int__0 q B v = isin q B v ∧ o_slices_Contains___int_int_ q B v = true := by
  obtain ⟨j, hj, h1, h2, h3⟩ := scan (ok := ok_slices_Index___int_int__L0 q B v (Int.ofNat q)) (go := go_slices_Index___int_int__L0 q B v (Int.ofNat q)) (step := step_slices_Index___int_int__L0 q B v (Int.ofNat q)) V_slices_Index___int_int__L0.mk (fun k => ieq v (B k)) q
    (fun k hk => by
      unfold ok_slices_Index___int_int__L0
      simp only [toNat_of, mrgB_eq, ilt_ofNat, ile_ofNat, Bool.true_and]
      exact ok_dec _ hk) (fun k hk => by
      unfold go_slices_Index___int_int__L0
      simp only [toNat_of, ilt_ofNat]
      exact not_dec _ _ _) (fun k hk => by
      unfold step_slices_Index___int_int__L0
      simp only
      rw [succ_i64 (by omega)])
  have e : (L_slices_Index___int_int__L0 q B v (Int.ofNat q) (V_slices_Index___int_int__L0.mk (0 : Int))).v0 = Int.ofNat j := congrArg V_slices_Index___int_int__L0.v0 h2
  constructor
  · unfold s_slices_Contains___int_int__0 s_slices_Index___int_int__0
    simp only [e, ilt_ofNat, toNat_of, bif_dec]
    rw [h3]
    show ile 0 (bif isin q B v then Int.ofNat j else -1) = isin q B v
    cases isin q B v
    · rfl
    · exact ile_ofNat j
  · unfold o_slices_Contains___int_int_ o_slices_Index___int_int_
    rw [mrgB_self]; exact h1
def cnt (p : Nat → Bool) : Nat → Nat
  | 0 => 0
  | i + 1 => bif p i then cnt p i + 1 else cnt p i
def NL (p : Nat → Bool) (n : Nat) : Nat → Int := itr (fun i f j => bif p i then (bif Nat.blt j (cnt p i) then f j else Int.ofNat i) else f j) n (fun _ => 0)
def NW (p : Nat → Bool) (n : Nat) : Nat → Int := itr (fun i f j => bif p i then (bif Nat.beq j i then Int.ofNat (cnt p i + 1) else f j) else f j) n (fun _ => 0)
def OL (p : Nat → Bool) (l : Nat → Rw) (n : Nat) : Nat → Rw := itr (fun i f j => bif p i then (bif Nat.blt j (cnt p i) then f j else l i) else f j) n (fun _ => ⟨0, 0, 0, 0, 0, 0, 0, 0, 0, 0, 0, 0, 0, 0⟩)
theorem cnt_le (p : Nat → Bool) : ∀ n, cnt p n ≤ n
  | 0 => Nat.le_refl 0
  | n + 1 => by
    have := cnt_le p n
    unfold cnt
    cases p n
    · rw [cond_false]; omega
    · rw [cond_true]; omega
theorem cnt_mono (p : Nat → Bool) {i : Nat} : ∀ n, i ≤ n → cnt p i ≤ cnt p n
  | 0, h => by have : i = 0 := by omega
               subst this; exact Nat.le_refl _
  | n + 1, h => by
    by_cases e : i = n + 1
    · subst e; exact Nat.le_refl _
    · have := cnt_mono p (i := i) n (by omega)
      show _ ≤ (bif p n then cnt p n + 1 else cnt p n)
      cases p n
      · exact this
      · rw [cond_true]; omega
theorem NL_lt {p : Nat → Bool} : ∀ n k, k < cnt p n → ∃ w, w < n ∧ NL p n k = Int.ofNat w ∧ p w = true ∧ cnt p w = k
  | 0, k, h => absurd h (Nat.not_lt_zero k)
  | n + 1, k, h => by
    unfold cnt at h
    show ∃ w, w < n + 1 ∧ (bif p n then (bif Nat.blt k (cnt p n) then NL p n k else Int.ofNat n) else NL p n k) = Int.ofNat w ∧ p w = true ∧ cnt p w = k
    cases hp : p n with
    | false =>
      rw [hp, cond_false] at h
      obtain ⟨w, h1, h2, h3, h4⟩ := NL_lt n k h
      exact ⟨w, by omega, h2, h3, h4⟩
    | true =>
      rw [hp, cond_true] at h
      by_cases hk : k < cnt p n
      · obtain ⟨w, h1, h2, h3, h4⟩ := NL_lt n k hk
        exact ⟨w, by omega, by rw [blt_true hk]; exact h2, h3, h4⟩
      · exact ⟨n, by omega, by rw [blt_false (by omega)]; rfl, hp, by omega⟩
theorem NL_at {p : Nat → Bool} : ∀ n w, w < n → p w = true → cnt p w < cnt p n ∧ NL p n (cnt p w) = Int.ofNat w
  | 0, w, h, _ => absurd h (Nat.not_lt_zero w)
  | n + 1, w, h, hw => by
    show cnt p w < (bif p n then cnt p n + 1 else cnt p n) ∧ (bif p n then (bif Nat.blt (cnt p w) (cnt p n) then NL p n (cnt p w) else Int.ofNat n) else NL p n (cnt p w)) = Int.ofNat w
    by_cases e : w = n
    · subst e
      rw [hw, cond_true, cond_true, blt_false (Nat.le_refl _)]
      exact ⟨by omega, rfl⟩
    · obtain ⟨h1, h2⟩ := NL_at n w (by omega) hw
      cases p n with
      | false => exact ⟨h1, h2⟩
      | true => rw [cond_true, cond_true, blt_true h1]; exact ⟨by omega, h2⟩
theorem NW_at {p : Nat → Bool} : ∀ n j, j < n → NW p n j = bif p j then Int.ofNat (cnt p j + 1) else 0
  | 0, j, h => absurd h (Nat.not_lt_zero j)
  | n + 1, j, h => by
    show (bif p n then (bif Nat.beq j n then Int.ofNat (cnt p n + 1) else NW p n j) else NW p n j) = _
    by_cases e : j = n
    · subst e
      rw [beq_self', cond_true]
      cases hp : p j with
      | true => rfl
      | false =>
        have : ∀ m, m ≤ j → NW p m j = 0 := by
          intro m
          induction m with
          | zero => intro _; rfl
          | succ m ih =>
            intro hm
            show (bif p m then (bif Nat.beq j m then Int.ofNat (cnt p m + 1) else NW p m j) else NW p m j) = 0
            rw [beqn_false (show j ≠ m by omega), cond_false, Bool.cond_self, ih (by omega)]
        exact this j (Nat.le_refl j)
    · rw [beqn_false e, cond_false, Bool.cond_self, NW_at n j (by omega)]
theorem OL_at {p : Nat → Bool} {l : Nat → Rw} : ∀ n k, k < cnt p n → OL p l n k = l (Int.toNat (NL p n k))
  | 0, k, h => absurd h (Nat.not_lt_zero k)
  | n + 1, k, h => by
    unfold cnt at h
    show (bif p n then (bif Nat.blt k (cnt p n) then OL p l n k else l n) else OL p l n k) = l (Int.toNat (bif p n then (bif Nat.blt k (cnt p n) then NL p n k else Int.ofNat n) else NL p n k))
    cases hp : p n with
    | false => rw [hp, cond_false] at h; exact OL_at n k h
    | true =>
      rw [cond_true, cond_true]
      by_cases hk : k < cnt p n
      · rw [blt_true hk]; exact OL_at n k hk
      · rw [blt_false (by omega)]; rfl
theorem bifR (q : Bool) (x y : Rw) : (bif q then x else y) = ⟨bif q then x.v0 else y.v0, bif q then x.v1 else y.v1, bif q then x.v2 else y.v2, bif q then x.v3 else y.v3, bif q then x.v4 else y.v4, bif q then x.v5 else y.v5, bif q then x.v6 else y.v6, bif q then x.v7 else y.v7, bif q then x.v8 else y.v8, bif q then x.v9 else y.v9, bif q then x.v10 else y.v10, bif q then x.v11 else y.v11, bif q then x.v12 else y.v12, bif q then x.v13 else y.v13⟩ := by cases q <;> rfl
def F2 (w : Nat → Int) (f : Nat → Rw) (n : Nat) : Nat → Rw := itr (fun k f j => hang (f j) (bif ile 0 (f k).v12 then (bif Nat.beq j k then IntKind.wrap .i64 (w (Int.toNat (f k).v12) - 1) else (f j).v12) else (f j).v12)) n f
def of2 (w : Nat → Int) (v : Int) : Int := bif ile 0 v then IntKind.wrap .i64 (w (Int.toNat v) - 1) else v
theorem F2_ge {w : Nat → Int} {f : Nat → Rw} {j : Nat} : ∀ n, n ≤ j → F2 w f n j = f j
  | 0, _ => rfl
  | n + 1, h => by
    show hang (F2 w f n j) (bif ile 0 (F2 w f n n).v12 then (bif Nat.beq j n then IntKind.wrap .i64 (w (Int.toNat (F2 w f n n).v12) - 1) else (F2 w f n j).v12) else (F2 w f n j).v12) = f j
    rw [beqn_false (show j ≠ n by omega), cond_false, Bool.cond_self, F2_ge n (by omega)]; rfl
theorem F2_lt {w : Nat → Int} {f : Nat → Rw} {j : Nat} : ∀ n, j < n → F2 w f n j = hang (f j) (of2 w (f j).v12)
  | 0, h => absurd h (Nat.not_lt_zero j)
  | n + 1, h => by
    show hang (F2 w f n j) (bif ile 0 (F2 w f n n).v12 then (bif Nat.beq j n then IntKind.wrap .i64 (w (Int.toNat (F2 w f n n).v12) - 1) else (F2 w f n j).v12) else (F2 w f n j).v12) = _
    by_cases e : j = n
    · subst e
      rw [beq_self', cond_true, F2_ge j (Nat.le_refl j)]; rfl
    · rw [beqn_false e, cond_false, Bool.cond_self, F2_lt n (by omega)]; rfl
noncomputable def onE (n q : Nat) (l : Nat → Rw) : Int := bif (ilt (1048576 : Int) (Int.ofNat n)) || (ilt (1024 : Int) (Int.ofNat q)) then 4 else bif badL n 1024 l then 200 else 0
theorem checkP' (n : Nat) (r : Rw) : s_rows_Check_0 r.v0 r.v1 r.v2 r.v3 r.v4 r.v5 r.v6 r.v7 r.v8 r.v9 r.v10 r.v11 r.v12 r.v13 (Int.ofNat n) (1024 : Int) = bif bad n 1024 r then 200 else 0 := checkP n 1024 r
theorem onP_rows {n : Nat} {l : Nat → Rw} (hn : n < 9223372036854775807) :
    (let x0 := (L_solve_Only_L0 n (fun j => (l j).v0) (fun j => (l j).v1) (fun j => (l j).v2) (fun j => (l j).v3) (fun j => (l j).v4) (fun j => (l j).v5) (fun j => (l j).v6) (fun j => (l j).v7) (fun j => (l j).v8) (fun j => (l j).v9) (fun j => (l j).v10) (fun j => (l j).v11) (fun j => (l j).v12) (fun j => (l j).v13) (Int.ofNat n) (V_solve_Only_L0.mk (0 : Int))).v0; (bif (!(ilt x0 (Int.ofNat n))) then false else (bad n 1024 (l (Int.toNat x0))))) = badL n 1024 l ∧ E_solve_Only_L0 n (fun j => (l j).v0) (fun j => (l j).v1) (fun j => (l j).v2) (fun j => (l j).v3) (fun j => (l j).v4) (fun j => (l j).v5) (fun j => (l j).v6) (fun j => (l j).v7) (fun j => (l j).v8) (fun j => (l j).v9) (fun j => (l j).v10) (fun j => (l j).v11) (fun j => (l j).v12) (fun j => (l j).v13) (Int.ofNat n) (V_solve_Only_L0.mk (0 : Int)) = true := by
  obtain ⟨j, hj, h1, h2, h3⟩ := scan (ok := ok_solve_Only_L0 n (fun j => (l j).v0) (fun j => (l j).v1) (fun j => (l j).v2) (fun j => (l j).v3) (fun j => (l j).v4) (fun j => (l j).v5) (fun j => (l j).v6) (fun j => (l j).v7) (fun j => (l j).v8) (fun j => (l j).v9) (fun j => (l j).v10) (fun j => (l j).v11) (fun j => (l j).v12) (fun j => (l j).v13) (Int.ofNat n)) (go := go_solve_Only_L0 n (fun j => (l j).v0) (fun j => (l j).v1) (fun j => (l j).v2) (fun j => (l j).v3) (fun j => (l j).v4) (fun j => (l j).v5) (fun j => (l j).v6) (fun j => (l j).v7) (fun j => (l j).v8) (fun j => (l j).v9) (fun j => (l j).v10) (fun j => (l j).v11) (fun j => (l j).v12) (fun j => (l j).v13) (Int.ofNat n)) (step := step_solve_Only_L0 n (fun j => (l j).v0) (fun j => (l j).v1) (fun j => (l j).v2) (fun j => (l j).v3) (fun j => (l j).v4) (fun j => (l j).v5) (fun j => (l j).v6) (fun j => (l j).v7) (fun j => (l j).v8) (fun j => (l j).v9) (fun j => (l j).v10) (fun j => (l j).v11) (fun j => (l j).v12) (fun j => (l j).v13) (Int.ofNat n)) V_solve_Only_L0.mk (fun i => bad n 1024 (l i)) n
    (fun k hk => by
      unfold ok_solve_Only_L0
      simp only [toNat_of, mrgB_eq, ilt_ofNat, ile_ofNat, checkP', ieq_200, Bool.true_and]
      exact ok_dec _ hk) (fun k hk => by
      unfold go_solve_Only_L0
      simp only [toNat_of, ilt_ofNat, checkP', ieq_200]
      exact not_dec _ _ _) (fun k hk => by
      unfold step_solve_Only_L0
      simp only
      rw [succ_i64 (by omega)])
  refine ⟨?_, h1⟩
  have e : (L_solve_Only_L0 n (fun j => (l j).v0) (fun j => (l j).v1) (fun j => (l j).v2) (fun j => (l j).v3) (fun j => (l j).v4) (fun j => (l j).v5) (fun j => (l j).v6) (fun j => (l j).v7) (fun j => (l j).v8) (fun j => (l j).v9) (fun j => (l j).v10) (fun j => (l j).v11) (fun j => (l j).v12) (fun j => (l j).v13) (Int.ofNat n) (V_solve_Only_L0.mk (0 : Int))).v0 = Int.ofNat j := congrArg V_solve_Only_L0.v0 h2
  simp only [e, ilt_ofNat, toNat_of, bif_dec]
  exact h3
theorem bif2R (p b : Bool) (x y : Rw) : (bif p then (bif b then x else y) else x) = ⟨bif p then (bif b then x.v0 else y.v0) else x.v0, bif p then (bif b then x.v1 else y.v1) else x.v1, bif p then (bif b then x.v2 else y.v2) else x.v2, bif p then (bif b then x.v3 else y.v3) else x.v3, bif p then (bif b then x.v4 else y.v4) else x.v4, bif p then (bif b then x.v5 else y.v5) else x.v5, bif p then (bif b then x.v6 else y.v6) else x.v6, bif p then (bif b then x.v7 else y.v7) else x.v7, bif p then (bif b then x.v8 else y.v8) else x.v8, bif p then (bif b then x.v9 else y.v9) else x.v9, bif p then (bif b then x.v10 else y.v10) else x.v10, bif p then (bif b then x.v11 else y.v11) else x.v11, bif p then (bif b then x.v12 else y.v12) else x.v12, bif p then (bif b then x.v13 else y.v13) else x.v13⟩ := by cases p <;> cases b <;> rfl
noncomputable abbrev pk (q : Nat) (B : Nat → Int) (l : Nat → Rw) (i : Nat) : Bool := sel q B (l i)
theorem run1P {n q : Nat} {B : Nat → Int} {l : Nat → Rw} (hn : n ≤ 1048576) (hq : q ≤ 1024) :
    E_solve_Only_L1 q B n (fun j => (l j).v0) (fun j => (l j).v1) (fun j => (l j).v2) (fun j => (l j).v3) (fun j => (l j).v4) (fun j => (l j).v5) (fun j => (l j).v6) (fun j => (l j).v7) (fun j => (l j).v8) (fun j => (l j).v9) (fun j => (l j).v10) (fun j => (l j).v11) (fun j => (l j).v12) (fun j => (l j).v13) (Int.ofNat n) (V_solve_Only_L1.mk 0 (0 : Int) (fun j0 => (0 : Int)) (fun j0 => (0 : Int)) (fun j0 => (0 : Int)) (fun j0 => 0) (fun j0 => 0) (fun j0 => 0) (fun j0 => 0) (fun j0 => 0) (fun j0 => 0) (fun j0 => 0) (fun j0 => 0) (fun j0 => 0) (fun j0 => 0) (fun j0 => (0 : Int)) (fun j0 => 0) (fun j0 => (0 : Int))) = true ∧
    L_solve_Only_L1 q B n (fun j => (l j).v0) (fun j => (l j).v1) (fun j => (l j).v2) (fun j => (l j).v3) (fun j => (l j).v4) (fun j => (l j).v5) (fun j => (l j).v6) (fun j => (l j).v7) (fun j => (l j).v8) (fun j => (l j).v9) (fun j => (l j).v10) (fun j => (l j).v11) (fun j => (l j).v12) (fun j => (l j).v13) (Int.ofNat n) (V_solve_Only_L1.mk 0 (0 : Int) (fun j0 => (0 : Int)) (fun j0 => (0 : Int)) (fun j0 => (0 : Int)) (fun j0 => 0) (fun j0 => 0) (fun j0 => 0) (fun j0 => 0) (fun j0 => 0) (fun j0 => 0) (fun j0 => 0) (fun j0 => 0) (fun j0 => 0) (fun j0 => 0) (fun j0 => (0 : Int)) (fun j0 => 0) (fun j0 => (0 : Int))) = V_solve_Only_L1.mk (cnt (pk q B l) n) (Int.ofNat n) (NW (pk q B l) n) (fun j => ((OL (pk q B l) l n) j).v0) (fun j => ((OL (pk q B l) l n) j).v1) (fun j => ((OL (pk q B l) l n) j).v2) (fun j => ((OL (pk q B l) l n) j).v3) (fun j => ((OL (pk q B l) l n) j).v4) (fun j => ((OL (pk q B l) l n) j).v5) (fun j => ((OL (pk q B l) l n) j).v6) (fun j => ((OL (pk q B l) l n) j).v7) (fun j => ((OL (pk q B l) l n) j).v8) (fun j => ((OL (pk q B l) l n) j).v9) (fun j => ((OL (pk q B l) l n) j).v10) (fun j => ((OL (pk q B l) l n) j).v11) (fun j => ((OL (pk q B l) l n) j).v12) (fun j => ((OL (pk q B l) l n) j).v13) (NL (pk q B l) n) := by
  have hc1 : ∀ v, s_slices_Contains___int_int__0 q B v = isin q B v := fun v => (containsP (by omega)).1
  have hc2 : ∀ v, o_slices_Contains___int_int_ q B v = true := fun v => (containsP (by omega)).2
  exact run_to (ok := ok_solve_Only_L1 q B n (fun j => (l j).v0) (fun j => (l j).v1) (fun j => (l j).v2) (fun j => (l j).v3) (fun j => (l j).v4) (fun j => (l j).v5) (fun j => (l j).v6) (fun j => (l j).v7) (fun j => (l j).v8) (fun j => (l j).v9) (fun j => (l j).v10) (fun j => (l j).v11) (fun j => (l j).v12) (fun j => (l j).v13) (Int.ofNat n)) (go := go_solve_Only_L1 q B n (fun j => (l j).v0) (fun j => (l j).v1) (fun j => (l j).v2) (fun j => (l j).v3) (fun j => (l j).v4) (fun j => (l j).v5) (fun j => (l j).v6) (fun j => (l j).v7) (fun j => (l j).v8) (fun j => (l j).v9) (fun j => (l j).v10) (fun j => (l j).v11) (fun j => (l j).v12) (fun j => (l j).v13) (Int.ofNat n)) (step := step_solve_Only_L1 q B n (fun j => (l j).v0) (fun j => (l j).v1) (fun j => (l j).v2) (fun j => (l j).v3) (fun j => (l j).v4) (fun j => (l j).v5) (fun j => (l j).v6) (fun j => (l j).v7) (fun j => (l j).v8) (fun j => (l j).v9) (fun j => (l j).v10) (fun j => (l j).v11) (fun j => (l j).v12) (fun j => (l j).v13) (Int.ofNat n))
    (fun k => V_solve_Only_L1.mk (cnt (pk q B l) k) (Int.ofNat k) (NW (pk q B l) k) (fun j => ((OL (pk q B l) l k) j).v0) (fun j => ((OL (pk q B l) l k) j).v1) (fun j => ((OL (pk q B l) l k) j).v2) (fun j => ((OL (pk q B l) l k) j).v3) (fun j => ((OL (pk q B l) l k) j).v4) (fun j => ((OL (pk q B l) l k) j).v5) (fun j => ((OL (pk q B l) l k) j).v6) (fun j => ((OL (pk q B l) l k) j).v7) (fun j => ((OL (pk q B l) l k) j).v8) (fun j => ((OL (pk q B l) l k) j).v9) (fun j => ((OL (pk q B l) l k) j).v10) (fun j => ((OL (pk q B l) l k) j).v11) (fun j => ((OL (pk q B l) l k) j).v12) (fun j => ((OL (pk q B l) l k) j).v13) (NL (pk q B l) k)) n
    (fun k hk => by
      have hc := cnt_le (pk q B l) k
      unfold ok_solve_Only_L1
      simp only [toNat_of, mrgB_eq, ilt_ofNat, ile_ofNat, Bool.true_and, allB_true, hc1, hc2, ble_true (Nat.le_refl (cnt (pk q B l) k)), ble_true (show (cnt (pk q B l) k + 1) * 8 ≤ 140737488355328 by omega), ble_true (show (cnt (pk q B l) k + 1) * 112 ≤ 140737488355328 by omega)]
      by_cases hk : k < n
      · simp only [decide_eq_true hk, blt_true hk, Bool.not_true, cond_false, Bool.and_self, Bool.cond_self]
      · simp only [decide_eq_false hk, Bool.not_false, cond_true])
    (fun k hk => by unfold go_solve_Only_L1; simp only [ilt_ofNat]; simp [hk])
    (fun k hk => by
      have e : OL (pk q B l) l (k + 1) = fun j => (⟨bif sel q B (l k) then (bif Nat.blt j (cnt (pk q B l) k) then (OL (pk q B l) l k j).v0 else (l k).v0) else (OL (pk q B l) l k j).v0, bif sel q B (l k) then (bif Nat.blt j (cnt (pk q B l) k) then (OL (pk q B l) l k j).v1 else (l k).v1) else (OL (pk q B l) l k j).v1, bif sel q B (l k) then (bif Nat.blt j (cnt (pk q B l) k) then (OL (pk q B l) l k j).v2 else (l k).v2) else (OL (pk q B l) l k j).v2, bif sel q B (l k) then (bif Nat.blt j (cnt (pk q B l) k) then (OL (pk q B l) l k j).v3 else (l k).v3) else (OL (pk q B l) l k j).v3, bif sel q B (l k) then (bif Nat.blt j (cnt (pk q B l) k) then (OL (pk q B l) l k j).v4 else (l k).v4) else (OL (pk q B l) l k j).v4, bif sel q B (l k) then (bif Nat.blt j (cnt (pk q B l) k) then (OL (pk q B l) l k j).v5 else (l k).v5) else (OL (pk q B l) l k j).v5, bif sel q B (l k) then (bif Nat.blt j (cnt (pk q B l) k) then (OL (pk q B l) l k j).v6 else (l k).v6) else (OL (pk q B l) l k j).v6, bif sel q B (l k) then (bif Nat.blt j (cnt (pk q B l) k) then (OL (pk q B l) l k j).v7 else (l k).v7) else (OL (pk q B l) l k j).v7, bif sel q B (l k) then (bif Nat.blt j (cnt (pk q B l) k) then (OL (pk q B l) l k j).v8 else (l k).v8) else (OL (pk q B l) l k j).v8, bif sel q B (l k) then (bif Nat.blt j (cnt (pk q B l) k) then (OL (pk q B l) l k j).v9 else (l k).v9) else (OL (pk q B l) l k j).v9, bif sel q B (l k) then (bif Nat.blt j (cnt (pk q B l) k) then (OL (pk q B l) l k j).v10 else (l k).v10) else (OL (pk q B l) l k j).v10, bif sel q B (l k) then (bif Nat.blt j (cnt (pk q B l) k) then (OL (pk q B l) l k j).v11 else (l k).v11) else (OL (pk q B l) l k j).v11, bif sel q B (l k) then (bif Nat.blt j (cnt (pk q B l) k) then (OL (pk q B l) l k j).v12 else (l k).v12) else (OL (pk q B l) l k j).v12, bif sel q B (l k) then (bif Nat.blt j (cnt (pk q B l) k) then (OL (pk q B l) l k j).v13 else (l k).v13) else (OL (pk q B l) l k j).v13⟩ : Rw) := funext fun j => bif2R _ _ _ _
      unfold step_solve_Only_L1
      simp only [toNat_of, hc1, isin_or, csame_eq]
      rw [succ_i64 (by omega), e]; rfl)
    (by unfold go_solve_Only_L1; simp only [ilt_ofNat]; simp)
theorem run2P {n c : Nat} {w : Nat → Int} {f : Nat → Rw} (hc : c ≤ 1048576) (hf : ∀ k, k < c → (f k).v12 < (n : Int)) :
    E_solve_Only_L2 c n (Int.ofNat c) w (V_solve_Only_L2.mk (0 : Int) (fun j => (f j).v0) (fun j => (f j).v1) (fun j => (f j).v2) (fun j => (f j).v3) (fun j => (f j).v4) (fun j => (f j).v5) (fun j => (f j).v6) (fun j => (f j).v7) (fun j => (f j).v8) (fun j => (f j).v9) (fun j => (f j).v10) (fun j => (f j).v11) (fun j => (f j).v12) (fun j => (f j).v13)) = true ∧ L_solve_Only_L2 c n (Int.ofNat c) w (V_solve_Only_L2.mk (0 : Int) (fun j => (f j).v0) (fun j => (f j).v1) (fun j => (f j).v2) (fun j => (f j).v3) (fun j => (f j).v4) (fun j => (f j).v5) (fun j => (f j).v6) (fun j => (f j).v7) (fun j => (f j).v8) (fun j => (f j).v9) (fun j => (f j).v10) (fun j => (f j).v11) (fun j => (f j).v12) (fun j => (f j).v13)) = V_solve_Only_L2.mk (Int.ofNat c) (fun j => ((F2 w f c) j).v0) (fun j => ((F2 w f c) j).v1) (fun j => ((F2 w f c) j).v2) (fun j => ((F2 w f c) j).v3) (fun j => ((F2 w f c) j).v4) (fun j => ((F2 w f c) j).v5) (fun j => ((F2 w f c) j).v6) (fun j => ((F2 w f c) j).v7) (fun j => ((F2 w f c) j).v8) (fun j => ((F2 w f c) j).v9) (fun j => ((F2 w f c) j).v10) (fun j => ((F2 w f c) j).v11) (fun j => ((F2 w f c) j).v12) (fun j => ((F2 w f c) j).v13) :=
  run_to (ok := ok_solve_Only_L2 c n (Int.ofNat c) w) (go := go_solve_Only_L2 c n (Int.ofNat c) w) (step := step_solve_Only_L2 c n (Int.ofNat c) w)
    (fun k => V_solve_Only_L2.mk (Int.ofNat k) (fun j => ((F2 w f k) j).v0) (fun j => ((F2 w f k) j).v1) (fun j => ((F2 w f k) j).v2) (fun j => ((F2 w f k) j).v3) (fun j => ((F2 w f k) j).v4) (fun j => ((F2 w f k) j).v5) (fun j => ((F2 w f k) j).v6) (fun j => ((F2 w f k) j).v7) (fun j => ((F2 w f k) j).v8) (fun j => ((F2 w f k) j).v9) (fun j => ((F2 w f k) j).v10) (fun j => ((F2 w f k) j).v11) (fun j => ((F2 w f k) j).v12) (fun j => ((F2 w f k) j).v13)) c
    (fun k hk => by
      unfold ok_solve_Only_L2
      simp only [toNat_of, mrgB_eq, ilt_ofNat, ile_ofNat, Bool.true_and, F2_ge k (Nat.le_refl k)]
      by_cases hk : k < c
      · have h12 := hf k hk
        simp only [decide_eq_true hk, blt_true hk, Bool.not_true, cond_false, Bool.and_self, Bool.true_and]
        by_cases hv : 0 ≤ (f k).v12
        · simp only [ile_true hv, blt_true (toNat_lt hv h12), Bool.cond_self, Bool.and_self]
        · simp only [ile_false (show (f k).v12 < 0 by omega), cond_false]
      · simp only [decide_eq_false hk, Bool.not_false, cond_true])
    (fun k hk => by unfold go_solve_Only_L2; simp only [ilt_ofNat]; simp [hk])
    (fun k hk => by
      unfold step_solve_Only_L2
      simp only [toNat_of, Bool.cond_self]
      rw [succ_i64 (by omega)]; rfl)
    (by unfold go_solve_Only_L2; simp only [ilt_ofNat]; simp)
noncomputable def onPl (n : Nat) (l : Nat → Rw) (q : Nat) (B : Nat → Int) (j : Nat) : Rw := ⟨s_solve_Only_6 n (fun j => (l j).v0) (fun j => (l j).v1) (fun j => (l j).v2) (fun j => (l j).v3) (fun j => (l j).v4) (fun j => (l j).v5) (fun j => (l j).v6) (fun j => (l j).v7) (fun j => (l j).v8) (fun j => (l j).v9) (fun j => (l j).v10) (fun j => (l j).v11) (fun j => (l j).v12) (fun j => (l j).v13) q B j, s_solve_Only_7 n (fun j => (l j).v0) (fun j => (l j).v1) (fun j => (l j).v2) (fun j => (l j).v3) (fun j => (l j).v4) (fun j => (l j).v5) (fun j => (l j).v6) (fun j => (l j).v7) (fun j => (l j).v8) (fun j => (l j).v9) (fun j => (l j).v10) (fun j => (l j).v11) (fun j => (l j).v12) (fun j => (l j).v13) q B j, s_solve_Only_8 n (fun j => (l j).v0) (fun j => (l j).v1) (fun j => (l j).v2) (fun j => (l j).v3) (fun j => (l j).v4) (fun j => (l j).v5) (fun j => (l j).v6) (fun j => (l j).v7) (fun j => (l j).v8) (fun j => (l j).v9) (fun j => (l j).v10) (fun j => (l j).v11) (fun j => (l j).v12) (fun j => (l j).v13) q B j, s_solve_Only_9 n (fun j => (l j).v0) (fun j => (l j).v1) (fun j => (l j).v2) (fun j => (l j).v3) (fun j => (l j).v4) (fun j => (l j).v5) (fun j => (l j).v6) (fun j => (l j).v7) (fun j => (l j).v8) (fun j => (l j).v9) (fun j => (l j).v10) (fun j => (l j).v11) (fun j => (l j).v12) (fun j => (l j).v13) q B j, s_solve_Only_10 n (fun j => (l j).v0) (fun j => (l j).v1) (fun j => (l j).v2) (fun j => (l j).v3) (fun j => (l j).v4) (fun j => (l j).v5) (fun j => (l j).v6) (fun j => (l j).v7) (fun j => (l j).v8) (fun j => (l j).v9) (fun j => (l j).v10) (fun j => (l j).v11) (fun j => (l j).v12) (fun j => (l j).v13) q B j, s_solve_Only_11 n (fun j => (l j).v0) (fun j => (l j).v1) (fun j => (l j).v2) (fun j => (l j).v3) (fun j => (l j).v4) (fun j => (l j).v5) (fun j => (l j).v6) (fun j => (l j).v7) (fun j => (l j).v8) (fun j => (l j).v9) (fun j => (l j).v10) (fun j => (l j).v11) (fun j => (l j).v12) (fun j => (l j).v13) q B j, s_solve_Only_12 n (fun j => (l j).v0) (fun j => (l j).v1) (fun j => (l j).v2) (fun j => (l j).v3) (fun j => (l j).v4) (fun j => (l j).v5) (fun j => (l j).v6) (fun j => (l j).v7) (fun j => (l j).v8) (fun j => (l j).v9) (fun j => (l j).v10) (fun j => (l j).v11) (fun j => (l j).v12) (fun j => (l j).v13) q B j, s_solve_Only_13 n (fun j => (l j).v0) (fun j => (l j).v1) (fun j => (l j).v2) (fun j => (l j).v3) (fun j => (l j).v4) (fun j => (l j).v5) (fun j => (l j).v6) (fun j => (l j).v7) (fun j => (l j).v8) (fun j => (l j).v9) (fun j => (l j).v10) (fun j => (l j).v11) (fun j => (l j).v12) (fun j => (l j).v13) q B j, s_solve_Only_14 n (fun j => (l j).v0) (fun j => (l j).v1) (fun j => (l j).v2) (fun j => (l j).v3) (fun j => (l j).v4) (fun j => (l j).v5) (fun j => (l j).v6) (fun j => (l j).v7) (fun j => (l j).v8) (fun j => (l j).v9) (fun j => (l j).v10) (fun j => (l j).v11) (fun j => (l j).v12) (fun j => (l j).v13) q B j, s_solve_Only_15 n (fun j => (l j).v0) (fun j => (l j).v1) (fun j => (l j).v2) (fun j => (l j).v3) (fun j => (l j).v4) (fun j => (l j).v5) (fun j => (l j).v6) (fun j => (l j).v7) (fun j => (l j).v8) (fun j => (l j).v9) (fun j => (l j).v10) (fun j => (l j).v11) (fun j => (l j).v12) (fun j => (l j).v13) q B j, s_solve_Only_16 n (fun j => (l j).v0) (fun j => (l j).v1) (fun j => (l j).v2) (fun j => (l j).v3) (fun j => (l j).v4) (fun j => (l j).v5) (fun j => (l j).v6) (fun j => (l j).v7) (fun j => (l j).v8) (fun j => (l j).v9) (fun j => (l j).v10) (fun j => (l j).v11) (fun j => (l j).v12) (fun j => (l j).v13) q B j, s_solve_Only_17 n (fun j => (l j).v0) (fun j => (l j).v1) (fun j => (l j).v2) (fun j => (l j).v3) (fun j => (l j).v4) (fun j => (l j).v5) (fun j => (l j).v6) (fun j => (l j).v7) (fun j => (l j).v8) (fun j => (l j).v9) (fun j => (l j).v10) (fun j => (l j).v11) (fun j => (l j).v12) (fun j => (l j).v13) q B j, s_solve_Only_18 n (fun j => (l j).v0) (fun j => (l j).v1) (fun j => (l j).v2) (fun j => (l j).v3) (fun j => (l j).v4) (fun j => (l j).v5) (fun j => (l j).v6) (fun j => (l j).v7) (fun j => (l j).v8) (fun j => (l j).v9) (fun j => (l j).v10) (fun j => (l j).v11) (fun j => (l j).v12) (fun j => (l j).v13) q B j, s_solve_Only_19 n (fun j => (l j).v0) (fun j => (l j).v1) (fun j => (l j).v2) (fun j => (l j).v3) (fun j => (l j).v4) (fun j => (l j).v5) (fun j => (l j).v6) (fun j => (l j).v7) (fun j => (l j).v8) (fun j => (l j).v9) (fun j => (l j).v10) (fun j => (l j).v11) (fun j => (l j).v12) (fun j => (l j).v13) q B j⟩
theorem ieq_bif (e b : Bool) : (!(ieq (bif e then (4 : Int) else bif b then 200 else 0) 0)) = (e || b) := by cases e <;> cases b <;> rfl
theorem one_ok {n q : Nat} {l : Nat → Rw} (h : onE n q l = 0) : n ≤ 1048576 ∧ q ≤ 1024 ∧ ∀ i, i < n → -1 ≤ (l i).v12 ∧ (l i).v12 < (n : Int) := by
  unfold onE at h
  cases hb : (ilt (1048576 : Int) (Int.ofNat n)) || (ilt (1024 : Int) (Int.ofNat q)) with
  | true => rw [hb] at h; cases h
  | false =>
    rw [hb, cond_false] at h
    cases hl : badL n 1024 l with
    | true => rw [hl] at h; cases h
    | false =>
      have h1 : n ≤ 1048576 ∧ q ≤ 1024 := by
        unfold ilt at hb; simp at hb; omega
      refine ⟨h1.1, h1.2, fun i hi => ?_⟩
      have hbad : bad n 1024 (l i) = false := by
        cases e : bad n 1024 (l i) with
        | false => rfl
        | true => exact absurd ⟨i, hi, e⟩ (of_decide_eq_false hl)
      unfold bad at hbad
      cases hm : may (l i) with
      | false => rw [hm] at hbad; simp at hbad
      | true =>
        rw [hm] at hbad
        unfold may s_rows_fits_0 at hm
        simp only [Bool.and_eq_true, ile, decide_eq_true_eq] at hm
        simp only [Bool.not_true, Bool.false_or, Bool.or_eq_false_iff, ile, decide_eq_false_iff_not, Int.ofNat_eq_natCast] at hbad
        exact ⟨by omega, by omega⟩
theorem onlyP {n q : Nat} {l : Nat → Rw} {B : Nat → Int} (hn : n < 9223372036854775807) :
    s_solve_Only_4 n (fun j => (l j).v0) (fun j => (l j).v1) (fun j => (l j).v2) (fun j => (l j).v3) (fun j => (l j).v4) (fun j => (l j).v5) (fun j => (l j).v6) (fun j => (l j).v7) (fun j => (l j).v8) (fun j => (l j).v9) (fun j => (l j).v10) (fun j => (l j).v11) (fun j => (l j).v12) (fun j => (l j).v13) q B = onE n q l ∧ o_solve_Only n (fun j => (l j).v0) (fun j => (l j).v1) (fun j => (l j).v2) (fun j => (l j).v3) (fun j => (l j).v4) (fun j => (l j).v5) (fun j => (l j).v6) (fun j => (l j).v7) (fun j => (l j).v8) (fun j => (l j).v9) (fun j => (l j).v10) (fun j => (l j).v11) (fun j => (l j).v12) (fun j => (l j).v13) q B = true ∧
    s_solve_Only_0 n (fun j => (l j).v0) (fun j => (l j).v1) (fun j => (l j).v2) (fun j => (l j).v3) (fun j => (l j).v4) (fun j => (l j).v5) (fun j => (l j).v6) (fun j => (l j).v7) (fun j => (l j).v8) (fun j => (l j).v9) (fun j => (l j).v10) (fun j => (l j).v11) (fun j => (l j).v12) (fun j => (l j).v13) q B = (bif ieq (onE n q l) 0 then cnt (pk q B l) n else 0) ∧ s_solve_Only_2 n (fun j => (l j).v0) (fun j => (l j).v1) (fun j => (l j).v2) (fun j => (l j).v3) (fun j => (l j).v4) (fun j => (l j).v5) (fun j => (l j).v6) (fun j => (l j).v7) (fun j => (l j).v8) (fun j => (l j).v9) (fun j => (l j).v10) (fun j => (l j).v11) (fun j => (l j).v12) (fun j => (l j).v13) q B = (bif ieq (onE n q l) 0 then cnt (pk q B l) n else 0) ∧
    (onE n q l = 0 → s_solve_Only_5 n (fun j => (l j).v0) (fun j => (l j).v1) (fun j => (l j).v2) (fun j => (l j).v3) (fun j => (l j).v4) (fun j => (l j).v5) (fun j => (l j).v6) (fun j => (l j).v7) (fun j => (l j).v8) (fun j => (l j).v9) (fun j => (l j).v10) (fun j => (l j).v11) (fun j => (l j).v12) (fun j => (l j).v13) q B = cnt (pk q B l) n ∧ s_solve_Only_20 n (fun j => (l j).v0) (fun j => (l j).v1) (fun j => (l j).v2) (fun j => (l j).v3) (fun j => (l j).v4) (fun j => (l j).v5) (fun j => (l j).v6) (fun j => (l j).v7) (fun j => (l j).v8) (fun j => (l j).v9) (fun j => (l j).v10) (fun j => (l j).v11) (fun j => (l j).v12) (fun j => (l j).v13) q B = cnt (pk q B l) n ∧ s_solve_Only_21 n (fun j => (l j).v0) (fun j => (l j).v1) (fun j => (l j).v2) (fun j => (l j).v3) (fun j => (l j).v4) (fun j => (l j).v5) (fun j => (l j).v6) (fun j => (l j).v7) (fun j => (l j).v8) (fun j => (l j).v9) (fun j => (l j).v10) (fun j => (l j).v11) (fun j => (l j).v12) (fun j => (l j).v13) q B = NL (pk q B l) n ∧ onPl n l q B = F2 (NW (pk q B l) n) (OL (pk q B l) l n) (cnt (pk q B l) n)) := by
  obtain ⟨h1, h2⟩ := onP_rows (l := l) hn
  have hbad : ∀ e : Bool, (bif e then (4 : Int) else (bif (badL n 1024 l) then 200 else 0)) = (bif e then (4 : Int) else (bif (bif (!(ilt (L_solve_Only_L0 n (fun j => (l j).v0) (fun j => (l j).v1) (fun j => (l j).v2) (fun j => (l j).v3) (fun j => (l j).v4) (fun j => (l j).v5) (fun j => (l j).v6) (fun j => (l j).v7) (fun j => (l j).v8) (fun j => (l j).v9) (fun j => (l j).v10) (fun j => (l j).v11) (fun j => (l j).v12) (fun j => (l j).v13) (Int.ofNat n) (V_solve_Only_L0.mk (0 : Int))).v0 (Int.ofNat n))) then false else bad n 1024 (l (Int.toNat (L_solve_Only_L0 n (fun j => (l j).v0) (fun j => (l j).v1) (fun j => (l j).v2) (fun j => (l j).v3) (fun j => (l j).v4) (fun j => (l j).v5) (fun j => (l j).v6) (fun j => (l j).v7) (fun j => (l j).v8) (fun j => (l j).v9) (fun j => (l j).v10) (fun j => (l j).v11) (fun j => (l j).v12) (fun j => (l j).v13) (Int.ofNat n) (V_solve_Only_L0.mk (0 : Int))).v0))) then (bif bad n 1024 (l (Int.toNat (L_solve_Only_L0 n (fun j => (l j).v0) (fun j => (l j).v1) (fun j => (l j).v2) (fun j => (l j).v3) (fun j => (l j).v4) (fun j => (l j).v5) (fun j => (l j).v6) (fun j => (l j).v7) (fun j => (l j).v8) (fun j => (l j).v9) (fun j => (l j).v10) (fun j => (l j).v11) (fun j => (l j).v12) (fun j => (l j).v13) (Int.ofNat n) (V_solve_Only_L0.mk (0 : Int))).v0)) then 200 else 0) else 0)) := by
    intro e
    simp only at h1
    rw [h1]
    cases e
    · cases hb : badL n 1024 l
      · rfl
      · rw [hb] at h1
        rw [bif_dec] at h1
        have := (Bool.and_eq_true _ _ ▸ h1 : _ ∧ _).2
        rw [this]; rfl
    · rfl
  have hz : ieq (onE n q l) 0 = !(((ilt (1048576 : Int) (Int.ofNat n)) || (ilt (1024 : Int) (Int.ofNat q))) || badL n 1024 l) := by
    rw [← ieq_bif ((ilt (1048576 : Int) (Int.ofNat n)) || (ilt (1024 : Int) (Int.ofNat q))) (badL n 1024 l), Bool.not_not]; rfl
  refine ⟨?_, ?_, ?_, ?_, ?_⟩
  · unfold s_solve_Only_4 onE
    simp only [checkP', ieq_200]
    exact (hbad _).symm
  · unfold o_solve_Only
    simp only [checkP', ieq_200, mrgB_eq]
    simp only at h1
    rw [h1]
    cases he : (ilt (1048576 : Int) (Int.ofNat n)) || (ilt (1024 : Int) (Int.ofNat q)) with
    | true => rfl
    | false =>
      cases hb : badL n 1024 l with
      | true => exact h2
      | false =>
        have h0 : onE n q l = 0 := by unfold onE; rw [he, hb]; rfl
        obtain ⟨b1, b2, b3⟩ := one_ok h0
        have r1 := run1P (B := B) (l := l) b1 b2
        have hc := cnt_le (pk q B l) n
        have r2 := run2P (n := n) (c := cnt (pk q B l) n) (w := NW (pk q B l) n) (f := OL (pk q B l) l n) (by omega) (fun k hk => by
          rw [OL_at n k hk]
          obtain ⟨w, c1, c2, _⟩ := NL_lt n k hk
          rw [c2, toNat_of]; exact (b3 w c1).2)
        rw [cond_false, cond_false, h2, r1.1, r1.2, ile_true (Int.le_refl (Int.ofNat n)), ile_true (show (8 : Int) * (Int.ofNat n) ≤ 281474976710656 by simp; omega), ile_true (show Int.ofNat n ≤ 9223372036854775807 by simp; omega)]
        exact r2.1
  · unfold s_solve_Only_0
    simp only [checkP', ieq_200, csame_eq]
    simp only at h1
    rw [h1, hz]
    cases he : (ilt (1048576 : Int) (Int.ofNat n)) || (ilt (1024 : Int) (Int.ofNat q)) with
    | true => rfl
    | false =>
      cases hb : badL n 1024 l with
      | true => rfl
      | false =>
        have h0 : onE n q l = 0 := by unfold onE; rw [he, hb]; rfl
        obtain ⟨b1, b2, b3⟩ := one_ok h0
        rw [(run1P (B := B) (l := l) b1 b2).2]; rfl
  · unfold s_solve_Only_2
    simp only [checkP', ieq_200, csame_eq]
    simp only at h1
    rw [h1, hz]
    cases he : (ilt (1048576 : Int) (Int.ofNat n)) || (ilt (1024 : Int) (Int.ofNat q)) with
    | true => rfl
    | false =>
      cases hb : badL n 1024 l with
      | true => rfl
      | false =>
        have h0 : onE n q l = 0 := by unfold onE; rw [he, hb]; rfl
        obtain ⟨b1, b2, b3⟩ := one_ok h0
        rw [(run1P (B := B) (l := l) b1 b2).2]; rfl
  · intro h0
    obtain ⟨b1, b2, b3⟩ := one_ok h0
    have r1 := (run1P (B := B) (l := l) b1 b2).2
    have hc := cnt_le (pk q B l) n
    have r2 := run2P (n := n) (c := cnt (pk q B l) n) (w := NW (pk q B l) n) (f := OL (pk q B l) l n) (by omega) (fun k hk => by
      rw [OL_at n k hk]
      obtain ⟨w, c1, c2, _⟩ := NL_lt n k hk
      rw [c2, toNat_of]; exact (b3 w c1).2)
    have g : ∀ X : V_solve_Only_L1, X = V_solve_Only_L1.mk (cnt (pk q B l) n) (Int.ofNat n) (NW (pk q B l) n) (fun j => ((OL (pk q B l) l n) j).v0) (fun j => ((OL (pk q B l) l n) j).v1) (fun j => ((OL (pk q B l) l n) j).v2) (fun j => ((OL (pk q B l) l n) j).v3) (fun j => ((OL (pk q B l) l n) j).v4) (fun j => ((OL (pk q B l) l n) j).v5) (fun j => ((OL (pk q B l) l n) j).v6) (fun j => ((OL (pk q B l) l n) j).v7) (fun j => ((OL (pk q B l) l n) j).v8) (fun j => ((OL (pk q B l) l n) j).v9) (fun j => ((OL (pk q B l) l n) j).v10) (fun j => ((OL (pk q B l) l n) j).v11) (fun j => ((OL (pk q B l) l n) j).v12) (fun j => ((OL (pk q B l) l n) j).v13) (NL (pk q B l) n) →
        X.v0 = cnt (pk q B l) n ∧ X.v17 = NL (pk q B l) n ∧ (fun j => (⟨(L_solve_Only_L2 X.v0 n (Int.ofNat X.v0) X.v2 (V_solve_Only_L2.mk (0 : Int) X.v3 X.v4 X.v5 X.v6 X.v7 X.v8 X.v9 X.v10 X.v11 X.v12 X.v13 X.v14 X.v15 X.v16)).v1 j, (L_solve_Only_L2 X.v0 n (Int.ofNat X.v0) X.v2 (V_solve_Only_L2.mk (0 : Int) X.v3 X.v4 X.v5 X.v6 X.v7 X.v8 X.v9 X.v10 X.v11 X.v12 X.v13 X.v14 X.v15 X.v16)).v2 j, (L_solve_Only_L2 X.v0 n (Int.ofNat X.v0) X.v2 (V_solve_Only_L2.mk (0 : Int) X.v3 X.v4 X.v5 X.v6 X.v7 X.v8 X.v9 X.v10 X.v11 X.v12 X.v13 X.v14 X.v15 X.v16)).v3 j, (L_solve_Only_L2 X.v0 n (Int.ofNat X.v0) X.v2 (V_solve_Only_L2.mk (0 : Int) X.v3 X.v4 X.v5 X.v6 X.v7 X.v8 X.v9 X.v10 X.v11 X.v12 X.v13 X.v14 X.v15 X.v16)).v4 j, (L_solve_Only_L2 X.v0 n (Int.ofNat X.v0) X.v2 (V_solve_Only_L2.mk (0 : Int) X.v3 X.v4 X.v5 X.v6 X.v7 X.v8 X.v9 X.v10 X.v11 X.v12 X.v13 X.v14 X.v15 X.v16)).v5 j, (L_solve_Only_L2 X.v0 n (Int.ofNat X.v0) X.v2 (V_solve_Only_L2.mk (0 : Int) X.v3 X.v4 X.v5 X.v6 X.v7 X.v8 X.v9 X.v10 X.v11 X.v12 X.v13 X.v14 X.v15 X.v16)).v6 j, (L_solve_Only_L2 X.v0 n (Int.ofNat X.v0) X.v2 (V_solve_Only_L2.mk (0 : Int) X.v3 X.v4 X.v5 X.v6 X.v7 X.v8 X.v9 X.v10 X.v11 X.v12 X.v13 X.v14 X.v15 X.v16)).v7 j, (L_solve_Only_L2 X.v0 n (Int.ofNat X.v0) X.v2 (V_solve_Only_L2.mk (0 : Int) X.v3 X.v4 X.v5 X.v6 X.v7 X.v8 X.v9 X.v10 X.v11 X.v12 X.v13 X.v14 X.v15 X.v16)).v8 j, (L_solve_Only_L2 X.v0 n (Int.ofNat X.v0) X.v2 (V_solve_Only_L2.mk (0 : Int) X.v3 X.v4 X.v5 X.v6 X.v7 X.v8 X.v9 X.v10 X.v11 X.v12 X.v13 X.v14 X.v15 X.v16)).v9 j, (L_solve_Only_L2 X.v0 n (Int.ofNat X.v0) X.v2 (V_solve_Only_L2.mk (0 : Int) X.v3 X.v4 X.v5 X.v6 X.v7 X.v8 X.v9 X.v10 X.v11 X.v12 X.v13 X.v14 X.v15 X.v16)).v10 j, (L_solve_Only_L2 X.v0 n (Int.ofNat X.v0) X.v2 (V_solve_Only_L2.mk (0 : Int) X.v3 X.v4 X.v5 X.v6 X.v7 X.v8 X.v9 X.v10 X.v11 X.v12 X.v13 X.v14 X.v15 X.v16)).v11 j, (L_solve_Only_L2 X.v0 n (Int.ofNat X.v0) X.v2 (V_solve_Only_L2.mk (0 : Int) X.v3 X.v4 X.v5 X.v6 X.v7 X.v8 X.v9 X.v10 X.v11 X.v12 X.v13 X.v14 X.v15 X.v16)).v12 j, (L_solve_Only_L2 X.v0 n (Int.ofNat X.v0) X.v2 (V_solve_Only_L2.mk (0 : Int) X.v3 X.v4 X.v5 X.v6 X.v7 X.v8 X.v9 X.v10 X.v11 X.v12 X.v13 X.v14 X.v15 X.v16)).v13 j, (L_solve_Only_L2 X.v0 n (Int.ofNat X.v0) X.v2 (V_solve_Only_L2.mk (0 : Int) X.v3 X.v4 X.v5 X.v6 X.v7 X.v8 X.v9 X.v10 X.v11 X.v12 X.v13 X.v14 X.v15 X.v16)).v14 j⟩ : Rw)) = F2 (NW (pk q B l) n) (OL (pk q B l) l n) (cnt (pk q B l) n) := by
      rintro _ rfl
      refine ⟨rfl, rfl, ?_⟩
      show (fun j => (⟨(L_solve_Only_L2 (cnt (pk q B l) n) n (Int.ofNat (cnt (pk q B l) n)) (NW (pk q B l) n) (V_solve_Only_L2.mk (0 : Int) (fun j => ((OL (pk q B l) l n) j).v0) (fun j => ((OL (pk q B l) l n) j).v1) (fun j => ((OL (pk q B l) l n) j).v2) (fun j => ((OL (pk q B l) l n) j).v3) (fun j => ((OL (pk q B l) l n) j).v4) (fun j => ((OL (pk q B l) l n) j).v5) (fun j => ((OL (pk q B l) l n) j).v6) (fun j => ((OL (pk q B l) l n) j).v7) (fun j => ((OL (pk q B l) l n) j).v8) (fun j => ((OL (pk q B l) l n) j).v9) (fun j => ((OL (pk q B l) l n) j).v10) (fun j => ((OL (pk q B l) l n) j).v11) (fun j => ((OL (pk q B l) l n) j).v12) (fun j => ((OL (pk q B l) l n) j).v13))).v1 j, (L_solve_Only_L2 (cnt (pk q B l) n) n (Int.ofNat (cnt (pk q B l) n)) (NW (pk q B l) n) (V_solve_Only_L2.mk (0 : Int) (fun j => ((OL (pk q B l) l n) j).v0) (fun j => ((OL (pk q B l) l n) j).v1) (fun j => ((OL (pk q B l) l n) j).v2) (fun j => ((OL (pk q B l) l n) j).v3) (fun j => ((OL (pk q B l) l n) j).v4) (fun j => ((OL (pk q B l) l n) j).v5) (fun j => ((OL (pk q B l) l n) j).v6) (fun j => ((OL (pk q B l) l n) j).v7) (fun j => ((OL (pk q B l) l n) j).v8) (fun j => ((OL (pk q B l) l n) j).v9) (fun j => ((OL (pk q B l) l n) j).v10) (fun j => ((OL (pk q B l) l n) j).v11) (fun j => ((OL (pk q B l) l n) j).v12) (fun j => ((OL (pk q B l) l n) j).v13))).v2 j, (L_solve_Only_L2 (cnt (pk q B l) n) n (Int.ofNat (cnt (pk q B l) n)) (NW (pk q B l) n) (V_solve_Only_L2.mk (0 : Int) (fun j => ((OL (pk q B l) l n) j).v0) (fun j => ((OL (pk q B l) l n) j).v1) (fun j => ((OL (pk q B l) l n) j).v2) (fun j => ((OL (pk q B l) l n) j).v3) (fun j => ((OL (pk q B l) l n) j).v4) (fun j => ((OL (pk q B l) l n) j).v5) (fun j => ((OL (pk q B l) l n) j).v6) (fun j => ((OL (pk q B l) l n) j).v7) (fun j => ((OL (pk q B l) l n) j).v8) (fun j => ((OL (pk q B l) l n) j).v9) (fun j => ((OL (pk q B l) l n) j).v10) (fun j => ((OL (pk q B l) l n) j).v11) (fun j => ((OL (pk q B l) l n) j).v12) (fun j => ((OL (pk q B l) l n) j).v13))).v3 j, (L_solve_Only_L2 (cnt (pk q B l) n) n (Int.ofNat (cnt (pk q B l) n)) (NW (pk q B l) n) (V_solve_Only_L2.mk (0 : Int) (fun j => ((OL (pk q B l) l n) j).v0) (fun j => ((OL (pk q B l) l n) j).v1) (fun j => ((OL (pk q B l) l n) j).v2) (fun j => ((OL (pk q B l) l n) j).v3) (fun j => ((OL (pk q B l) l n) j).v4) (fun j => ((OL (pk q B l) l n) j).v5) (fun j => ((OL (pk q B l) l n) j).v6) (fun j => ((OL (pk q B l) l n) j).v7) (fun j => ((OL (pk q B l) l n) j).v8) (fun j => ((OL (pk q B l) l n) j).v9) (fun j => ((OL (pk q B l) l n) j).v10) (fun j => ((OL (pk q B l) l n) j).v11) (fun j => ((OL (pk q B l) l n) j).v12) (fun j => ((OL (pk q B l) l n) j).v13))).v4 j, (L_solve_Only_L2 (cnt (pk q B l) n) n (Int.ofNat (cnt (pk q B l) n)) (NW (pk q B l) n) (V_solve_Only_L2.mk (0 : Int) (fun j => ((OL (pk q B l) l n) j).v0) (fun j => ((OL (pk q B l) l n) j).v1) (fun j => ((OL (pk q B l) l n) j).v2) (fun j => ((OL (pk q B l) l n) j).v3) (fun j => ((OL (pk q B l) l n) j).v4) (fun j => ((OL (pk q B l) l n) j).v5) (fun j => ((OL (pk q B l) l n) j).v6) (fun j => ((OL (pk q B l) l n) j).v7) (fun j => ((OL (pk q B l) l n) j).v8) (fun j => ((OL (pk q B l) l n) j).v9) (fun j => ((OL (pk q B l) l n) j).v10) (fun j => ((OL (pk q B l) l n) j).v11) (fun j => ((OL (pk q B l) l n) j).v12) (fun j => ((OL (pk q B l) l n) j).v13))).v5 j, (L_solve_Only_L2 (cnt (pk q B l) n) n (Int.ofNat (cnt (pk q B l) n)) (NW (pk q B l) n) (V_solve_Only_L2.mk (0 : Int) (fun j => ((OL (pk q B l) l n) j).v0) (fun j => ((OL (pk q B l) l n) j).v1) (fun j => ((OL (pk q B l) l n) j).v2) (fun j => ((OL (pk q B l) l n) j).v3) (fun j => ((OL (pk q B l) l n) j).v4) (fun j => ((OL (pk q B l) l n) j).v5) (fun j => ((OL (pk q B l) l n) j).v6) (fun j => ((OL (pk q B l) l n) j).v7) (fun j => ((OL (pk q B l) l n) j).v8) (fun j => ((OL (pk q B l) l n) j).v9) (fun j => ((OL (pk q B l) l n) j).v10) (fun j => ((OL (pk q B l) l n) j).v11) (fun j => ((OL (pk q B l) l n) j).v12) (fun j => ((OL (pk q B l) l n) j).v13))).v6 j, (L_solve_Only_L2 (cnt (pk q B l) n) n (Int.ofNat (cnt (pk q B l) n)) (NW (pk q B l) n) (V_solve_Only_L2.mk (0 : Int) (fun j => ((OL (pk q B l) l n) j).v0) (fun j => ((OL (pk q B l) l n) j).v1) (fun j => ((OL (pk q B l) l n) j).v2) (fun j => ((OL (pk q B l) l n) j).v3) (fun j => ((OL (pk q B l) l n) j).v4) (fun j => ((OL (pk q B l) l n) j).v5) (fun j => ((OL (pk q B l) l n) j).v6) (fun j => ((OL (pk q B l) l n) j).v7) (fun j => ((OL (pk q B l) l n) j).v8) (fun j => ((OL (pk q B l) l n) j).v9) (fun j => ((OL (pk q B l) l n) j).v10) (fun j => ((OL (pk q B l) l n) j).v11) (fun j => ((OL (pk q B l) l n) j).v12) (fun j => ((OL (pk q B l) l n) j).v13))).v7 j, (L_solve_Only_L2 (cnt (pk q B l) n) n (Int.ofNat (cnt (pk q B l) n)) (NW (pk q B l) n) (V_solve_Only_L2.mk (0 : Int) (fun j => ((OL (pk q B l) l n) j).v0) (fun j => ((OL (pk q B l) l n) j).v1) (fun j => ((OL (pk q B l) l n) j).v2) (fun j => ((OL (pk q B l) l n) j).v3) (fun j => ((OL (pk q B l) l n) j).v4) (fun j => ((OL (pk q B l) l n) j).v5) (fun j => ((OL (pk q B l) l n) j).v6) (fun j => ((OL (pk q B l) l n) j).v7) (fun j => ((OL (pk q B l) l n) j).v8) (fun j => ((OL (pk q B l) l n) j).v9) (fun j => ((OL (pk q B l) l n) j).v10) (fun j => ((OL (pk q B l) l n) j).v11) (fun j => ((OL (pk q B l) l n) j).v12) (fun j => ((OL (pk q B l) l n) j).v13))).v8 j, (L_solve_Only_L2 (cnt (pk q B l) n) n (Int.ofNat (cnt (pk q B l) n)) (NW (pk q B l) n) (V_solve_Only_L2.mk (0 : Int) (fun j => ((OL (pk q B l) l n) j).v0) (fun j => ((OL (pk q B l) l n) j).v1) (fun j => ((OL (pk q B l) l n) j).v2) (fun j => ((OL (pk q B l) l n) j).v3) (fun j => ((OL (pk q B l) l n) j).v4) (fun j => ((OL (pk q B l) l n) j).v5) (fun j => ((OL (pk q B l) l n) j).v6) (fun j => ((OL (pk q B l) l n) j).v7) (fun j => ((OL (pk q B l) l n) j).v8) (fun j => ((OL (pk q B l) l n) j).v9) (fun j => ((OL (pk q B l) l n) j).v10) (fun j => ((OL (pk q B l) l n) j).v11) (fun j => ((OL (pk q B l) l n) j).v12) (fun j => ((OL (pk q B l) l n) j).v13))).v9 j, (L_solve_Only_L2 (cnt (pk q B l) n) n (Int.ofNat (cnt (pk q B l) n)) (NW (pk q B l) n) (V_solve_Only_L2.mk (0 : Int) (fun j => ((OL (pk q B l) l n) j).v0) (fun j => ((OL (pk q B l) l n) j).v1) (fun j => ((OL (pk q B l) l n) j).v2) (fun j => ((OL (pk q B l) l n) j).v3) (fun j => ((OL (pk q B l) l n) j).v4) (fun j => ((OL (pk q B l) l n) j).v5) (fun j => ((OL (pk q B l) l n) j).v6) (fun j => ((OL (pk q B l) l n) j).v7) (fun j => ((OL (pk q B l) l n) j).v8) (fun j => ((OL (pk q B l) l n) j).v9) (fun j => ((OL (pk q B l) l n) j).v10) (fun j => ((OL (pk q B l) l n) j).v11) (fun j => ((OL (pk q B l) l n) j).v12) (fun j => ((OL (pk q B l) l n) j).v13))).v10 j, (L_solve_Only_L2 (cnt (pk q B l) n) n (Int.ofNat (cnt (pk q B l) n)) (NW (pk q B l) n) (V_solve_Only_L2.mk (0 : Int) (fun j => ((OL (pk q B l) l n) j).v0) (fun j => ((OL (pk q B l) l n) j).v1) (fun j => ((OL (pk q B l) l n) j).v2) (fun j => ((OL (pk q B l) l n) j).v3) (fun j => ((OL (pk q B l) l n) j).v4) (fun j => ((OL (pk q B l) l n) j).v5) (fun j => ((OL (pk q B l) l n) j).v6) (fun j => ((OL (pk q B l) l n) j).v7) (fun j => ((OL (pk q B l) l n) j).v8) (fun j => ((OL (pk q B l) l n) j).v9) (fun j => ((OL (pk q B l) l n) j).v10) (fun j => ((OL (pk q B l) l n) j).v11) (fun j => ((OL (pk q B l) l n) j).v12) (fun j => ((OL (pk q B l) l n) j).v13))).v11 j, (L_solve_Only_L2 (cnt (pk q B l) n) n (Int.ofNat (cnt (pk q B l) n)) (NW (pk q B l) n) (V_solve_Only_L2.mk (0 : Int) (fun j => ((OL (pk q B l) l n) j).v0) (fun j => ((OL (pk q B l) l n) j).v1) (fun j => ((OL (pk q B l) l n) j).v2) (fun j => ((OL (pk q B l) l n) j).v3) (fun j => ((OL (pk q B l) l n) j).v4) (fun j => ((OL (pk q B l) l n) j).v5) (fun j => ((OL (pk q B l) l n) j).v6) (fun j => ((OL (pk q B l) l n) j).v7) (fun j => ((OL (pk q B l) l n) j).v8) (fun j => ((OL (pk q B l) l n) j).v9) (fun j => ((OL (pk q B l) l n) j).v10) (fun j => ((OL (pk q B l) l n) j).v11) (fun j => ((OL (pk q B l) l n) j).v12) (fun j => ((OL (pk q B l) l n) j).v13))).v12 j, (L_solve_Only_L2 (cnt (pk q B l) n) n (Int.ofNat (cnt (pk q B l) n)) (NW (pk q B l) n) (V_solve_Only_L2.mk (0 : Int) (fun j => ((OL (pk q B l) l n) j).v0) (fun j => ((OL (pk q B l) l n) j).v1) (fun j => ((OL (pk q B l) l n) j).v2) (fun j => ((OL (pk q B l) l n) j).v3) (fun j => ((OL (pk q B l) l n) j).v4) (fun j => ((OL (pk q B l) l n) j).v5) (fun j => ((OL (pk q B l) l n) j).v6) (fun j => ((OL (pk q B l) l n) j).v7) (fun j => ((OL (pk q B l) l n) j).v8) (fun j => ((OL (pk q B l) l n) j).v9) (fun j => ((OL (pk q B l) l n) j).v10) (fun j => ((OL (pk q B l) l n) j).v11) (fun j => ((OL (pk q B l) l n) j).v12) (fun j => ((OL (pk q B l) l n) j).v13))).v13 j, (L_solve_Only_L2 (cnt (pk q B l) n) n (Int.ofNat (cnt (pk q B l) n)) (NW (pk q B l) n) (V_solve_Only_L2.mk (0 : Int) (fun j => ((OL (pk q B l) l n) j).v0) (fun j => ((OL (pk q B l) l n) j).v1) (fun j => ((OL (pk q B l) l n) j).v2) (fun j => ((OL (pk q B l) l n) j).v3) (fun j => ((OL (pk q B l) l n) j).v4) (fun j => ((OL (pk q B l) l n) j).v5) (fun j => ((OL (pk q B l) l n) j).v6) (fun j => ((OL (pk q B l) l n) j).v7) (fun j => ((OL (pk q B l) l n) j).v8) (fun j => ((OL (pk q B l) l n) j).v9) (fun j => ((OL (pk q B l) l n) j).v10) (fun j => ((OL (pk q B l) l n) j).v11) (fun j => ((OL (pk q B l) l n) j).v12) (fun j => ((OL (pk q B l) l n) j).v13))).v14 j⟩ : Rw)) = _
      rw [r2.2]
    obtain ⟨g1, g2, g3⟩ := g _ r1
    exact ⟨g1, g1, g2, g3⟩
end Go.Proofs.Ytofpjfohijljgaa
