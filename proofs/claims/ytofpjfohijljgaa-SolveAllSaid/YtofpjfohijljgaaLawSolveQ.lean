/- Which rows and stills may be; how far rows are off; the same float by float. -/
import Derived.Test.YtofpjfohijljgaaLawSolveL
set_option linter.unusedVariables false
set_option linter.unusedSimpArgs false
set_option linter.unusedSectionVars false
set_option maxHeartbeats 4000000
set_option maxRecDepth 4000
namespace Go.Proofs.Ytofpjfohijljgaa
open Go.Sim Go.Lst
theorem first_not {p : Nat → Bool} : ∀ (n : Nat), ∃ j, j ≤ n ∧ (∀ i, i < j → p i = true) ∧ (j = n ∨ p j = false)
 | 0 => ⟨0, by omega, fun i hi => by omega, .inl rfl⟩
 | n + 1 => by
  obtain ⟨j, h1, h2, h3⟩ := first_not (p := p) n
  rcases h3 with rfl | h3
  ·cases hp : p j with
   | false => exact ⟨j, by omega, h2, .inr hp⟩
   | true => exact ⟨j + 1, by omega, fun i hi => by
     by_cases hij : i = j
     ·subst hij; exact hp
     ·exact h2 i (by omega), .inl rfl⟩
  ·exact ⟨j, by omega, h2, .inr h3⟩
theorem scan {X : Type} {ok go : X → Bool} {step : X → X} (mk : Int → X) (q : Nat → Bool) (n : Nat)
  (hok : ∀ k, k ≤ n → ok (mk (Int.ofNat k)) = true) (hgo : ∀ k, k ≤ n → go (mk (Int.ofNat k)) = (decide (k < n) && !q k)) (hst : ∀ k, k < n → step (mk (Int.ofNat k)) = mk (Int.ofNat (k + 1))) :
  ∃ j, j ≤ n ∧ endsL ok go step (mk 0) = true ∧ lastL ok go step (mk 0) = mk (Int.ofNat j) ∧ (decide (j < n) && q j) = decide (∃ i, i < n ∧ q i = true) := by
 obtain ⟨j, hj, hall, hend⟩ := first_not (p := fun j => !(q j)) n
 have hr := run_to (ok := ok) (go := go) (step := step) (fun k => mk (Int.ofNat k)) j (fun k hk => hok k (by omega)) (fun k hk => by
   rw [hgo k (by omega), hall k hk]; simp; omega) (fun k hk => hst k (by omega)) (by
   rw [hgo j hj]
   rcases hend with rfl | h
   ·simp
   ·rw [h]; simp)
 refine ⟨j, hj, hr.1, hr.2, ?_⟩
 have hno : ∀ k, k < j → ¬ (q k = true) := fun k hk h => by
  have := hall k hk
  simp [h] at this
 by_cases h : j < n
 ·rcases hend with h' | h'
  ·omega
  ·simp only [Bool.not_eq_false'] at h'
   rw [h', show decide (∃ i, i < n ∧ q i = true) = true from decide_eq_true ⟨j, h, h'⟩]; simp [h]
 ·have : j = n := by omega
  subst this
  rw [show decide (∃ i, i < j ∧ q i = true) = false from decide_eq_false fun ⟨k, hk, hk'⟩ => hno k hk hk']; simp
noncomputable def bad (n m : Nat) (r : Rw) : Bool := (((!(may r)) || (ile (Int.ofNat m) r.v0)) || (ile (Int.ofNat m) r.v1)) || (ile (Int.ofNat n) r.v12)
theorem checkR (n m : Nat) (r : Rw) : s_ref20_Check_0 r.v0 r.v1 r.v2 r.v3 r.v4 r.v5 r.v6 r.v7 r.v8 r.v9 r.v10 r.v11 r.v12 r.v13 (Int.ofNat n) (Int.ofNat m) = bif bad n m r then 200 else 0 := rfl
theorem ile_max (a b c : Int) : ile a (if c > b then c else b) = (ile a b || ile a c) := by
 unfold ile
 rw [Bool.eq_iff_iff]
 simp
 split <;> omega
theorem checkP (n m : Nat) (r : Rw) : s_rows_Check_0 r.v0 r.v1 r.v2 r.v3 r.v4 r.v5 r.v6 r.v7 r.v8 r.v9 r.v10 r.v11 r.v12 r.v13 (Int.ofNat n) (Int.ofNat m) = bif bad n m r then 200 else 0 := by
 unfold s_rows_Check_0 bad
 rw [fits_eq, ile_max, Bool.or_assoc (!(may r))]; rfl
theorem ieq_200 (b : Bool) : (!(ieq (bif b then (200 : Int) else 0) 0)) = b := by cases b <;> rfl
theorem end_fin {a : Nat} (ha : CF a) : s_ref02_End_0 a = fin a := by
 unfold s_ref02_End_0
 rw [Bool.eq_iff_iff]
 exact ⟨end_sub, fun fx => V.feq_of (V.sub ha.lt (V.self fx) (V.self fx) V.zero (by omega)) V.zero⟩
theorem max_fin {a : Nat} (ha : CF a) (h : fle 0 a = true) : fle a 9218868437227405311 = fin a := by
 have n0 : nanb 0 = false := by decide
 have nM : nanb 9218868437227405311 = false := by decide
 have kM : key 9218868437227405311 = 9218868437227405311 := by decide
 have na : nanb a = false := by
  cases na : nanb a
  ·rfl
  ·rw [fle_nan (.inr na)] at h; cases h
 rw [fle_key n0 na, key_0] at h
 have hk := key_abs a
 rw [fle_key na nM, kM]
 unfold fin
 have h' : 0 ≤ key a := by simpa using h
 apply decide_eq_decide.2
 omega
theorem stillR {a : Sl} (h0 : CF a.v0) (h1 : CF a.v1) : s_ref21_still_0 a.v0 a.v1 a.v2 a.v3 a.v4 = rest a := by
 unfold s_ref21_still_0 rest s_ref20_Rests_0
 rw [end_fin h0, end_fin h1]
 cases g0 : fle 0 a.v0
 ·simp
 ·cases g1 : fle 0 a.v1
  ·simp
  ·rw [max_fin h0 g0, max_fin h1 g1]; simp
theorem mayP (a : Sl) : s_solve_may_0 a.v0 a.v1 a.v2 a.v3 a.v4 = rest a := by
 unfold s_solve_may_0 rest s_ref20_Rests_0
 show (((s_ref02_End_0 a.v0 && fle 0 a.v0) && s_ref02_End_0 a.v1) && fle 0 a.v1) = _
 cases s_ref02_End_0 a.v0 <;> cases s_ref02_End_0 a.v1 <;> simp
noncomputable def badL (n m : Nat) (l : Nat → Rw) : Bool := decide (∃ i, i < n ∧ bad n m (l i) = true)
noncomputable def badS (m : Nat) (s : Nat → Sl) : Bool := decide (∃ k, k < m ∧ (!rest (s k)) = true)
noncomputable def askN (n m : Nat) (l : Nat → Rw) (s : Nat → Sl) : Int := bif (ilt (1048576 : Int) (Int.ofNat n)) || (ilt (1024 : Int) (Int.ofNat m)) then 4 else bif badL n m l || badS m s then 200 else 0
theorem not_dec (p : Bool) (k n : Nat) : (bif (bif !(decide (k < n)) then false else p) then false else (bif !(decide (k < n)) then false else true)) = (decide (k < n) && !p) := by cases decide (k < n) <;> cases p <;> rfl
theorem bif_dec (p q : Bool) : (bif !q then false else p) = (q && p) := by cases q <;> rfl
theorem ok_dec {k n : Nat} (p : Bool) (hk : k ≤ n) : (bif (bif !(decide (k < n)) then false else p) then Nat.blt k n else (bif !(decide (k < n)) then true else Nat.blt k n)) = true := by
 by_cases h : k < n
 ·rw [blt_true h]; simp [h]
 ·simp [h]
theorem askP_rows {n m : Nat} {l : Nat → Rw} (hn : n < 9223372036854775807) :
  (let x0 := (L_solve_asked_L0 n (fun j => (l j).v0) (fun j => (l j).v1) (fun j => (l j).v2) (fun j => (l j).v3) (fun j => (l j).v4) (fun j => (l j).v5) (fun j => (l j).v6) (fun j => (l j).v7) (fun j => (l j).v8) (fun j => (l j).v9) (fun j => (l j).v10) (fun j => (l j).v11) (fun j => (l j).v12) (fun j => (l j).v13) m (Int.ofNat n) (V_solve_asked_L0.mk (0 : Int))).v0; (bif (!(ilt x0 (Int.ofNat n))) then false else (bad n m (l (Int.toNat x0))))) = badL n m l ∧ E_solve_asked_L0 n (fun j => (l j).v0) (fun j => (l j).v1) (fun j => (l j).v2) (fun j => (l j).v3) (fun j => (l j).v4) (fun j => (l j).v5) (fun j => (l j).v6) (fun j => (l j).v7) (fun j => (l j).v8) (fun j => (l j).v9) (fun j => (l j).v10) (fun j => (l j).v11) (fun j => (l j).v12) (fun j => (l j).v13) m (Int.ofNat n) (V_solve_asked_L0.mk (0 : Int)) = true := by
 obtain ⟨j, hj, h1, h2, h3⟩ := scan (ok := ok_solve_asked_L0 n (fun j => (l j).v0) (fun j => (l j).v1) (fun j => (l j).v2) (fun j => (l j).v3) (fun j => (l j).v4) (fun j => (l j).v5) (fun j => (l j).v6) (fun j => (l j).v7) (fun j => (l j).v8) (fun j => (l j).v9) (fun j => (l j).v10) (fun j => (l j).v11) (fun j => (l j).v12) (fun j => (l j).v13) m (Int.ofNat n)) (go := go_solve_asked_L0 n (fun j => (l j).v0) (fun j => (l j).v1) (fun j => (l j).v2) (fun j => (l j).v3) (fun j => (l j).v4) (fun j => (l j).v5) (fun j => (l j).v6) (fun j => (l j).v7) (fun j => (l j).v8) (fun j => (l j).v9) (fun j => (l j).v10) (fun j => (l j).v11) (fun j => (l j).v12) (fun j => (l j).v13) m (Int.ofNat n)) (step := step_solve_asked_L0 n (fun j => (l j).v0) (fun j => (l j).v1) (fun j => (l j).v2) (fun j => (l j).v3) (fun j => (l j).v4) (fun j => (l j).v5) (fun j => (l j).v6) (fun j => (l j).v7) (fun j => (l j).v8) (fun j => (l j).v9) (fun j => (l j).v10) (fun j => (l j).v11) (fun j => (l j).v12) (fun j => (l j).v13) m (Int.ofNat n)) V_solve_asked_L0.mk (fun i => bad n m (l i)) n
  (fun k hk => by
   unfold ok_solve_asked_L0
   simp only [toNat_of, mrgB_eq, ilt_ofNat, ile_ofNat, checkP, ieq_200, Bool.true_and]
   exact ok_dec _ hk) (fun k hk => by
   unfold go_solve_asked_L0
   simp only [toNat_of, ilt_ofNat, checkP, ieq_200]
   exact not_dec _ _ _) (fun k hk => by
   unfold step_solve_asked_L0
   simp only
   rw [succ_i64 (by omega)])
 refine ⟨?_, h1⟩
 have e : (L_solve_asked_L0 n (fun j => (l j).v0) (fun j => (l j).v1) (fun j => (l j).v2) (fun j => (l j).v3) (fun j => (l j).v4) (fun j => (l j).v5) (fun j => (l j).v6) (fun j => (l j).v7) (fun j => (l j).v8) (fun j => (l j).v9) (fun j => (l j).v10) (fun j => (l j).v11) (fun j => (l j).v12) (fun j => (l j).v13) m (Int.ofNat n) (V_solve_asked_L0.mk (0 : Int))).v0 = Int.ofNat j := congrArg V_solve_asked_L0.v0 h2
 simp only [e, ilt_ofNat, toNat_of, bif_dec]
 exact h3
theorem askR_rows {n m : Nat} {l : Nat → Rw} (hn : n < 9223372036854775807) :
  (let x0 := (L_ref21_Asked_L0 n (fun j => (l j).v0) (fun j => (l j).v1) (fun j => (l j).v2) (fun j => (l j).v3) (fun j => (l j).v4) (fun j => (l j).v5) (fun j => (l j).v6) (fun j => (l j).v7) (fun j => (l j).v8) (fun j => (l j).v9) (fun j => (l j).v10) (fun j => (l j).v11) (fun j => (l j).v12) (fun j => (l j).v13) m (V_ref21_Asked_L0.mk (0 : Int))).v0; (bif (!(ilt x0 (Int.ofNat n))) then false else (bad n m (l (Int.toNat x0))))) = badL n m l ∧ E_ref21_Asked_L0 n (fun j => (l j).v0) (fun j => (l j).v1) (fun j => (l j).v2) (fun j => (l j).v3) (fun j => (l j).v4) (fun j => (l j).v5) (fun j => (l j).v6) (fun j => (l j).v7) (fun j => (l j).v8) (fun j => (l j).v9) (fun j => (l j).v10) (fun j => (l j).v11) (fun j => (l j).v12) (fun j => (l j).v13) m (V_ref21_Asked_L0.mk (0 : Int)) = true := by
 obtain ⟨j, hj, h1, h2, h3⟩ := scan (ok := ok_ref21_Asked_L0 n (fun j => (l j).v0) (fun j => (l j).v1) (fun j => (l j).v2) (fun j => (l j).v3) (fun j => (l j).v4) (fun j => (l j).v5) (fun j => (l j).v6) (fun j => (l j).v7) (fun j => (l j).v8) (fun j => (l j).v9) (fun j => (l j).v10) (fun j => (l j).v11) (fun j => (l j).v12) (fun j => (l j).v13) m) (go := go_ref21_Asked_L0 n (fun j => (l j).v0) (fun j => (l j).v1) (fun j => (l j).v2) (fun j => (l j).v3) (fun j => (l j).v4) (fun j => (l j).v5) (fun j => (l j).v6) (fun j => (l j).v7) (fun j => (l j).v8) (fun j => (l j).v9) (fun j => (l j).v10) (fun j => (l j).v11) (fun j => (l j).v12) (fun j => (l j).v13) m) (step := step_ref21_Asked_L0 n (fun j => (l j).v0) (fun j => (l j).v1) (fun j => (l j).v2) (fun j => (l j).v3) (fun j => (l j).v4) (fun j => (l j).v5) (fun j => (l j).v6) (fun j => (l j).v7) (fun j => (l j).v8) (fun j => (l j).v9) (fun j => (l j).v10) (fun j => (l j).v11) (fun j => (l j).v12) (fun j => (l j).v13) m) V_ref21_Asked_L0.mk (fun i => bad n m (l i)) n
  (fun k hk => by
   unfold ok_ref21_Asked_L0
   simp only [toNat_of, mrgB_eq, ilt_ofNat, ile_ofNat, checkR, ieq_200, Bool.true_and]
   exact ok_dec _ hk) (fun k hk => by
   unfold go_ref21_Asked_L0
   simp only [toNat_of, ilt_ofNat, checkR, ieq_200]
   exact not_dec _ _ _) (fun k hk => by
   unfold step_ref21_Asked_L0
   simp only
   rw [succ_i64 (by omega)])
 refine ⟨?_, h1⟩
 have e : (L_ref21_Asked_L0 n (fun j => (l j).v0) (fun j => (l j).v1) (fun j => (l j).v2) (fun j => (l j).v3) (fun j => (l j).v4) (fun j => (l j).v5) (fun j => (l j).v6) (fun j => (l j).v7) (fun j => (l j).v8) (fun j => (l j).v9) (fun j => (l j).v10) (fun j => (l j).v11) (fun j => (l j).v12) (fun j => (l j).v13) m (V_ref21_Asked_L0.mk (0 : Int))).v0 = Int.ofNat j := congrArg V_ref21_Asked_L0.v0 h2
 simp only [e, ilt_ofNat, toNat_of, bif_dec]
 exact h3
theorem askR_stills {m : Nat} {s : Nat → Sl} (hm : m < 9223372036854775807) (c : ∀ k, k < m → CF (s k).v0 ∧ CF (s k).v1) :
  (let x0 := (L_ref21_Asked_L1 m (fun j => (s j).v0) (fun j => (s j).v1) (fun j => (s j).v2) (fun j => (s j).v3) (fun j => (s j).v4) (V_ref21_Asked_L1.mk (0 : Int))).v0; (bif (!(ilt x0 (Int.ofNat m))) then false else (!(s_ref21_still_0 (s (Int.toNat x0)).v0 (s (Int.toNat x0)).v1 (s (Int.toNat x0)).v2 (s (Int.toNat x0)).v3 (s (Int.toNat x0)).v4)))) = badS m s ∧ E_ref21_Asked_L1 m (fun j => (s j).v0) (fun j => (s j).v1) (fun j => (s j).v2) (fun j => (s j).v3) (fun j => (s j).v4) (V_ref21_Asked_L1.mk (0 : Int)) = true := by
 obtain ⟨j, hj, h1, h2, h3⟩ := scan (ok := ok_ref21_Asked_L1 m (fun j => (s j).v0) (fun j => (s j).v1) (fun j => (s j).v2) (fun j => (s j).v3) (fun j => (s j).v4)) (go := go_ref21_Asked_L1 m (fun j => (s j).v0) (fun j => (s j).v1) (fun j => (s j).v2) (fun j => (s j).v3) (fun j => (s j).v4)) (step := step_ref21_Asked_L1 m (fun j => (s j).v0) (fun j => (s j).v1) (fun j => (s j).v2) (fun j => (s j).v3) (fun j => (s j).v4)) V_ref21_Asked_L1.mk (fun i => !(s_ref21_still_0 (s i).v0 (s i).v1 (s i).v2 (s i).v3 (s i).v4)) m
  (fun k hk => by
   unfold ok_ref21_Asked_L1
   simp only [toNat_of, mrgB_eq, ilt_ofNat, ile_ofNat, Bool.true_and]
   exact ok_dec _ hk) (fun k hk => by
   unfold go_ref21_Asked_L1
   simp only [toNat_of, ilt_ofNat]
   exact not_dec _ _ _) (fun k hk => by
   unfold step_ref21_Asked_L1
   simp only
   rw [succ_i64 (by omega)])
 refine ⟨?_, h1⟩
 have e : (L_ref21_Asked_L1 m (fun j => (s j).v0) (fun j => (s j).v1) (fun j => (s j).v2) (fun j => (s j).v3) (fun j => (s j).v4) (V_ref21_Asked_L1.mk (0 : Int))).v0 = Int.ofNat j := congrArg V_ref21_Asked_L1.v0 h2
 simp only [e, ilt_ofNat, toNat_of, bif_dec]
 rw [h3]
 unfold badS
 apply decide_eq_decide.2
 constructor
 ·rintro ⟨i, hi, h⟩; exact ⟨i, hi, by rw [← stillR (c i hi).1 (c i hi).2]; exact h⟩
 ·rintro ⟨i, hi, h⟩; exact ⟨i, hi, by rw [stillR (c i hi).1 (c i hi).2]; exact h⟩
theorem askP_stills {m : Nat} {s : Nat → Sl} (hm : m < 9223372036854775807) :
  s_slices_ContainsFunc___api_Still_api_Still__0 m (fun j => (s j).v0) (fun j => (s j).v1) (fun j => (s j).v2) (fun j => (s j).v3) (fun j => (s j).v4) = badS m s ∧ o_slices_ContainsFunc___api_Still_api_Still_ m (fun j => (s j).v0) (fun j => (s j).v1) (fun j => (s j).v2) (fun j => (s j).v3) (fun j => (s j).v4) = true := by
 obtain ⟨j, hj, h1, h2, h3⟩ := scan (ok := ok_slices_IndexFunc___api_Still_api_Still__L0 m (fun j => (s j).v0) (fun j => (s j).v1) (fun j => (s j).v2) (fun j => (s j).v3) (fun j => (s j).v4) (Int.ofNat m)) (go := go_slices_IndexFunc___api_Still_api_Still__L0 m (fun j => (s j).v0) (fun j => (s j).v1) (fun j => (s j).v2) (fun j => (s j).v3) (fun j => (s j).v4) (Int.ofNat m)) (step := step_slices_IndexFunc___api_Still_api_Still__L0 m (fun j => (s j).v0) (fun j => (s j).v1) (fun j => (s j).v2) (fun j => (s j).v3) (fun j => (s j).v4) (Int.ofNat m)) V_slices_IndexFunc___api_Still_api_Still__L0.mk (fun i => !(rest (s i))) m
  (fun k hk => by
   unfold ok_slices_IndexFunc___api_Still_api_Still__L0 s_solve_asked_1_0
   simp only [toNat_of, mrgB_eq, ilt_ofNat, ile_ofNat, Bool.true_and]
   exact ok_dec _ hk) (fun k hk => by
   unfold go_slices_IndexFunc___api_Still_api_Still__L0 s_solve_asked_1_0
   simp only [toNat_of, ilt_ofNat, mayP]
   exact not_dec _ _ _) (fun k hk => by
   unfold step_slices_IndexFunc___api_Still_api_Still__L0
   simp only
   rw [succ_i64 (by omega)])
 have e : (L_slices_IndexFunc___api_Still_api_Still__L0 m (fun j => (s j).v0) (fun j => (s j).v1) (fun j => (s j).v2) (fun j => (s j).v3) (fun j => (s j).v4) (Int.ofNat m) (V_slices_IndexFunc___api_Still_api_Still__L0.mk (0 : Int))).v0 = Int.ofNat j := congrArg V_slices_IndexFunc___api_Still_api_Still__L0.v0 h2
 constructor
 ·unfold s_slices_ContainsFunc___api_Still_api_Still__0 s_slices_IndexFunc___api_Still_api_Still__0 s_solve_asked_1_0
  simp only [e, ilt_ofNat, toNat_of, bif_dec, mayP]
  show ile 0 (bif (decide (j < m) && !(rest (s j))) then Int.ofNat j else -1) = _
  rw [h3]
  show ile 0 (bif (badS m s) then Int.ofNat j else -1) = badS m s
  cases badS m s
  ·rfl
  ·exact ile_ofNat j
 ·unfold o_slices_ContainsFunc___api_Still_api_Still_ o_slices_IndexFunc___api_Still_api_Still_
  simp only
  rw [mrgB_self]; exact h1
theorem askP {n m : Nat} {l : Nat → Rw} {s : Nat → Sl} (hn : n < 9223372036854775807) (hm : m < 9223372036854775807) :
  s_solve_asked_0 n (fun j => (l j).v0) (fun j => (l j).v1) (fun j => (l j).v2) (fun j => (l j).v3) (fun j => (l j).v4) (fun j => (l j).v5) (fun j => (l j).v6) (fun j => (l j).v7) (fun j => (l j).v8) (fun j => (l j).v9) (fun j => (l j).v10) (fun j => (l j).v11) (fun j => (l j).v12) (fun j => (l j).v13) m (fun j => (s j).v0) (fun j => (s j).v1) (fun j => (s j).v2) (fun j => (s j).v3) (fun j => (s j).v4) = askN n m l s ∧ o_solve_asked n (fun j => (l j).v0) (fun j => (l j).v1) (fun j => (l j).v2) (fun j => (l j).v3) (fun j => (l j).v4) (fun j => (l j).v5) (fun j => (l j).v6) (fun j => (l j).v7) (fun j => (l j).v8) (fun j => (l j).v9) (fun j => (l j).v10) (fun j => (l j).v11) (fun j => (l j).v12) (fun j => (l j).v13) m (fun j => (s j).v0) (fun j => (s j).v1) (fun j => (s j).v2) (fun j => (s j).v3) (fun j => (s j).v4) = true := by
 obtain ⟨h1, h2⟩ := askP_rows (l := l) (m := m) hn
 obtain ⟨h3, h4⟩ := askP_stills (s := s) hm
 constructor
 ·unfold s_solve_asked_0 askN
  simp only [checkP, ieq_200, h3]
  simp only at h1
  rw [h1]
  generalize (ilt (1048576 : Int) (Int.ofNat n) || ilt (1024 : Int) (Int.ofNat m)) = q
  cases q
  ·rw [cond_false, cond_false]
   cases hb : badL n m l
   ·cases badS m s <;> rfl
   ·rw [hb] at h1
    rw [bif_dec] at h1
    have := (Bool.and_eq_true _ _ ▸ h1 : _ ∧ _).2
    rw [this]; rfl
  ·rfl
 ·unfold o_solve_asked
  simp only [h2, h4, mrgB_self, Bool.and_self]
theorem askR {n m : Nat} {l : Nat → Rw} {s : Nat → Sl} (hn : n < 9223372036854775807) (hm : m < 9223372036854775807) (c : ∀ k, k < m → CF (s k).v0 ∧ CF (s k).v1) :
  s_ref21_Asked_0 n (fun j => (l j).v0) (fun j => (l j).v1) (fun j => (l j).v2) (fun j => (l j).v3) (fun j => (l j).v4) (fun j => (l j).v5) (fun j => (l j).v6) (fun j => (l j).v7) (fun j => (l j).v8) (fun j => (l j).v9) (fun j => (l j).v10) (fun j => (l j).v11) (fun j => (l j).v12) (fun j => (l j).v13) m (fun j => (s j).v0) (fun j => (s j).v1) (fun j => (s j).v2) (fun j => (s j).v3) (fun j => (s j).v4) = askN n m l s ∧ o_ref21_Asked n (fun j => (l j).v0) (fun j => (l j).v1) (fun j => (l j).v2) (fun j => (l j).v3) (fun j => (l j).v4) (fun j => (l j).v5) (fun j => (l j).v6) (fun j => (l j).v7) (fun j => (l j).v8) (fun j => (l j).v9) (fun j => (l j).v10) (fun j => (l j).v11) (fun j => (l j).v12) (fun j => (l j).v13) m (fun j => (s j).v0) (fun j => (s j).v1) (fun j => (s j).v2) (fun j => (s j).v3) (fun j => (s j).v4) = true := by
 obtain ⟨h1, h2⟩ := askR_rows (l := l) (m := m) hn
 obtain ⟨h3, h4⟩ := askR_stills (s := s) hm c
 simp only at h1 h3
 constructor
 ·unfold s_ref21_Asked_0 askN
  simp only [checkR, ieq_200, h3, h1]
  cases badL n m l <;> cases badS m s <;> rfl
 ·unfold o_ref21_Asked
  simp only [h2, h4, mrgB_self, Bool.and_self]
theorem is_same (a : Nat) : s_ref02_Is_0 a a = true := ieq_self _
theorem f_same (a : Nat) : s_ref01_Same_0 a a = true := by
 unfold s_ref01_Same_0
 cases nanb a
 ·exact ieq_self _
 ·rfl
theorem row_same (r : Rw) : s_ref21_SameRow_0 r.v0 r.v1 r.v2 r.v3 r.v4 r.v5 r.v6 r.v7 r.v8 r.v9 r.v10 r.v11 r.v12 r.v13 r.v0 r.v1 r.v2 r.v3 r.v4 r.v5 r.v6 r.v7 r.v8 r.v9 r.v10 r.v11 r.v12 r.v13 = true := by
 unfold s_ref21_SameRow_0 s_ref02_Same_0 s_ref01_SameAll_0
 simp only [is_same, f_same, ieq_self]
 rfl
theorem still_same (a : Sl) : s_ref21_SameStill_0 a.v0 a.v1 a.v2 a.v3 a.v4 a.v0 a.v1 a.v2 a.v3 a.v4 = true := by
 unfold s_ref21_SameStill_0 s_ref02_Same_0
 simp only [is_same, Bool.and_self]
theorem rows_same {n : Nat} {l l' : Nat → Rw} (hn : n < 9223372036854775807) (e : ∀ j, j < n → l j = l' j) :
  s_ref21_SameRows_0 n (fun j => (l j).v0) (fun j => (l j).v1) (fun j => (l j).v2) (fun j => (l j).v3) (fun j => (l j).v4) (fun j => (l j).v5) (fun j => (l j).v6) (fun j => (l j).v7) (fun j => (l j).v8) (fun j => (l j).v9) (fun j => (l j).v10) (fun j => (l j).v11) (fun j => (l j).v12) (fun j => (l j).v13) n (fun j => (l' j).v0) (fun j => (l' j).v1) (fun j => (l' j).v2) (fun j => (l' j).v3) (fun j => (l' j).v4) (fun j => (l' j).v5) (fun j => (l' j).v6) (fun j => (l' j).v7) (fun j => (l' j).v8) (fun j => (l' j).v9) (fun j => (l' j).v10) (fun j => (l' j).v11) (fun j => (l' j).v12) (fun j => (l' j).v13) = true ∧ o_ref21_SameRows n (fun j => (l j).v0) (fun j => (l j).v1) (fun j => (l j).v2) (fun j => (l j).v3) (fun j => (l j).v4) (fun j => (l j).v5) (fun j => (l j).v6) (fun j => (l j).v7) (fun j => (l j).v8) (fun j => (l j).v9) (fun j => (l j).v10) (fun j => (l j).v11) (fun j => (l j).v12) (fun j => (l j).v13) n (fun j => (l' j).v0) (fun j => (l' j).v1) (fun j => (l' j).v2) (fun j => (l' j).v3) (fun j => (l' j).v4) (fun j => (l' j).v5) (fun j => (l' j).v6) (fun j => (l' j).v7) (fun j => (l' j).v8) (fun j => (l' j).v9) (fun j => (l' j).v10) (fun j => (l' j).v11) (fun j => (l' j).v12) (fun j => (l' j).v13) = true := by
 obtain ⟨j, hj, h1, h2, h3⟩ := scan (ok := ok_ref21_SameRows_L0 n (fun j => (l j).v0) (fun j => (l j).v1) (fun j => (l j).v2) (fun j => (l j).v3) (fun j => (l j).v4) (fun j => (l j).v5) (fun j => (l j).v6) (fun j => (l j).v7) (fun j => (l j).v8) (fun j => (l j).v9) (fun j => (l j).v10) (fun j => (l j).v11) (fun j => (l j).v12) (fun j => (l j).v13) n (fun j => (l' j).v0) (fun j => (l' j).v1) (fun j => (l' j).v2) (fun j => (l' j).v3) (fun j => (l' j).v4) (fun j => (l' j).v5) (fun j => (l' j).v6) (fun j => (l' j).v7) (fun j => (l' j).v8) (fun j => (l' j).v9) (fun j => (l' j).v10) (fun j => (l' j).v11) (fun j => (l' j).v12) (fun j => (l' j).v13)) (go := go_ref21_SameRows_L0 n (fun j => (l j).v0) (fun j => (l j).v1) (fun j => (l j).v2) (fun j => (l j).v3) (fun j => (l j).v4) (fun j => (l j).v5) (fun j => (l j).v6) (fun j => (l j).v7) (fun j => (l j).v8) (fun j => (l j).v9) (fun j => (l j).v10) (fun j => (l j).v11) (fun j => (l j).v12) (fun j => (l j).v13) n (fun j => (l' j).v0) (fun j => (l' j).v1) (fun j => (l' j).v2) (fun j => (l' j).v3) (fun j => (l' j).v4) (fun j => (l' j).v5) (fun j => (l' j).v6) (fun j => (l' j).v7) (fun j => (l' j).v8) (fun j => (l' j).v9) (fun j => (l' j).v10) (fun j => (l' j).v11) (fun j => (l' j).v12) (fun j => (l' j).v13)) (step := step_ref21_SameRows_L0 n (fun j => (l j).v0) (fun j => (l j).v1) (fun j => (l j).v2) (fun j => (l j).v3) (fun j => (l j).v4) (fun j => (l j).v5) (fun j => (l j).v6) (fun j => (l j).v7) (fun j => (l j).v8) (fun j => (l j).v9) (fun j => (l j).v10) (fun j => (l j).v11) (fun j => (l j).v12) (fun j => (l j).v13) n (fun j => (l' j).v0) (fun j => (l' j).v1) (fun j => (l' j).v2) (fun j => (l' j).v3) (fun j => (l' j).v4) (fun j => (l' j).v5) (fun j => (l' j).v6) (fun j => (l' j).v7) (fun j => (l' j).v8) (fun j => (l' j).v9) (fun j => (l' j).v10) (fun j => (l' j).v11) (fun j => (l' j).v12) (fun j => (l' j).v13)) V_ref21_SameRows_L0.mk (fun i => !(s_ref21_SameRow_0 (l i).v0 (l i).v1 (l i).v2 (l i).v3 (l i).v4 (l i).v5 (l i).v6 (l i).v7 (l i).v8 (l i).v9 (l i).v10 (l i).v11 (l i).v12 (l i).v13 (l' i).v0 (l' i).v1 (l' i).v2 (l' i).v3 (l' i).v4 (l' i).v5 (l' i).v6 (l' i).v7 (l' i).v8 (l' i).v9 (l' i).v10 (l' i).v11 (l' i).v12 (l' i).v13)) n
  (fun k hk => by
   unfold ok_ref21_SameRows_L0
   simp only [toNat_of, mrgB_eq, ilt_ofNat, ile_ofNat, Bool.true_and, Bool.and_self]
   exact ok_dec _ hk) (fun k hk => by
   unfold go_ref21_SameRows_L0
   simp only [toNat_of, ilt_ofNat]
   exact not_dec _ _ _) (fun k hk => by
   unfold step_ref21_SameRows_L0
   simp only
   rw [succ_i64 (by omega)])
 have e' : (L_ref21_SameRows_L0 n (fun j => (l j).v0) (fun j => (l j).v1) (fun j => (l j).v2) (fun j => (l j).v3) (fun j => (l j).v4) (fun j => (l j).v5) (fun j => (l j).v6) (fun j => (l j).v7) (fun j => (l j).v8) (fun j => (l j).v9) (fun j => (l j).v10) (fun j => (l j).v11) (fun j => (l j).v12) (fun j => (l j).v13) n (fun j => (l' j).v0) (fun j => (l' j).v1) (fun j => (l' j).v2) (fun j => (l' j).v3) (fun j => (l' j).v4) (fun j => (l' j).v5) (fun j => (l' j).v6) (fun j => (l' j).v7) (fun j => (l' j).v8) (fun j => (l' j).v9) (fun j => (l' j).v10) (fun j => (l' j).v11) (fun j => (l' j).v12) (fun j => (l' j).v13) (V_ref21_SameRows_L0.mk (0 : Int))).v0 = Int.ofNat j := congrArg V_ref21_SameRows_L0.v0 h2
 have hf : decide (∃ i, i < n ∧ (!(s_ref21_SameRow_0 (l i).v0 (l i).v1 (l i).v2 (l i).v3 (l i).v4 (l i).v5 (l i).v6 (l i).v7 (l i).v8 (l i).v9 (l i).v10 (l i).v11 (l i).v12 (l i).v13 (l' i).v0 (l' i).v1 (l' i).v2 (l' i).v3 (l' i).v4 (l' i).v5 (l' i).v6 (l' i).v7 (l' i).v8 (l' i).v9 (l' i).v10 (l' i).v11 (l' i).v12 (l' i).v13)) = true) = false := decide_eq_false fun ⟨i, hi, h⟩ => by rw [e i hi, row_same] at h; cases h
 rw [hf] at h3
 constructor
 ·unfold s_ref21_SameRows_0
  simp only [e', ilt_ofNat, toNat_of, bif_dec, h3, ieq_self]; rfl
 ·unfold o_ref21_SameRows
  simp only
  rw [mrgB_self, mrgB_eq, show E_ref21_SameRows_L0 n (fun j => (l j).v0) (fun j => (l j).v1) (fun j => (l j).v2) (fun j => (l j).v3) (fun j => (l j).v4) (fun j => (l j).v5) (fun j => (l j).v6) (fun j => (l j).v7) (fun j => (l j).v8) (fun j => (l j).v9) (fun j => (l j).v10) (fun j => (l j).v11) (fun j => (l j).v12) (fun j => (l j).v13) n (fun j => (l' j).v0) (fun j => (l' j).v1) (fun j => (l' j).v2) (fun j => (l' j).v3) (fun j => (l' j).v4) (fun j => (l' j).v5) (fun j => (l' j).v6) (fun j => (l' j).v7) (fun j => (l' j).v8) (fun j => (l' j).v9) (fun j => (l' j).v10) (fun j => (l' j).v11) (fun j => (l' j).v12) (fun j => (l' j).v13) (V_ref21_SameRows_L0.mk (0 : Int)) = true from h1, Bool.cond_self]
theorem stills_same {n : Nat} {l l' : Nat → Sl} (hn : n < 9223372036854775807) (e : ∀ j, j < n → l j = l' j) :
  s_ref21_SameStills_0 n (fun j => (l j).v0) (fun j => (l j).v1) (fun j => (l j).v2) (fun j => (l j).v3) (fun j => (l j).v4) n (fun j => (l' j).v0) (fun j => (l' j).v1) (fun j => (l' j).v2) (fun j => (l' j).v3) (fun j => (l' j).v4) = true ∧ o_ref21_SameStills n (fun j => (l j).v0) (fun j => (l j).v1) (fun j => (l j).v2) (fun j => (l j).v3) (fun j => (l j).v4) n (fun j => (l' j).v0) (fun j => (l' j).v1) (fun j => (l' j).v2) (fun j => (l' j).v3) (fun j => (l' j).v4) = true := by
 obtain ⟨j, hj, h1, h2, h3⟩ := scan (ok := ok_ref21_SameStills_L0 n (fun j => (l j).v0) (fun j => (l j).v1) (fun j => (l j).v2) (fun j => (l j).v3) (fun j => (l j).v4) n (fun j => (l' j).v0) (fun j => (l' j).v1) (fun j => (l' j).v2) (fun j => (l' j).v3) (fun j => (l' j).v4)) (go := go_ref21_SameStills_L0 n (fun j => (l j).v0) (fun j => (l j).v1) (fun j => (l j).v2) (fun j => (l j).v3) (fun j => (l j).v4) n (fun j => (l' j).v0) (fun j => (l' j).v1) (fun j => (l' j).v2) (fun j => (l' j).v3) (fun j => (l' j).v4)) (step := step_ref21_SameStills_L0 n (fun j => (l j).v0) (fun j => (l j).v1) (fun j => (l j).v2) (fun j => (l j).v3) (fun j => (l j).v4) n (fun j => (l' j).v0) (fun j => (l' j).v1) (fun j => (l' j).v2) (fun j => (l' j).v3) (fun j => (l' j).v4)) V_ref21_SameStills_L0.mk (fun i => !(s_ref21_SameStill_0 (l i).v0 (l i).v1 (l i).v2 (l i).v3 (l i).v4 (l' i).v0 (l' i).v1 (l' i).v2 (l' i).v3 (l' i).v4)) n
  (fun k hk => by
   unfold ok_ref21_SameStills_L0
   simp only [toNat_of, mrgB_eq, ilt_ofNat, ile_ofNat, Bool.true_and, Bool.and_self]
   exact ok_dec _ hk) (fun k hk => by
   unfold go_ref21_SameStills_L0
   simp only [toNat_of, ilt_ofNat]
   exact not_dec _ _ _) (fun k hk => by
   unfold step_ref21_SameStills_L0
   simp only
   rw [succ_i64 (by omega)])
 have e' : (L_ref21_SameStills_L0 n (fun j => (l j).v0) (fun j => (l j).v1) (fun j => (l j).v2) (fun j => (l j).v3) (fun j => (l j).v4) n (fun j => (l' j).v0) (fun j => (l' j).v1) (fun j => (l' j).v2) (fun j => (l' j).v3) (fun j => (l' j).v4) (V_ref21_SameStills_L0.mk (0 : Int))).v0 = Int.ofNat j := congrArg V_ref21_SameStills_L0.v0 h2
 have hf : decide (∃ i, i < n ∧ (!(s_ref21_SameStill_0 (l i).v0 (l i).v1 (l i).v2 (l i).v3 (l i).v4 (l' i).v0 (l' i).v1 (l' i).v2 (l' i).v3 (l' i).v4)) = true) = false := decide_eq_false fun ⟨i, hi, h⟩ => by rw [e i hi, still_same] at h; cases h
 rw [hf] at h3
 constructor
 ·unfold s_ref21_SameStills_0
  simp only [e', ilt_ofNat, toNat_of, bif_dec, h3, ieq_self]; rfl
 ·unfold o_ref21_SameStills
  simp only
  rw [mrgB_self, mrgB_eq, show E_ref21_SameStills_L0 n (fun j => (l j).v0) (fun j => (l j).v1) (fun j => (l j).v2) (fun j => (l j).v3) (fun j => (l j).v4) n (fun j => (l' j).v0) (fun j => (l' j).v1) (fun j => (l' j).v2) (fun j => (l' j).v3) (fun j => (l' j).v4) (V_ref21_SameStills_L0.mk (0 : Int)) = true from h1, Bool.cond_self]
end Go.Proofs.Ytofpjfohijljgaa
