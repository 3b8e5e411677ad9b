/- Rows and stills: which may be, both ways; which stills rows hold; are two lists apart? -/
import Derived.Test.YtofpjfohijljgaaLawLBaseP
set_option linter.unusedVariables false
set_option linter.unusedSimpArgs false
set_option linter.unusedSectionVars false
set_option maxHeartbeats 4000000
set_option maxRecDepth 4000
namespace Go.Proofs.Ytofpjfohijljgaa
open Go.Sim Go.Lst
structure Rw where
  v0 : Int
  v1 : Int
  v2 : Nat
  v3 : Nat
  v4 : Nat
  v5 : Nat
  v6 : Nat
  v7 : Nat
  v8 : Nat
  v9 : Nat
  v10 : Nat
  v11 : Nat
  v12 : Int
  v13 : Nat
structure Sl where
  v0 : Nat
  v1 : Nat
  v2 : Nat
  v3 : Nat
  v4 : Nat
theorem fin5 (f : Nat → Nat) : s_rows_finite_0 f = ((s_ref02_End_0 (f 0)) && ((s_ref02_End_0 (f 1)) && ((s_ref02_End_0 (f 2)) && ((s_ref02_End_0 (f 3)) && (s_ref02_End_0 (f 4)))))) := by
  unfold s_rows_finite_0 s_slices_ContainsFunc___float64_float64__0 s_slices_IndexFunc___float64_float64__0 s_rows_finite_1_0
  show _ = ((s_num_Finite_float64__0 (f 0)) && ((s_num_Finite_float64__0 (f 1)) && ((s_num_Finite_float64__0 (f 2)) && ((s_num_Finite_float64__0 (f 3)) && (s_num_Finite_float64__0 (f 4))))))
  generalize s_num_Finite_float64__0 (f 0) = p0
  generalize s_num_Finite_float64__0 (f 1) = p1
  generalize s_num_Finite_float64__0 (f 2) = p2
  generalize s_num_Finite_float64__0 (f 3) = p3
  generalize s_num_Finite_float64__0 (f 4) = p4
  revert p0 p1 p2 p3 p4; decide
theorem fits_eq (r : Rw) : s_rows_fits_0 r.v0 r.v1 r.v2 r.v3 r.v4 r.v5 r.v6 r.v7 r.v8 r.v9 r.v10 r.v11 r.v12 r.v13 = s_ref20_May_0 r.v0 r.v1 r.v2 r.v3 r.v4 r.v5 r.v6 r.v7 r.v8 r.v9 r.v10 r.v11 r.v12 r.v13 := by
  unfold s_rows_fits_0 s_ref20_May_0
  rw [fin5]
  show ((((((ile 0 r.v0 && ile 0 r.v1) && !(ieq r.v0 r.v1)) && s_ref02_Finite_0 r.v2 r.v3) && s_ref02_Finite_0 r.v4 r.v5) && ((((s_ref02_End_0 r.v6 && (s_ref02_End_0 r.v7 && (s_ref02_End_0 r.v8 && (s_ref02_End_0 r.v11 && s_ref02_End_0 r.v13)))) && fle 0 r.v13) && fle r.v9 r.v10) && ile (-1) r.v12))) = _
  generalize s_ref02_Finite_0 r.v2 r.v3 = p1
  generalize s_ref02_Finite_0 r.v4 r.v5 = p2
  generalize s_ref02_End_0 r.v6 = p3
  generalize s_ref02_End_0 r.v7 = p4
  generalize s_ref02_End_0 r.v8 = p5
  generalize s_ref02_End_0 r.v11 = p6
  generalize s_ref02_End_0 r.v13 = p7
  generalize ile (0 : Int) r.v0 = q1
  generalize ile (0 : Int) r.v1 = q2
  generalize ieq r.v0 r.v1 = q3
  generalize fle 0 r.v13 = q4
  generalize fle r.v9 r.v10 = q5
  generalize ile (-1 : Int) r.v12 = q6
  cases p1 <;> cases p2 <;> cases p3 <;> cases p4 <;> cases p5 <;> cases p6 <;> cases p7 <;> simp <;> cases q1 <;> cases q2 <;> cases q3 <;> simp
def upd {T : Type} (f : Nat → T) (i : Nat) (v : T) (j : Nat) : T := bif Nat.beq j i then v else f j
theorem beq_self' (a : Nat) : Nat.beq a a = true := Nat.beq_refl a
noncomputable def may (r : Rw) : Bool := s_ref20_May_0 r.v0 r.v1 r.v2 r.v3 r.v4 r.v5 r.v6 r.v7 r.v8 r.v9 r.v10 r.v11 r.v12 r.v13
theorem toNat_lt {a : Int} {m : Nat} (h0 : 0 ≤ a) (h1 : a < (m : Int)) : Int.toNat a < m := by omega
noncomputable def rest (a : Sl) : Bool := (((s_ref02_End_0 a.v0) && (s_ref02_End_0 a.v1)) && (fle 0 a.v0)) && (fle 0 a.v1)
structure RIn (n m : Nat) (r : Rw) : Prop where
  a0 : 0 ≤ r.v0
  a1 : r.v0 < (m : Int)
  b0 : 0 ≤ r.v1
  b1 : r.v1 < (m : Int)
  of : r.v12 < (n : Int)
def inv (n m : Nat) (l : Nat → Rw) : Prop := ∀ i, i < n → RIn n m (l i)
def itr {T : Type} (f : Nat → T → T) : Nat → T → T
  | 0, x => x
  | k + 1, x => f k (itr f k x)
theorem upd_self {T : Type} (f : Nat → T) (i : Nat) (v : T) : upd f i v i = v := by unfold upd; rw [beq_self']; rfl
theorem upd_ne {T : Type} {f : Nat → T} {i j : Nat} {v : T} (h : j ≠ i) : upd f i v j = f j := by unfold upd; rw [beqn_false h]; rfl
noncomputable def mv (a : Sl) : Bool := flt 0 a.v0 || flt 0 a.v1
theorem first_not {p : Nat → Bool} : ∀ (n : Nat), ∃ j, j ≤ n ∧ (∀ i, i < j → p i = true) ∧ (j = n ∨ p j = false)
  | 0 => ⟨0, by omega, fun i hi => by omega, .inl rfl⟩
  | n + 1 => by
    obtain ⟨j, h1, h2, h3⟩ := first_not (p := p) n
    rcases h3 with rfl | h3
    · cases hp : p j with
      | false => exact ⟨j, by omega, h2, .inr hp⟩
      | true => exact ⟨j + 1, by omega, fun i hi => by
          by_cases hij : i = j
          · subst hij; exact hp
          · exact h2 i (by omega), .inl rfl⟩
    · exact ⟨j, by omega, h2, .inr h3⟩
theorem scan {X : Type} {ok go : X → Bool} {step : X → X} (mk : Int → X) (q : Nat → Bool) (n : Nat)
    (hok : ∀ k, k ≤ n → ok (mk (Int.ofNat k)) = true) (hgo : ∀ k, k ≤ n → go (mk (Int.ofNat k)) = (decide (k < n) && !q k)) (hst : ∀ k, k < n → step (mk (Int.ofNat k)) = mk (Int.ofNat (k + 1))) :
    ∃ j, j ≤ n ∧ endsL ok go step (mk 0) = true ∧ lastL ok go step (mk 0) = mk (Int.ofNat j) ∧ (decide (j < n) && q j) = decide (∃ i, i < n ∧ q i = true) := by
  obtain ⟨j, hj, hall, hend⟩ := first_not (p := fun j => !(q j)) n
  have hr := run_to (ok := ok) (go := go) (step := step) (fun k => mk (Int.ofNat k)) j (fun k hk => hok k (by omega)) (fun k hk => by
      rw [hgo k (by omega), hall k hk]; simp; omega) (fun k hk => hst k (by omega)) (by
      rw [hgo j hj]
      rcases hend with rfl | h
      · simp
      · rw [h]; simp)
  refine ⟨j, hj, hr.1, hr.2, ?_⟩
  have hno : ∀ k, k < j → ¬ (q k = true) := fun k hk h => by
    have := hall k hk
    simp [h] at this
  by_cases h : j < n
  · rcases hend with h' | h'
    · omega
    · simp only [Bool.not_eq_false'] at h'
      rw [h', show decide (∃ i, i < n ∧ q i = true) = true from decide_eq_true ⟨j, h, h'⟩]; simp [h]
  · have : j = n := by omega
    subst this
    rw [show decide (∃ i, i < j ∧ q i = true) = false from decide_eq_false fun ⟨k, hk, hk'⟩ => hno k hk hk']; simp
noncomputable def bad (n m : Nat) (r : Rw) : Bool := (((!(may r)) || (ile (Int.ofNat m) r.v0)) || (ile (Int.ofNat m) r.v1)) || (ile (Int.ofNat n) r.v12)
theorem checkR (n m : Nat) (r : Rw) : s_ref20_Check_0 r.v0 r.v1 r.v2 r.v3 r.v4 r.v5 r.v6 r.v7 r.v8 r.v9 r.v10 r.v11 r.v12 r.v13 (Int.ofNat n) (Int.ofNat m) = bif bad n m r then 200 else 0 := rfl
theorem ile_max (a b c : Int) : ile a (if c > b then c else b) = (ile a b || ile a c) := by
  unfold ile
  rw [Bool.eq_iff_iff]
  simp
  split <;> omega
theorem checkP (n m : Nat) (r : Rw) : s_rows_Check_0 r.v0 r.v1 r.v2 r.v3 r.v4 r.v5 r.v6 r.v7 r.v8 r.v9 r.v10 r.v11 r.v12 r.v13 (Int.ofNat n) (Int.ofNat m) = bif bad n m r then 200 else 0 := by
  unfold s_rows_Check_0 bad
  rw [fits_eq, ile_max, Bool.or_assoc (!(may r))]; rfl
theorem ieq_200 (b : Bool) : (!(ieq (bif b then (200 : Int) else 0) 0)) = b := by cases b <;> rfl
theorem end_fin {a : Nat} (ha : CF a) : s_ref02_End_0 a = fin a := by
  unfold s_ref02_End_0
  rw [Bool.eq_iff_iff]
  exact ⟨end_sub, fun fx => V.feq_of (V.sub ha.lt (V.self fx) (V.self fx) V.zero (by omega)) V.zero⟩
theorem max_fin {a : Nat} (ha : CF a) (h : fle 0 a = true) : fle a 9218868437227405311 = fin a := by
  have n0 : nanb 0 = false := by decide
  have nM : nanb 9218868437227405311 = false := by decide
  have kM : key 9218868437227405311 = 9218868437227405311 := by decide
  have na : nanb a = false := by
    cases na : nanb a
    · rfl
    · rw [fle_nan (.inr na)] at h; cases h
  rw [fle_key n0 na, key_0] at h
  have hk := key_abs a
  rw [fle_key na nM, kM]
  unfold fin
  have h' : 0 ≤ key a := by simpa using h
  apply decide_eq_decide.2
  omega
theorem stillR {a : Sl} (h0 : CF a.v0) (h1 : CF a.v1) : s_ref21_still_0 a.v0 a.v1 a.v2 a.v3 a.v4 = rest a := by
  unfold s_ref21_still_0 rest
  rw [end_fin h0, end_fin h1]
  cases g0 : fle 0 a.v0
  · simp
  · cases g1 : fle 0 a.v1
    · simp
    · rw [max_fin h0 g0, max_fin h1 g1]; simp
theorem mayP (a : Sl) : s_solve_may_0 a.v0 a.v1 a.v2 a.v3 a.v4 = rest a := by
  unfold s_solve_may_0 rest
  show (((s_ref02_End_0 a.v0 && fle 0 a.v0) && s_ref02_End_0 a.v1) && fle 0 a.v1) = _
  cases s_ref02_End_0 a.v0 <;> cases s_ref02_End_0 a.v1 <;> simp
noncomputable def badL (n m : Nat) (l : Nat → Rw) : Bool := decide (∃ i, i < n ∧ bad n m (l i) = true)
noncomputable def badS (m : Nat) (s : Nat → Sl) : Bool := decide (∃ k, k < m ∧ (!rest (s k)) = true)
noncomputable def askN (n m : Nat) (l : Nat → Rw) (s : Nat → Sl) : Int := bif (ilt (1048576 : Int) (Int.ofNat n)) || (ilt (1024 : Int) (Int.ofNat m)) then 4 else bif badL n m l || badS m s then 200 else 0
theorem not_dec (p : Bool) (k n : Nat) : (bif (bif !(decide (k < n)) then false else p) then false else (bif !(decide (k < n)) then false else true)) = (decide (k < n) && !p) := by cases decide (k < n) <;> cases p <;> rfl
theorem bif_dec (p q : Bool) : (bif !q then false else p) = (q && p) := by cases q <;> rfl
theorem ok_dec {k n : Nat} (p : Bool) (hk : k ≤ n) : (bif (bif !(decide (k < n)) then false else p) then Nat.blt k n else (bif !(decide (k < n)) then true else Nat.blt k n)) = true := by
  by_cases h : k < n
  · rw [blt_true h]; simp [h]
  · simp [h]
theorem askP_rows {n m : Nat} {l : Nat → Rw} (hn : n < 9223372036854775807) :
    (let x0 := (L_solve_asked_L0 n (fun j => (l j).v0) (fun j => (l j).v1) (fun j => (l j).v2) (fun j => (l j).v3) (fun j => (l j).v4) (fun j => (l j).v5) (fun j => (l j).v6) (fun j => (l j).v7) (fun j => (l j).v8) (fun j => (l j).v9) (fun j => (l j).v10) (fun j => (l j).v11) (fun j => (l j).v12) (fun j => (l j).v13) m (Int.ofNat n) (V_solve_asked_L0.mk (0 : Int))).v0; (bif (!(ilt x0 (Int.ofNat n))) then false else (bad n m (l (Int.toNat x0))))) = badL n m l ∧ E_solve_asked_L0 n (fun j => (l j).v0) (fun j => (l j).v1) (fun j => (l j).v2) (fun j => (l j).v3) (fun j => (l j).v4) (fun j => (l j).v5) (fun j => (l j).v6) (fun j => (l j).v7) (fun j => (l j).v8) (fun j => (l j).v9) (fun j => (l j).v10) (fun j => (l j).v11) (fun j => (l j).v12) (fun j => (l j).v13) m (Int.ofNat n) (V_solve_asked_L0.mk (0 : Int)) = true := by
  obtain ⟨j, hj, h1, h2, h3⟩ := scan (ok := ok_solve_asked_L0 n (fun j => (l j).v0) (fun j => (l j).v1) (fun j => (l j).v2) (fun j => (l j).v3) (fun j => (l j).v4) (fun j => (l j).v5) (fun j => (l j).v6) (fun j => (l j).v7) (fun j => (l j).v8) (fun j => (l j).v9) (fun j => (l j).v10) (fun j => (l j).v11) (fun j => (l j).v12) (fun j => (l j).v13) m (Int.ofNat n)) (go := go_solve_asked_L0 n (fun j => (l j).v0) (fun j => (l j).v1) (fun j => (l j).v2) (fun j => (l j).v3) (fun j => (l j).v4) (fun j => (l j).v5) (fun j => (l j).v6) (fun j => (l j).v7) (fun j => (l j).v8) (fun j => (l j).v9) (fun j => (l j).v10) (fun j => (l j).v11) (fun j => (l j).v12) (fun j => (l j).v13) m (Int.ofNat n)) (step := step_solve_asked_L0 n (fun j => (l j).v0) (fun j => (l j).v1) (fun j => (l j).v2) (fun j => (l j).v3) (fun j => (l j).v4) (fun j => (l j).v5) (fun j => (l j).v6) (fun j => (l j).v7) (fun j => (l j).v8) (fun j => (l j).v9) (fun j => (l j).v10) (fun j => (l j).v11) (fun j => (l j).v12) (fun j => (l j).v13) m (Int.ofNat n)) V_solve_asked_L0.mk (fun i => bad n m (l i)) n
    (fun k hk => by
      unfold ok_solve_asked_L0
      simp only [toNat_of, mrgB_eq, ilt_ofNat, ile_ofNat, checkP, ieq_200, Bool.true_and]
      exact ok_dec _ hk) (fun k hk => by
      unfold go_solve_asked_L0
      simp only [toNat_of, ilt_ofNat, checkP, ieq_200]
      exact not_dec _ _ _) (fun k hk => by
      unfold step_solve_asked_L0
      simp only
      rw [succ_i64 (by omega)])
  refine ⟨?_, h1⟩
  have e : (L_solve_asked_L0 n (fun j => (l j).v0) (fun j => (l j).v1) (fun j => (l j).v2) (fun j => (l j).v3) (fun j => (l j).v4) (fun j => (l j).v5) (fun j => (l j).v6) (fun j => (l j).v7) (fun j => (l j).v8) (fun j => (l j).v9) (fun j => (l j).v10) (fun j => (l j).v11) (fun j => (l j).v12) (fun j => (l j).v13) m (Int.ofNat n) (V_solve_asked_L0.mk (0 : Int))).v0 = Int.ofNat j := congrArg V_solve_asked_L0.v0 h2
  simp only [e, ilt_ofNat, toNat_of, bif_dec]
  exact h3
theorem askR_rows {n m : Nat} {l : Nat → Rw} (hn : n < 9223372036854775807) :
    (let x0 := (L_ref21_Asked_L0 n (fun j => (l j).v0) (fun j => (l j).v1) (fun j => (l j).v2) (fun j => (l j).v3) (fun j => (l j).v4) (fun j => (l j).v5) (fun j => (l j).v6) (fun j => (l j).v7) (fun j => (l j).v8) (fun j => (l j).v9) (fun j => (l j).v10) (fun j => (l j).v11) (fun j => (l j).v12) (fun j => (l j).v13) m (V_ref21_Asked_L0.mk (0 : Int))).v0; (bif (!(ilt x0 (Int.ofNat n))) then false else (bad n m (l (Int.toNat x0))))) = badL n m l ∧ E_ref21_Asked_L0 n (fun j => (l j).v0) (fun j => (l j).v1) (fun j => (l j).v2) (fun j => (l j).v3) (fun j => (l j).v4) (fun j => (l j).v5) (fun j => (l j).v6) (fun j => (l j).v7) (fun j => (l j).v8) (fun j => (l j).v9) (fun j => (l j).v10) (fun j => (l j).v11) (fun j => (l j).v12) (fun j => (l j).v13) m (V_ref21_Asked_L0.mk (0 : Int)) = true := by
  obtain ⟨j, hj, h1, h2, h3⟩ := scan (ok := ok_ref21_Asked_L0 n (fun j => (l j).v0) (fun j => (l j).v1) (fun j => (l j).v2) (fun j => (l j).v3) (fun j => (l j).v4) (fun j => (l j).v5) (fun j => (l j).v6) (fun j => (l j).v7) (fun j => (l j).v8) (fun j => (l j).v9) (fun j => (l j).v10) (fun j => (l j).v11) (fun j => (l j).v12) (fun j => (l j).v13) m) (go := go_ref21_Asked_L0 n (fun j => (l j).v0) (fun j => (l j).v1) (fun j => (l j).v2) (fun j => (l j).v3) (fun j => (l j).v4) (fun j => (l j).v5) (fun j => (l j).v6) (fun j => (l j).v7) (fun j => (l j).v8) (fun j => (l j).v9) (fun j => (l j).v10) (fun j => (l j).v11) (fun j => (l j).v12) (fun j => (l j).v13) m) (step := step_ref21_Asked_L0 n (fun j => (l j).v0) (fun j => (l j).v1) (fun j => (l j).v2) (fun j => (l j).v3) (fun j => (l j).v4) (fun j => (l j).v5) (fun j => (l j).v6) (fun j => (l j).v7) (fun j => (l j).v8) (fun j => (l j).v9) (fun j => (l j).v10) (fun j => (l j).v11) (fun j => (l j).v12) (fun j => (l j).v13) m) V_ref21_Asked_L0.mk (fun i => bad n m (l i)) n
    (fun k hk => by
      unfold ok_ref21_Asked_L0
      simp only [toNat_of, mrgB_eq, ilt_ofNat, ile_ofNat, checkR, ieq_200, Bool.true_and]
      exact ok_dec _ hk) (fun k hk => by
      unfold go_ref21_Asked_L0
      simp only [toNat_of, ilt_ofNat, checkR, ieq_200]
      exact not_dec _ _ _) (fun k hk => by
      unfold step_ref21_Asked_L0
      simp only
      rw [succ_i64 (by omega)])
  refine ⟨?_, h1⟩
  have e : (L_ref21_Asked_L0 n (fun j => (l j).v0) (fun j => (l j).v1) (fun j => (l j).v2) (fun j => (l j).v3) (fun j => (l j).v4) (fun j => (l j).v5) (fun j => (l j).v6) (fun j => (l j).v7) (fun j => (l j).v8) (fun j => (l j).v9) (fun j => (l j).v10) (fun j => (l j).v11) (fun j => (l j).v12) (fun j => (l j).v13) m (V_ref21_Asked_L0.mk (0 : Int))).v0 = Int.ofNat j := congrArg V_ref21_Asked_L0.v0 h2
  simp only [e, ilt_ofNat, toNat_of, bif_dec]
  exact h3
theorem askR_stills {m : Nat} {s : Nat → Sl} (hm : m < 9223372036854775807) (c : ∀ k, k < m → CF (s k).v0 ∧ CF (s k).v1) :
    (let x0 := (L_ref21_Asked_L1 m (fun j => (s j).v0) (fun j => (s j).v1) (fun j => (s j).v2) (fun j => (s j).v3) (fun j => (s j).v4) (V_ref21_Asked_L1.mk (0 : Int))).v0; (bif (!(ilt x0 (Int.ofNat m))) then false else (!(s_ref21_still_0 (s (Int.toNat x0)).v0 (s (Int.toNat x0)).v1 (s (Int.toNat x0)).v2 (s (Int.toNat x0)).v3 (s (Int.toNat x0)).v4)))) = badS m s ∧ E_ref21_Asked_L1 m (fun j => (s j).v0) (fun j => (s j).v1) (fun j => (s j).v2) (fun j => (s j).v3) (fun j => (s j).v4) (V_ref21_Asked_L1.mk (0 : Int)) = true := by
  obtain ⟨j, hj, h1, h2, h3⟩ := scan (ok := ok_ref21_Asked_L1 m (fun j => (s j).v0) (fun j => (s j).v1) (fun j => (s j).v2) (fun j => (s j).v3) (fun j => (s j).v4)) (go := go_ref21_Asked_L1 m (fun j => (s j).v0) (fun j => (s j).v1) (fun j => (s j).v2) (fun j => (s j).v3) (fun j => (s j).v4)) (step := step_ref21_Asked_L1 m (fun j => (s j).v0) (fun j => (s j).v1) (fun j => (s j).v2) (fun j => (s j).v3) (fun j => (s j).v4)) V_ref21_Asked_L1.mk (fun i => !(s_ref21_still_0 (s i).v0 (s i).v1 (s i).v2 (s i).v3 (s i).v4)) m
    (fun k hk => by
      unfold ok_ref21_Asked_L1
      simp only [toNat_of, mrgB_eq, ilt_ofNat, ile_ofNat, Bool.true_and]
      exact ok_dec _ hk) (fun k hk => by
      unfold go_ref21_Asked_L1
      simp only [toNat_of, ilt_ofNat]
      exact not_dec _ _ _) (fun k hk => by
      unfold step_ref21_Asked_L1
      simp only
      rw [succ_i64 (by omega)])
  refine ⟨?_, h1⟩
  have e : (L_ref21_Asked_L1 m (fun j => (s j).v0) (fun j => (s j).v1) (fun j => (s j).v2) (fun j => (s j).v3) (fun j => (s j).v4) (V_ref21_Asked_L1.mk (0 : Int))).v0 = Int.ofNat j := congrArg V_ref21_Asked_L1.v0 h2
  simp only [e, ilt_ofNat, toNat_of, bif_dec]
  rw [h3]
  unfold badS
  apply decide_eq_decide.2
  constructor
  · rintro ⟨i, hi, h⟩; exact ⟨i, hi, by rw [← stillR (c i hi).1 (c i hi).2]; exact h⟩
  · rintro ⟨i, hi, h⟩; exact ⟨i, hi, by rw [stillR (c i hi).1 (c i hi).2]; exact h⟩
theorem askP_stills {m : Nat} {s : Nat → Sl} (hm : m < 9223372036854775807) :
    s_slices_ContainsFunc___api_Still_api_Still__0 m (fun j => (s j).v0) (fun j => (s j).v1) (fun j => (s j).v2) (fun j => (s j).v3) (fun j => (s j).v4) = badS m s ∧ o_slices_ContainsFunc___api_Still_api_Still_ m (fun j => (s j).v0) (fun j => (s j).v1) (fun j => (s j).v2) (fun j => (s j).v3) (fun j => (s j).v4) = true := by
  obtain ⟨j, hj, h1, h2, h3⟩ := scan (ok := ok_slices_IndexFunc___api_Still_api_Still__L0 m (fun j => (s j).v0) (fun j => (s j).v1) (fun j => (s j).v2) (fun j => (s j).v3) (fun j => (s j).v4) (Int.ofNat m)) (go := go_slices_IndexFunc___api_Still_api_Still__L0 m (fun j => (s j).v0) (fun j => (s j).v1) (fun j => (s j).v2) (fun j => (s j).v3) (fun j => (s j).v4) (Int.ofNat m)) (step := step_slices_IndexFunc___api_Still_api_Still__L0 m (fun j => (s j).v0) (fun j => (s j).v1) (fun j => (s j).v2) (fun j => (s j).v3) (fun j => (s j).v4) (Int.ofNat m)) V_slices_IndexFunc___api_Still_api_Still__L0.mk (fun i => !(rest (s i))) m
    (fun k hk => by
      unfold ok_slices_IndexFunc___api_Still_api_Still__L0 s_solve_asked_1_0
      simp only [toNat_of, mrgB_eq, ilt_ofNat, ile_ofNat, Bool.true_and]
      exact ok_dec _ hk) (fun k hk => by
      unfold go_slices_IndexFunc___api_Still_api_Still__L0 s_solve_asked_1_0
      simp only [toNat_of, ilt_ofNat, mayP]
      exact not_dec _ _ _) (fun k hk => by
      unfold step_slices_IndexFunc___api_Still_api_Still__L0
      simp only
      rw [succ_i64 (by omega)])
  have e : (L_slices_IndexFunc___api_Still_api_Still__L0 m (fun j => (s j).v0) (fun j => (s j).v1) (fun j => (s j).v2) (fun j => (s j).v3) (fun j => (s j).v4) (Int.ofNat m) (V_slices_IndexFunc___api_Still_api_Still__L0.mk (0 : Int))).v0 = Int.ofNat j := congrArg V_slices_IndexFunc___api_Still_api_Still__L0.v0 h2
  constructor
  · unfold s_slices_ContainsFunc___api_Still_api_Still__0 s_slices_IndexFunc___api_Still_api_Still__0 s_solve_asked_1_0
    simp only [e, ilt_ofNat, toNat_of, bif_dec, mayP]
    show ile 0 (bif (decide (j < m) && !(rest (s j))) then Int.ofNat j else -1) = _
    rw [h3]
    show ile 0 (bif (badS m s) then Int.ofNat j else -1) = badS m s
    cases badS m s
    · rfl
    · exact ile_ofNat j
  · unfold o_slices_ContainsFunc___api_Still_api_Still_ o_slices_IndexFunc___api_Still_api_Still_
    simp only
    rw [mrgB_self]; exact h1
theorem askP {n m : Nat} {l : Nat → Rw} {s : Nat → Sl} (hn : n < 9223372036854775807) (hm : m < 9223372036854775807) :
    s_solve_asked_0 n (fun j => (l j).v0) (fun j => (l j).v1) (fun j => (l j).v2) (fun j => (l j).v3) (fun j => (l j).v4) (fun j => (l j).v5) (fun j => (l j).v6) (fun j => (l j).v7) (fun j => (l j).v8) (fun j => (l j).v9) (fun j => (l j).v10) (fun j => (l j).v11) (fun j => (l j).v12) (fun j => (l j).v13) m (fun j => (s j).v0) (fun j => (s j).v1) (fun j => (s j).v2) (fun j => (s j).v3) (fun j => (s j).v4) = askN n m l s ∧ o_solve_asked n (fun j => (l j).v0) (fun j => (l j).v1) (fun j => (l j).v2) (fun j => (l j).v3) (fun j => (l j).v4) (fun j => (l j).v5) (fun j => (l j).v6) (fun j => (l j).v7) (fun j => (l j).v8) (fun j => (l j).v9) (fun j => (l j).v10) (fun j => (l j).v11) (fun j => (l j).v12) (fun j => (l j).v13) m (fun j => (s j).v0) (fun j => (s j).v1) (fun j => (s j).v2) (fun j => (s j).v3) (fun j => (s j).v4) = true := by
  obtain ⟨h1, h2⟩ := askP_rows (l := l) (m := m) hn
  obtain ⟨h3, h4⟩ := askP_stills (s := s) hm
  constructor
  · unfold s_solve_asked_0 askN
    simp only [checkP, ieq_200, h3]
    simp only at h1
    rw [h1]
    generalize (ilt (1048576 : Int) (Int.ofNat n) || ilt (1024 : Int) (Int.ofNat m)) = q
    cases q
    · rw [cond_false, cond_false]
      cases hb : badL n m l
      · cases badS m s <;> rfl
      · rw [hb] at h1
        rw [bif_dec] at h1
        have := (Bool.and_eq_true _ _ ▸ h1 : _ ∧ _).2
        rw [this]; rfl
    · rfl
  · unfold o_solve_asked
    simp only [h2, h4, mrgB_self, Bool.and_self]
theorem askR {n m : Nat} {l : Nat → Rw} {s : Nat → Sl} (hn : n < 9223372036854775807) (hm : m < 9223372036854775807) (c : ∀ k, k < m → CF (s k).v0 ∧ CF (s k).v1) :
    s_ref21_Asked_0 n (fun j => (l j).v0) (fun j => (l j).v1) (fun j => (l j).v2) (fun j => (l j).v3) (fun j => (l j).v4) (fun j => (l j).v5) (fun j => (l j).v6) (fun j => (l j).v7) (fun j => (l j).v8) (fun j => (l j).v9) (fun j => (l j).v10) (fun j => (l j).v11) (fun j => (l j).v12) (fun j => (l j).v13) m (fun j => (s j).v0) (fun j => (s j).v1) (fun j => (s j).v2) (fun j => (s j).v3) (fun j => (s j).v4) = askN n m l s ∧ o_ref21_Asked n (fun j => (l j).v0) (fun j => (l j).v1) (fun j => (l j).v2) (fun j => (l j).v3) (fun j => (l j).v4) (fun j => (l j).v5) (fun j => (l j).v6) (fun j => (l j).v7) (fun j => (l j).v8) (fun j => (l j).v9) (fun j => (l j).v10) (fun j => (l j).v11) (fun j => (l j).v12) (fun j => (l j).v13) m (fun j => (s j).v0) (fun j => (s j).v1) (fun j => (s j).v2) (fun j => (s j).v3) (fun j => (s j).v4) = true := by
  obtain ⟨h1, h2⟩ := askR_rows (l := l) (m := m) hn
  obtain ⟨h3, h4⟩ := askR_stills (s := s) hm c
  simp only at h1 h3
  constructor
  · unfold s_ref21_Asked_0 askN
    simp only [checkR, ieq_200, h3, h1]
    cases badL n m l <;> cases badS m s <;> rfl
  · unfold o_ref21_Asked
    simp only [h2, h4, mrgB_self, Bool.and_self]
theorem is_same (a : Nat) : s_ref02_Is_0 a a = true := ieq_self _
theorem f_same (a : Nat) : s_ref01_Same_0 a a = true := by
  unfold s_ref01_Same_0
  cases nanb a
  · exact ieq_self _
  · rfl
theorem row_same (r : Rw) : s_ref21_SameRow_0 r.v0 r.v1 r.v2 r.v3 r.v4 r.v5 r.v6 r.v7 r.v8 r.v9 r.v10 r.v11 r.v12 r.v13 r.v0 r.v1 r.v2 r.v3 r.v4 r.v5 r.v6 r.v7 r.v8 r.v9 r.v10 r.v11 r.v12 r.v13 = true := by
  unfold s_ref21_SameRow_0 s_ref02_Same_0 s_ref01_SameAll_0
  simp only [is_same, f_same, ieq_self]
  rfl
theorem still_same (a : Sl) : s_ref21_SameStill_0 a.v0 a.v1 a.v2 a.v3 a.v4 a.v0 a.v1 a.v2 a.v3 a.v4 = true := by
  unfold s_ref21_SameStill_0 s_ref02_Same_0
  simp only [is_same, Bool.and_self]
theorem rows_same {n : Nat} {l l' : Nat → Rw} (hn : n < 9223372036854775807) (e : ∀ j, j < n → l j = l' j) :
    s_ref21_SameRows_0 n (fun j => (l j).v0) (fun j => (l j).v1) (fun j => (l j).v2) (fun j => (l j).v3) (fun j => (l j).v4) (fun j => (l j).v5) (fun j => (l j).v6) (fun j => (l j).v7) (fun j => (l j).v8) (fun j => (l j).v9) (fun j => (l j).v10) (fun j => (l j).v11) (fun j => (l j).v12) (fun j => (l j).v13) n (fun j => (l' j).v0) (fun j => (l' j).v1) (fun j => (l' j).v2) (fun j => (l' j).v3) (fun j => (l' j).v4) (fun j => (l' j).v5) (fun j => (l' j).v6) (fun j => (l' j).v7) (fun j => (l' j).v8) (fun j => (l' j).v9) (fun j => (l' j).v10) (fun j => (l' j).v11) (fun j => (l' j).v12) (fun j => (l' j).v13) = true ∧ o_ref21_SameRows n (fun j => (l j).v0) (fun j => (l j).v1) (fun j => (l j).v2) (fun j => (l j).v3) (fun j => (l j).v4) (fun j => (l j).v5) (fun j => (l j).v6) (fun j => (l j).v7) (fun j => (l j).v8) (fun j => (l j).v9) (fun j => (l j).v10) (fun j => (l j).v11) (fun j => (l j).v12) (fun j => (l j).v13) n (fun j => (l' j).v0) (fun j => (l' j).v1) (fun j => (l' j).v2) (fun j => (l' j).v3) (fun j => (l' j).v4) (fun j => (l' j).v5) (fun j => (l' j).v6) (fun j => (l' j).v7) (fun j => (l' j).v8) (fun j => (l' j).v9) (fun j => (l' j).v10) (fun j => (l' j).v11) (fun j => (l' j).v12) (fun j => (l' j).v13) = true := by
  obtain ⟨j, hj, h1, h2, h3⟩ := scan (ok := ok_ref21_SameRows_L0 n (fun j => (l j).v0) (fun j => (l j).v1) (fun j => (l j).v2) (fun j => (l j).v3) (fun j => (l j).v4) (fun j => (l j).v5) (fun j => (l j).v6) (fun j => (l j).v7) (fun j => (l j).v8) (fun j => (l j).v9) (fun j => (l j).v10) (fun j => (l j).v11) (fun j => (l j).v12) (fun j => (l j).v13) n (fun j => (l' j).v0) (fun j => (l' j).v1) (fun j => (l' j).v2) (fun j => (l' j).v3) (fun j => (l' j).v4) (fun j => (l' j).v5) (fun j => (l' j).v6) (fun j => (l' j).v7) (fun j => (l' j).v8) (fun j => (l' j).v9) (fun j => (l' j).v10) (fun j => (l' j).v11) (fun j => (l' j).v12) (fun j => (l' j).v13)) (go := go_ref21_SameRows_L0 n (fun j => (l j).v0) (fun j => (l j).v1) (fun j => (l j).v2) (fun j => (l j).v3) (fun j => (l j).v4) (fun j => (l j).v5) (fun j => (l j).v6) (fun j => (l j).v7) (fun j => (l j).v8) (fun j => (l j).v9) (fun j => (l j).v10) (fun j => (l j).v11) (fun j => (l j).v12) (fun j => (l j).v13) n (fun j => (l' j).v0) (fun j => (l' j).v1) (fun j => (l' j).v2) (fun j => (l' j).v3) (fun j => (l' j).v4) (fun j => (l' j).v5) (fun j => (l' j).v6) (fun j => (l' j).v7) (fun j => (l' j).v8) (fun j => (l' j).v9) (fun j => (l' j).v10) (fun j => (l' j).v11) (fun j => (l' j).v12) (fun j => (l' j).v13)) (step := step_ref21_SameRows_L0 n (fun j => (l j).v0) (fun j => (l j).v1) (fun j => (l j).v2) (fun j => (l j).v3) (fun j => (l j).v4) (fun j => (l j).v5) (fun j => (l j).v6) (fun j => (l j).v7) (fun j => (l j).v8) (fun j => (l j).v9) (fun j => (l j).v10) (fun j => (l j).v11) (fun j => (l j).v12) (fun j => (l j).v13) n (fun j => (l' j).v0) (fun j => (l' j).v1) (fun j => (l' j).v2) (fun j => (l' j).v3) (fun j => (l' j).v4) (fun j => (l' j).v5) (fun j => (l' j).v6) (fun j => (l' j).v7) (fun j => (l' j).v8) (fun j => (l' j).v9) (fun j => (l' j).v10) (fun j => (l' j).v11) (fun j => (l' j).v12) (fun j => (l' j).v13)) V_ref21_SameRows_L0.mk (fun i => !(s_ref21_SameRow_0 (l i).v0 (l i).v1 (l i).v2 (l i).v3 (l i).v4 (l i).v5 (l i).v6 (l i).v7 (l i).v8 (l i).v9 (l i).v10 (l i).v11 (l i).v12 (l i).v13 (l' i).v0 (l' i).v1 (l' i).v2 (l' i).v3 (l' i).v4 (l' i).v5 (l' i).v6 (l' i).v7 (l' i).v8 (l' i).v9 (l' i).v10 (l' i).v11 (l' i).v12 (l' i).v13)) n
    (fun k hk => by
      unfold ok_ref21_SameRows_L0
      simp only [toNat_of, mrgB_eq, ilt_ofNat, ile_ofNat, Bool.true_and, Bool.and_self]
      exact ok_dec _ hk) (fun k hk => by
      unfold go_ref21_SameRows_L0
      simp only [toNat_of, ilt_ofNat]
      exact not_dec _ _ _) (fun k hk => by
      unfold step_ref21_SameRows_L0
      simp only
      rw [succ_i64 (by omega)])
  have e' : (L_ref21_SameRows_L0 n (fun j => (l j).v0) (fun j => (l j).v1) (fun j => (l j).v2) (fun j => (l j).v3) (fun j => (l j).v4) (fun j => (l j).v5) (fun j => (l j).v6) (fun j => (l j).v7) (fun j => (l j).v8) (fun j => (l j).v9) (fun j => (l j).v10) (fun j => (l j).v11) (fun j => (l j).v12) (fun j => (l j).v13) n (fun j => (l' j).v0) (fun j => (l' j).v1) (fun j => (l' j).v2) (fun j => (l' j).v3) (fun j => (l' j).v4) (fun j => (l' j).v5) (fun j => (l' j).v6) (fun j => (l' j).v7) (fun j => (l' j).v8) (fun j => (l' j).v9) (fun j => (l' j).v10) (fun j => (l' j).v11) (fun j => (l' j).v12) (fun j => (l' j).v13) (V_ref21_SameRows_L0.mk (0 : Int))).v0 = Int.ofNat j := congrArg V_ref21_SameRows_L0.v0 h2
  have hf : decide (∃ i, i < n ∧ (!(s_ref21_SameRow_0 (l i).v0 (l i).v1 (l i).v2 (l i).v3 (l i).v4 (l i).v5 (l i).v6 (l i).v7 (l i).v8 (l i).v9 (l i).v10 (l i).v11 (l i).v12 (l i).v13 (l' i).v0 (l' i).v1 (l' i).v2 (l' i).v3 (l' i).v4 (l' i).v5 (l' i).v6 (l' i).v7 (l' i).v8 (l' i).v9 (l' i).v10 (l' i).v11 (l' i).v12 (l' i).v13)) = true) = false := decide_eq_false fun ⟨i, hi, h⟩ => by rw [e i hi, row_same] at h; cases h
  rw [hf] at h3
  constructor
  · unfold s_ref21_SameRows_0
    simp only [e', ilt_ofNat, toNat_of, bif_dec, h3, ieq_self]; rfl
  · unfold o_ref21_SameRows
    simp only
    rw [mrgB_self, mrgB_eq, show E_ref21_SameRows_L0 n (fun j => (l j).v0) (fun j => (l j).v1) (fun j => (l j).v2) (fun j => (l j).v3) (fun j => (l j).v4) (fun j => (l j).v5) (fun j => (l j).v6) (fun j => (l j).v7) (fun j => (l j).v8) (fun j => (l j).v9) (fun j => (l j).v10) (fun j => (l j).v11) (fun j => (l j).v12) (fun j => (l j).v13) n (fun j => (l' j).v0) (fun j => (l' j).v1) (fun j => (l' j).v2) (fun j => (l' j).v3) (fun j => (l' j).v4) (fun j => (l' j).v5) (fun j => (l' j).v6) (fun j => (l' j).v7) (fun j => (l' j).v8) (fun j => (l' j).v9) (fun j => (l' j).v10) (fun j => (l' j).v11) (fun j => (l' j).v12) (fun j => (l' j).v13) (V_ref21_SameRows_L0.mk (0 : Int)) = true from h1, Bool.cond_self]
theorem stills_same {n : Nat} {l l' : Nat → Sl} (hn : n < 9223372036854775807) (e : ∀ j, j < n → l j = l' j) :
    s_ref21_SameStills_0 n (fun j => (l j).v0) (fun j => (l j).v1) (fun j => (l j).v2) (fun j => (l j).v3) (fun j => (l j).v4) n (fun j => (l' j).v0) (fun j => (l' j).v1) (fun j => (l' j).v2) (fun j => (l' j).v3) (fun j => (l' j).v4) = true ∧ o_ref21_SameStills n (fun j => (l j).v0) (fun j => (l j).v1) (fun j => (l j).v2) (fun j => (l j).v3) (fun j => (l j).v4) n (fun j => (l' j).v0) (fun j => (l' j).v1) (fun j => (l' j).v2) (fun j => (l' j).v3) (fun j => (l' j).v4) = true := by
  obtain ⟨j, hj, h1, h2, h3⟩ := scan (ok := ok_ref21_SameStills_L0 n (fun j => (l j).v0) (fun j => (l j).v1) (fun j => (l j).v2) (fun j => (l j).v3) (fun j => (l j).v4) n (fun j => (l' j).v0) (fun j => (l' j).v1) (fun j => (l' j).v2) (fun j => (l' j).v3) (fun j => (l' j).v4)) (go := go_ref21_SameStills_L0 n (fun j => (l j).v0) (fun j => (l j).v1) (fun j => (l j).v2) (fun j => (l j).v3) (fun j => (l j).v4) n (fun j => (l' j).v0) (fun j => (l' j).v1) (fun j => (l' j).v2) (fun j => (l' j).v3) (fun j => (l' j).v4)) (step := step_ref21_SameStills_L0 n (fun j => (l j).v0) (fun j => (l j).v1) (fun j => (l j).v2) (fun j => (l j).v3) (fun j => (l j).v4) n (fun j => (l' j).v0) (fun j => (l' j).v1) (fun j => (l' j).v2) (fun j => (l' j).v3) (fun j => (l' j).v4)) V_ref21_SameStills_L0.mk (fun i => !(s_ref21_SameStill_0 (l i).v0 (l i).v1 (l i).v2 (l i).v3 (l i).v4 (l' i).v0 (l' i).v1 (l' i).v2 (l' i).v3 (l' i).v4)) n
    (fun k hk => by
      unfold ok_ref21_SameStills_L0
      simp only [toNat_of, mrgB_eq, ilt_ofNat, ile_ofNat, Bool.true_and, Bool.and_self]
      exact ok_dec _ hk) (fun k hk => by
      unfold go_ref21_SameStills_L0
      simp only [toNat_of, ilt_ofNat]
      exact not_dec _ _ _) (fun k hk => by
      unfold step_ref21_SameStills_L0
      simp only
      rw [succ_i64 (by omega)])
  have e' : (L_ref21_SameStills_L0 n (fun j => (l j).v0) (fun j => (l j).v1) (fun j => (l j).v2) (fun j => (l j).v3) (fun j => (l j).v4) n (fun j => (l' j).v0) (fun j => (l' j).v1) (fun j => (l' j).v2) (fun j => (l' j).v3) (fun j => (l' j).v4) (V_ref21_SameStills_L0.mk (0 : Int))).v0 = Int.ofNat j := congrArg V_ref21_SameStills_L0.v0 h2
  have hf : decide (∃ i, i < n ∧ (!(s_ref21_SameStill_0 (l i).v0 (l i).v1 (l i).v2 (l i).v3 (l i).v4 (l' i).v0 (l' i).v1 (l' i).v2 (l' i).v3 (l' i).v4)) = true) = false := decide_eq_false fun ⟨i, hi, h⟩ => by rw [e i hi, still_same] at h; cases h
  rw [hf] at h3
  constructor
  · unfold s_ref21_SameStills_0
    simp only [e', ilt_ofNat, toNat_of, bif_dec, h3, ieq_self]; rfl
  · unfold o_ref21_SameStills
    simp only
    rw [mrgB_self, mrgB_eq, show E_ref21_SameStills_L0 n (fun j => (l j).v0) (fun j => (l j).v1) (fun j => (l j).v2) (fun j => (l j).v3) (fun j => (l j).v4) n (fun j => (l' j).v0) (fun j => (l' j).v1) (fun j => (l' j).v2) (fun j => (l' j).v3) (fun j => (l' j).v4) (V_ref21_SameStills_L0.mk (0 : Int)) = true from h1, Bool.cond_self]
theorem scan' {X : Type} {ok go : X → Bool} {step : X → X} (mk : Int → X) (q : Nat → Bool) (n : Nat)
    (hok : ∀ k, k ≤ n → ok (mk (Int.ofNat k)) = true) (hgo : ∀ k, k ≤ n → go (mk (Int.ofNat k)) = (decide (k < n) && !q k)) (hst : ∀ k, k < n → step (mk (Int.ofNat k)) = mk (Int.ofNat (k + 1))) :
    ∃ j, j ≤ n ∧ endsL ok go step (mk 0) = true ∧ lastL ok go step (mk 0) = mk (Int.ofNat j) ∧ decide (j < n) = decide (∃ i, i < n ∧ q i = true) := by
  obtain ⟨j, hj, hall, hend⟩ := first_not (p := fun j => !(q j)) n
  have hr := run_to (ok := ok) (go := go) (step := step) (fun k => mk (Int.ofNat k)) j (fun k hk => hok k (by omega)) (fun k hk => by
      rw [hgo k (by omega), hall k hk]; simp; omega) (fun k hk => hst k (by omega)) (by
      rw [hgo j hj]
      rcases hend with rfl | h
      · simp
      · rw [h]; simp)
  refine ⟨j, hj, hr.1, hr.2, ?_⟩
  apply decide_eq_decide.2
  constructor
  · intro h
    rcases hend with h' | h'
    · omega
    · exact ⟨j, h, by simpa using h'⟩
  · rintro ⟨i, hi, h⟩
    by_cases hij : i < j
    · have := hall i hij
      simp [h] at this
    · omega
theorem goA {m k : Nat} {f g : Nat → Bool} : go_solve_Apart_L0 m m (Int.ofNat m) m f m g (V_solve_Apart_L0.mk (Int.ofNat k)) = (decide (k < m) && !(f k && g k)) := by
  unfold go_solve_Apart_L0
  simp only [toNat_of, ilt_ofNat]
  cases decide (k < m) <;> cases (f k && g k) <;> rfl
theorem okA {m k : Nat} {f g : Nat → Bool} (hk : k ≤ m) : ok_solve_Apart_L0 m m (Int.ofNat m) m f m g (V_solve_Apart_L0.mk (Int.ofNat k)) = true := by
  unfold ok_solve_Apart_L0
  simp only [toNat_of, mrgB_eq, ilt_ofNat, ile_ofNat, Bool.true_and]
  by_cases h : k < m
  · simp only [decide_eq_true h, blt_true h, Bool.not_true, Bool.and_self, Bool.cond_self, cond_false]
  · simp only [decide_eq_false h, Bool.not_false, cond_true, Bool.true_or]
theorem ieq0 {a : Int} (h : a ≠ 0) : ieq a 0 = false := ieq_false h
theorem ask_ok {n m : Nat} {l : Nat → Rw} {s : Nat → Sl} (h : askN n m l s = 0) :
    n ≤ 1048576 ∧ m ≤ 1024 ∧ inv n m l ∧ (∀ i, i < n → may (l i) = true) ∧ (∀ k, k < m → rest (s k) = true) := by
  unfold askN at h
  cases hb : (ilt (1048576 : Int) (Int.ofNat n)) || (ilt (1024 : Int) (Int.ofNat m)) with
  | true => rw [hb] at h; cases h
  | false =>
    rw [hb, cond_false] at h
    cases hl : badL n m l with
    | true => rw [hl] at h; cases h
    | false =>
      cases hs : badS m s with
      | true => rw [hl, hs] at h; cases h
      | false =>
        have h1 : n ≤ 1048576 ∧ m ≤ 1024 := by
          unfold ilt at hb; simp at hb; omega
        have nb : ∀ i, i < n → bad n m (l i) = false := fun i hi => by
          cases e : bad n m (l i) with
          | false => rfl
          | true => exact absurd ⟨i, hi, e⟩ (of_decide_eq_false hl)
        have ns : ∀ k, k < m → rest (s k) = true := fun k hk => by
          cases e : rest (s k) with
          | true => rfl
          | false => exact absurd ⟨k, hk, by rw [e]; rfl⟩ (of_decide_eq_false hs)
        have mm : ∀ i, i < n → may (l i) = true := fun i hi => by
          have := nb i hi
          unfold bad at this
          cases e : may (l i) with
          | true => rfl
          | false => rw [e] at this; simp at this
        refine ⟨h1.1, h1.2, fun i hi => ?_, mm, ns⟩
        have hbad := nb i hi
        have hm := mm i hi
        unfold bad at hbad
        rw [hm] at hbad
        unfold may s_ref20_May_0 at hm
        simp only [Bool.and_eq_true, ile, decide_eq_true_eq] at hm
        simp only [Bool.not_true, Bool.false_or, Bool.or_eq_false_iff, ile, decide_eq_false_iff_not, Int.ofNat_eq_natCast] at hbad
        exact ⟨hm.1.1.1.1.1.2, by omega, hm.1.1.1.1.2, by omega, by omega⟩
noncomputable def hasF (n : Nat) (l : Nat → Rw) (k : Nat) : Bool := decide (∃ i, i < n ∧ (Int.toNat (l i).v0 = k ∨ Int.toNat (l i).v1 = k))
noncomputable def heldF (l : Nat → Rw) (s : Nat → Sl) (n : Nat) : Nat → Bool := itr (fun i f j => bif Nat.beq j (Int.toNat (l i).v1) then mv (s (Int.toNat (l i).v1)) else bif Nat.beq j (Int.toNat (l i).v0) then mv (s (Int.toNat (l i).v0)) else f j) n (fun _ => false)
theorem heldF_eq (l : Nat → Rw) (s : Nat → Sl) (j : Nat) : ∀ n, heldF l s n j = (hasF n l j && mv (s j))
  | 0 => by
    have : hasF 0 l j = false := decide_eq_false fun ⟨i, hi, _⟩ => by omega
    rw [this]; rfl
  | n + 1 => by
    show (bif Nat.beq j (Int.toNat (l n).v1) then mv (s (Int.toNat (l n).v1)) else bif Nat.beq j (Int.toNat (l n).v0) then mv (s (Int.toNat (l n).v0)) else heldF l s n j) = _
    by_cases e1 : j = Int.toNat (l n).v1
    · have : hasF (n + 1) l j = true := decide_eq_true ⟨n, by omega, .inr e1.symm⟩
      rw [this, ← e1, beq_self']; rfl
    · by_cases e0 : j = Int.toNat (l n).v0
      · have : hasF (n + 1) l j = true := decide_eq_true ⟨n, by omega, .inl e0.symm⟩
        rw [this, beqn_false e1, ← e0, beq_self']; rfl
      · rw [beqn_false e1, beqn_false e0, heldF_eq l s j n]
        have : hasF (n + 1) l j = hasF n l j := decide_eq_decide.2 ⟨fun ⟨i, hi, h⟩ => ⟨i, by
            rcases Nat.lt_or_eq_of_le (Nat.le_of_lt_succ hi) with h' | rfl
            · exact h'
            · rcases h with h | h
              · exact absurd h.symm e0
              · exact absurd h.symm e1, h⟩, fun ⟨i, hi, h⟩ => ⟨i, by omega, h⟩⟩
        rw [this]; rfl
theorem heldP {n m : Nat} {l : Nat → Rw} {s : Nat → Sl} (hn : n ≤ 1048576) (hm : m ≤ 1024) (h : inv n m l) :
    s_solve_held_3 n (fun j => (l j).v0) (fun j => (l j).v1) (fun j => (l j).v2) (fun j => (l j).v3) (fun j => (l j).v4) (fun j => (l j).v5) (fun j => (l j).v6) (fun j => (l j).v7) (fun j => (l j).v8) (fun j => (l j).v9) (fun j => (l j).v10) (fun j => (l j).v11) (fun j => (l j).v12) (fun j => (l j).v13) m (fun j => (s j).v0) (fun j => (s j).v1) (fun j => (s j).v2) (fun j => (s j).v3) (fun j => (s j).v4) = heldF l s n ∧ o_solve_held n (fun j => (l j).v0) (fun j => (l j).v1) (fun j => (l j).v2) (fun j => (l j).v3) (fun j => (l j).v4) (fun j => (l j).v5) (fun j => (l j).v6) (fun j => (l j).v7) (fun j => (l j).v8) (fun j => (l j).v9) (fun j => (l j).v10) (fun j => (l j).v11) (fun j => (l j).v12) (fun j => (l j).v13) m (fun j => (s j).v0) (fun j => (s j).v1) (fun j => (s j).v2) (fun j => (s j).v3) (fun j => (s j).v4) = true := by
  have hr := run_to (ok := ok_solve_held_L0 m (fun j => (s j).v0) (fun j => (s j).v1) n (fun j => (l j).v0) (fun j => (l j).v1) (Int.ofNat n)) (go := go_solve_held_L0 m (fun j => (s j).v0) (fun j => (s j).v1) n (fun j => (l j).v0) (fun j => (l j).v1) (Int.ofNat n)) (step := step_solve_held_L0 m (fun j => (s j).v0) (fun j => (s j).v1) n (fun j => (l j).v0) (fun j => (l j).v1) (Int.ofNat n))
    (fun k => V_solve_held_L0.mk (Int.ofNat k) (heldF l s k)) n
    (fun k hk => by
      unfold ok_solve_held_L0
      simp only [toNat_of, mrgB_eq, ilt_ofNat, ile_ofNat, Bool.true_and]
      by_cases hk : k < n
      · have hr := h k hk
        simp only [decide_eq_true hk, blt_true hk, ile_true hr.a0, ile_true hr.b0, blt_true (toNat_lt hr.a0 hr.a1), blt_true (toNat_lt hr.b0 hr.b1), Bool.not_true, cond_false, Bool.and_self, Bool.true_and, Bool.cond_self]
      · simp only [decide_eq_false hk, Bool.not_false, cond_true])
    (fun k hk => by unfold go_solve_held_L0; simp only [ilt_ofNat]; simp [hk])
    (fun k hk => by unfold step_solve_held_L0; simp only [toNat_of]; rw [succ_i64 (by omega)]; rfl)
    (by unfold go_solve_held_L0; simp only [ilt_ofNat]; simp)
  constructor
  · exact congrArg V_solve_held_L0.v1 hr.2
  · show (((ile (Int.ofNat m) (Int.ofNat m)) && ((ile ((1 : Int) * (Int.ofNat m)) (281474976710656 : Int)) && (ile (Int.ofNat m) (9223372036854775807 : Int)))) && _) = true
    rw [ile_true (Int.le_refl (Int.ofNat m)), ile_true (show (1 : Int) * (Int.ofNat m) ≤ 281474976710656 by simp; omega), ile_true (show Int.ofNat m ≤ 9223372036854775807 by simp; omega)]
    exact hr.1
noncomputable def apI (n : Nat) (l : Nat → Rw) (n' : Nat) (l' : Nat → Rw) (m : Nat) (s : Nat → Sl) : Bool := s_solve_Apart_0 n (fun j => (l j).v0) (fun j => (l j).v1) (fun j => (l j).v2) (fun j => (l j).v3) (fun j => (l j).v4) (fun j => (l j).v5) (fun j => (l j).v6) (fun j => (l j).v7) (fun j => (l j).v8) (fun j => (l j).v9) (fun j => (l j).v10) (fun j => (l j).v11) (fun j => (l j).v12) (fun j => (l j).v13) n' (fun j => (l' j).v0) (fun j => (l' j).v1) (fun j => (l' j).v2) (fun j => (l' j).v3) (fun j => (l' j).v4) (fun j => (l' j).v5) (fun j => (l' j).v6) (fun j => (l' j).v7) (fun j => (l' j).v8) (fun j => (l' j).v9) (fun j => (l' j).v10) (fun j => (l' j).v11) (fun j => (l' j).v12) (fun j => (l' j).v13) m (fun j => (s j).v0) (fun j => (s j).v1) (fun j => (s j).v2) (fun j => (s j).v3) (fun j => (s j).v4)
noncomputable def apE (n : Nat) (l : Nat → Rw) (n' : Nat) (l' : Nat → Rw) (m : Nat) (s : Nat → Sl) : Int := s_solve_Apart_1 n (fun j => (l j).v0) (fun j => (l j).v1) (fun j => (l j).v2) (fun j => (l j).v3) (fun j => (l j).v4) (fun j => (l j).v5) (fun j => (l j).v6) (fun j => (l j).v7) (fun j => (l j).v8) (fun j => (l j).v9) (fun j => (l j).v10) (fun j => (l j).v11) (fun j => (l j).v12) (fun j => (l j).v13) n' (fun j => (l' j).v0) (fun j => (l' j).v1) (fun j => (l' j).v2) (fun j => (l' j).v3) (fun j => (l' j).v4) (fun j => (l' j).v5) (fun j => (l' j).v6) (fun j => (l' j).v7) (fun j => (l' j).v8) (fun j => (l' j).v9) (fun j => (l' j).v10) (fun j => (l' j).v11) (fun j => (l' j).v12) (fun j => (l' j).v13) m (fun j => (s j).v0) (fun j => (s j).v1) (fun j => (s j).v2) (fun j => (s j).v3) (fun j => (s j).v4)
noncomputable def apO (n : Nat) (l : Nat → Rw) (n' : Nat) (l' : Nat → Rw) (m : Nat) (s : Nat → Sl) : Bool := o_solve_Apart n (fun j => (l j).v0) (fun j => (l j).v1) (fun j => (l j).v2) (fun j => (l j).v3) (fun j => (l j).v4) (fun j => (l j).v5) (fun j => (l j).v6) (fun j => (l j).v7) (fun j => (l j).v8) (fun j => (l j).v9) (fun j => (l j).v10) (fun j => (l j).v11) (fun j => (l j).v12) (fun j => (l j).v13) n' (fun j => (l' j).v0) (fun j => (l' j).v1) (fun j => (l' j).v2) (fun j => (l' j).v3) (fun j => (l' j).v4) (fun j => (l' j).v5) (fun j => (l' j).v6) (fun j => (l' j).v7) (fun j => (l' j).v8) (fun j => (l' j).v9) (fun j => (l' j).v10) (fun j => (l' j).v11) (fun j => (l' j).v12) (fun j => (l' j).v13) m (fun j => (s j).v0) (fun j => (s j).v1) (fun j => (s j).v2) (fun j => (s j).v3) (fun j => (s j).v4)
noncomputable def both (n : Nat) (l : Nat → Rw) (n' : Nat) (l' : Nat → Rw) (m : Nat) (s : Nat → Sl) : Bool := decide (∃ k, k < m ∧ (heldF l s n k && heldF l' s n' k) = true)
theorem both_comm (n : Nat) (l : Nat → Rw) (n' : Nat) (l' : Nat → Rw) (m : Nat) (s : Nat → Sl) : both n l n' l' m s = both n' l' n l m s :=
  decide_eq_decide.2 ⟨fun ⟨k, hk, h⟩ => ⟨k, hk, by rw [Bool.and_comm]; exact h⟩, fun ⟨k, hk, h⟩ => ⟨k, hk, by rw [Bool.and_comm]; exact h⟩⟩
theorem apartP {n n' m : Nat} {l l' : Nat → Rw} {s : Nat → Sl} (hn : n < 9223372036854775807) (hn' : n' < 9223372036854775807) (hm : m < 9223372036854775807) :
    apE n l n' l' m s = (bif (!(ieq (askN n m l s) 0) || !(ieq (askN n' m l' s) 0)) then (bif !(ieq (askN n m l s) 0) then askN n m l s else askN n' m l' s) else 0) ∧
    apI n l n' l' m s = (bif (!(ieq (askN n m l s) 0) || !(ieq (askN n' m l' s) 0)) then false else !(both n l n' l' m s)) ∧ apO n l n' l' m s = true := by
  obtain ⟨a1, a2⟩ := askP (l := l) (s := s) hn hm
  obtain ⟨a3, a4⟩ := askP (l := l') (s := s) hn' hm
  refine ⟨?_, ?_, ?_⟩
  · unfold apE s_solve_Apart_1
    simp only [a1, a3]
  · unfold apI s_solve_Apart_0
    simp only [a1, a3]
    by_cases h1 : askN n m l s = 0
    · by_cases h2 : askN n' m l' s = 0
      · obtain ⟨b1, b2, hi, _⟩ := ask_ok h1
        obtain ⟨c1, _, hi', _⟩ := ask_ok h2
        rw [h1, h2, (heldP (s := s) b1 b2 hi).1, (heldP (s := s) c1 b2 hi').1]
        obtain ⟨j, hj, e1, e2, e3⟩ := scan' (ok := ok_solve_Apart_L0 m m (Int.ofNat m) m (heldF l s n) m (heldF l' s n')) (go := go_solve_Apart_L0 m m (Int.ofNat m) m (heldF l s n) m (heldF l' s n')) (step := step_solve_Apart_L0 m m (Int.ofNat m) m (heldF l s n) m (heldF l' s n')) V_solve_Apart_L0.mk (fun k => heldF l s n k && heldF l' s n' k) m
          (fun k hk => okA hk) (fun k hk => goA) (fun k hk => by unfold step_solve_Apart_L0; simp only; rw [succ_i64 (by omega)])
        have e : (L_solve_Apart_L0 m m (Int.ofNat m) m (heldF l s n) m (heldF l' s n') (V_solve_Apart_L0.mk (0 : Int))).v0 = Int.ofNat j := congrArg V_solve_Apart_L0.v0 e2
        show ((!(ilt (L_solve_Apart_L0 m m (Int.ofNat m) m (heldF l s n) m (heldF l' s n') (V_solve_Apart_L0.mk (0 : Int))).v0 (Int.ofNat m))) && true) = !(both n l n' l' m s)
        rw [e, ilt_ofNat, Bool.and_true]
        rw [e3]; rfl
      · rw [ieq0 h2]; simp
    · rw [ieq0 h1]; simp
  · unfold apO o_solve_Apart
    simp only [a1, a2, a3, a4]
    by_cases h1 : askN n m l s = 0
    · by_cases h2 : askN n' m l' s = 0
      · obtain ⟨b1, b2, hi, _⟩ := ask_ok h1
        obtain ⟨c1, _, hi', _⟩ := ask_ok h2
        have hh := heldP (s := s) b1 b2 hi
        have hh' := heldP (s := s) c1 b2 hi'
        rw [h1, h2, hh.1, hh'.1, hh.2, hh'.2]
        obtain ⟨j, hj, e1, e2, e3⟩ := scan' (ok := ok_solve_Apart_L0 m m (Int.ofNat m) m (heldF l s n) m (heldF l' s n')) (go := go_solve_Apart_L0 m m (Int.ofNat m) m (heldF l s n) m (heldF l' s n')) (step := step_solve_Apart_L0 m m (Int.ofNat m) m (heldF l s n) m (heldF l' s n')) V_solve_Apart_L0.mk (fun k => heldF l s n k && heldF l' s n' k) m
          (fun k hk => okA hk) (fun k hk => goA) (fun k hk => by unfold step_solve_Apart_L0; simp only; rw [succ_i64 (by omega)])
        rw [mrgB_eq, show ((!ieq 0 0) || (!ieq 0 0)) = false by rw [ieq_self]; rfl, cond_false]
        exact and_of rfl e1
      · rw [ieq0 h2]; simp [mrgB_eq]
    · rw [ieq0 h1]; simp [mrgB_eq]
end Go.Proofs.Ytofpjfohijljgaa
