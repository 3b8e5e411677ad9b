/- Rows solved by turns: what the calls answer; which stills rows hold; lists one behind the other. -/
import Derived.Test.YtofpjfohijljgaaLawOnyQ
set_option linter.unusedVariables false
set_option linter.unusedSimpArgs false
set_option linter.unusedSectionVars false
set_option maxHeartbeats 4000000
set_option maxRecDepth 4000
namespace Go.Proofs.Ytofpjfohijljgaa
open Go.Sim Go.Lst
/-- as scan; where it ends before the last number, there it holds -/
theorem scan' {X : Type} {ok go : X → Bool} {step : X → X} (mk : Int → X) (q : Nat → Bool) (n : Nat)
    (hok : ∀ k, k ≤ n → ok (mk (Int.ofNat k)) = true) (hgo : ∀ k, k ≤ n → go (mk (Int.ofNat k)) = (decide (k < n) && !q k)) (hst : ∀ k, k < n → step (mk (Int.ofNat k)) = mk (Int.ofNat (k + 1))) :
    ∃ j, j ≤ n ∧ endsL ok go step (mk 0) = true ∧ lastL ok go step (mk 0) = mk (Int.ofNat j) ∧ decide (j < n) = decide (∃ i, i < n ∧ q i = true) := by
  obtain ⟨j, hj, hall, hend⟩ := first_not (p := fun j => !(q j)) n
  have hr := run_to (ok := ok) (go := go) (step := step) (fun k => mk (Int.ofNat k)) j (fun k hk => hok k (by omega)) (fun k hk => by
      rw [hgo k (by omega), hall k hk]; simp; omega) (fun k hk => hst k (by omega)) (by
      rw [hgo j hj]
      rcases hend with rfl | h
      · simp
      · rw [h]; simp)
  refine ⟨j, hj, hr.1, hr.2, ?_⟩
  apply decide_eq_decide.2
  constructor
  · intro h
    rcases hend with h' | h'
    · omega
    · exact ⟨j, h, by simpa using h'⟩
  · rintro ⟨i, hi, h⟩
    by_cases hij : i < j
    · have := hall i hij
      simp [h] at this
    · omega
theorem goA {m k : Nat} {f g : Nat → Bool} : go_solve_Apart_L0 m m (Int.ofNat m) m f m g (V_solve_Apart_L0.mk (Int.ofNat k)) = (decide (k < m) && !(f k && g k)) := by
  unfold go_solve_Apart_L0
  simp only [toNat_of, ilt_ofNat]
  cases decide (k < m) <;> cases (f k && g k) <;> rfl
theorem okA {m k : Nat} {f g : Nat → Bool} (hk : k ≤ m) : ok_solve_Apart_L0 m m (Int.ofNat m) m f m g (V_solve_Apart_L0.mk (Int.ofNat k)) = true := by
  unfold ok_solve_Apart_L0
  simp only [toNat_of, mrgB_eq, ilt_ofNat, ile_ofNat, Bool.true_and]
  by_cases h : k < m
  · simp only [decide_eq_true h, blt_true h, Bool.not_true, Bool.and_self, Bool.cond_self, cond_false]
  · simp only [decide_eq_false h, Bool.not_false, cond_true, Bool.true_or]
theorem ieq0 {a : Int} (h : a ≠ 0) : ieq a 0 = false := ieq_false h
/-- what an answer of nought says of the lists -/
theorem ask_ok {n m : Nat} {l : Nat → Rw} {s : Nat → Sl} (h : askN n m l s = 0) :
    n ≤ 1048576 ∧ m ≤ 1024 ∧ inv n m l ∧ (∀ i, i < n → may (l i) = true) ∧ (∀ k, k < m → rest (s k) = true) := by
  unfold askN at h
  cases hb : (ilt (1048576 : Int) (Int.ofNat n)) || (ilt (1024 : Int) (Int.ofNat m)) with
  | true => rw [hb] at h; cases h
  | false =>
    rw [hb, cond_false] at h
    cases hl : badL n m l with
    | true => rw [hl] at h; cases h
    | false =>
      cases hs : badS m s with
      | true => rw [hl, hs] at h; cases h
      | false =>
        have h1 : n ≤ 1048576 ∧ m ≤ 1024 := by
          unfold ilt at hb; simp at hb; omega
        have nb : ∀ i, i < n → bad n m (l i) = false := fun i hi => by
          cases e : bad n m (l i) with
          | false => rfl
          | true => exact absurd ⟨i, hi, e⟩ (of_decide_eq_false hl)
        have ns : ∀ k, k < m → rest (s k) = true := fun k hk => by
          cases e : rest (s k) with
          | true => rfl
          | false => exact absurd ⟨k, hk, by rw [e]; rfl⟩ (of_decide_eq_false hs)
        have mm : ∀ i, i < n → may (l i) = true := fun i hi => by
          have := nb i hi
          unfold bad at this
          cases e : may (l i) with
          | true => rfl
          | false => rw [e] at this; simp at this
        refine ⟨h1.1, h1.2, fun i hi => ?_, mm, ns⟩
        have hbad := nb i hi
        have hm := mm i hi
        unfold bad at hbad
        rw [hm] at hbad
        unfold may s_rows_fits_0 at hm
        simp only [Bool.and_eq_true, ile, decide_eq_true_eq] at hm
        simp only [Bool.not_true, Bool.false_or, Bool.or_eq_false_iff, ile, decide_eq_false_iff_not, Int.ofNat_eq_natCast] at hbad
        exact ⟨hm.1.1.1.1.1, by omega, hm.1.1.1.1.2, by omega, by omega⟩
/-- and what says so -/
theorem ask_zero {n m : Nat} {l : Nat → Rw} {s : Nat → Sl} (hn : n ≤ 1048576) (hm : m ≤ 1024) (hi : inv n m l) (mm : ∀ i, i < n → may (l i) = true) (hs : ∀ k, k < m → rest (s k) = true) : askN n m l s = 0 := by
  have e1 : badL n m l = false := decide_eq_false fun ⟨i, hi', h⟩ => by
    have hr := hi i hi'
    unfold bad at h
    rw [mm i hi', ile_false (show (l i).v12 < Int.ofNat n from hr.of), ile_false (show (l i).v0 < Int.ofNat m from hr.a1), ile_false (show (l i).v1 < Int.ofNat m from hr.b1)] at h
    cases h
  have e2 : badS m s = false := decide_eq_false fun ⟨k, hk, h⟩ => by rw [hs k hk] at h; cases h
  unfold askN
  rw [e1, e2, ilt_false (show Int.ofNat n ≤ 1048576 by simp; omega), ilt_false (show Int.ofNat m ≤ 1024 by simp; omega)]; rfl
/-- All: the answer, seen as numbers and lists -/
structure TellP (n : Nat) (l : Nat → Rw) (m : Nat) (s : Nat → Sl) (z : Int) (e : Int) (k k' : Nat) (x : Nat → Rw) (y : Nat → Sl) : Prop where
  err : s_solve_All_4 n (fun j => (l j).v0) (fun j => (l j).v1) (fun j => (l j).v2) (fun j => (l j).v3) (fun j => (l j).v4) (fun j => (l j).v5) (fun j => (l j).v6) (fun j => (l j).v7) (fun j => (l j).v8) (fun j => (l j).v9) (fun j => (l j).v10) (fun j => (l j).v11) (fun j => (l j).v12) (fun j => (l j).v13) m (fun j => (s j).v0) (fun j => (s j).v1) (fun j => (s j).v2) (fun j => (s j).v3) (fun j => (s j).v4) z = e
  nr : s_solve_All_0 n (fun j => (l j).v0) (fun j => (l j).v1) (fun j => (l j).v2) (fun j => (l j).v3) (fun j => (l j).v4) (fun j => (l j).v5) (fun j => (l j).v6) (fun j => (l j).v7) (fun j => (l j).v8) (fun j => (l j).v9) (fun j => (l j).v10) (fun j => (l j).v11) (fun j => (l j).v12) (fun j => (l j).v13) m (fun j => (s j).v0) (fun j => (s j).v1) (fun j => (s j).v2) (fun j => (s j).v3) (fun j => (s j).v4) z = k
  ns : s_solve_All_2 n (fun j => (l j).v0) (fun j => (l j).v1) (fun j => (l j).v2) (fun j => (l j).v3) (fun j => (l j).v4) (fun j => (l j).v5) (fun j => (l j).v6) (fun j => (l j).v7) (fun j => (l j).v8) (fun j => (l j).v9) (fun j => (l j).v10) (fun j => (l j).v11) (fun j => (l j).v12) (fun j => (l j).v13) m (fun j => (s j).v0) (fun j => (s j).v1) (fun j => (s j).v2) (fun j => (s j).v3) (fun j => (s j).v4) z = k'
  nr5 : k ≤ s_solve_All_5 n (fun j => (l j).v0) (fun j => (l j).v1) (fun j => (l j).v2) (fun j => (l j).v3) (fun j => (l j).v4) (fun j => (l j).v5) (fun j => (l j).v6) (fun j => (l j).v7) (fun j => (l j).v8) (fun j => (l j).v9) (fun j => (l j).v10) (fun j => (l j).v11) (fun j => (l j).v12) (fun j => (l j).v13) m (fun j => (s j).v0) (fun j => (s j).v1) (fun j => (s j).v2) (fun j => (s j).v3) (fun j => (s j).v4) z
  ns20 : k' ≤ s_solve_All_20 n (fun j => (l j).v0) (fun j => (l j).v1) (fun j => (l j).v2) (fun j => (l j).v3) (fun j => (l j).v4) (fun j => (l j).v5) (fun j => (l j).v6) (fun j => (l j).v7) (fun j => (l j).v8) (fun j => (l j).v9) (fun j => (l j).v10) (fun j => (l j).v11) (fun j => (l j).v12) (fun j => (l j).v13) m (fun j => (s j).v0) (fun j => (s j).v1) (fun j => (s j).v2) (fun j => (s j).v3) (fun j => (s j).v4) z
  rows : rlP n l m s z = x
  stills : slP n l m s z = y
  ob : o_solve_All n (fun j => (l j).v0) (fun j => (l j).v1) (fun j => (l j).v2) (fun j => (l j).v3) (fun j => (l j).v4) (fun j => (l j).v5) (fun j => (l j).v6) (fun j => (l j).v7) (fun j => (l j).v8) (fun j => (l j).v9) (fun j => (l j).v10) (fun j => (l j).v11) (fun j => (l j).v12) (fun j => (l j).v13) m (fun j => (s j).v0) (fun j => (s j).v1) (fun j => (s j).v2) (fun j => (s j).v3) (fun j => (s j).v4) z = true
theorem tellP {n m : Nat} {l : Nat → Rw} {s : Nat → Sl} {z : Int} (h0 : askN n m l s = 0) (hz0 : 0 ≤ z) (hz1 : z ≤ 64) :
    TellP n l m s z 0 n m (outP n l s (Int.toNat z)).1 (outP n l s (Int.toNat z)).2 := by
  obtain ⟨b1, b2, hi, hmay, hr⟩ := ask_ok h0
  have hn : n < 9223372036854775807 := by omega
  have hm : m < 9223372036854775807 := by omega
  obtain ⟨a1, a2⟩ := askP (l := l) (s := s) hn hm
  have hzb : ((ilt z (0 : Int)) || (ilt (64 : Int) z)) = false := by unfold ilt; simp; omega
  obtain ⟨R, rfl⟩ : ∃ R : Nat, z = Int.ofNat R := ⟨Int.toNat z, by simp; omega⟩
  have hR : R < 9223372036854775807 := by simp at hz1; omega
  obtain ⟨g1, g2, g3, g4, g5⟩ := allP (s := s) hn hR hi
  refine ⟨?_, ?_, ?_, by rw [g3]; exact Nat.le_refl _, by rw [g4]; exact Nat.le_refl _, g1, g2, ?_⟩
  · unfold s_solve_All_4; rw [a1, h0, hzb]; rfl
  · unfold s_solve_All_0; rw [a1, h0, hzb, csame_eq, csame_eq]; rfl
  · unfold s_solve_All_2; rw [a1, h0, hzb, csame_eq, csame_eq]; rfl
  · show mrgB _ _ (mrgB _ _ ((((Nat.ble (m * 40) 140737488355328) && ((Nat.ble (n * 112) 140737488355328) && (mrgB (ilt (Int.ofNat R) (0 : Int)) (o_solve_asked n (fun j => (l j).v0) (fun j => (l j).v1) (fun j => (l j).v2) (fun j => (l j).v3) (fun j => (l j).v4) (fun j => (l j).v5) (fun j => (l j).v6) (fun j => (l j).v7) (fun j => (l j).v8) (fun j => (l j).v9) (fun j => (l j).v10) (fun j => (l j).v11) (fun j => (l j).v12) (fun j => (l j).v13) m (fun j => (s j).v0) (fun j => (s j).v1) (fun j => (s j).v2) (fun j => (s j).v3) (fun j => (s j).v4)) (o_solve_asked n (fun j => (l j).v0) (fun j => (l j).v1) (fun j => (l j).v2) (fun j => (l j).v3) (fun j => (l j).v4) (fun j => (l j).v5) (fun j => (l j).v6) (fun j => (l j).v7) (fun j => (l j).v8) (fun j => (l j).v9) (fun j => (l j).v10) (fun j => (l j).v11) (fun j => (l j).v12) (fun j => (l j).v13) m (fun j => (s j).v0) (fun j => (s j).v1) (fun j => (s j).v2) (fun j => (s j).v3) (fun j => (s j).v4))))) && (E_solve_All_L0 n m (Int.ofNat n) (fun j => (l j).v0) (fun j => (l j).v1) (fun j => (l j).v2) (fun j => (l j).v3) (fun j => (l j).v4) (fun j => (l j).v5) (fun j => (l j).v6) (fun j => (l j).v7) (fun j => (l j).v8) (fun j => (l j).v9) (fun j => (l j).v10) (fun j => (l j).v11) (fun j => (l j).v12) (fun j => (l j).v13) (WP 0 s))) && (E_solve_All_L2 n m (Int.ofNat R) (V_solve_All_L2.mk (0 : Int) n (fun j => (l j).v0) (fun j => (l j).v1) (fun j => (l j).v2) (fun j => (l j).v3) (fun j => (l j).v4) (fun j => (l j).v5) (fun j => (l j).v6) (fun j => (l j).v7) (fun j => (l j).v8) (fun j => (l j).v9) (fun j => (l j).v10) (fun j => (l j).v11) (fun j => (l j).v12) (fun j => (l j).v13) m (L_solve_All_L0 n m (Int.ofNat n) (fun j => (l j).v0) (fun j => (l j).v1) (fun j => (l j).v2) (fun j => (l j).v3) (fun j => (l j).v4) (fun j => (l j).v5) (fun j => (l j).v6) (fun j => (l j).v7) (fun j => (l j).v8) (fun j => (l j).v9) (fun j => (l j).v10) (fun j => (l j).v11) (fun j => (l j).v12) (fun j => (l j).v13) (WP 0 s)).v1 (L_solve_All_L0 n m (Int.ofNat n) (fun j => (l j).v0) (fun j => (l j).v1) (fun j => (l j).v2) (fun j => (l j).v3) (fun j => (l j).v4) (fun j => (l j).v5) (fun j => (l j).v6) (fun j => (l j).v7) (fun j => (l j).v8) (fun j => (l j).v9) (fun j => (l j).v10) (fun j => (l j).v11) (fun j => (l j).v12) (fun j => (l j).v13) (WP 0 s)).v2 (L_solve_All_L0 n m (Int.ofNat n) (fun j => (l j).v0) (fun j => (l j).v1) (fun j => (l j).v2) (fun j => (l j).v3) (fun j => (l j).v4) (fun j => (l j).v5) (fun j => (l j).v6) (fun j => (l j).v7) (fun j => (l j).v8) (fun j => (l j).v9) (fun j => (l j).v10) (fun j => (l j).v11) (fun j => (l j).v12) (fun j => (l j).v13) (WP 0 s)).v3 (L_solve_All_L0 n m (Int.ofNat n) (fun j => (l j).v0) (fun j => (l j).v1) (fun j => (l j).v2) (fun j => (l j).v3) (fun j => (l j).v4) (fun j => (l j).v5) (fun j => (l j).v6) (fun j => (l j).v7) (fun j => (l j).v8) (fun j => (l j).v9) (fun j => (l j).v10) (fun j => (l j).v11) (fun j => (l j).v12) (fun j => (l j).v13) (WP 0 s)).v4 (L_solve_All_L0 n m (Int.ofNat n) (fun j => (l j).v0) (fun j => (l j).v1) (fun j => (l j).v2) (fun j => (l j).v3) (fun j => (l j).v4) (fun j => (l j).v5) (fun j => (l j).v6) (fun j => (l j).v7) (fun j => (l j).v8) (fun j => (l j).v9) (fun j => (l j).v10) (fun j => (l j).v11) (fun j => (l j).v12) (fun j => (l j).v13) (WP 0 s)).v5)))) = true
    rw [g5, (runP0 (s := s) hn hi).1, a1, h0, hzb, a2, ble_true (show m * 40 ≤ 140737488355328 by omega), ble_true (show n * 112 ≤ 140737488355328 by omega), mrgB_self]; rfl
/-- the stills of rows -/
noncomputable def hasF (n : Nat) (l : Nat → Rw) (k : Nat) : Bool := decide (∃ i, i < n ∧ (Int.toNat (l i).v0 = k ∨ Int.toNat (l i).v1 = k))
noncomputable def heldF (l : Nat → Rw) (s : Nat → Sl) (n : Nat) : Nat → Bool := itr (fun i f j => bif Nat.beq j (Int.toNat (l i).v1) then mv (s (Int.toNat (l i).v1)) else bif Nat.beq j (Int.toNat (l i).v0) then mv (s (Int.toNat (l i).v0)) else f j) n (fun _ => false)
theorem heldF_eq (l : Nat → Rw) (s : Nat → Sl) (j : Nat) : ∀ n, heldF l s n j = (hasF n l j && mv (s j))
  | 0 => by
    have : hasF 0 l j = false := decide_eq_false fun ⟨i, hi, _⟩ => by omega
    rw [this]; rfl
  | n + 1 => by
    show (bif Nat.beq j (Int.toNat (l n).v1) then mv (s (Int.toNat (l n).v1)) else bif Nat.beq j (Int.toNat (l n).v0) then mv (s (Int.toNat (l n).v0)) else heldF l s n j) = _
    by_cases e1 : j = Int.toNat (l n).v1
    · have : hasF (n + 1) l j = true := decide_eq_true ⟨n, by omega, .inr e1.symm⟩
      rw [this, ← e1, beq_self']; rfl
    · by_cases e0 : j = Int.toNat (l n).v0
      · have : hasF (n + 1) l j = true := decide_eq_true ⟨n, by omega, .inl e0.symm⟩
        rw [this, beqn_false e1, ← e0, beq_self']; rfl
      · rw [beqn_false e1, beqn_false e0, heldF_eq l s j n]
        have : hasF (n + 1) l j = hasF n l j := decide_eq_decide.2 ⟨fun ⟨i, hi, h⟩ => ⟨i, by
            rcases Nat.lt_or_eq_of_le (Nat.le_of_lt_succ hi) with h' | rfl
            · exact h'
            · rcases h with h | h
              · exact absurd h.symm e0
              · exact absurd h.symm e1, h⟩, fun ⟨i, hi, h⟩ => ⟨i, by omega, h⟩⟩
        rw [this]; rfl
theorem heldP {n m : Nat} {l : Nat → Rw} {s : Nat → Sl} (hn : n ≤ 1048576) (hm : m ≤ 1024) (h : inv n m l) :
    s_solve_held_3 n (fun j => (l j).v0) (fun j => (l j).v1) (fun j => (l j).v2) (fun j => (l j).v3) (fun j => (l j).v4) (fun j => (l j).v5) (fun j => (l j).v6) (fun j => (l j).v7) (fun j => (l j).v8) (fun j => (l j).v9) (fun j => (l j).v10) (fun j => (l j).v11) (fun j => (l j).v12) (fun j => (l j).v13) m (fun j => (s j).v0) (fun j => (s j).v1) (fun j => (s j).v2) (fun j => (s j).v3) (fun j => (s j).v4) = heldF l s n ∧ o_solve_held n (fun j => (l j).v0) (fun j => (l j).v1) (fun j => (l j).v2) (fun j => (l j).v3) (fun j => (l j).v4) (fun j => (l j).v5) (fun j => (l j).v6) (fun j => (l j).v7) (fun j => (l j).v8) (fun j => (l j).v9) (fun j => (l j).v10) (fun j => (l j).v11) (fun j => (l j).v12) (fun j => (l j).v13) m (fun j => (s j).v0) (fun j => (s j).v1) (fun j => (s j).v2) (fun j => (s j).v3) (fun j => (s j).v4) = true := by
  have hr := run_to (ok := ok_solve_held_L0 m (fun j => (s j).v0) (fun j => (s j).v1) n (fun j => (l j).v0) (fun j => (l j).v1) (Int.ofNat n)) (go := go_solve_held_L0 m (fun j => (s j).v0) (fun j => (s j).v1) n (fun j => (l j).v0) (fun j => (l j).v1) (Int.ofNat n)) (step := step_solve_held_L0 m (fun j => (s j).v0) (fun j => (s j).v1) n (fun j => (l j).v0) (fun j => (l j).v1) (Int.ofNat n))
    (fun k => V_solve_held_L0.mk (Int.ofNat k) (heldF l s k)) n
    (fun k hk => by
      unfold ok_solve_held_L0
      simp only [toNat_of, mrgB_eq, ilt_ofNat, ile_ofNat, Bool.true_and]
      by_cases hk : k < n
      · have hr := h k hk
        simp only [decide_eq_true hk, blt_true hk, ile_true hr.a0, ile_true hr.b0, blt_true (toNat_lt hr.a0 hr.a1), blt_true (toNat_lt hr.b0 hr.b1), Bool.not_true, cond_false, Bool.and_self, Bool.true_and, Bool.cond_self]
      · simp only [decide_eq_false hk, Bool.not_false, cond_true])
    (fun k hk => by unfold go_solve_held_L0; simp only [ilt_ofNat]; simp [hk])
    (fun k hk => by unfold step_solve_held_L0; simp only [toNat_of]; rw [succ_i64 (by omega)]; rfl)
    (by unfold go_solve_held_L0; simp only [ilt_ofNat]; simp)
  constructor
  · exact congrArg V_solve_held_L0.v1 hr.2
  · show (((ile (Int.ofNat m) (Int.ofNat m)) && ((ile ((1 : Int) * (Int.ofNat m)) (281474976710656 : Int)) && (ile (Int.ofNat m) (9223372036854775807 : Int)))) && _) = true
    rw [ile_true (Int.le_refl (Int.ofNat m)), ile_true (show (1 : Int) * (Int.ofNat m) ≤ 281474976710656 by simp; omega), ile_true (show Int.ofNat m ≤ 9223372036854775807 by simp; omega)]
    exact hr.1
noncomputable def apI (n : Nat) (l : Nat → Rw) (n' : Nat) (l' : Nat → Rw) (m : Nat) (s : Nat → Sl) : Bool := s_solve_Apart_0 n (fun j => (l j).v0) (fun j => (l j).v1) (fun j => (l j).v2) (fun j => (l j).v3) (fun j => (l j).v4) (fun j => (l j).v5) (fun j => (l j).v6) (fun j => (l j).v7) (fun j => (l j).v8) (fun j => (l j).v9) (fun j => (l j).v10) (fun j => (l j).v11) (fun j => (l j).v12) (fun j => (l j).v13) n' (fun j => (l' j).v0) (fun j => (l' j).v1) (fun j => (l' j).v2) (fun j => (l' j).v3) (fun j => (l' j).v4) (fun j => (l' j).v5) (fun j => (l' j).v6) (fun j => (l' j).v7) (fun j => (l' j).v8) (fun j => (l' j).v9) (fun j => (l' j).v10) (fun j => (l' j).v11) (fun j => (l' j).v12) (fun j => (l' j).v13) m (fun j => (s j).v0) (fun j => (s j).v1) (fun j => (s j).v2) (fun j => (s j).v3) (fun j => (s j).v4)
noncomputable def apE (n : Nat) (l : Nat → Rw) (n' : Nat) (l' : Nat → Rw) (m : Nat) (s : Nat → Sl) : Int := s_solve_Apart_1 n (fun j => (l j).v0) (fun j => (l j).v1) (fun j => (l j).v2) (fun j => (l j).v3) (fun j => (l j).v4) (fun j => (l j).v5) (fun j => (l j).v6) (fun j => (l j).v7) (fun j => (l j).v8) (fun j => (l j).v9) (fun j => (l j).v10) (fun j => (l j).v11) (fun j => (l j).v12) (fun j => (l j).v13) n' (fun j => (l' j).v0) (fun j => (l' j).v1) (fun j => (l' j).v2) (fun j => (l' j).v3) (fun j => (l' j).v4) (fun j => (l' j).v5) (fun j => (l' j).v6) (fun j => (l' j).v7) (fun j => (l' j).v8) (fun j => (l' j).v9) (fun j => (l' j).v10) (fun j => (l' j).v11) (fun j => (l' j).v12) (fun j => (l' j).v13) m (fun j => (s j).v0) (fun j => (s j).v1) (fun j => (s j).v2) (fun j => (s j).v3) (fun j => (s j).v4)
noncomputable def apO (n : Nat) (l : Nat → Rw) (n' : Nat) (l' : Nat → Rw) (m : Nat) (s : Nat → Sl) : Bool := o_solve_Apart n (fun j => (l j).v0) (fun j => (l j).v1) (fun j => (l j).v2) (fun j => (l j).v3) (fun j => (l j).v4) (fun j => (l j).v5) (fun j => (l j).v6) (fun j => (l j).v7) (fun j => (l j).v8) (fun j => (l j).v9) (fun j => (l j).v10) (fun j => (l j).v11) (fun j => (l j).v12) (fun j => (l j).v13) n' (fun j => (l' j).v0) (fun j => (l' j).v1) (fun j => (l' j).v2) (fun j => (l' j).v3) (fun j => (l' j).v4) (fun j => (l' j).v5) (fun j => (l' j).v6) (fun j => (l' j).v7) (fun j => (l' j).v8) (fun j => (l' j).v9) (fun j => (l' j).v10) (fun j => (l' j).v11) (fun j => (l' j).v12) (fun j => (l' j).v13) m (fun j => (s j).v0) (fun j => (s j).v1) (fun j => (s j).v2) (fun j => (s j).v3) (fun j => (s j).v4)
/-- is there a still that both hold? -/
noncomputable def both (n : Nat) (l : Nat → Rw) (n' : Nat) (l' : Nat → Rw) (m : Nat) (s : Nat → Sl) : Bool := decide (∃ k, k < m ∧ (heldF l s n k && heldF l' s n' k) = true)
theorem both_comm (n : Nat) (l : Nat → Rw) (n' : Nat) (l' : Nat → Rw) (m : Nat) (s : Nat → Sl) : both n l n' l' m s = both n' l' n l m s :=
  decide_eq_decide.2 ⟨fun ⟨k, hk, h⟩ => ⟨k, hk, by rw [Bool.and_comm]; exact h⟩, fun ⟨k, hk, h⟩ => ⟨k, hk, by rw [Bool.and_comm]; exact h⟩⟩
theorem apartP {n n' m : Nat} {l l' : Nat → Rw} {s : Nat → Sl} (hn : n < 9223372036854775807) (hn' : n' < 9223372036854775807) (hm : m < 9223372036854775807) :
    apE n l n' l' m s = (bif (!(ieq (askN n m l s) 0) || !(ieq (askN n' m l' s) 0)) then (bif !(ieq (askN n m l s) 0) then askN n m l s else askN n' m l' s) else 0) ∧
    apI n l n' l' m s = (bif (!(ieq (askN n m l s) 0) || !(ieq (askN n' m l' s) 0)) then false else !(both n l n' l' m s)) ∧ apO n l n' l' m s = true := by
  obtain ⟨a1, a2⟩ := askP (l := l) (s := s) hn hm
  obtain ⟨a3, a4⟩ := askP (l := l') (s := s) hn' hm
  refine ⟨?_, ?_, ?_⟩
  · unfold apE s_solve_Apart_1
    simp only [a1, a3]
  · unfold apI s_solve_Apart_0
    simp only [a1, a3]
    by_cases h1 : askN n m l s = 0
    · by_cases h2 : askN n' m l' s = 0
      · obtain ⟨b1, b2, hi, _⟩ := ask_ok h1
        obtain ⟨c1, _, hi', _⟩ := ask_ok h2
        rw [h1, h2, (heldP (s := s) b1 b2 hi).1, (heldP (s := s) c1 b2 hi').1]
        obtain ⟨j, hj, e1, e2, e3⟩ := scan' (ok := ok_solve_Apart_L0 m m (Int.ofNat m) m (heldF l s n) m (heldF l' s n')) (go := go_solve_Apart_L0 m m (Int.ofNat m) m (heldF l s n) m (heldF l' s n')) (step := step_solve_Apart_L0 m m (Int.ofNat m) m (heldF l s n) m (heldF l' s n')) V_solve_Apart_L0.mk (fun k => heldF l s n k && heldF l' s n' k) m
          (fun k hk => okA hk) (fun k hk => goA) (fun k hk => by unfold step_solve_Apart_L0; simp only; rw [succ_i64 (by omega)])
        have e : (L_solve_Apart_L0 m m (Int.ofNat m) m (heldF l s n) m (heldF l' s n') (V_solve_Apart_L0.mk (0 : Int))).v0 = Int.ofNat j := congrArg V_solve_Apart_L0.v0 e2
        show ((!(ilt (L_solve_Apart_L0 m m (Int.ofNat m) m (heldF l s n) m (heldF l' s n') (V_solve_Apart_L0.mk (0 : Int))).v0 (Int.ofNat m))) && true) = !(both n l n' l' m s)
        rw [e, ilt_ofNat, Bool.and_true]
        rw [e3]; rfl
      · rw [ieq0 h2]; simp
    · rw [ieq0 h1]; simp
  · unfold apO o_solve_Apart
    simp only [a1, a2, a3, a4]
    by_cases h1 : askN n m l s = 0
    · by_cases h2 : askN n' m l' s = 0
      · obtain ⟨b1, b2, hi, _⟩ := ask_ok h1
        obtain ⟨c1, _, hi', _⟩ := ask_ok h2
        have hh := heldP (s := s) b1 b2 hi
        have hh' := heldP (s := s) c1 b2 hi'
        rw [h1, h2, hh.1, hh'.1, hh.2, hh'.2]
        obtain ⟨j, hj, e1, e2, e3⟩ := scan' (ok := ok_solve_Apart_L0 m m (Int.ofNat m) m (heldF l s n) m (heldF l' s n')) (go := go_solve_Apart_L0 m m (Int.ofNat m) m (heldF l s n) m (heldF l' s n')) (step := step_solve_Apart_L0 m m (Int.ofNat m) m (heldF l s n) m (heldF l' s n')) V_solve_Apart_L0.mk (fun k => heldF l s n k && heldF l' s n' k) m
          (fun k hk => okA hk) (fun k hk => goA) (fun k hk => by unfold step_solve_Apart_L0; simp only; rw [succ_i64 (by omega)])
        rw [mrgB_eq, show ((!ieq 0 0) || (!ieq 0 0)) = false by rw [ieq_self]; rfl, cond_false]
        exact and_of rfl e1
      · rw [ieq0 h2]; simp [mrgB_eq]
    · rw [ieq0 h1]; simp [mrgB_eq]
end Go.Proofs.Ytofpjfohijljgaa
