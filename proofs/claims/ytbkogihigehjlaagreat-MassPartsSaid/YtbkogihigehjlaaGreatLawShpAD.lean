/- Shapes: what the loops of poly, and of its reference, come to. -/
import Derived.Test.YtbkogihigehjlaaGreatLawLBaseTD
set_option linter.unusedVariables false
set_option linter.unusedSimpArgs false
set_option maxHeartbeats 4000000
namespace Go.Proofs.YtbkogihigehjlaaGreat
open Go.Sim Go.Lst
theorem first_no {p : Nat → Bool} : ∀ (n : Nat), ∃ j, j ≤ n ∧ (∀ i, i < j → p i = true) ∧ (j = n ∨ p j = false)
  | 0 => ⟨0, by omega, fun i hi => by omega, .inl rfl⟩
  | n + 1 => by
    obtain ⟨j, h1, h2, h3⟩ := first_no (p := p) n
    rcases h3 with rfl | h3
    · cases hp : p j with
      | false => exact ⟨j, by omega, h2, .inr hp⟩
      | true => exact ⟨j + 1, by omega, fun i hi => by
          by_cases hij : i = j
          · subst hij; exact hp
          · exact h2 i (by omega), .inl rfl⟩
    · exact ⟨j, by omega, h2, .inr h3⟩
/-- A loop that looks for the first number of which something does not hold. -/
theorem search {X : Type} {ok go : X → Bool} {step : X → X} (mk : Int → X) (p : Nat → Bool) (s n : Nat) (hs : s ≤ n)
    (hok : ∀ k, s ≤ k → k ≤ n → ok (mk (Int.ofNat k)) = true) (hgo : ∀ k, s ≤ k → k < n → go (mk (Int.ofNat k)) = p k) (hend : go (mk (Int.ofNat n)) = false)
    (hst : ∀ k, s ≤ k → k < n → step (mk (Int.ofNat k)) = mk (Int.ofNat (k + 1))) :
    ∃ m, s ≤ m ∧ m ≤ n ∧ endsL ok go step (mk (Int.ofNat s)) = true ∧ lastL ok go step (mk (Int.ofNat s)) = mk (Int.ofNat m) ∧ (∀ i, s ≤ i → i < m → p i = true) ∧ (m = n ∨ p m = false) := by
  obtain ⟨j, h1, h2, h3⟩ := first_no (p := fun i => p (s + i)) (n - s)
  have hr := run_to (ok := ok) (go := go) (step := step) (fun k => mk (Int.ofNat (s + k))) j (fun k hk => hok (s + k) (by omega) (by omega)) (fun k hk => (hgo (s + k) (by omega) (by omega)).trans (h2 k hk))
    (fun k hk => hst (s + k) (by omega) (by omega)) (by
      rcases h3 with e | e
      · rw [e, show s + (n - s) = n by omega]; exact hend
      · by_cases hj : s + j < n
        · exact (hgo (s + j) (by omega) hj).trans e
        · rw [show s + j = n by omega]; exact hend)
  refine ⟨s + j, by omega, by omega, hr.1, hr.2, fun i hi hij => ?_, ?_⟩
  · have := h2 (i - s) (by omega)
    rwa [show s + (i - s) = i by omega] at this
  · rcases h3 with e | e
    · left; omega
    · exact .inr e
theorem go_any {k n : Nat} {q : Bool} (h : k < n) : (bif bif (!(ilt (Int.ofNat k) (Int.ofNat n))) then false else q then false else (bif (!(ilt (Int.ofNat k) (Int.ofNat n))) then false else true)) = !q := by
  rw [ilt_ofNat]; simp only [h, decide_true, Bool.not_true, cond_false]; cases q <;> rfl
theorem go_end {n : Nat} {q : Bool} : (bif bif (!(ilt (Int.ofNat n) (Int.ofNat n))) then false else q then false else (bif (!(ilt (Int.ofNat n) (Int.ofNat n))) then false else true)) = false := by
  rw [ilt_ofNat]; simp
theorem end_any {m n : Nat} {q : Bool} {a b : Int} : (bif bif (!(ilt (Int.ofNat m) (Int.ofNat n))) then false else q then a else b) = if m < n then (bif q then a else b) else b := by
  rw [ilt_ofNat]; by_cases h : m < n <;> simp [h]
/-- The number behind one, going round. -/
theorem mod_at {k n : Nat} (hk : k < 9223372036854775807) : Int.tmod (IntKind.wrap .i64 (Int.ofNat k + 1)) (Int.ofNat n) = Int.ofNat ((k + 1) % n) := by
  rw [succ_i64 hk]; rfl
theorem mod_add {i k n : Nat} (h : i + k < 9223372036854775808) : Int.tmod (IntKind.wrap .i64 (Int.ofNat i + Int.ofNat k)) (Int.ofNat n) = Int.ofNat ((i + k) % n) := by
  rw [wrap_i64 (by simp only [Int.ofNat_eq_natCast]; omega) (by simp only [Int.ofNat_eq_natCast]; omega)]; rfl
abbrev MR : Nat := 4787326403894837248
theorem reals_ok {n : Nat} {f g : Nat → Nat} (h64 : n ≤ 64) : o_poly_reals n f g = true ∧ ((s_poly_reals_0 n f g = 0 ∧ ∀ i, i < n → s_vec_Within_0 (f i) (g i) 4787326403894837248 = true) ∨ (s_poly_reals_0 n f g = 5 ∧ ∃ i, i < n ∧ s_vec_Within_0 (f i) (g i) 4787326403894837248 = false)) := by
  obtain ⟨m, _, hm, hE, hL, hall, hend⟩ := search (ok := ok_poly_reals_L0 n f g (Int.ofNat n)) (go := go_poly_reals_L0 n f g (Int.ofNat n)) (step := step_poly_reals_L0 n f g (Int.ofNat n)) V_poly_reals_L0.mk (fun i => s_vec_Within_0 (f i) (g i) 4787326403894837248) 0 n (Nat.zero_le _)
    (fun k _ hk => by
      unfold ok_poly_reals_L0
      simp only [toNat_of, mrgB_eq, ilt_ofNat, ile_ofNat]
      by_cases h : k < n
      · simp [h, blt_true h]
      · simp [h])
    (fun k _ hk => by unfold go_poly_reals_L0; simp only [toNat_of]; rw [go_any hk, Bool.not_not]) (by unfold go_poly_reals_L0; exact go_end)
    (fun k _ hk => by unfold step_poly_reals_L0; rw [succ_i64 (by omega)])
  have hE' : E_poly_reals_L0 n f g (Int.ofNat n) (V_poly_reals_L0.mk 0) = true := hE
  have hL' : L_poly_reals_L0 n f g (Int.ofNat n) (V_poly_reals_L0.mk 0) = V_poly_reals_L0.mk (Int.ofNat m) := hL
  have hbig : ilt (64 : Int) (Int.ofNat n) = false := ilt_false (by simp; omega)
  constructor
  · unfold o_poly_reals
    rw [hE', hbig, mrgB_eq, mrgB_eq, cond_false]
    exact Bool.cond_self _ _
  · unfold s_poly_reals_0
    rw [hL', hbig, cond_false]
    simp only [toNat_of]
    rw [end_any]
    rcases hend with rfl | hp
    · left; rw [if_neg (by omega)]; exact ⟨rfl, fun i hi => hall i (by omega) hi⟩
    · by_cases hmn : m < n
      · right; rw [if_pos hmn, hp]; exact ⟨rfl, m, hmn, hp⟩
      · left; rw [if_neg hmn]; exact ⟨rfl, fun i hi => hall i (by omega) (by omega)⟩
end Go.Proofs.YtbkogihigehjlaaGreat
