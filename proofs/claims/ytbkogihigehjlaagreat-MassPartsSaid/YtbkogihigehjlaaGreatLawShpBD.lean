/- Shapes: which points are a convex polygon, for the program and for its reference. -/
import Derived.Test.YtbkogihigehjlaaGreatLawShpAD
set_option linter.unusedVariables false
set_option linter.unusedSimpArgs false
set_option maxHeartbeats 4000000
namespace Go.Proofs.YtbkogihigehjlaaGreat
open Go.Sim Go.Lst
section
variable (n : Nat) (f g : Nat → Nat)
/-- A side's way; its length; how far a point lies to its left. -/
def sdX (i : Nat) : Nat := fsub (f ((i + 1) % n)) (f i)
def sdY (i : Nat) : Nat := fsub (g ((i + 1) % n)) (g i)
def lenS (i : Nat) : Nat := fsqrt (fadd (fmul (sdX n f i) (sdX n f i)) (fmul (sdY n g i) (sdY n g i)))
def crS (i j : Nat) : Nat := fsub (fmul (sdX n f i) (fsub (g j) (g i))) (fmul (sdY n g i) (fsub (f j) (f i)))
def GoodS (i : Nat) : Prop := flt (lenS n f g i) 4472074429978902528 = false ∧ ∀ k, 2 ≤ k → k < n → fle (crS n f g i ((i + k) % n)) 0 = false
def InS : Prop := ∀ i, i < n → s_vec_Within_0 (f i) (g i) 4787326403894837248 = true
end
noncomputable def dec (p : Prop) : Bool := @decide p (Classical.propDecidable p)
theorem dec_true {p : Prop} : dec p = true ↔ p := by unfold dec; exact @decide_eq_true_iff p (Classical.propDecidable p)
theorem dec_false {p : Prop} : dec p = false ↔ ¬ p := by unfold dec; exact @decide_eq_false_iff_not p (Classical.propDecidable p)
variable {n : Nat} {f g : Nat → Nat}
theorem side_at {i : Nat} (hi : i < n) (h64 : n ≤ 64) : s_poly_side_0 n f g (Int.ofNat i) = sdX n f i ∧ s_poly_side_1 n f g (Int.ofNat i) = sdY n g i ∧ o_poly_side n f g (Int.ofNat i) = true := by
  refine ⟨?_, ?_, ?_⟩
  · unfold s_poly_side_0; rw [mod_at (by omega)]; rfl
  · unfold s_poly_side_1; rw [mod_at (by omega)]; rfl
  · unfold o_poly_side
    rw [mod_at (by omega), ile_ofNat, ile_ofNat]
    simp only [toNat_of]
    rw [blt_true hi, blt_true (Nat.mod_lt _ (by omega)), ieq_false (by simp only [Int.ofNat_eq_natCast]; omega)]; rfl
theorem inner_ok {i : Nat} (hi : i < n) (h64 : n ≤ 64) (h2 : 2 ≤ n) :
    ∃ m, 2 ≤ m ∧ m ≤ n ∧ E_poly_Check_L0 n f g (Int.ofNat i) (f i) (g i) (sdX n f i) (sdY n g i) (V_poly_Check_L0.mk 2) = true ∧ L_poly_Check_L0 n f g (Int.ofNat i) (f i) (g i) (sdX n f i) (sdY n g i) (V_poly_Check_L0.mk 2) = V_poly_Check_L0.mk (Int.ofNat m) ∧
      (∀ k, 2 ≤ k → k < m → fle (crS n f g i ((i + k) % n)) 0 = false) ∧ (m = n ∨ fle (crS n f g i ((i + m) % n)) 0 = true) := by
  obtain ⟨m, h1, hm, hE, hL, hall, hend⟩ := search (ok := ok_poly_Check_L0 n f g (Int.ofNat i) (f i) (g i) (sdX n f i) (sdY n g i)) (go := go_poly_Check_L0 n f g (Int.ofNat i) (f i) (g i) (sdX n f i) (sdY n g i))
    (step := step_poly_Check_L0 n f g (Int.ofNat i) (f i) (g i) (sdX n f i) (sdY n g i)) V_poly_Check_L0.mk (fun k => !(fle (crS n f g i ((i + k) % n)) 0)) 2 n h2
    (fun k _ hk => by
      unfold ok_poly_Check_L0
      simp only []
      rw [mod_add (by omega)]
      simp only [toNat_of, mrgB_eq, ilt_ofNat, ile_ofNat]
      rw [blt_true (Nat.mod_lt _ (by omega)), ieq_false (show Int.ofNat n ≠ 0 by simp only [Int.ofNat_eq_natCast]; omega)]
      by_cases h : k < n
      · simp [h]
      · simp [h])
    (fun k _ hk => by unfold go_poly_Check_L0; simp only []; rw [mod_add (by omega)]; exact go_any hk) (by unfold go_poly_Check_L0; exact go_end)
    (fun k _ hk => by unfold step_poly_Check_L0; rw [succ_i64 (by omega)])
  refine ⟨m, h1, hm, hE, hL, fun k hk hkm => by have := hall k hk hkm; simpa using this, hend.imp id fun h => by simpa using h⟩
theorem inner_bad {i m : Nat} (hm : m ≤ n) (h2 : 2 ≤ m) (hall : ∀ k, 2 ≤ k → k < m → fle (crS n f g i ((i + k) % n)) 0 = false) (hend : m = n ∨ fle (crS n f g i ((i + m) % n)) 0 = true) (hi : i < n) (h64 : n ≤ 64) :
    (flt (lenS n f g i) 4472074429978902528 || (bif (!(ilt (Int.ofNat m) (Int.ofNat n))) then false else fle (crS n f g i ((i + m) % n)) 0)) = !(dec (GoodS n f g i)) := by
  rw [ilt_ofNat]
  by_cases hg : GoodS n f g i
  · rw [dec_true.2 hg, hg.1]
    by_cases h : m < n
    · rw [hg.2 m h2 h]; simp
    · simp [h]
  · rw [dec_false.2 hg]
    cases hl : flt (lenS n f g i) 4472074429978902528
    · rcases hend with rfl | he
      · exact absurd ⟨hl, hall⟩ hg
      · by_cases h : m < n
        · rw [he]; simp [h]
        · have : m = n := by omega
          subst this
          exact absurd ⟨hl, hall⟩ hg
    · rfl
theorem mrg_same {q x : Bool} : mrgB q x x = x := mrgB_self q x
theorem check_ok (h64 : n ≤ 64) (h3 : 3 ≤ n) : o_poly_Check n f g = true ∧ ((s_poly_Check_0 n f g = 0 ∧ InS n f g ∧ ∀ i, i < n → GoodS n f g i) ∨ (s_poly_Check_0 n f g = 5 ∧ ¬ InS n f g) ∨ (s_poly_Check_0 n f g = 60 ∧ InS n f g ∧ ∃ i, i < n ∧ ¬ GoodS n f g i)) := by
  obtain ⟨r1, r2⟩ := reals_ok (n := n) (f := f) (g := g) h64
  have h3' : ilt (Int.ofNat n) (3 : Int) = false := ilt_false (by simp only [Int.ofNat_eq_natCast]; omega)
  have bad : ∀ {i m : Nat}, i < n → m ≤ n → (flt (s_vec_Length_0 (sdX n f i) (sdY n g i)) 4472074429978902528 || (bif (!(ilt (Int.ofNat m) (Int.ofNat n))) then false else (fle (s_vec_Cross_0 (sdX n f i) (sdY n g i) (s_vec_Sub_0 (f ((i + m) % n)) (g ((i + m) % n)) (f i) (g i)) (s_vec_Sub_1 (f ((i + m) % n)) (g ((i + m) % n)) (f i) (g i))) 0))) =
      (flt (lenS n f g i) 4472074429978902528 || (bif (!(ilt (Int.ofNat m) (Int.ofNat n))) then false else fle (crS n f g i ((i + m) % n)) 0)) := fun _ _ => rfl
  obtain ⟨m, _, hm, hE, hL, hall, hend⟩ := search (ok := ok_poly_Check_L1 n f g (Int.ofNat n)) (go := go_poly_Check_L1 n f g (Int.ofNat n)) (step := step_poly_Check_L1 n f g (Int.ofNat n)) V_poly_Check_L1.mk (fun i => dec (GoodS n f g i)) 0 n (Nat.zero_le _)
    (fun k _ hk => by
      unfold ok_poly_Check_L1
      simp only []
      by_cases h : k < n
      · obtain ⟨s0, s1, s2⟩ := side_at (f := f) (g := g) h h64
        obtain ⟨j, j1, j2, jE, jL, _, _⟩ := inner_ok (f := f) (g := g) h h64 (by omega)
        rw [mod_at (by omega)]
        simp only [toNat_of, s0, s1, jE, jL, allB_true, eqT_self, ile_ofNat, blt_true h, blt_true (Nat.mod_lt (k + 1) (show 0 < n by omega)), ieq_false (show Int.ofNat n ≠ 0 by simp only [Int.ofNat_eq_natCast]; omega), Bool.true_and, Bool.and_true, Bool.not_false, mrg_same]
      · rw [ilt_ofNat]; simp [h, mrgB_eq])
    (fun k _ hk => by
      unfold go_poly_Check_L1
      simp only []
      obtain ⟨s0, s1, s2⟩ := side_at (f := f) (g := g) hk h64
      obtain ⟨j, j1, j2, jE, jL, ja, je⟩ := inner_ok (f := f) (g := g) hk h64 (by omega)
      simp only [toNat_of, s0, s1, jL]
      rw [mod_add (by omega)]
      simp only [toNat_of]
      rw [bad hk j2, inner_bad j2 j1 ja je hk h64, go_any hk, Bool.not_not]) (by unfold go_poly_Check_L1; exact go_end)
    (fun k _ hk => by unfold step_poly_Check_L1; rw [succ_i64 (by omega)])
  have hE' : E_poly_Check_L1 n f g (Int.ofNat n) (V_poly_Check_L1.mk 0) = true := hE
  have hL' : L_poly_Check_L1 n f g (Int.ofNat n) (V_poly_Check_L1.mk 0) = V_poly_Check_L1.mk (Int.ofNat m) := hL
  constructor
  · unfold o_poly_Check
    simp only [r1, hE', Bool.true_and, mrg_same]
  · unfold s_poly_Check_0
    simp only [hL']
    rcases r2 with ⟨e, hin⟩ | ⟨e, i, hi, hne⟩
    · rw [e, show ieq (0 : Int) 0 = true from rfl, h3', Bool.not_true, cond_false, cond_false]
      by_cases hmn : m < n
      · have hg : dec (GoodS n f g m) = false := hend.resolve_left (by omega)
        obtain ⟨s0, s1, s2⟩ := side_at (f := f) (g := g) hmn h64
        obtain ⟨j, j1, j2, jE, jL, ja, je⟩ := inner_ok (f := f) (g := g) hmn h64 (by omega)
        right; right
        simp only [toNat_of, s0, s1, jL]
        rw [mod_add (by omega)]
        simp only [toNat_of]
        rw [bad hmn j2, inner_bad j2 j1 ja je hmn h64, hg, ilt_ofNat]
        refine ⟨?_, hin, m, hmn, dec_false.1 hg⟩
        simp [hmn]
      · have : m = n := by omega
        subst this
        left
        rw [ilt_ofNat]
        refine ⟨by simp, hin, fun i hi => dec_true.1 (hall i (by omega) hi)⟩
    · right; left
      rw [e]
      exact ⟨rfl, fun hin => by rw [hin i hi] at hne; cases hne⟩
end Go.Proofs.YtbkogihigehjlaaGreat
