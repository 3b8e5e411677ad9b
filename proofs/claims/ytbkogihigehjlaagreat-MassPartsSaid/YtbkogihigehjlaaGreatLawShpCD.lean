/- Shapes: the reference's answer to which points are a convex polygon. -/
import Derived.Test.YtbkogihigehjlaaGreatLawShpBD
set_option linter.unusedVariables false
set_option linter.unusedSimpArgs false
set_option maxHeartbeats 4000000
namespace Go.Proofs.YtbkogihigehjlaaGreat
open Go.Sim Go.Lst
section
variable (n : Nat) (f g : Nat → Nat)
def GoodR (i : Nat) : Prop := fle 4472074429978902528 (lenS n f g i) = true ∧ ∀ k, k < n → k ≠ i → k ≠ (i + 1) % n → flt 0 (crS n f g i k) = true
def InR : Prop := ∀ i, i < n → s_ref02_Within_0 (f i) (g i) 4787326403894837248 = true
end
variable {n : Nat} {f g : Nat → Nat}
theorem rreals_ok (h64 : n ≤ 64) : o_ref06_Reals n f g = true ∧ ((s_ref06_Reals_0 n f g = 0 ∧ InR n f g) ∨ (s_ref06_Reals_0 n f g = 5 ∧ ¬ InR n f g)) := by
  obtain ⟨m, _, hm, hE, hL, hall, hend⟩ := search (ok := ok_ref06_Reals_L0 n f g) (go := go_ref06_Reals_L0 n f g) (step := step_ref06_Reals_L0 n f g) V_ref06_Reals_L0.mk (fun i => s_ref02_Within_0 (f i) (g i) 4787326403894837248) 0 n (Nat.zero_le _)
    (fun k _ hk => by
      unfold ok_ref06_Reals_L0
      simp only [toNat_of, mrgB_eq, ilt_ofNat, ile_ofNat]
      by_cases h : k < n
      · simp [h, blt_true h]
      · simp [h])
    (fun k _ hk => by unfold go_ref06_Reals_L0; simp only [toNat_of]; rw [go_any hk, Bool.not_not]) (by unfold go_ref06_Reals_L0; exact go_end)
    (fun k _ hk => by unfold step_ref06_Reals_L0; rw [succ_i64 (by omega)])
  have hE' : E_ref06_Reals_L0 n f g (V_ref06_Reals_L0.mk 0) = true := hE
  have hL' : L_ref06_Reals_L0 n f g (V_ref06_Reals_L0.mk 0) = V_ref06_Reals_L0.mk (Int.ofNat m) := hL
  have hbig : ilt (64 : Int) (Int.ofNat n) = false := ilt_false (by simp; omega)
  constructor
  · unfold o_ref06_Reals
    rw [hE', hbig, mrgB_eq, mrgB_eq, cond_false]
    exact Bool.cond_self _ _
  · unfold s_ref06_Reals_0
    rw [hL', hbig, cond_false]
    simp only [toNat_of]
    rw [end_any]
    by_cases hmn : m < n
    · have hp := hend.resolve_left (by omega)
      right; rw [if_pos hmn, hp]; exact ⟨rfl, fun h => by rw [h m hmn] at hp; cases hp⟩
    · left; rw [if_neg hmn]; exact ⟨rfl, fun i hi => hall i (by omega) (by omega)⟩
theorem next_at {i : Nat} (hi : i < n) (h64 : n ≤ 64) : s_ref06_next_0 n f g (Int.ofNat i) = Int.ofNat ((i + 1) % n) := by
  unfold s_ref06_next_0; exact mod_at (by omega)
theorem way_at {i : Nat} (hi : i < n) (h64 : n ≤ 64) : s_ref06_way_0 n f g (Int.ofNat i) = sdX n f i ∧ s_ref06_way_1 n f g (Int.ofNat i) = sdY n g i := by
  constructor
  · unfold s_ref06_way_0; rw [next_at hi h64]; rfl
  · unfold s_ref06_way_1; rw [next_at hi h64]; rfl
theorem left_at {i k : Nat} (hi : i < n) (h64 : n ≤ 64) : s_ref06_left_0 n f g (Int.ofNat i) (f k) (g k) = crS n f g i k := by
  unfold s_ref06_left_0
  rw [(way_at hi h64).1, (way_at hi h64).2]; rfl
theorem ieq_nat (a b : Nat) : ieq (Int.ofNat a) (Int.ofNat b) = decide (a = b) := by
  unfold ieq; simp only [Int.ofNat_eq_natCast, Int.natCast_inj]
/-- Is point k as it should be, seen from side i? -/
noncomputable def ptR (n : Nat) (f g : Nat → Nat) (i k : Nat) : Bool := !((!(decide (k = i)) && !(decide (k = (i + 1) % n))) && !(flt 0 (crS n f g i k)))
theorem rinner_ok {i : Nat} (hi : i < n) (h64 : n ≤ 64) :
    ∃ m, m ≤ n ∧ E_ref06_Check_L0 n f g (Int.ofNat i) (V_ref06_Check_L0.mk 0) = true ∧ L_ref06_Check_L0 n f g (Int.ofNat i) (V_ref06_Check_L0.mk 0) = V_ref06_Check_L0.mk (Int.ofNat m) ∧
      (∀ k, k < m → ptR n f g i k = true) ∧ (m = n ∨ ptR n f g i m = false) := by
  obtain ⟨m, _, hm, hE, hL, hall, hend⟩ := search (ok := ok_ref06_Check_L0 n f g (Int.ofNat i)) (go := go_ref06_Check_L0 n f g (Int.ofNat i)) (step := step_ref06_Check_L0 n f g (Int.ofNat i)) V_ref06_Check_L0.mk (ptR n f g i) 0 n (Nat.zero_le _)
    (fun k _ hk => by
      unfold ok_ref06_Check_L0
      simp only [toNat_of, next_at hi h64, left_at hi h64, allB_true, eqT_self, mrgB_eq, ilt_ofNat, ile_ofNat, ieq_nat]
      have hm : Nat.blt ((i + 1) % n) n = true := blt_true (Nat.mod_lt _ (by omega))
      have hz : ieq (Int.ofNat n) 0 = false := ieq_false (by simp only [Int.ofNat_eq_natCast]; omega)
      by_cases h : k < n
      · simp only [h, blt_true h, blt_true hi, hm, hz, decide_true, Bool.not_true, Bool.not_false, cond_false, cond_true, Bool.and_self, Bool.true_and, Bool.and_true, Bool.cond_self]
        all_goals simp
      · simp [h])
    (fun k _ hk => by
      unfold go_ref06_Check_L0
      simp only [toNat_of, next_at hi h64, left_at hi h64, ieq_nat]
      rw [go_any hk]; rfl) (by unfold go_ref06_Check_L0; exact go_end)
    (fun k _ hk => by unfold step_ref06_Check_L0; rw [succ_i64 (by omega)])
  exact ⟨m, hm, hE, hL, fun k hk => hall k (Nat.zero_le _) hk, hend⟩
theorem rinner_bad {i m : Nat} (hi : i < n) (h64 : n ≤ 64) (hm : m ≤ n) (hall : ∀ k, k < m → ptR n f g i k = true) (hend : m = n ∨ ptR n f g i m = false) :
    (!(fle 4472074429978902528 (lenS n f g i)) || (bif (!(ilt (Int.ofNat m) (Int.ofNat n))) then false else !(ptR n f g i m))) = !(dec (GoodR n f g i)) := by
  have pt : ∀ k, ptR n f g i k = true ↔ (k ≠ i → k ≠ (i + 1) % n → flt 0 (crS n f g i k) = true) := by
    intro k
    unfold ptR
    by_cases h1 : k = i <;> by_cases h2 : k = (i + 1) % n <;> simp [h1, h2]
  rw [ilt_ofNat]
  by_cases hg : GoodR n f g i
  · rw [dec_true.2 hg, hg.1]
    by_cases h : m < n
    · rw [(pt m).2 (fun a b => hg.2 m h a b)]; simp
    · simp [h]
  · rw [dec_false.2 hg]
    cases hl : fle 4472074429978902528 (lenS n f g i)
    · rfl
    · by_cases h : m < n
      · rw [hend.resolve_left (by omega)]; simp [h]
      · exfalso
        have : m = n := by omega
        subst this
        exact hg ⟨hl, fun k hk a b => (pt k).1 (hall k hk) a b⟩
theorem rcheck_ok (h64 : n ≤ 64) (h3 : 3 ≤ n) : o_ref06_Check n f g = true ∧ ((s_ref06_Check_0 n f g = 0 ∧ InR n f g ∧ ∀ i, i < n → GoodR n f g i) ∨ (s_ref06_Check_0 n f g = 5 ∧ ¬ InR n f g) ∨ (s_ref06_Check_0 n f g = 60 ∧ InR n f g ∧ ∃ i, i < n ∧ ¬ GoodR n f g i)) := by
  obtain ⟨r1, r2⟩ := rreals_ok (n := n) (f := f) (g := g) h64
  have h3' : ilt (Int.ofNat n) (3 : Int) = false := ilt_false (by simp only [Int.ofNat_eq_natCast]; omega)
  have bad : ∀ {i m : Nat}, i < n → m ≤ n → (!(fle 4472074429978902528 (s_ref02_Length_0 (sdX n f i) (sdY n g i))) || (bif (!(ilt (Int.ofNat m) (Int.ofNat n))) then false else ((!(decide (m = i)) && !(decide (m = (i + 1) % n))) && !(flt 0 (crS n f g i m))))) =
      (!(fle 4472074429978902528 (lenS n f g i)) || (bif (!(ilt (Int.ofNat m) (Int.ofNat n))) then false else !(ptR n f g i m))) := fun _ _ => by unfold ptR; rw [Bool.not_not]; rfl
  obtain ⟨m, _, hm, hE, hL, hall, hend⟩ := search (ok := ok_ref06_Check_L1 n f g) (go := go_ref06_Check_L1 n f g) (step := step_ref06_Check_L1 n f g) V_ref06_Check_L1.mk (fun i => dec (GoodR n f g i)) 0 n (Nat.zero_le _)
    (fun k _ hk => by
      unfold ok_ref06_Check_L1
      simp only []
      by_cases h : k < n
      · obtain ⟨s0, s1⟩ := way_at (f := f) (g := g) h h64
        obtain ⟨j, j2, jE, jL, _, _⟩ := rinner_ok (f := f) (g := g) h h64
        have hm : Nat.blt ((k + 1) % n) n = true := blt_true (Nat.mod_lt _ (by omega))
        have hz : ieq (Int.ofNat n) 0 = false := ieq_false (by simp only [Int.ofNat_eq_natCast]; omega)
        simp only [toNat_of, s0, s1, next_at h h64, jE, jL, allB_true, eqT_self, ile_ofNat, blt_true h, hm, hz, Bool.true_and, Bool.and_true, Bool.not_false, mrg_same]
      · rw [ilt_ofNat]; simp [h, mrgB_eq])
    (fun k _ hk => by
      unfold go_ref06_Check_L1
      simp only []
      obtain ⟨s0, s1⟩ := way_at (f := f) (g := g) hk h64
      obtain ⟨j, j2, jE, jL, ja, je⟩ := rinner_ok (f := f) (g := g) hk h64
      simp only [toNat_of, s0, s1, jL, next_at hk h64, left_at hk h64, ieq_nat]
      rw [bad hk j2, rinner_bad hk h64 j2 ja je, go_any hk, Bool.not_not]) (by unfold go_ref06_Check_L1; exact go_end)
    (fun k _ hk => by unfold step_ref06_Check_L1; rw [succ_i64 (by omega)])
  have hE' : E_ref06_Check_L1 n f g (V_ref06_Check_L1.mk 0) = true := hE
  have hL' : L_ref06_Check_L1 n f g (V_ref06_Check_L1.mk 0) = V_ref06_Check_L1.mk (Int.ofNat m) := hL
  constructor
  · unfold o_ref06_Check
    simp only [r1, hE', Bool.true_and, mrg_same]
  · unfold s_ref06_Check_0
    simp only [hL']
    rcases r2 with ⟨e, hin⟩ | ⟨e, hne⟩
    · rw [e, show ieq (0 : Int) 0 = true from rfl, h3', Bool.not_true, cond_false, cond_false]
      by_cases hmn : m < n
      · have hg : dec (GoodR n f g m) = false := hend.resolve_left (by omega)
        obtain ⟨s0, s1⟩ := way_at (f := f) (g := g) hmn h64
        obtain ⟨j, j2, jE, jL, ja, je⟩ := rinner_ok (f := f) (g := g) hmn h64
        right; right
        simp only [toNat_of, s0, s1, jL, next_at hmn h64, left_at hmn h64, ieq_nat]
        rw [bad hmn j2, rinner_bad hmn h64 j2 ja je, hg, ilt_ofNat]
        refine ⟨?_, hin, m, hmn, dec_false.1 hg⟩
        simp [hmn]
      · have : m = n := by omega
        subst this
        left
        rw [ilt_ofNat]
        refine ⟨by simp, hin, fun i hi => dec_true.1 (hall i (by omega) hi)⟩
    · right; left
      rw [e]
      exact ⟨rfl, hne⟩
end Go.Proofs.YtbkogihigehjlaaGreat
