/- Shapes: what the loops of poly come to (out of ShpA to ShpF: tool/noref.py). -/
import Derived.Test.YtbkogihigehjlaaLawLBaseTC
import Derived.Test.YtbkogihigehjlaaSimRowNear
import Derived.Test.YtbkogihigehjlaaSimErr5
set_option linter.unusedVariables false
set_option linter.unusedSimpArgs false
set_option maxHeartbeats 4000000
namespace Go.Proofs.Ytbkogihigehjlaa
open Go.Sim Go.Lst Ieee
theorem first_no {p : Nat → Bool} : ∀ (n : Nat), ∃ j, j ≤ n ∧ (∀ i, i < j → p i = true) ∧ (j = n ∨ p j = false)
  | 0 => ⟨0, by omega, fun i hi => by omega, .inl rfl⟩
  | n + 1 => by
    obtain ⟨j, h1, h2, h3⟩ := first_no (p := p) n
    rcases h3 with rfl | h3
    · cases hp : p j with
      | false => exact ⟨j, by omega, h2, .inr hp⟩
      | true => exact ⟨j + 1, by omega, fun i hi => by
          by_cases hij : i = j
          · subst hij; exact hp
          · exact h2 i (by omega), .inl rfl⟩
    · exact ⟨j, by omega, h2, .inr h3⟩
/-- A loop that looks for the first number of which something does not hold. -/
theorem search {X : Type} {ok go : X → Bool} {step : X → X} (mk : Int → X) (p : Nat → Bool) (s n : Nat) (hs : s ≤ n)
    (hok : ∀ k, s ≤ k → k ≤ n → ok (mk (Int.ofNat k)) = true) (hgo : ∀ k, s ≤ k → k < n → go (mk (Int.ofNat k)) = p k) (hend : go (mk (Int.ofNat n)) = false)
    (hst : ∀ k, s ≤ k → k < n → step (mk (Int.ofNat k)) = mk (Int.ofNat (k + 1))) :
    ∃ m, s ≤ m ∧ m ≤ n ∧ endsL ok go step (mk (Int.ofNat s)) = true ∧ lastL ok go step (mk (Int.ofNat s)) = mk (Int.ofNat m) ∧ (∀ i, s ≤ i → i < m → p i = true) ∧ (m = n ∨ p m = false) := by
  obtain ⟨j, h1, h2, h3⟩ := first_no (p := fun i => p (s + i)) (n - s)
  have hr := run_to (ok := ok) (go := go) (step := step) (fun k => mk (Int.ofNat (s + k))) j (fun k hk => hok (s + k) (by omega) (by omega)) (fun k hk => (hgo (s + k) (by omega) (by omega)).trans (h2 k hk))
    (fun k hk => hst (s + k) (by omega) (by omega)) (by
      rcases h3 with e | e
      · rw [e, show s + (n - s) = n by omega]; exact hend
      · by_cases hj : s + j < n
        · exact (hgo (s + j) (by omega) hj).trans e
        · rw [show s + j = n by omega]; exact hend)
  refine ⟨s + j, by omega, by omega, hr.1, hr.2, fun i hi hij => ?_, ?_⟩
  · have := h2 (i - s) (by omega)
    rwa [show s + (i - s) = i by omega] at this
  · rcases h3 with e | e
    · left; omega
    · exact .inr e
theorem go_any {k n : Nat} {q : Bool} (h : k < n) : (bif bif (!(ilt (Int.ofNat k) (Int.ofNat n))) then false else q then false else (bif (!(ilt (Int.ofNat k) (Int.ofNat n))) then false else true)) = !q := by
  rw [ilt_ofNat]; simp only [h, decide_true, Bool.not_true, cond_false]; cases q <;> rfl
theorem go_end {n : Nat} {q : Bool} : (bif bif (!(ilt (Int.ofNat n) (Int.ofNat n))) then false else q then false else (bif (!(ilt (Int.ofNat n) (Int.ofNat n))) then false else true)) = false := by
  rw [ilt_ofNat]; simp
theorem end_any {m n : Nat} {q : Bool} {a b : Int} : (bif bif (!(ilt (Int.ofNat m) (Int.ofNat n))) then false else q then a else b) = if m < n then (bif q then a else b) else b := by
  rw [ilt_ofNat]; by_cases h : m < n <;> simp [h]
/-- The number behind one, going round. -/
theorem mod_at {k n : Nat} (hk : k < 9223372036854775807) : Int.tmod (IntKind.wrap .i64 (Int.ofNat k + 1)) (Int.ofNat n) = Int.ofNat ((k + 1) % n) := by
  rw [succ_i64 hk]; rfl
theorem mod_add {i k n : Nat} (h : i + k < 9223372036854775808) : Int.tmod (IntKind.wrap .i64 (Int.ofNat i + Int.ofNat k)) (Int.ofNat n) = Int.ofNat ((i + k) % n) := by
  rw [wrap_i64 (by simp only [Int.ofNat_eq_natCast]; omega) (by simp only [Int.ofNat_eq_natCast]; omega)]; rfl
abbrev MR : Nat := 4787326403894837248
theorem reals_ok {n : Nat} {f g : Nat → Nat} (h64 : n ≤ 64) : o_poly_reals n f g = true ∧ ((s_poly_reals_0 n f g = 0 ∧ ∀ i, i < n → s_vec_Within_0 (f i) (g i) 4787326403894837248 = true) ∨ (s_poly_reals_0 n f g = 5 ∧ ∃ i, i < n ∧ s_vec_Within_0 (f i) (g i) 4787326403894837248 = false)) := by
  obtain ⟨m, _, hm, hE, hL, hall, hend⟩ := search (ok := ok_poly_reals_L0 n f g (Int.ofNat n)) (go := go_poly_reals_L0 n f g (Int.ofNat n)) (step := step_poly_reals_L0 n f g (Int.ofNat n)) V_poly_reals_L0.mk (fun i => s_vec_Within_0 (f i) (g i) 4787326403894837248) 0 n (Nat.zero_le _)
    (fun k _ hk => by
      unfold ok_poly_reals_L0
      simp only [toNat_of, mrgB_eq, ilt_ofNat, ile_ofNat]
      by_cases h : k < n
      · simp [h, blt_true h]
      · simp [h])
    (fun k _ hk => by unfold go_poly_reals_L0; simp only [toNat_of]; rw [go_any hk, Bool.not_not]) (by unfold go_poly_reals_L0; exact go_end)
    (fun k _ hk => by unfold step_poly_reals_L0; rw [succ_i64 (by omega)])
  have hE' : E_poly_reals_L0 n f g (Int.ofNat n) (V_poly_reals_L0.mk 0) = true := hE
  have hL' : L_poly_reals_L0 n f g (Int.ofNat n) (V_poly_reals_L0.mk 0) = V_poly_reals_L0.mk (Int.ofNat m) := hL
  have hbig : ilt (64 : Int) (Int.ofNat n) = false := ilt_false (by simp; omega)
  constructor
  · unfold o_poly_reals
    rw [hE', hbig, mrgB_eq, mrgB_eq, cond_false]
    exact Bool.cond_self _ _
  · unfold s_poly_reals_0
    rw [hL', hbig, cond_false]
    simp only [toNat_of]
    rw [end_any]
    rcases hend with rfl | hp
    · left; rw [if_neg (by omega)]; exact ⟨rfl, fun i hi => hall i (by omega) hi⟩
    · by_cases hmn : m < n
      · right; rw [if_pos hmn, hp]; exact ⟨rfl, m, hmn, hp⟩
      · left; rw [if_neg hmn]; exact ⟨rfl, fun i hi => hall i (by omega) (by omega)⟩
section
variable (n : Nat) (f g : Nat → Nat)
/-- A side's way; its length; how far a point lies to its left. -/
def sdX (i : Nat) : Nat := fsub (f ((i + 1) % n)) (f i)
def sdY (i : Nat) : Nat := fsub (g ((i + 1) % n)) (g i)
def lenS (i : Nat) : Nat := fsqrt (fadd (fmul (sdX n f i) (sdX n f i)) (fmul (sdY n g i) (sdY n g i)))
def crS (i j : Nat) : Nat := fsub (fmul (sdX n f i) (fsub (g j) (g i))) (fmul (sdY n g i) (fsub (f j) (f i)))
def GoodS (i : Nat) : Prop := flt (lenS n f g i) 4472074429978902528 = false ∧ ∀ k, 2 ≤ k → k < n → fle (crS n f g i ((i + k) % n)) 0 = false
def InS : Prop := ∀ i, i < n → s_vec_Within_0 (f i) (g i) 4787326403894837248 = true
end
noncomputable def dec (p : Prop) : Bool := @decide p (Classical.propDecidable p)
theorem dec_true {p : Prop} : dec p = true ↔ p := by unfold dec; exact @decide_eq_true_iff p (Classical.propDecidable p)
theorem dec_false {p : Prop} : dec p = false ↔ ¬ p := by unfold dec; exact @decide_eq_false_iff_not p (Classical.propDecidable p)
variable {n : Nat} {f g : Nat → Nat}
theorem side_at {i : Nat} (hi : i < n) (h64 : n ≤ 64) : s_poly_side_0 n f g (Int.ofNat i) = sdX n f i ∧ s_poly_side_1 n f g (Int.ofNat i) = sdY n g i ∧ o_poly_side n f g (Int.ofNat i) = true := by
  refine ⟨?_, ?_, ?_⟩
  · unfold s_poly_side_0; rw [mod_at (by omega)]; rfl
  · unfold s_poly_side_1; rw [mod_at (by omega)]; rfl
  · unfold o_poly_side
    rw [mod_at (by omega), ile_ofNat, ile_ofNat]
    simp only [toNat_of]
    rw [blt_true hi, blt_true (Nat.mod_lt _ (by omega)), ieq_false (by simp only [Int.ofNat_eq_natCast]; omega)]; rfl
theorem inner_ok {i : Nat} (hi : i < n) (h64 : n ≤ 64) (h2 : 2 ≤ n) :
    ∃ m, 2 ≤ m ∧ m ≤ n ∧ E_poly_Check_L0 n f g (Int.ofNat i) (f i) (g i) (sdX n f i) (sdY n g i) (V_poly_Check_L0.mk 2) = true ∧ L_poly_Check_L0 n f g (Int.ofNat i) (f i) (g i) (sdX n f i) (sdY n g i) (V_poly_Check_L0.mk 2) = V_poly_Check_L0.mk (Int.ofNat m) ∧
      (∀ k, 2 ≤ k → k < m → fle (crS n f g i ((i + k) % n)) 0 = false) ∧ (m = n ∨ fle (crS n f g i ((i + m) % n)) 0 = true) := by
  obtain ⟨m, h1, hm, hE, hL, hall, hend⟩ := search (ok := ok_poly_Check_L0 n f g (Int.ofNat i) (f i) (g i) (sdX n f i) (sdY n g i)) (go := go_poly_Check_L0 n f g (Int.ofNat i) (f i) (g i) (sdX n f i) (sdY n g i))
    (step := step_poly_Check_L0 n f g (Int.ofNat i) (f i) (g i) (sdX n f i) (sdY n g i)) V_poly_Check_L0.mk (fun k => !(fle (crS n f g i ((i + k) % n)) 0)) 2 n h2
    (fun k _ hk => by
      unfold ok_poly_Check_L0
      simp only []
      rw [mod_add (by omega)]
      simp only [toNat_of, mrgB_eq, ilt_ofNat, ile_ofNat]
      rw [blt_true (Nat.mod_lt _ (by omega)), ieq_false (show Int.ofNat n ≠ 0 by simp only [Int.ofNat_eq_natCast]; omega)]
      by_cases h : k < n
      · simp [h]
      · simp [h])
    (fun k _ hk => by unfold go_poly_Check_L0; simp only []; rw [mod_add (by omega)]; exact go_any hk) (by unfold go_poly_Check_L0; exact go_end)
    (fun k _ hk => by unfold step_poly_Check_L0; rw [succ_i64 (by omega)])
  refine ⟨m, h1, hm, hE, hL, fun k hk hkm => by have := hall k hk hkm; simpa using this, hend.imp id fun h => by simpa using h⟩
theorem inner_bad {i m : Nat} (hm : m ≤ n) (h2 : 2 ≤ m) (hall : ∀ k, 2 ≤ k → k < m → fle (crS n f g i ((i + k) % n)) 0 = false) (hend : m = n ∨ fle (crS n f g i ((i + m) % n)) 0 = true) (hi : i < n) (h64 : n ≤ 64) :
    (flt (lenS n f g i) 4472074429978902528 || (bif (!(ilt (Int.ofNat m) (Int.ofNat n))) then false else fle (crS n f g i ((i + m) % n)) 0)) = !(dec (GoodS n f g i)) := by
  rw [ilt_ofNat]
  by_cases hg : GoodS n f g i
  · rw [dec_true.2 hg, hg.1]
    by_cases h : m < n
    · rw [hg.2 m h2 h]; simp
    · simp [h]
  · rw [dec_false.2 hg]
    cases hl : flt (lenS n f g i) 4472074429978902528
    · rcases hend with rfl | he
      · exact absurd ⟨hl, hall⟩ hg
      · by_cases h : m < n
        · rw [he]; simp [h]
        · have : m = n := by omega
          subst this
          exact absurd ⟨hl, hall⟩ hg
    · rfl
theorem mrg_same {q x : Bool} : mrgB q x x = x := mrgB_self q x
theorem check_ok (h64 : n ≤ 64) (h3 : 3 ≤ n) : o_poly_Check n f g = true ∧ ((s_poly_Check_0 n f g = 0 ∧ InS n f g ∧ ∀ i, i < n → GoodS n f g i) ∨ (s_poly_Check_0 n f g = 5 ∧ ¬ InS n f g) ∨ (s_poly_Check_0 n f g = 60 ∧ InS n f g ∧ ∃ i, i < n ∧ ¬ GoodS n f g i)) := by
  obtain ⟨r1, r2⟩ := reals_ok (n := n) (f := f) (g := g) h64
  have h3' : ilt (Int.ofNat n) (3 : Int) = false := ilt_false (by simp only [Int.ofNat_eq_natCast]; omega)
  have bad : ∀ {i m : Nat}, i < n → m ≤ n → (flt (s_vec_Length_0 (sdX n f i) (sdY n g i)) 4472074429978902528 || (bif (!(ilt (Int.ofNat m) (Int.ofNat n))) then false else (fle (s_vec_Cross_0 (sdX n f i) (sdY n g i) (s_vec_Sub_0 (f ((i + m) % n)) (g ((i + m) % n)) (f i) (g i)) (s_vec_Sub_1 (f ((i + m) % n)) (g ((i + m) % n)) (f i) (g i))) 0))) =
      (flt (lenS n f g i) 4472074429978902528 || (bif (!(ilt (Int.ofNat m) (Int.ofNat n))) then false else fle (crS n f g i ((i + m) % n)) 0)) := fun _ _ => rfl
  obtain ⟨m, _, hm, hE, hL, hall, hend⟩ := search (ok := ok_poly_Check_L1 n f g (Int.ofNat n)) (go := go_poly_Check_L1 n f g (Int.ofNat n)) (step := step_poly_Check_L1 n f g (Int.ofNat n)) V_poly_Check_L1.mk (fun i => dec (GoodS n f g i)) 0 n (Nat.zero_le _)
    (fun k _ hk => by
      unfold ok_poly_Check_L1
      simp only []
      by_cases h : k < n
      · obtain ⟨s0, s1, s2⟩ := side_at (f := f) (g := g) h h64
        obtain ⟨j, j1, j2, jE, jL, _, _⟩ := inner_ok (f := f) (g := g) h h64 (by omega)
        rw [mod_at (by omega)]
        simp only [toNat_of, s0, s1, jE, jL, allB_true, eqT_self, ile_ofNat, blt_true h, blt_true (Nat.mod_lt (k + 1) (show 0 < n by omega)), ieq_false (show Int.ofNat n ≠ 0 by simp only [Int.ofNat_eq_natCast]; omega), Bool.true_and, Bool.and_true, Bool.not_false, mrg_same]
      · rw [ilt_ofNat]; simp [h, mrgB_eq])
    (fun k _ hk => by
      unfold go_poly_Check_L1
      simp only []
      obtain ⟨s0, s1, s2⟩ := side_at (f := f) (g := g) hk h64
      obtain ⟨j, j1, j2, jE, jL, ja, je⟩ := inner_ok (f := f) (g := g) hk h64 (by omega)
      simp only [toNat_of, s0, s1, jL]
      rw [mod_add (by omega)]
      simp only [toNat_of]
      rw [bad hk j2, inner_bad j2 j1 ja je hk h64, go_any hk, Bool.not_not]) (by unfold go_poly_Check_L1; exact go_end)
    (fun k _ hk => by unfold step_poly_Check_L1; rw [succ_i64 (by omega)])
  have hE' : E_poly_Check_L1 n f g (Int.ofNat n) (V_poly_Check_L1.mk 0) = true := hE
  have hL' : L_poly_Check_L1 n f g (Int.ofNat n) (V_poly_Check_L1.mk 0) = V_poly_Check_L1.mk (Int.ofNat m) := hL
  constructor
  · unfold o_poly_Check
    simp only [r1, hE', Bool.true_and, mrg_same]
  · unfold s_poly_Check_0
    simp only [hL']
    rcases r2 with ⟨e, hin⟩ | ⟨e, i, hi, hne⟩
    · rw [e, show ieq (0 : Int) 0 = true from rfl, h3', Bool.not_true, cond_false, cond_false]
      by_cases hmn : m < n
      · have hg : dec (GoodS n f g m) = false := hend.resolve_left (by omega)
        obtain ⟨s0, s1, s2⟩ := side_at (f := f) (g := g) hmn h64
        obtain ⟨j, j1, j2, jE, jL, ja, je⟩ := inner_ok (f := f) (g := g) hmn h64 (by omega)
        right; right
        simp only [toNat_of, s0, s1, jL]
        rw [mod_add (by omega)]
        simp only [toNat_of]
        rw [bad hmn j2, inner_bad j2 j1 ja je hmn h64, hg, ilt_ofNat]
        refine ⟨?_, hin, m, hmn, dec_false.1 hg⟩
        simp [hmn]
      · have : m = n := by omega
        subst this
        left
        rw [ilt_ofNat]
        refine ⟨by simp, hin, fun i hi => dec_true.1 (hall i (by omega) hi)⟩
    · right; left
      rw [e]
      exact ⟨rfl, fun hin => by rw [hin i hi] at hne; cases hne⟩
section
variable (n : Nat) (f g : Nat → Nat)
def GoodR (i : Nat) : Prop := fle 4472074429978902528 (lenS n f g i) = true ∧ ∀ k, k < n → k ≠ i → k ≠ (i + 1) % n → flt 0 (crS n f g i k) = true
end
variable {n : Nat} {f g : Nat → Nat}
theorem ieq_nat (a b : Nat) : ieq (Int.ofNat a) (Int.ofNat b) = decide (a = b) := by
  unfold ieq; simp only [Int.ofNat_eq_natCast, Int.natCast_inj]
/-- Is point k as it should be, seen from side i? -/
noncomputable def ptR (n : Nat) (f g : Nat → Nat) (i k : Nat) : Bool := !((!(decide (k = i)) && !(decide (k = (i + 1) % n))) && !(flt 0 (crS n f g i k)))
theorem rinner_bad {i m : Nat} (hi : i < n) (h64 : n ≤ 64) (hm : m ≤ n) (hall : ∀ k, k < m → ptR n f g i k = true) (hend : m = n ∨ ptR n f g i m = false) :
    (!(fle 4472074429978902528 (lenS n f g i)) || (bif (!(ilt (Int.ofNat m) (Int.ofNat n))) then false else !(ptR n f g i m))) = !(dec (GoodR n f g i)) := by
  have pt : ∀ k, ptR n f g i k = true ↔ (k ≠ i → k ≠ (i + 1) % n → flt 0 (crS n f g i k) = true) := by
    intro k
    unfold ptR
    by_cases h1 : k = i <;> by_cases h2 : k = (i + 1) % n <;> simp [h1, h2]
  rw [ilt_ofNat]
  by_cases hg : GoodR n f g i
  · rw [dec_true.2 hg, hg.1]
    by_cases h : m < n
    · rw [(pt m).2 (fun a b => hg.2 m h a b)]; simp
    · simp [h]
  · rw [dec_false.2 hg]
    cases hl : fle 4472074429978902528 (lenS n f g i)
    · rfl
    · by_cases h : m < n
      · rw [hend.resolve_left (by omega)]; simp [h]
      · exfalso
        have : m = n := by omega
        subst this
        exact hg ⟨hl, fun k hk a b => (pt k).1 (hall k hk) a b⟩
theorem rv_max : rv 4787326403894837248 = 1099511627776 := by
  have h : rv 4787326403894837248 = ((1099511627776 : Nat) : Rat) / ((1 : Nat) : Rat) := rv_lit (by decide) (by decide) (by intro d hd; subst hd; decide +kernel)
  have k1 : ((1099511627776 : Nat) : Rat) = 1099511627776 := rfl
  have k2 : ((1 : Nat) : Rat) = 1 := rfl
  rw [h, k1, k2]; grind
theorem within_ok {a : Nat} (h : s_num_Within_float64__0 a 4787326403894837248 = true) : fin a = true ∧ rv (fabs a) ≤ 1099511627776 := by
  unfold s_num_Within_float64__0 at h
  rw [Bool.and_eq_true] at h
  obtain ⟨h1, h2⟩ := h
  have fm : fin 4787326403894837248 = true := by decide
  obtain ⟨e, fn⟩ := rv_neg (show 4787326403894837248 < 18446744073709551616 by decide) fm
  have fa : fin a = true := fin_between h1 h2 (by decide) (by decide)
  rw [rv_le fn fa, decide_eq_true_eq, e, rv_max] at h1
  rw [rv_le fa fm, decide_eq_true_eq, rv_max] at h2
  exact ⟨fa, abs_bound fa h1 h2⟩
theorem in_ok {n : Nat} {f g : Nat → Nat} (h : InS n f g) {i : Nat} (hi : i < n) : (fin (f i) = true ∧ rv (fabs (f i)) ≤ 1099511627776) ∧ (fin (g i) = true ∧ rv (fabs (g i)) ≤ 1099511627776) := by
  have := h i hi
  unfold s_vec_Within_0 at this
  rw [Bool.and_eq_true] at this
  exact ⟨within_ok this.1, within_ok this.2⟩
/-- A difference of places. -/
theorem dif_ok {a b : Nat} (cb : CF b) (ha : fin a = true ∧ rv (fabs a) ≤ 1099511627776) (hb : fin b = true ∧ rv (fabs b) ≤ 1099511627776) : fin (fsub a b) = true ∧ -2200000000000 ≤ rv (fsub a b) ∧ rv (fsub a b) ≤ 2200000000000 := by
  obtain ⟨a1, a2, a3⟩ := abs_le ha.1
  obtain ⟨b1, b2, b3⟩ := abs_le hb.1
  have bg := big_800
  obtain ⟨fs, s1, s2⟩ := rv_sub (B := 2199023255552) cb.lt ha.1 hb.1 (by grind) (by grind) (by grind)
  exact ⟨fs, by grind, by grind⟩
/-- A product of two of them. -/
theorem prd_ok {a b : Nat} (ha : fin a = true ∧ -2200000000000 ≤ rv a ∧ rv a ≤ 2200000000000) (hb : fin b = true ∧ -2200000000000 ≤ rv b ∧ rv b ≤ 2200000000000) : fin (fmul a b) = true ∧ -5000000000000000000000000 ≤ rv (fmul a b) ∧ rv (fmul a b) ≤ 5000000000000000000000000 := by
  have bg := big_800
  have e9 := eta_900
  obtain ⟨m1, m2⟩ := mul_le ha.2.1 ha.2.2 hb.2.1 hb.2.2
  obtain ⟨fm, q1, q2⟩ := rv_mul (B := 4840000000000000000000000) ha.1 hb.1 (by grind) (by grind) (by grind)
  exact ⟨fm, by grind, by grind⟩
theorem sum_ok {a b : Nat} (ha : fin a = true ∧ -5000000000000000000000000 ≤ rv a ∧ rv a ≤ 5000000000000000000000000) (hb : fin b = true ∧ -5000000000000000000000000 ≤ rv b ∧ rv b ≤ 5000000000000000000000000) : fin (fadd a b) = true := by
  have bg := big_800
  exact (rv_add (B := 10000000000000000000000000) ha.1 hb.1 (by grind) (by grind) (by grind)).1
theorem subt_ok {a b : Nat} (cb : CF b) (ha : fin a = true ∧ -5000000000000000000000000 ≤ rv a ∧ rv a ≤ 5000000000000000000000000) (hb : fin b = true ∧ -5000000000000000000000000 ≤ rv b ∧ rv b ≤ 5000000000000000000000000) : fin (fsub a b) = true := by
  have bg := big_800
  exact (rv_sub (B := 10000000000000000000000000) cb.lt ha.1 hb.1 (by grind) (by grind) (by grind)).1
theorem word_num (s : Bool) {r : Nat} (h : r ≤ 9218868437227405312) : nanb (double.word s r) = false := by
  cases hn : nanb (double.word s r) with
  | false => rfl
  | true => rw [nanb_iff_rung, rung_word s h] at hn; omega
theorem root_num {a : Nat} (ca : CF a) (fa : fin a = true) (hs : sgnOf a = false) : nanb (fsqrt a) = false := by
  by_cases h : magOf (rungOf a) = 0
  · have hr : rungOf a = 0 := by
      have := magOf_pos (r := rungOf a)
      omega
    have hw := word_split ca.lt
    rw [hs, hr] at hw
    simp only [Bool.false_eq_true, if_false] at hw
    rw [hw]; decide
  · obtain ⟨N, d, e, _⟩ := fsqrt_fin rfl fa hs h
    rw [e]; exact word_num _ (RN_le _ _)
theorem sq_sgn {a : Nat} (fa : fin a = true) : sgnOf (fmul a a) = false := by
  rw [fmul_fin fa fa, sgn_word _ (RN_le _ _)]; simp
theorem add_sgn {a b : Nat} (fa : fin a = true) (fb : fin b = true) (ha : sgnOf a = false) (hb : sgnOf b = false) : sgnOf (fadd a b) = false := by
  rw [fadd_fin fa fb, sgn_word _ (RN_le _ _)]
  have e1 := sval_sgn a
  have e2 := sval_sgn b
  rw [ha] at e1; rw [hb] at e2
  simp only [Bool.false_eq_true, if_false] at e1 e2
  split
  · rw [ha, hb]; rfl
  · simp only [decide_eq_false_iff_not]; omega
section
variable {n : Nat} {f g : Nat → Nat}
theorem sd_ok (cf : ∀ i, i < n → CF (f i)) (hf : ∀ i, i < n → fin (f i) = true ∧ rv (fabs (f i)) ≤ 1099511627776) {i : Nat} (hi : i < n) : fin (sdX n f i) = true ∧ -2200000000000 ≤ rv (sdX n f i) ∧ rv (sdX n f i) ≤ 2200000000000 :=
  dif_ok (cf i hi) (hf _ (Nat.mod_lt _ (by omega))) (hf i hi)
theorem len_num (cf : ∀ i, i < n → CF (f i)) (cg : ∀ i, i < n → CF (g i)) (h : InS n f g) {i : Nat} (hi : i < n) : nanb (lenS n f g i) = false := by
  have x := sd_ok cf (fun i hi => (in_ok h hi).1) hi
  have y := sd_ok cg (fun i hi => (in_ok h hi).2) hi
  have xx := prd_ok x x
  have yy := prd_ok y y
  have s := sum_ok xx yy
  exact root_num (CF.add _ _) s (add_sgn xx.1 yy.1 (sq_sgn x.1) (sq_sgn y.1))
theorem cr_fin (cf : ∀ i, i < n → CF (f i)) (cg : ∀ i, i < n → CF (g i)) (h : InS n f g) {i j : Nat} (hi : i < n) (hj : j < n) : fin (crS n f g i j) = true := by
  have x := sd_ok cf (fun i hi => (in_ok h hi).1) hi
  have y := sd_ok cg (fun i hi => (in_ok h hi).2) hi
  have p := dif_ok (cg i hi) (in_ok h hj).2 (in_ok h hi).2
  have q := dif_ok (cf i hi) (in_ok h hj).1 (in_ok h hi).1
  exact subt_ok (CF.mul _ _) (prd_ok x p) (prd_ok y q)
theorem le_lt {a b : Nat} (ha : nanb a = false) (hb : nanb b = false) : fle a b = !(flt b a) := by
  rw [fle_val ha hb, flt_val hb ha]
  by_cases h : sval a ≤ sval b
  · simp [h, show ¬ sval b < sval a by omega]
  · simp [h, show sval b < sval a by omega]
/-- The points that do not lie on a side, counted from it. -/
theorem round_ok {i : Nat} (hi : i < n) {P : Nat → Prop} : (∀ k, 2 ≤ k → k < n → P ((i + k) % n)) ↔ (∀ k, k < n → k ≠ i → k ≠ (i + 1) % n → P k) := by
  constructor
  · intro h k hk h1 h2
    by_cases hki : i < k
    · have := h (k - i) (by
        have : k ≠ i + 1 := fun e => by
          rw [← e, Nat.mod_eq_of_lt hk] at h2; exact h2 rfl
        omega) (by omega)
      rwa [show i + (k - i) = k by omega, Nat.mod_eq_of_lt hk] at this
    · have := h (k + n - i) (by
        by_cases he : i + 1 = n
        · have h3 : (i + 1) % n = 0 := by rw [he]; exact Nat.mod_self n
          omega
        · omega) (by omega)
      rwa [show i + (k + n - i) = k + n by omega, Nat.add_mod_right, Nat.mod_eq_of_lt hk] at this
  · intro h k h1 h2
    have hm : (i + k) % n < n := Nat.mod_lt _ (by omega)
    have hd : (i + k) % n = if i + k < n then i + k else i + k - n := by
      split
      · rename_i hl; exact Nat.mod_eq_of_lt hl
      · rw [Nat.mod_eq_sub_mod (by omega), Nat.mod_eq_of_lt (by omega)]
    have hd1 : (i + 1) % n = if i + 1 < n then i + 1 else 0 := by
      split
      · rename_i hl; exact Nat.mod_eq_of_lt hl
      · rw [show i + 1 = n by omega]; exact Nat.mod_self n
    refine h _ hm ?_ ?_
    · rw [hd]; split <;> omega
    · rw [hd, hd1]; split <;> split <;> omega
theorem good_same (cf : ∀ i, i < n → CF (f i)) (cg : ∀ i, i < n → CF (g i)) (h : InS n f g) {i : Nat} (hi : i < n) : GoodS n f g i ↔ GoodR n f g i := by
  unfold GoodS GoodR
  have hl := le_lt (a := 4472074429978902528) (b := lenS n f g i) (by decide) (len_num cf cg h hi)
  have e1 : flt (lenS n f g i) 4472074429978902528 = false ↔ fle 4472074429978902528 (lenS n f g i) = true := by rw [hl]; cases flt (lenS n f g i) 4472074429978902528 <;> simp
  have e2 : (∀ k, 2 ≤ k → k < n → fle (crS n f g i ((i + k) % n)) 0 = false) ↔ (∀ k, k < n → k ≠ i → k ≠ (i + 1) % n → flt 0 (crS n f g i k) = true) := by
    rw [round_ok (P := fun k => fle (crS n f g i k) 0 = false) hi]
    constructor
    · intro q k hk a b
      have := q k hk a b
      rw [le_lt (fin_not_nan (cr_fin cf cg h hi hk)) nanb_zero] at this
      simpa using this
    · intro q k hk a b
      have := q k hk a b
      rw [le_lt (fin_not_nan (cr_fin cf cg h hi hk)) nanb_zero, this]; rfl
  rw [e1, e2]
theorem abs_within {a : Nat} (ha : CF a) : s_num_Within_float64__0 a 4787326403894837248 = fle (fabs a) 4787326403894837248 := by
  unfold s_num_Within_float64__0
  cases na : nanb a
  · have hm : (4787326403894837248 : Nat) < 18446744073709551616 := by decide
    have k1 : key (fneg 4787326403894837248) = -4787326403894837248 := by decide
    have k2 : key 4787326403894837248 = 4787326403894837248 := by decide
    have n1 : nanb (fneg 4787326403894837248) = false := by decide
    have n2 : nanb 4787326403894837248 = false := by decide
    have n3 : nanb (fabs a) = false := by rw [nanb_fabs]; exact na
    rw [fle_key n1 na, fle_key na n2, fle_key n3 n2, k1, k2, key_fabs na]
    have := key_abs a
    rcases key_abs a with h | h <;> rw [h] <;> simp only [← Bool.decide_and] <;> apply decide_eq_decide.2 <;> omega
  · have nb : nanb (fabs a) = true := by rw [nanb_fabs]; exact na
    rw [fle_nan (.inl nb), fle_nan (b := a) (.inr na)]; rfl
/-- Points seen in two ways. -/
def EqN (n : Nat) (f f' : Nat → Nat) : Prop := ∀ i, i < n → f' i = f i
theorem EqN.good {f' g' : Nat → Nat} (hf : EqN n f f') (hg : EqN n g g') {i : Nat} (hi : i < n) : GoodS n f' g' i ↔ GoodS n f g i := by
  have m : ∀ k, k % n < n := fun k => Nat.mod_lt _ (by omega)
  have sx : sdX n f' i = sdX n f i := by unfold sdX; rw [hf i hi, hf _ (m _)]
  have sy : sdY n g' i = sdY n g i := by unfold sdY; rw [hg i hi, hg _ (m _)]
  have cr : ∀ j, j < n → crS n f' g' i j = crS n f g i j := fun j hj => by unfold crS; rw [sx, sy, hf i hi, hg i hi, hf j hj, hg j hj]
  unfold GoodS lenS
  rw [sx, sy]
  constructor
  · rintro ⟨a, b⟩; exact ⟨a, fun k h1 h2 => by rw [← cr _ (m _)]; exact b k h1 h2⟩
  · rintro ⟨a, b⟩; exact ⟨a, fun k h1 h2 => by rw [cr _ (m _)]; exact b k h1 h2⟩
theorem EqN.ins {f' g' : Nat → Nat} (hf : EqN n f f') (hg : EqN n g g') : InS n f' g' ↔ InS n f g := by
  unfold InS
  constructor
  · intro h i hi; rw [← hf i hi, ← hg i hi]; exact h i hi
  · intro h i hi; rw [hf i hi, hg i hi]; exact h i hi
end
/-- The sum from the number 1 on. -/
def acc (F : Nat → Nat) : Nat → Nat
  | 0 => 0
  | 1 => F 1
  | k + 2 => fadd (acc F (k + 1)) (F (k + 2))
theorem acc_congr {F G : Nat → Nat} : ∀ k, (∀ j, 1 ≤ j → j ≤ k → F j = G j) → acc F k = acc G k
  | 0, h => rfl
  | 1, h => h 1 (Nat.le_refl _) (Nat.le_refl _)
  | k + 2, h => by simp only [acc]; rw [acc_congr (k + 1) fun j h1 h2 => h j h1 (by omega), h (k + 2) (by omega) (Nat.le_refl _)]
def sumF (F : Nat → Nat) : Nat → Nat
  | 0 => F 0
  | k + 1 => fadd (sumF F k) (F (k + 1))
theorem sumF_congr {F G : Nat → Nat} : ∀ k, (∀ j, j ≤ k → F j = G j) → sumF F k = sumF G k
  | 0, h => h 0 (Nat.le_refl _)
  | k + 1, h => by simp only [sumF]; rw [sumF_congr k fun j hj => h j (by omega), h (k + 1) (Nat.le_refl _)]
def acc0 (F : Nat → Nat) : Nat → Nat
  | 0 => 0
  | k + 1 => sumF F k
section
variable (f g : Nat → Nat)
def crF (i : Nat) : Nat := fsub (fmul (fsub (f i) (f 0)) (fsub (g (i + 1)) (g 0))) (fmul (fsub (g i) (g 0)) (fsub (f (i + 1)) (f 0)))
def mxF (i : Nat) : Nat := fmul (fadd (fsub (f i) (f 0)) (fsub (f (i + 1)) (f 0))) (crF f g i)
def myF (i : Nat) : Nat := fmul (fadd (fsub (g i) (g 0)) (fsub (g (i + 1)) (g 0))) (crF f g i)
def qF (n : Nat) (x y : Nat) (i : Nat) : Nat :=
  fmul (fsub (fmul (fsub (f i) x) (fsub (g ((i + 1) % n)) y)) (fmul (fsub (g i) y) (fsub (f ((i + 1) % n)) x)))
    (fadd (fadd (fadd (fmul (fsub (f i) x) (fsub (f i) x)) (fmul (fsub (g i) y) (fsub (g i) y))) (fadd (fmul (fsub (f i) x) (fsub (f ((i + 1) % n)) x)) (fmul (fsub (g i) y) (fsub (g ((i + 1) % n)) y))))
      (fadd (fmul (fsub (f ((i + 1) % n)) x) (fsub (f ((i + 1) % n)) x)) (fmul (fsub (g ((i + 1) % n)) y) (fsub (g ((i + 1) % n)) y))))
end
variable {n : Nat} {f g : Nat → Nat}
theorem wrap_pred (h3 : 3 ≤ n) (h64 : n ≤ 64) : IntKind.wrap .i64 (Int.ofNat n - 1) = Int.ofNat (n - 1) := by
  rw [wrap_i64 (by simp only [Int.ofNat_eq_natCast]; omega) (by simp only [Int.ofNat_eq_natCast]; omega)]; simp only [Int.ofNat_eq_natCast]; omega
theorem ieq_one (k : Nat) : ieq (Int.ofNat k) 1 = decide (k = 1) := ieq_nat k 1
theorem ieq_nil (k : Nat) : ieq (Int.ofNat k) 0 = decide (k = 0) := ieq_nat k 0
theorem acc_step (F : Nat → Nat) (k : Nat) : (bif decide (k + 1 = 1) then F (k + 1) else fadd (acc F k) (F (k + 1))) = acc F (k + 1) := by
  cases k with
  | zero => rfl
  | succ k => simp [acc]
theorem acc0_step (F : Nat → Nat) (k : Nat) : (bif decide (k = 0) then F k else fadd (acc0 F k) (F k)) = acc0 F (k + 1) := by
  cases k with
  | zero => rfl
  | succ k => simp [acc0, sumF]
theorem go_at {k n : Nat} : (bif (!(ilt (Int.ofNat k) (Int.ofNat n))) then false else true) = decide (k < n) := by
  rw [ilt_ofNat]; cases decide (k < n) <;> rfl
theorem weighed_ok (h64 : n ≤ 64) (h3 : 3 ≤ n) : E_poly_weighed_L0 n f g (V_poly_weighed_L0.mk 0 1 0 0) = true ∧ L_poly_weighed_L0 n f g (V_poly_weighed_L0.mk 0 1 0 0) = V_poly_weighed_L0.mk (acc (crF f g) (n - 2)) (Int.ofNat (n - 1)) (acc (mxF f g) (n - 2)) (acc (myF f g) (n - 2)) := by
  have hr := run_to (ok := ok_poly_weighed_L0 n f g) (go := go_poly_weighed_L0 n f g) (step := step_poly_weighed_L0 n f g) (fun k => V_poly_weighed_L0.mk (acc (crF f g) k) (Int.ofNat (k + 1)) (acc (mxF f g) k) (acc (myF f g) k)) (n - 2)
    (fun k hk => by
      unfold ok_poly_weighed_L0
      dsimp only
      rw [succ_i64 (by omega), wrap_pred h3 h64, ilt_ofNat, ile_ofNat, ile_ofNat, blt_true (show 0 < n by omega)]
      simp only [toNat_of, mrg_same, mrgB_eq]
      by_cases h : k + 1 < n - 1
      · rw [blt_true (show k + 1 + 1 < n by omega), blt_true (show k + 1 < n by omega)]; simp
      · simp [h])
    (fun k hk => by unfold go_poly_weighed_L0; dsimp only; rw [wrap_pred h3 h64, go_at]; simp; omega)
    (fun k hk => by
      unfold step_poly_weighed_L0
      dsimp only
      rw [succ_i64 (by omega), ieq_one]
      simp only [toNat_of]
      congr 1
      · exact acc_step (crF f g) k
      · exact acc_step (mxF f g) k
      · exact acc_step (myF f g) k)
    (by unfold go_poly_weighed_L0; dsimp only; rw [wrap_pred h3 h64, go_at]; simp; omega)
  rw [show n - 2 + 1 = n - 1 by omega] at hr
  exact hr
theorem ok_at {k n : Nat} : mrgB (!(ilt (Int.ofNat k) (Int.ofNat n))) true ((ile (0 : Int) (Int.ofNat k)) && (Nat.blt k n)) = true := by
  rw [mrgB_eq, ilt_ofNat, ile_ofNat]
  by_cases h : k < n
  · rw [blt_true h]; simp
  · simp [h]
theorem num_sum {n : Nat} {c : Nat → Nat} (hn : 0 < n) (h3 : n ≤ 300) : s_num_Sum_0 n c = sumF c (n - 1) ∧ o_num_Sum n c = true := by
  have hr := run_to (ok := ok_num_Sum_L0 (n - 1) (fun j0 => c (1 + j0)) (Int.ofNat (n - 1))) (go := go_num_Sum_L0 (n - 1) (fun j0 => c (1 + j0)) (Int.ofNat (n - 1))) (step := step_num_Sum_L0 (n - 1) (fun j0 => c (1 + j0)) (Int.ofNat (n - 1)))
    (fun k => V_num_Sum_L0.mk (sumF c k) (Int.ofNat k)) (n - 1) (fun k _ => ok_at) (fun k hk => go_at.trans (by simpa using hk)) (fun k hk => by
      unfold step_num_Sum_L0
      simp only [toNat_of]
      rw [succ_i64 (by omega), Nat.add_comm 1 k]; rfl) (go_at.trans (by simp))
  have hz : ieq (Int.ofNat n) 0 = false := ieq_false (by simp; omega)
  unfold s_num_Sum_0 o_num_Sum
  rw [hz, cond_false]
  constructor
  · exact congrArg V_num_Sum_L0.v0 hr.2
  · rw [mrgB_eq, cond_false]
    show (((_ && _) && _) && endsL _ _ _ _) = true
    rw [ble_true (show 1 ≤ n by omega), ble_true (Nat.le_refl n), blt_true hn]
    exact hr.1
theorem mpoly_loop {x y : Nat} (h64 : n ≤ 64) (h3 : 3 ≤ n) : E_mass_polygon_L0 n (Int.ofNat n) f g x y (V_mass_polygon_L0.mk 0 (fun j0 => 0)) = true ∧ (L_mass_polygon_L0 n (Int.ofNat n) f g x y (V_mass_polygon_L0.mk 0 (fun j0 => 0))).v1 = fun j => bif Nat.blt j n then qF f g n x y j else 0 := by
  have hr := run_to (ok := ok_mass_polygon_L0 n (Int.ofNat n) f g x y) (go := go_mass_polygon_L0 n (Int.ofNat n) f g x y) (step := step_mass_polygon_L0 n (Int.ofNat n) f g x y) (fun k => V_mass_polygon_L0.mk (Int.ofNat k) (fun j => bif Nat.blt j k then qF f g n x y j else 0)) n
    (fun k hk => by
      unfold ok_mass_polygon_L0
      dsimp only
      rw [mod_at (by omega), ilt_ofNat, ile_ofNat, ile_ofNat, mrgB_eq]
      simp only [toNat_of]
      rw [blt_true (Nat.mod_lt _ (show 0 < n by omega)), ieq_nil]
      by_cases h : k < n
      · rw [blt_true h]; simp; omega
      · simp [h])
    (fun k hk => by unfold go_mass_polygon_L0; dsimp only; rw [go_at]; simpa using hk)
    (fun k hk => by
      unfold step_mass_polygon_L0
      dsimp only
      rw [mod_at (by omega), succ_i64 (by omega)]
      simp only [toNat_of]
      congr 1
      funext j
      by_cases h1 : j = k
      · subst h1; rw [beqn_self, blt_true (Nat.lt_succ_self j)]; rfl
      · rw [beqn_false h1, cond_false]
        by_cases h2 : j < k
        · rw [blt_true h2, blt_true (show j < k + 1 by omega)]
        · rw [blt_false (show k ≤ j by omega), blt_false (show k + 1 ≤ j by omega)])
    (by unfold go_mass_polygon_L0; dsimp only; rw [go_at]; simp)
  exact ⟨hr.1, congrArg V_mass_polygon_L0.v1 hr.2⟩
variable {n : Nat} {f g f' g' : Nat → Nat}
/-- Points seen in two ways, of which all that is asked holds. -/
structure Two (n : Nat) (f g f' g' : Nat → Nat) : Prop where
  ef : EqN n f f'
  eg : EqN n g g'
  cf : ∀ i, i < n → CF (f i)
  cg : ∀ i, i < n → CF (g i)
theorem Two.cr (t : Two n f g f' g') {i : Nat} (hi : i + 1 < n) : crF f' g' i = crF f g i := by
  unfold crF; rw [t.ef i (by omega), t.eg i (by omega), t.ef 0 (by omega), t.eg 0 (by omega), t.ef _ hi, t.eg _ hi]
theorem Two.mx (t : Two n f g f' g') {i : Nat} (hi : i + 1 < n) : mxF f' g' i = mxF f g i := by
  unfold mxF; rw [t.cr hi, t.ef i (by omega), t.ef 0 (by omega), t.ef _ hi]
theorem Two.my (t : Two n f g f' g') {i : Nat} (hi : i + 1 < n) : myF f' g' i = myF f g i := by
  unfold myF; rw [t.cr hi, t.eg i (by omega), t.eg 0 (by omega), t.eg _ hi]
theorem Two.q (t : Two n f g f' g') {x y i : Nat} (hi : i < n) : qF f' g' n x y i = qF f g n x y i := by
  have m : (i + 1) % n < n := Nat.mod_lt _ (by omega)
  unfold qF; rw [t.ef i hi, t.eg i hi, t.ef _ m, t.eg _ m]
section
variable (t : Two n f g f' g') (h64 : n ≤ 64) (h3 : 3 ≤ n)
include t h64 h3
end
theorem oarea (h64 : n ≤ 64) (h3 : 3 ≤ n) : o_poly_Area n f g = true := by
  unfold o_poly_Area o_poly_weighed
  rw [(check_ok h64 h3).1, (weighed_ok h64 h3).1]; simp only [Bool.and_self, mrg_same]
theorem ocentre (h64 : n ≤ 64) (h3 : 3 ≤ n) : o_poly_Centre n f g = true := by
  unfold o_poly_Centre o_poly_weighed
  rw [(check_ok h64 h3).1, (weighed_ok h64 h3).1, blt_true (show 0 < n by omega)]; simp only [Bool.and_self, mrg_same]
theorem opoly (h64 : n ≤ 64) (h3 : 3 ≤ n) (k : Int) (r d : Nat) : o_mass_polygon k r n f g d = true := by
  unfold o_mass_polygon
  simp only []
  rw [oarea h64 h3, ocentre h64 h3, (mpoly_loop h64 h3).1, (num_sum (by omega) (by omega)).2, ble_true (Nat.le_refl n), ile_true (Int.le_refl (Int.ofNat n)), ile_true (show (8 : Int) * Int.ofNat n ≤ 281474976710656 by simp only [Int.ofNat_eq_natCast]; omega), ile_true (show Int.ofNat n ≤ (9223372036854775807 : Int) by simp only [Int.ofNat_eq_natCast]; omega)]
  simp only [Bool.and_self, mrg_same]
end Go.Proofs.Ytbkogihigehjlaa
