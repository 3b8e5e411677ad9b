/- Sums of several floats: how far they are off; the same in the opposite order. -/
import Derived.Test.YtbkogihigehjlaaSimRowNear
set_option linter.unusedVariables false
set_option linter.unusedSimpArgs false
set_option maxHeartbeats 4000000
namespace Go.Sim
open Ieee
def sumQ (F : Nat → Nat) : Nat → Nat
  | 0 => F 0
  | k + 1 => fadd (sumQ F k) (F (k + 1))
def sumR (f : Nat → Rat) : Nat → Rat
  | 0 => f 0
  | k + 1 => sumR f k + f (k + 1)
theorem sumR_congr {f g : Nat → Rat} : ∀ k, (∀ j, j ≤ k → f j = g j) → sumR f k = sumR g k
  | 0, h => h 0 (Nat.le_refl 0)
  | k + 1, h => by
    show sumR f k + f (k + 1) = sumR g k + g (k + 1)
    rw [sumR_congr k fun j hj => h j (by omega), h (k + 1) (Nat.le_refl _)]
theorem sumQ_congr {F G : Nat → Nat} : ∀ k, (∀ j, j ≤ k → F j = G j) → sumQ F k = sumQ G k
  | 0, h => h 0 (Nat.le_refl 0)
  | k + 1, h => by
    show fadd (sumQ F k) (F (k + 1)) = fadd (sumQ G k) (G (k + 1))
    rw [sumQ_congr k fun j hj => h j (by omega), h (k + 1) (Nat.le_refl _)]
theorem sumR_shift (f : Nat → Rat) : ∀ k, sumR f (k + 1) = f 0 + sumR (fun j => f (j + 1)) k
  | 0 => rfl
  | k + 1 => by
    show sumR f (k + 1) + f (k + 2) = f 0 + (sumR (fun j => f (j + 1)) k + f (k + 2))
    rw [sumR_shift f k]; grind
theorem sumR_back (f : Nat → Rat) : ∀ k, sumR (fun j => f (k - j)) k = sumR f k
  | 0 => rfl
  | k + 1 => by
    rw [sumR_shift]
    have : sumR (fun j => f (k + 1 - (j + 1))) k = sumR (fun j => f (k - j)) k := sumR_congr k fun j _ => by rw [Nat.add_sub_add_right]
    rw [this, sumR_back f k]
    show f (k + 1 - 0) + sumR f k = sumR f k + f (k + 1)
    rw [Nat.sub_zero]; grind
theorem sumR_le {f g : Nat → Rat} : ∀ k, (∀ j, j ≤ k → f j ≤ g j) → sumR f k ≤ sumR g k
  | 0, h => h 0 (Nat.le_refl 0)
  | k + 1, h => by
    show sumR f k + f (k + 1) ≤ sumR g k + g (k + 1)
    have := sumR_le k fun j hj => h j (by omega)
    have := h (k + 1) (Nat.le_refl _)
    grind
theorem sumR_nonneg {f : Nat → Rat} : ∀ k, (∀ j, j ≤ k → 0 ≤ f j) → 0 ≤ sumR f k
  | 0, h => h 0 (Nat.le_refl 0)
  | k + 1, h => by
    show 0 ≤ sumR f k + f (k + 1)
    have := sumR_nonneg k fun j hj => h j (by omega)
    have := h (k + 1) (Nat.le_refl _)
    grind
theorem sumR_abs {f g : Nat → Rat} : ∀ k, (∀ j, j ≤ k → -(g j) ≤ f j ∧ f j ≤ g j) → -(sumR g k) ≤ sumR f k ∧ sumR f k ≤ sumR g k
  | 0, h => h 0 (Nat.le_refl 0)
  | k + 1, h => by
    show -(sumR g k + g (k + 1)) ≤ sumR f k + f (k + 1) ∧ sumR f k + f (k + 1) ≤ sumR g k + g (k + 1)
    have := sumR_abs k fun j hj => h j (by omega)
    have := h (k + 1) (Nat.le_refl _)
    constructor <;> grind
theorem sumR_lin (f : Nat → Rat) (c e : Rat) : ∀ k, sumR (fun j => c * f j + e) k = c * sumR f k + ((k : Nat) : Rat) * e + e
  | 0 => by
    show c * f 0 + e = c * f 0 + ((0 : Nat) : Rat) * e + e
    have : ((0 : Nat) : Rat) = 0 := rfl
    rw [this]; grind
  | k + 1 => by
    show sumR (fun j => c * f j + e) k + (c * f (k + 1) + e) = c * (sumR f k + f (k + 1)) + ((k + 1 : Nat) : Rat) * e + e
    have : ((k + 1 : Nat) : Rat) = ((k : Nat) : Rat) + 1 := by push_cast; rfl
    rw [sumR_lin f c e k, this]; grind
theorem sumQ_fin {F : Nat → Nat} : ∀ k, fin (sumQ F k) = true → ∀ j, j ≤ k → fin (F j) = true
  | 0, h, j, hj => by
    have : j = 0 := by omega
    subst this; exact h
  | k + 1, h, j, hj => by
    obtain ⟨h1, h2⟩ := fin_add h
    by_cases e : j = k + 1
    · subst e; exact h2
    · exact sumQ_fin k h1 j (by omega)
/-- How far a sum is off. -/
theorem sumQ_near {F : Nat → Nat} : ∀ k, k ≤ 64 → fin (sumQ F k) = true →
    -(((k : Nat) : Rat) * sumR (fun j => rv (fabs (F j))) k / 4503599627370496) ≤ rv (sumQ F k) - sumR (fun j => rv (F j)) k ∧ rv (sumQ F k) - sumR (fun j => rv (F j)) k ≤ ((k : Nat) : Rat) * sumR (fun j => rv (fabs (F j))) k / 4503599627370496
  | 0, _, h => by
    have : ((0 : Nat) : Rat) = 0 := rfl
    show -(((0 : Nat) : Rat) * rv (fabs (F 0)) / 4503599627370496) ≤ rv (F 0) - rv (F 0) ∧ rv (F 0) - rv (F 0) ≤ ((0 : Nat) : Rat) * rv (fabs (F 0)) / 4503599627370496
    rw [this]; constructor <;> grind
  | k + 1, hk, h => by
    obtain ⟨f1, f2⟩ := fin_add h
    obtain ⟨n1, n2⟩ := sumQ_near k (by omega) f1
    have fj := sumQ_fin k f1
    have hA : 0 ≤ sumR (fun j => rv (fabs (F j))) k := sumR_nonneg k fun j hj => (abs_le (fj j hj)).2.2
    have hT := sumR_abs (f := fun j => rv (F j)) (g := fun j => rv (fabs (F j))) k fun j hj => ⟨(abs_le (fj j hj)).1, (abs_le (fj j hj)).2.1⟩
    obtain ⟨l1, l2, l3⟩ := abs_le f2
    have ck : ((k + 1 : Nat) : Rat) = ((k : Nat) : Rat) + 1 := by push_cast; rfl
    have k0 : (0 : Rat) ≤ ((k : Nat) : Rat) := by exact_mod_cast Nat.zero_le k
    have k64 : ((k : Nat) : Rat) ≤ 64 := by exact_mod_cast (by omega : k ≤ 64)
    show -(((k + 1 : Nat) : Rat) * (sumR (fun j => rv (fabs (F j))) k + rv (fabs (F (k + 1)))) / 4503599627370496) ≤ rv (fadd (sumQ F k) (F (k + 1))) - (sumR (fun j => rv (F j)) k + rv (F (k + 1))) ∧ rv (fadd (sumQ F k) (F (k + 1))) - (sumR (fun j => rv (F j)) k + rv (F (k + 1))) ≤ ((k + 1 : Nat) : Rat) * (sumR (fun j => rv (fabs (F j))) k + rv (fabs (F (k + 1)))) / 4503599627370496
    rw [ck]
    generalize ((k : Nat) : Rat) = K at *
    generalize sumR (fun j => rv (fabs (F j))) k = A at *
    generalize sumR (fun j => rv (F j)) k = T at *
    have p1 := Rat.mul_nonneg k0 l3
    have p2 := Rat.mul_nonneg (show 0 ≤ 64 - K by grind) hA
    have e2 : (64 - K) * A = 64 * A - K * A := by grind
    have e3 : (K + 1) * (A + rv (fabs (F (k + 1)))) = K * A + K * rv (fabs (F (k + 1))) + A + rv (fabs (F (k + 1))) := by grind
    rw [e2] at p2
    rw [e3]
    generalize K * A = KA at *
    generalize K * rv (fabs (F (k + 1))) = KF at *
    obtain ⟨r1, r2⟩ := rv_add' (B := 2 * A + 2 * rv (fabs (F (k + 1)))) f1 f2 h (by grind) (by grind)
    constructor <;> grind
theorem rv_m40 : rv 4427038433705197568 = ((1 : Nat) : Rat) / ((1099511627776 : Nat) : Rat) := rv_lit (by decide) (by decide) (by intro d hd; subst hd; decide +kernel)
/-- Nearly, in floats, of nearly in numbers. -/
theorem nearly_of {a b w : Nat} {W : Rat} (cb : b < 18446744073709551616) (fa : fin a = true) (fb : fin b = true) (fw : fin w = true) (hW : rv (fabs w) = W) (w1 : eta * 1208925819614629174706176 ≤ W) (w9 : W ≤ big) (h1 : -(W / 4398046511104) ≤ rv a - rv b) (h2 : rv a - rv b ≤ W / 4398046511104) : fle (fabs (fsub a b)) (fmul 4427038433705197568 (fabs w)) = true := by
  have e0 := eta_pos
  have W0 : 0 ≤ W := by grind
  obtain ⟨f, p1, p2⟩ := rv_sub (B := W / 4398046511104) cb fa fb (by grind) h1 h2
  have fL : fin 4427038433705197568 = true := by decide
  have el : rv 4427038433705197568 = 1 / 1099511627776 := by
    have h := rv_m40
    have k1 : ((1 : Nat) : Rat) = 1 := rfl
    have k2 : ((1099511627776 : Nat) : Rat) = 1099511627776 := rfl
    rw [k1, k2] at h; exact h
  have faw := (abs_cases fw).1
  obtain ⟨fm, m1, m2⟩ := rv_mul (B := W / 1099511627776) fL faw (by grind) (by rw [el, hW]; grind) (by rw [el, hW]; grind)
  rw [el, hW] at m1 m2
  have ab := abs_bound (B := W / 2199023255552) f (by grind) (by grind)
  rw [rv_le (abs_cases f).1 fm, decide_eq_true_eq]
  grind
/-- The difference of two numbers that are not below nought is one. -/
theorem fin_sub_pos {a b : Nat} (cb : b < 18446744073709551616) (fa : fin a = true) (fb : fin b = true) (ha : 0 ≤ rv a) (hb : 0 ≤ rv b) : fin (fsub a b) = true := by
  have hu := uu_pos
  have h1 : (0 : Rat) ≤ (sval a : Rat) := by rw [rv_mul_uu]; exact Rat.mul_nonneg ha (Rat.le_of_lt hu)
  have h2 : (0 : Rat) ≤ (sval b : Rat) := by rw [rv_mul_uu]; exact Rat.mul_nonneg hb (Rat.le_of_lt hu)
  have h1' : 0 ≤ sval a := Rat.intCast_le_intCast.1 h1
  have h2' : 0 ≤ sval b := Rat.intCast_le_intCast.1 h2
  have ka := sval_abs a
  have kb := sval_abs b
  have ra := fin_iff.1 fa
  have rb := fin_iff.1 fb
  rw [fsub_fin cb fa fb]
  have ea : RN (magOf (rungOf a)) 0 = rungOf a := by have := RN_exact (r := rungOf a) (by omega) 0; rwa [Nat.pow_zero, Nat.mul_one] at this
  have eb : RN (magOf (rungOf b)) 0 = rungOf b := by have := RN_exact (r := rungOf b) (by omega) 0; rwa [Nat.pow_zero, Nat.mul_one] at this
  apply fin_word
  rcases Int.le_total (sval a) (sval b) with h | h
  · have : (sval a - sval b).natAbs ≤ magOf (rungOf b) := by omega
    have := RN_mono this 0
    omega
  · have : (sval a - sval b).natAbs ≤ magOf (rungOf a) := by omega
    have := RN_mono this 0
    omega
theorem fin_part {a : Nat} (fa : fin a = true) : fin (fmul 4427038433705197568 a) = true := by
  obtain ⟨d, hd⟩ : ∃ d, d = 1074 := ⟨_, rfl⟩
  have ra := fin_iff.1 fa
  have e := fmul_fin (a := 4427038433705197568) (b := a) (by decide) fa
  rw [← hd] at e
  rw [e]
  apply fin_word
  have hm : magOf (rungOf 4427038433705197568) ≤ 2 ^ d := by rw [hd]; decide +kernel
  have h1 : magOf (rungOf 4427038433705197568) * magOf (rungOf a) ≤ magOf (rungOf a) * 2 ^ d := by
    rw [Nat.mul_comm]; exact Nat.mul_le_mul_left _ hm
  have := RN_mono h1 d
  have := RN_exact (r := rungOf a) (by omega) d
  omega
theorem nearly_pos {a b : Nat} (cb : b < 18446744073709551616) (fa : fin a = true) (fb : fin b = true) (ha : 0 ≤ rv a) (hb : 0 ≤ rv b) (w1 : eta * 1208925819614629174706176 ≤ rv a) (h1 : -(rv a / 4398046511104) ≤ rv a - rv b) (h2 : rv a - rv b ≤ rv a / 4398046511104) : fle (fabs (fsub a b)) (fmul 4427038433705197568 (fabs a)) = true := by
  have e0 := eta_pos
  have hf := fin_sub_pos cb fa fb ha hb
  have ea : rv (fabs a) = rv a := (rv_abs fa).2.1 ha
  have faa := (abs_cases fa).1
  have hs : fsub a b = fadd a (fneg b) := by
    have vb := V.neg cb (V.self fb)
    exact sub_add cb
  have fn : fin (fneg b) = true := (V.neg cb (V.self fb)).1
  have en : rv (fneg b) = -rv b := by
    have := (V.neg cb (V.self fb)).2
    unfold rv; rw [this, Rat.intCast_neg]; grind
  rw [hs] at hf ⊢
  obtain ⟨p1, p2⟩ := rv_add' (B := rv a / 4398046511104) fa fn hf (by rw [en]; grind) (by rw [en]; grind)
  rw [en] at p1 p2
  have fL : fin 4427038433705197568 = true := by decide
  have el : rv 4427038433705197568 = 1 / 1099511627776 := by
    have h := rv_m40
    have k1 : ((1 : Nat) : Rat) = 1 := rfl
    have k2 : ((1099511627776 : Nat) : Rat) = 1099511627776 := rfl
    rw [k1, k2] at h; exact h
  have fm := fin_part faa
  obtain ⟨m1, m2⟩ := rv_mul' (B := rv a / 1099511627776) fL faa fm (by rw [el, ea]; grind) (by rw [el, ea]; grind)
  rw [el, ea] at m1 m2
  have ab := abs_bound (B := rv a / 2199023255552) hf (by grind) (by grind)
  rw [rv_le (abs_cases hf).1 fm, decide_eq_true_eq]
  grind
theorem sums_near {F : Nat → Nat} {k : Nat} (hk : k ≤ 64) (h : fin (sumQ F k) = true) {A T : Rat} (hA : A = sumR (fun j => rv (fabs (F j))) k) (hT : T = sumR (fun j => rv (F j)) k) : 0 ≤ A ∧ -A ≤ T ∧ T ≤ A ∧ -(A / 70368744177664) ≤ rv (sumQ F k) - T ∧ rv (sumQ F k) - T ≤ A / 70368744177664 := by
  have fj := sumQ_fin k h
  have A0 : 0 ≤ sumR (fun j => rv (fabs (F j))) k := sumR_nonneg k fun j hj => (abs_le (fj j hj)).2.2
  have aT := sumR_abs (f := fun j => rv (F j)) (g := fun j => rv (fabs (F j))) k fun j hj => ⟨(abs_le (fj j hj)).1, (abs_le (fj j hj)).2.1⟩
  obtain ⟨n1, n2⟩ := sumQ_near k hk h
  have k64 : ((k : Nat) : Rat) ≤ 64 := by exact_mod_cast hk
  rw [← hA] at A0 aT n1 n2
  rw [← hT] at aT n1 n2
  have p := Rat.mul_nonneg (show 0 ≤ 64 - ((k : Nat) : Rat) by grind) A0
  have e : (64 - ((k : Nat) : Rat)) * A = 64 * A - ((k : Nat) : Rat) * A := by grind
  rw [e] at p
  generalize ((k : Nat) : Rat) * A = KA at *
  refine ⟨A0, aT.1, aT.2, ?_, ?_⟩ <;> grind
theorem mass_near {m : Nat → Nat} {k : Nat} (hk : k ≤ 64) (fa : fin (sumQ m k) = true) (fb : fin (sumQ (fun j => m (k - j)) k) = true) (hm : ∀ j, j ≤ k → 0 ≤ rv (m j)) {M : Rat} (hM : M = sumR (fun j => rv (m j)) k) : 0 ≤ M ∧ -(M / 70368744177664) ≤ rv (sumQ m k) - M ∧ rv (sumQ m k) - M ≤ M / 70368744177664 ∧ -(M / 70368744177664) ≤ rv (sumQ (fun j => m (k - j)) k) - M ∧ rv (sumQ (fun j => m (k - j)) k) - M ≤ M / 70368744177664 := by
  have fj := sumQ_fin k fa
  have e1 : M = sumR (fun j => rv (fabs (m j))) k := by
    rw [hM]; exact sumR_congr k fun j hj => ((rv_abs (fj j hj)).2.1 (hm j hj)).symm
  have e2 : M = sumR (fun j => rv (fabs (m (k - j)))) k := by rw [e1]; exact (sumR_back (fun j => rv (fabs (m j))) k).symm
  have e3 : M = sumR (fun j => rv (m (k - j))) k := by rw [hM]; exact (sumR_back (fun j => rv (m j)) k).symm
  obtain ⟨a0, _, _, a1, a2⟩ := sums_near hk fa e1 hM
  obtain ⟨_, _, _, b1, b2⟩ := sums_near hk fb e2 e3
  exact ⟨a0, a1, a2, b1, b2⟩
theorem cf_sumQ {F : Nat → Nat} {k : Nat} (h : ∀ j, j ≤ k → CF (F j)) : CF (sumQ F k) := by
  cases k with
  | zero => exact h 0 (Nat.le_refl 0)
  | succ k => exact CF.add _ _
/-- The masses in the opposite order weigh nearly as much. -/
theorem near_mass {m : Nat → Nat} {k : Nat} (hk : k ≤ 64) (cm : ∀ j, j ≤ k → CF (m j)) (fa : fin (sumQ m k) = true) (fb : fin (sumQ (fun j => m (k - j)) k) = true) (hm : ∀ j, j ≤ k → 0 ≤ rv (m j)) (ha : 1 / 1267650600228229401496703205376 ≤ rv (sumQ m k)) : fle (fabs (fsub (sumQ m k) (sumQ (fun j => m (k - j)) k))) (fmul 4427038433705197568 (fabs (sumQ m k))) = true := by
  obtain ⟨M0, a1, a2, b1, b2⟩ := mass_near hk fa fb hm rfl
  have e9 := eta_900
  have cb : CF (sumQ (fun j => m (k - j)) k) := cf_sumQ fun j hj => cm _ (by omega)
  generalize sumR (fun j => rv (m j)) k = M at *
  exact nearly_pos cb.lt fa fb (by grind) (by grind) (by grind) (by grind) (by grind)
/-- The centre in the opposite order is nearly the same. -/
theorem near_centre {m c : Nat → Nat} {k w : Nat} (hk : k ≤ 63) (fa : fin (sumQ m k) = true) (fb : fin (sumQ (fun j => m (k - j)) k) = true) (hm : ∀ j, j ≤ k → 0 ≤ rv (m j)) (ha : 1 / 1267650600228229401496703205376 ≤ rv (sumQ m k))
    (fx : fin (sumQ (fun j => fmul (m j) (c j)) k) = true) (fy : fin (sumQ (fun j => fmul (m (k - j)) (c (k - j))) k) = true) (fw : fin w = true) (hc : ∀ j, j ≤ k → rv (fabs (c j)) ≤ rv w) (w0 : eta * 1361129467683753853853498429727072845824 ≤ rv w) (w9 : rv w ≤ 2199023255552) :
    fle (fabs (fsub (fdiv (sumQ (fun j => fmul (m j) (c j)) k) (sumQ m k)) (fdiv (sumQ (fun j => fmul (m (k - j)) (c (k - j))) k) (sumQ (fun j => m (k - j)) k)))) (fmul 4427038433705197568 (fabs w)) = true := by
  obtain ⟨M0, a1, a2, b1, b2⟩ := mass_near (by omega) fa fb hm rfl
  have e0 := eta_pos
  have e9 := eta_900
  have bg := big_800
  have ew : rv (fabs w) = rv w := (rv_abs fw).2.1 (by grind)
  obtain ⟨A, hA⟩ : ∃ A, A = sumR (fun j => rv (fabs (fmul (m j) (c j)))) k := ⟨_, rfl⟩
  obtain ⟨T, hT⟩ : ∃ T, T = sumR (fun j => rv (fmul (m j) (c j))) k := ⟨_, rfl⟩
  obtain ⟨A0, t1, t2, x1, x2⟩ := sums_near (F := fun j => fmul (m j) (c j)) (by omega) fx hA hT
  obtain ⟨_, _, _, y1, y2⟩ := sums_near (F := fun j => fmul (m (k - j)) (c (k - j))) (A := A) (T := T) (by omega) fy (by rw [hA]; exact (sumR_back (fun j => rv (fabs (fmul (m j) (c j)))) k).symm) (by rw [hT]; exact (sumR_back (fun j => rv (fmul (m j) (c j))) k).symm)
  have fxj := sumQ_fin k fx
  have hX : ∀ j, j ≤ k → rv (fabs (fmul (m j) (c j))) ≤ (rv w + rv w / 9007199254740992) * rv (m j) + eta := by
    intro j hj
    have fp := fxj j hj
    obtain ⟨fm, fc⟩ := fin_mul fp
    obtain ⟨l1, l2, l3⟩ := abs_le fc
    have hcj := hc j hj
    have p1 := Rat.mul_nonneg (hm j hj) (show 0 ≤ rv w - rv (c j) by grind)
    have p2 := Rat.mul_nonneg (hm j hj) (show 0 ≤ rv w + rv (c j) by grind)
    have q1 : rv (m j) * (rv w - rv (c j)) = rv (m j) * rv w - rv (m j) * rv (c j) := by grind
    have q2 : rv (m j) * (rv w + rv (c j)) = rv (m j) * rv w + rv (m j) * rv (c j) := by grind
    rw [q1] at p1; rw [q2] at p2
    obtain ⟨r1, r2⟩ := rv_mul' (B := rv (m j) * rv w) fm fc fp (by grind) (by grind)
    have q3 : (rv w + rv w / 9007199254740992) * rv (m j) + eta = rv (m j) * rv w + rv (m j) * rv w / 9007199254740992 + eta := by grind
    rw [q3]
    generalize rv (m j) * rv w = P at *
    generalize rv (m j) * rv (c j) = Q at *
    exact abs_bound fp (by grind) (by grind)
  have hAM := sumR_le k hX
  rw [← hA, sumR_lin] at hAM
  have k63 : ((k : Nat) : Rat) ≤ 63 := by exact_mod_cast hk
  have pk := Rat.mul_nonneg (show 0 ≤ 63 - ((k : Nat) : Rat) by grind) (show 0 ≤ eta by grind)
  have ek : (63 - ((k : Nat) : Rat)) * eta = 63 * eta - ((k : Nat) : Rat) * eta := by grind
  rw [ek] at pk
  generalize ((k : Nat) : Rat) * eta = KE at *
  generalize hMM : sumR (fun j => rv (m j)) k = M at *
  have q4 : (rv w + rv w / 9007199254740992) * M = rv w * M + rv w * M / 9007199254740992 := by grind
  rw [q4] at hAM
  have ca : CF (sumQ (fun j => m (k - j)) k) ∨ True := .inr trivial
  generalize hxe : sumQ (fun j => fmul (m j) (c j)) k = x at *
  generalize hye : sumQ (fun j => fmul (m (k - j)) (c (k - j))) k = y at *
  generalize hae : sumQ m k = a at *
  generalize hbe : sumQ (fun j => m (k - j)) k = b at *
  have pM := Rat.mul_nonneg (show 0 ≤ 2199023255552 - rv w by grind) M0
  have qM : (2199023255552 - rv w) * M = 2199023255552 * M - rv w * M := by grind
  rw [qM] at pM
  have pW := Rat.mul_nonneg (show 0 ≤ rv w by grind) (show 0 ≤ 101 / 100 * rv a - M by grind)
  have qW : rv w * (101 / 100 * rv a - M) = 101 / 100 * (rv w * rv a) - rv w * M := by grind
  rw [qW] at pW
  have WM0 := Rat.mul_nonneg (show 0 ≤ rv w by grind) M0
  have ax := abs_bound (B := A + A / 70368744177664) fx (by grind) (by grind)
  have ay := abs_bound (B := A + A / 70368744177664) fy (by grind) (by grind)
  have aa : 0 < rv a := by grind
  have bb : 0 < rv b := by grind
  obtain ⟨f1, c1, c2⟩ := rv_quo (C := 4398046511104) fx fa aa (by grind) (by grind) (by grind)
  obtain ⟨f2, d1, d2⟩ := rv_quo (C := 4398046511104) fy fb bb (by grind) (by grind) (by grind)
  obtain ⟨l1, l2, l3⟩ := abs_le f2
  have lc := (abs_cases f2).2.2
  have cd : CF (fdiv y b) := CF.div _ _
  generalize fdiv x a = p at *
  generalize fdiv y b = q at *
  -- the difference of the two weights
  have D1 := Rat.mul_nonneg l3 (show 0 ≤ rv b * 3 / 70368744177664 - (rv a - rv b) by grind)
  have D2 := Rat.mul_nonneg l3 (show 0 ≤ rv b * 3 / 70368744177664 + (rv a - rv b) by grind)
  have eD1 : rv (fabs q) * (rv b * 3 / 70368744177664 - (rv a - rv b)) = rv (fabs q) * rv b * 3 / 70368744177664 - (rv (fabs q) * rv a - rv (fabs q) * rv b) := by grind
  have eD2 : rv (fabs q) * (rv b * 3 / 70368744177664 + (rv a - rv b)) = rv (fabs q) * rv b * 3 / 70368744177664 + (rv (fabs q) * rv a - rv (fabs q) * rv b) := by grind
  rw [eD1] at D1; rw [eD2] at D2
  have E1 := Rat.mul_nonneg (show 0 ≤ eta by grind) (show 0 ≤ 2 * rv a - rv b by grind)
  have E2 := Rat.mul_nonneg (show 0 ≤ eta by grind) (show 0 ≤ rv a * 1267650600228229401496703205376 - 1 by grind)
  have E3 := Rat.mul_nonneg (show 0 ≤ rv w - eta * 1361129467683753853853498429727072845824 by grind) (show 0 ≤ rv a by grind)
  have E4 := Rat.mul_nonneg (show 0 ≤ eta by grind) (show 0 ≤ rv a by grind)
  have eE1 : eta * (2 * rv a - rv b) = 2 * (eta * rv a) - eta * rv b := by grind
  have eE2 : eta * (rv a * 1267650600228229401496703205376 - 1) = eta * rv a * 1267650600228229401496703205376 - eta := by grind
  have eE3 : (rv w - eta * 1361129467683753853853498429727072845824) * rv a = rv w * rv a - eta * rv a * 1361129467683753853853498429727072845824 := by grind
  rw [eE1] at E1; rw [eE2] at E2; rw [eE3] at E3
  have hq : (rv q * rv b = rv (fabs q) * rv b ∧ rv q * rv a = rv (fabs q) * rv a) ∨ (rv q * rv b = -(rv (fabs q) * rv b) ∧ rv q * rv a = -(rv (fabs q) * rv a)) := by
    rcases lc with h | h
    · left; rw [← h]; exact ⟨rfl, rfl⟩
    · right; rw [h]; constructor <;> grind
  have QB0 := Rat.mul_nonneg l3 (show 0 ≤ rv b by grind)
  have G1 : (rv p - rv q) * rv a ≤ rv w / 4398046511104 * rv a := by
    have e1 : (rv p - rv q) * rv a = rv p * rv a - rv q * rv a := by grind
    have e2 : rv w / 4398046511104 * rv a = rv w * rv a / 4398046511104 := by grind
    rw [e1, e2]
    clear eD1 eD2 eE1 eE2 eE3 qM qW q4 hX hc hm fxj hT hA hMM hxe hye hae hbe ca
    generalize rv p * rv a = PA at *
    generalize rv q * rv a = QA at *
    generalize rv q * rv b = QB at *
    generalize rv (fabs q) * rv a = RA at *
    generalize rv (fabs q) * rv b = RB at *
    generalize rv w * rv a = WA at *
    generalize rv w * M = WM at *
    generalize eta * rv a = EA at *
    generalize eta * rv b = EB at *
    rcases hq with ⟨h1, h2⟩ | ⟨h1, h2⟩ <;> grind
  have G2 : (-(rv w / 4398046511104)) * rv a ≤ (rv p - rv q) * rv a := by
    have e1 : (rv p - rv q) * rv a = rv p * rv a - rv q * rv a := by grind
    have e2 : (-(rv w / 4398046511104)) * rv a = -(rv w * rv a / 4398046511104) := by grind
    rw [e1, e2]
    clear eD1 eD2 eE1 eE2 eE3 qM qW q4 hX hc hm fxj hT hA hMM hxe hye hae hbe ca G1
    generalize rv p * rv a = PA at *
    generalize rv q * rv a = QA at *
    generalize rv q * rv b = QB at *
    generalize rv (fabs q) * rv a = RA at *
    generalize rv (fabs q) * rv b = RB at *
    generalize rv w * rv a = WA at *
    generalize rv w * M = WM at *
    generalize eta * rv a = EA at *
    generalize eta * rv b = EB at *
    rcases hq with ⟨h1, h2⟩ | ⟨h1, h2⟩ <;> grind
  exact nearly_of cd.lt f1 f2 fw ew (by grind) (by grind) (cancel_le aa G2) (cancel_le aa G1)
theorem rv_mul_pos {a b : Nat} (fa : fin a = true) (fb : fin b = true) (ha : 0 ≤ rv a) (hb : 0 ≤ rv b) (fm : fin (fmul a b) = true) : 0 ≤ rv (fmul a b) := by
  by_cases h : rv a * rv b = 0
  · rw [(rv_mul_zero fa fb h).2]; grind
  · have ha' : rv a ≠ 0 := by intro h'; rw [h'] at h; grind
    have hb' : rv b ≠ 0 := by intro h'; rw [h'] at h; grind
    have sgn0 : ∀ {z : Nat}, fin z = true → 0 ≤ rv z → rv z ≠ 0 → sgnOf z = false := by
      intro z fz h1 h2
      have := rv_sgn fz
      obtain ⟨_, _, h3⟩ := abs_le fz
      cases hs : sgnOf z
      · rfl
      · rw [hs] at this; simp only [if_true] at this; grind
    have s1 : sgnOf (fmul a b) = false := by
      rw [fmul_fin fa fb, sgn_word _ (RN_le _ _), sgn0 fa ha ha', sgn0 fb hb hb']; rfl
    have := rv_sgn fm
    obtain ⟨_, _, h3⟩ := abs_le fm
    rw [s1] at this; simp only [Bool.false_eq_true, if_false] at this
    rw [this]; exact h3
theorem eta_big : eta * 1361129467683753853853498429727072845824 ≤ rv 553942754166571008 := by
  have hu := uu_pos
  have hv : sval 553942754166571008 = 23945242826029513411849172299223580994042798784118784 := by decide +kernel
  have h1 := rv_mul_uu 553942754166571008
  rw [hv] at h1
  have h2 : eta * (2 * uu) = 1 := by
    unfold eta; rw [Rat.div_def, Rat.one_mul]; exact Rat.inv_mul_cancel _ (by grind)
  have k : ((23945242826029513411849172299223580994042798784118784 : Int) : Rat) = 23945242826029513411849172299223580994042798784118784 := rfl
  rw [k] at h1
  apply cancel_le hu
  grind
/-- A quotient that is a number is one of a number. -/
theorem fin_div {a b : Nat} (fb : fin b = true) (h : fin (fdiv a b) = true) : fin a = true := by
  have hq : fin qnan = false := by decide
  have hw : ∀ s, fin (Ieee.double.write (.infinity s)) = false := by intro s; cases s <;> decide
  cases na : nanb a
  · rcases inf_or na with fa | ia
    · exact fa
    · exfalso
      obtain ⟨m, i, e, _⟩ := read_num fb
      unfold fdiv Ieee.Format.div at h; rw [e, read_inf ia] at h
      exact absurd ((hw _).symm.trans h) (by decide)
  · rw [fdiv_nan (.inl na), hq] at h; cases h
theorem add_inf {a : Nat} (fa : fin a = true) : fadd a 9218868437227405312 = 9218868437227405312 := by
  obtain ⟨m, i, e, _⟩ := read_num fa
  have e2 : double.read 9218868437227405312 = .infinity false := by decide
  unfold fadd Ieee.Format.add
  rw [e, e2]; rfl
/-- What something is added to is not less. -/
theorem not_less {I M q z : Nat} (fI : fin I = true) (I0 : 0 ≤ rv I) (fM : fin M = true) (M0 : 0 ≤ rv M) (fq : fin q = true) (q0 : 0 ≤ rv q) (fz : fin z = true) (hz : sval z = sval I) : flt (fadd I (fmul M q)) z = false := by
  have hu := uu_pos
  have hinf : flt 9218868437227405312 z = false := by
    have hk := fin_iff.1 fz
    have hk2 := key_abs z
    rw [flt_key (by decide) (fin_not_nan fz), decide_eq_false_iff_not]
    have : key 9218868437227405312 = 9218868437227405312 := by decide
    omega
  have ez : rv z = rv I := by unfold rv; rw [hz]
  have h1 : (0 : Rat) ≤ (sval I : Rat) := by rw [rv_mul_uu]; exact Rat.mul_nonneg I0 (Rat.le_of_lt hu)
  have h1' : 0 ≤ sval I := Rat.intCast_le_intCast.1 h1
  cases ht : fin (fmul M q)
  · have e := fmul_fin fM fq
    have hr := RN_le (magOf (rungOf M) * magOf (rungOf q)) 1074
    have hr2 : RN (magOf (rungOf M) * magOf (rungOf q)) 1074 = 9218868437227405312 := by
      by_cases hlt : RN (magOf (rungOf M) * magOf (rungOf q)) 1074 < 9218868437227405312
      · rw [e, fin_word _ hlt] at ht; cases ht
      · omega
    have nz : magOf (rungOf M) * magOf (rungOf q) ≠ 0 := by
      intro h0; rw [h0, RN_zero] at hr2; omega
    have sgn0 : ∀ {x : Nat}, fin x = true → 0 ≤ rv x → magOf (rungOf x) ≠ 0 → sgnOf x = false := by
      intro x fx x0 xm
      cases hs : sgnOf x
      · rfl
      · exfalso
        have h2 : (0 : Rat) ≤ (sval x : Rat) := by rw [rv_mul_uu]; exact Rat.mul_nonneg x0 (Rat.le_of_lt hu)
        have h2' : 0 ≤ sval x := Rat.intCast_le_intCast.1 h2
        unfold sval at h2'; rw [if_pos hs] at h2'; omega
    have m1 : magOf (rungOf M) ≠ 0 := fun h0 => nz (by rw [h0, Nat.zero_mul])
    have m2 : magOf (rungOf q) ≠ 0 := fun h0 => nz (by rw [h0, Nat.mul_zero])
    rw [e, hr2, sgn0 fM M0 m1, sgn0 fq q0 m2]
    have : double.word (false ^^ false) 9218868437227405312 = 9218868437227405312 := by decide
    rw [this, add_inf fI]; exact hinf
  · have t0 := rv_mul_pos fM fq M0 q0 ht
    have h2 : (0 : Rat) ≤ (sval (fmul M q) : Rat) := by rw [rv_mul_uu]; exact Rat.mul_nonneg t0 (Rat.le_of_lt hu)
    have h2' : 0 ≤ sval (fmul M q) := Rat.intCast_le_intCast.1 h2
    have e := fadd_fin fI ht
    have mI := sval_abs I
    have rI := fin_iff.1 fI
    have ge : rungOf I ≤ RN (sval I + sval (fmul M q)).natAbs 0 := by
      have h3 : magOf (rungOf I) ≤ (sval I + sval (fmul M q)).natAbs := by omega
      have h4 := RN_mono h3 0
      have h5 := RN_exact (r := rungOf I) (by omega) 0
      rw [Nat.pow_zero, Nat.mul_one] at h5
      omega
    cases hf : fin (fadd I (fmul M q))
    · have hr := RN_le (sval I + sval (fmul M q)).natAbs 0
      have hr2 : RN (sval I + sval (fmul M q)).natAbs 0 = 9218868437227405312 := by
        by_cases hlt : RN (sval I + sval (fmul M q)).natAbs 0 < 9218868437227405312
        · rw [e, fin_word _ hlt] at hf; cases hf
        · omega
      have nz : sval I + sval (fmul M q) ≠ 0 := by
        intro h0; rw [h0, Int.natAbs_zero, RN_zero] at hr2; omega
      rw [e, hr2, if_neg nz, show decide (sval I + sval (fmul M q) < 0) = false by simp; omega]
      exact hinf
    · rw [flt_rv hf fz, ez]
      have hs : sval I ≤ sval (fadd I (fmul M q)) := by
        rw [e, sval_word _ (RN_le _ _)]
        have hm := magOf_le_iff.2 ge
        by_cases h0 : sval I + sval (fmul M q) = 0
        · have : sval I = 0 := by omega
          rw [h0, Int.natAbs_zero, RN_zero, this]
          have m0 : magOf 0 = 0 := by decide
          rw [m0]
          split <;> simp
        · rw [if_neg h0, if_neg (by simp; omega)]; omega
      have h5 : (sval I : Rat) ≤ (sval (fadd I (fmul M q)) : Rat) := Rat.intCast_le_intCast.2 hs
      rw [rv_mul_uu, rv_mul_uu] at h5
      have h6 : rv I ≤ rv (fadd I (fmul M q)) := cancel_le hu h5
      rw [decide_eq_true h6]; rfl
end Go.Sim
