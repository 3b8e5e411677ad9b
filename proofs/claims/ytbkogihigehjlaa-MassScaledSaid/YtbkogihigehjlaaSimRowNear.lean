/- Sums and products of usual floats, with their errors: what a row's speed, weight and push come to. -/
import Derived.Test.YtbkogihigehjlaaSimQuo
set_option linter.unusedVariables false
set_option linter.unusedSimpArgs false
namespace Go.Sim
theorem big_800 : (6668014432879854274079851790721257797144758322315908160396257811764037237817632071521432200871554290742929910593433240445888801654119365080363356052330830046095157579514014558463078285911814024728965016135886601981690748037476461291163877376 : Rat) ≤ big := by
  have h := lit_big (a := 8210062120696414208) (by decide) (by decide +kernel)
  have e : rv 8210062120696414208 = ((6668014432879854274079851790721257797144758322315908160396257811764037237817632071521432200871554290742929910593433240445888801654119365080363356052330830046095157579514014558463078285911814024728965016135886601981690748037476461291163877376 : Nat) : Rat) / ((1 : Nat) : Rat) := rv_lit (by decide) (by decide) (by intro d hd; subst hd; decide +kernel)
  rw [e] at h
  have k1 : ((6668014432879854274079851790721257797144758322315908160396257811764037237817632071521432200871554290742929910593433240445888801654119365080363356052330830046095157579514014558463078285911814024728965016135886601981690748037476461291163877376 : Nat) : Rat) = 6668014432879854274079851790721257797144758322315908160396257811764037237817632071521432200871554290742929910593433240445888801654119365080363356052330830046095157579514014558463078285911814024728965016135886601981690748037476461291163877376 := rfl
  have k2 : ((1 : Nat) : Rat) = 1 := rfl
  rw [k1, k2] at h
  grind
theorem eta_900 : eta ≤ 1 / 8452712498170643941637436558664265704301557216577944354047371344426782440907597751590676094202515006314790319892114058862117560952042968596008623655407033230534186943984081346699704282822823056848387726531379014466368452684024987821414350380272583623832617294363807973376 := by
  have h := eta_le (a := 553942754166571008) (by decide) (by decide +kernel)
  have e : rv 553942754166571008 = ((1 : Nat) : Rat) / ((8452712498170643941637436558664265704301557216577944354047371344426782440907597751590676094202515006314790319892114058862117560952042968596008623655407033230534186943984081346699704282822823056848387726531379014466368452684024987821414350380272583623832617294363807973376 : Nat) : Rat) := rv_lit (by decide) (by decide) (by intro d hd; subst hd; decide +kernel)
  rw [e] at h
  have k1 : ((8452712498170643941637436558664265704301557216577944354047371344426782440907597751590676094202515006314790319892114058862117560952042968596008623655407033230534186943984081346699704282822823056848387726531379014466368452684024987821414350380272583623832617294363807973376 : Nat) : Rat) = 8452712498170643941637436558664265704301557216577944354047371344426782440907597751590676094202515006314790319892114058862117560952042968596008623655407033230534186943984081346699704282822823056848387726531379014466368452684024987821414350380272583623832617294363807973376 := rfl
  have k2 : ((1 : Nat) : Rat) = 1 := rfl
  rw [k1, k2] at h
  have := eta_pos
  grind
/-- A rational without its sign. -/
theorem rabs (x : Rat) : ∃ t : Rat, 0 ≤ t ∧ -t ≤ x ∧ x ≤ t ∧ (t = x ∨ t = -x) := by
  rcases Rat.le_total (a := 0) (b := x) with h | h
  · exact ⟨x, h, by grind, by grind, .inl rfl⟩
  · exact ⟨-x, by grind, by grind, by grind, .inr rfl⟩
theorem abs_le {a : Nat} (fa : fin a = true) : -(rv (fabs a)) ≤ rv a ∧ rv a ≤ rv (fabs a) ∧ 0 ≤ rv (fabs a) := by
  obtain ⟨_, h0, h⟩ := abs_cases fa
  rcases h with h | h <;> refine ⟨?_, ?_, h0⟩ <;> grind
theorem abs_bound {a : Nat} {B : Rat} (fa : fin a = true) (h1 : -B ≤ rv a) (h2 : rv a ≤ B) : rv (fabs a) ≤ B := by
  obtain ⟨_, h0, h⟩ := abs_cases fa
  rcases h with h | h <;> grind
def U40 (x : Nat) : Prop := fin x = true ∧ Us (1 / 1099511627776) 1099511627776 (rv (fabs x))
theorem U40.bound {x : Nat} (h : U40 x) : 0 ≤ rv (fabs x) ∧ rv (fabs x) ≤ 1099511627776 := ⟨h.2.nonneg (by grind), h.2.le (by grind)⟩
/-- A product of two usual floats. -/
theorem us_mul {a b : Nat} {lo hi : Rat} (fa : fin a = true) (fb : fin b = true) (h : Us lo hi (rv (fabs a) * rv (fabs b))) (l1 : 1 / 2037035976334486086268445688409378161051468393665936250636140449354381299763336706183397376 ≤ lo) (l2 : hi ≤ 2037035976334486086268445688409378161051468393665936250636140449354381299763336706183397376) (l3 : 0 ≤ hi) :
    fin (fmul a b) = true ∧ 0 ≤ rv (fabs a) * rv (fabs b) ∧ rv (fabs a) * rv (fabs b) ≤ hi ∧ -(rv (fabs a) * rv (fabs b) / 4503599627370496) ≤ rv (fmul a b) - rv a * rv b ∧ rv (fmul a b) - rv a * rv b ≤ rv (fabs a) * rv (fabs b) / 4503599627370496 := by
  have bg := big_800
  have e9 := eta_900
  obtain ⟨a1, a2, a0⟩ := abs_le fa
  obtain ⟨b1, b2, b0⟩ := abs_le fb
  have X0 := h.nonneg (by grind)
  have X9 := h.le (by grind)
  have m := mul_le a1 a2 b1 b2
  have hz : rv (fabs a) * rv (fabs b) = 0 → rv a * rv b = 0 := by intro h; grind
  have he : rv (fabs a) * rv (fabs b) ≠ 0 → eta ≤ rv (fabs a) * rv (fabs b) / 1152921504606846976 := by
    intro hn
    rcases h with h | ⟨h, _⟩
    · exact absurd h hn
    · grind
  obtain ⟨f, e1, e2⟩ := mul_w (B := rv (fabs a) * rv (fabs b)) (W := rv (fabs a) * rv (fabs b)) fa fb (by grind) m.1 m.2 ⟨hz, he⟩
  generalize rv (fabs a) * rv (fabs b) = X at *
  refine ⟨f, X0, X9, ?_, ?_⟩ <;> grind
theorem u40_mul {a b : Nat} (ua : U40 a) (ub : U40 b) :
    fin (fmul a b) = true ∧ 0 ≤ rv (fabs a) * rv (fabs b) ∧ rv (fabs a) * rv (fabs b) ≤ 1208925819614629174706176 ∧ -(rv (fabs a) * rv (fabs b) / 4503599627370496) ≤ rv (fmul a b) - rv a * rv b ∧ rv (fmul a b) - rv a * rv b ≤ rv (fabs a) * rv (fabs b) / 4503599627370496 := by
  have h := us_mul (lo := 1 / 1099511627776 * (1 / 1099511627776)) (hi := 1099511627776 * 1099511627776) ua.1 ub.1 (Us.mul ua.2 ub.2 (by grind) (by grind)) (by grind) (by grind) (by grind)
  refine ⟨h.1, h.2.1, ?_, h.2.2.2⟩
  have := h.2.2.1
  grind
/-- Six floats summed as a row's speed is. -/
theorem six_sum {p1 p2 p3 p4 p5 p6 : Nat} {A : Rat} (f1 : fin p1 = true) (f2 : fin p2 = true) (f3 : fin p3 = true) (f4 : fin p4 = true) (f5 : fin p5 = true) (f6 : fin p6 = true)
    (hA : rv (fabs p1) + rv (fabs p2) + rv (fabs p3) + rv (fabs p4) + rv (fabs p5) + rv (fabs p6) ≤ A) (hb : A * 4 ≤ big) :
    fin (fadd (fadd (fadd (fadd p1 p2) p3) (fadd p4 p5)) p6) = true ∧ -(A / 562949953421312) ≤ rv (fadd (fadd (fadd (fadd p1 p2) p3) (fadd p4 p5)) p6) - (rv p1 + rv p2 + rv p3 + rv p4 + rv p5 + rv p6) ∧
      rv (fadd (fadd (fadd (fadd p1 p2) p3) (fadd p4 p5)) p6) - (rv p1 + rv p2 + rv p3 + rv p4 + rv p5 + rv p6) ≤ A / 562949953421312 := by
  obtain ⟨a1, b1, c1⟩ := abs_le f1
  obtain ⟨a2, b2, c2⟩ := abs_le f2
  obtain ⟨a3, b3, c3⟩ := abs_le f3
  obtain ⟨a4, b4, c4⟩ := abs_le f4
  obtain ⟨a5, b5, c5⟩ := abs_le f5
  obtain ⟨a6, b6, c6⟩ := abs_le f6
  generalize rv (fabs p1) = z1 at *
  generalize rv (fabs p2) = z2 at *
  generalize rv (fabs p3) = z3 at *
  generalize rv (fabs p4) = z4 at *
  generalize rv (fabs p5) = z5 at *
  generalize rv (fabs p6) = z6 at *
  obtain ⟨g1, x1, y1⟩ := rv_add (B := A) f1 f2 (by grind) (by grind) (by grind)
  obtain ⟨g2, x2, y2⟩ := rv_add (B := 2 * A) g1 f3 (by grind) (by grind) (by grind)
  obtain ⟨g3, x3, y3⟩ := rv_add (B := A) f4 f5 (by grind) (by grind) (by grind)
  obtain ⟨g4, x4, y4⟩ := rv_add (B := 2 * A) g2 g3 (by grind) (by grind) (by grind)
  obtain ⟨g5, x5, y5⟩ := rv_add (B := 2 * A) g4 f6 (by grind) (by grind) (by grind)
  refine ⟨g5, ?_, ?_⟩ <;> grind
/-- Six floats' amounts summed as 'goes' does. -/
theorem six_goes {p1 p2 p3 p4 p5 p6 : Nat} {A : Rat} (f1 : fin p1 = true) (f2 : fin p2 = true) (f3 : fin p3 = true) (f4 : fin p4 = true) (f5 : fin p5 = true) (f6 : fin p6 = true)
    (hA : A = rv (fabs p1) + rv (fabs p2) + rv (fabs p3) + rv (fabs p4) + rv (fabs p5) + rv (fabs p6)) (hb : A * 4 ≤ big) :
    fin (fadd (fadd (fadd (fabs p1) (fabs p2)) (fabs p3)) (fadd (fadd (fabs p4) (fabs p5)) (fabs p6))) = true ∧ -(A / 562949953421312) ≤ rv (fadd (fadd (fadd (fabs p1) (fabs p2)) (fabs p3)) (fadd (fadd (fabs p4) (fabs p5)) (fabs p6))) - A ∧
      rv (fadd (fadd (fadd (fabs p1) (fabs p2)) (fabs p3)) (fadd (fadd (fabs p4) (fabs p5)) (fabs p6))) - A ≤ A / 562949953421312 := by
  obtain ⟨_, _, c1⟩ := abs_le f1
  obtain ⟨_, _, c2⟩ := abs_le f2
  obtain ⟨_, _, c3⟩ := abs_le f3
  obtain ⟨_, _, c4⟩ := abs_le f4
  obtain ⟨_, _, c5⟩ := abs_le f5
  obtain ⟨_, _, c6⟩ := abs_le f6
  have h1 := (abs_cases f1).1
  have h2 := (abs_cases f2).1
  have h3 := (abs_cases f3).1
  have h4 := (abs_cases f4).1
  have h5 := (abs_cases f5).1
  have h6 := (abs_cases f6).1
  obtain ⟨g1, x1, y1⟩ := rv_add (B := A) h1 h2 (by grind) (by grind) (by grind)
  obtain ⟨g2, x2, y2⟩ := rv_add (B := 2 * A) g1 h3 (by grind) (by grind) (by grind)
  obtain ⟨g3, x3, y3⟩ := rv_add (B := A) h4 h5 (by grind) (by grind) (by grind)
  obtain ⟨g4, x4, y4⟩ := rv_add (B := 2 * A) g3 h6 (by grind) (by grind) (by grind)
  obtain ⟨g5, x5, y5⟩ := rv_add (B := 2 * A) g2 g4 (by grind) (by grind) (by grind)
  refine ⟨g5, ?_, ?_⟩ <;> grind
/-- m * (x * x + y * y). -/
theorem way_weight {m x y : Nat} (um : U40 m) (ux : U40 x) (uy : U40 y) (hm : 0 ≤ rv m) :
    fin (fmul m (fadd (fmul x x) (fmul y y))) = true ∧ 0 ≤ rv m * (rv x * rv x + rv y * rv y) ∧ rv m * (rv x * rv x + rv y * rv y) ≤ 5316911983139663491615228241121378304 ∧ (rv m * (rv x * rv x + rv y * rv y) = 0 ∨ 1 / 2658455991569831745807614120560689152 ≤ rv m * (rv x * rv x + rv y * rv y)) ∧
      -(rv m * (rv x * rv x + rv y * rv y) / 1125899906842624) ≤ rv (fmul m (fadd (fmul x x) (fmul y y))) - rv m * (rv x * rv x + rv y * rv y) ∧ rv (fmul m (fadd (fmul x x) (fmul y y))) - rv m * (rv x * rv x + rv y * rv y) ≤ rv m * (rv x * rv x + rv y * rv y) / 1125899906842624 := by
  have bg := big_800
  obtain ⟨f1, p0, p9, e1, e2⟩ := u40_mul ux ux
  obtain ⟨f2, q0, q9, g1, g2⟩ := u40_mul uy uy
  have sx : rv x * rv x = rv (fabs x) * rv (fabs x) := by obtain ⟨_, _, h⟩ := abs_cases ux.1; rcases h with h | h <;> rw [h] <;> grind
  have sy : rv y * rv y = rv (fabs y) * rv (fabs y) := by obtain ⟨_, _, h⟩ := abs_cases uy.1; rcases h with h | h <;> rw [h] <;> grind
  have xz : Us (1 / 1208925819614629174706176) 1208925819614629174706176 (rv (fabs x) * rv (fabs x)) := by have := Us.mul ux.2 ux.2 (by grind) (by grind); rcases this with h | ⟨h, h'⟩; exact .inl h; exact .inr ⟨by grind, by grind⟩
  have yz : Us (1 / 1208925819614629174706176) 1208925819614629174706176 (rv (fabs y) * rv (fabs y)) := by have := Us.mul uy.2 uy.2 (by grind) (by grind); rcases this with h | ⟨h, h'⟩; exact .inl h; exact .inr ⟨by grind, by grind⟩
  rw [sx] at e1 e2
  rw [sy] at g1 g2
  rw [sx, sy]
  generalize rv (fabs x) * rv (fabs x) = X at *
  generalize rv (fabs y) * rv (fabs y) = Y at *
  obtain ⟨f3, h1, h2⟩ := rv_add (B := 2 * (X + Y)) f1 f2 (by grind) (by grind) (by grind)
  have hs : -((X + Y) / 2000000000000000) ≤ rv (fadd (fmul x x) (fmul y y)) - (X + Y) ∧ rv (fadd (fmul x x) (fmul y y)) - (X + Y) ≤ (X + Y) / 2000000000000000 := by constructor <;> grind
  generalize hS : fadd (fmul x x) (fmul y y) = S at *
  have eS : rv (fabs S) = rv S := (rv_abs f3).2.1 (by grind)
  have em : rv (fabs m) = rv m := (rv_abs um.1).2.1 hm
  have uS : Us (1 / 2417851639229258349412352) 4835703278458516698824704 (rv (fabs S)) := by
    rw [eS]
    rcases xz with h | ⟨h, h'⟩
    · rcases yz with k | ⟨k, k'⟩
      · left; grind
      · right; constructor <;> grind
    · right
      rcases yz with k | ⟨k, k'⟩ <;> constructor <;> grind
  obtain ⟨f4, z0, z9, k1, k2⟩ := us_mul (lo := 1 / 1099511627776 * (1 / 2417851639229258349412352)) (hi := 1099511627776 * 4835703278458516698824704) um.1 f3 (Us.mul um.2 uS (by grind) (by grind)) (by grind) (by grind) (by grind)
  rw [em, eS] at k1 k2 z0 z9
  have m9 := um.bound.2
  rw [em] at m9
  have w1 := mul_le (A := rv m) (C := (X + Y) / 2000000000000000) (show -rv m ≤ rv m by grind) (show rv m ≤ rv m by grind) hs.1 hs.2
  have w0 := Rat.mul_nonneg hm (show 0 ≤ X + Y by grind)
  have w9 := mul_le (A := 1099511627776) (C := 2 * 1208925819614629174706176) (x := rv m) (y := X + Y) (by grind) (by grind) (by grind) (by grind)
  have e : rv m * (rv S - (X + Y)) = rv m * rv S - rv m * (X + Y) := by grind
  have e' : rv m * ((X + Y) / 2000000000000000) = rv m * (X + Y) / 2000000000000000 := by grind
  rw [e, e'] at w1
  refine ⟨f4, w0, by grind, ?_, ?_, ?_⟩
  · have um2 := um.2
    rw [em] at um2
    rcases um2 with h | ⟨h, _⟩
    · left; rw [h]; grind
    · rcases xz with hx | ⟨hx, _⟩
      · rcases yz with hy | ⟨hy, _⟩
        · left; rw [hx, hy]; grind
        · right
          have := Rat.mul_nonneg (show 0 ≤ rv m - 1 / 1099511627776 by grind) (show 0 ≤ X + Y by grind)
          grind
      · right
        have := Rat.mul_nonneg (show 0 ≤ rv m - 1 / 1099511627776 by grind) (show 0 ≤ X + Y by grind)
        rcases yz with hy | ⟨hy, _⟩ <;> grind
  · generalize rv m * (X + Y) = Z at *
    generalize rv m * rv S = Z' at *
    grind
  · generalize rv m * (X + Y) = Z at *
    generalize rv m * rv S = Z' at *
    grind
/-- i * (t * t). -/
theorem turn_weight {m x : Nat} (um : U40 m) (ux : U40 x) (hm : 0 ≤ rv m) :
    fin (fmul m (fmul x x)) = true ∧ 0 ≤ rv m * (rv x * rv x) ∧ rv m * (rv x * rv x) ≤ 5316911983139663491615228241121378304 ∧ (rv m * (rv x * rv x) = 0 ∨ 1 / 2658455991569831745807614120560689152 ≤ rv m * (rv x * rv x)) ∧
      -(rv m * (rv x * rv x) / 1125899906842624) ≤ rv (fmul m (fmul x x)) - rv m * (rv x * rv x) ∧ rv (fmul m (fmul x x)) - rv m * (rv x * rv x) ≤ rv m * (rv x * rv x) / 1125899906842624 := by
  have bg := big_800
  obtain ⟨f1, p0, p9, e1, e2⟩ := u40_mul ux ux
  have sx : rv x * rv x = rv (fabs x) * rv (fabs x) := by obtain ⟨_, _, h⟩ := abs_cases ux.1; rcases h with h | h <;> rw [h] <;> grind
  have xz : Us (1 / 1208925819614629174706176) 1208925819614629174706176 (rv (fabs x) * rv (fabs x)) := by have := Us.mul ux.2 ux.2 (by grind) (by grind); rcases this with h | ⟨h, h'⟩; exact .inl h; exact .inr ⟨by grind, by grind⟩
  rw [sx] at e1 e2
  rw [sx]
  generalize rv (fabs x) * rv (fabs x) = X at *
  generalize hS : fmul x x = S at *
  have eS : rv (fabs S) = rv S := (rv_abs f1).2.1 (by grind)
  have em : rv (fabs m) = rv m := (rv_abs um.1).2.1 hm
  have uS : Us (1 / 2417851639229258349412352) 4835703278458516698824704 (rv (fabs S)) := by
    rw [eS]
    rcases xz with h | ⟨h, h'⟩
    · left; grind
    · right; constructor <;> grind
  obtain ⟨f4, z0, z9, k1, k2⟩ := us_mul (lo := 1 / 1099511627776 * (1 / 2417851639229258349412352)) (hi := 1099511627776 * 4835703278458516698824704) um.1 f1 (Us.mul um.2 uS (by grind) (by grind)) (by grind) (by grind) (by grind)
  rw [em, eS] at k1 k2 z0 z9
  have m9 := um.bound.2
  rw [em] at m9
  have w1 := mul_le (A := rv m) (C := X / 4503599627370496) (show -rv m ≤ rv m by grind) (show rv m ≤ rv m by grind) e1 e2
  have w0 := Rat.mul_nonneg hm p0
  have w9 := mul_le (A := 1099511627776) (C := 1208925819614629174706176) (x := rv m) (y := X) (by grind) (by grind) (by grind) (by grind)
  have e : rv m * (rv S - X) = rv m * rv S - rv m * X := by grind
  have e' : rv m * (X / 4503599627370496) = rv m * X / 4503599627370496 := by grind
  rw [e, e'] at w1
  refine ⟨f4, w0, by grind, ?_, ?_, ?_⟩
  · have um2 := um.2
    rw [em] at um2
    rcases um2 with h | ⟨h, _⟩
    · left; rw [h]; grind
    · rcases xz with hx | ⟨hx, _⟩
      · left; rw [hx]; grind
      · right
        have := Rat.mul_nonneg (show 0 ≤ rv m - 1 / 1099511627776 by grind) p0
        grind
  · generalize rv m * X = Z at *
    generalize rv m * rv S = Z' at *
    grind
  · generalize rv m * X = Z at *
    generalize rv m * rv S = Z' at *
    grind
/-- The weight of a row. -/
theorem weight_near {m x y i t m' x' y' i' t' : Nat} (um : U40 m) (ux : U40 x) (uy : U40 y) (ui : U40 i) (ut : U40 t) (um' : U40 m') (ux' : U40 x') (uy' : U40 y') (ui' : U40 i') (ut' : U40 t')
    (hm : 0 ≤ rv m) (hi : 0 ≤ rv i) (hm' : 0 ≤ rv m') (hi' : 0 ≤ rv i') {W w : Rat} (hW : W = rv m * (rv x * rv x + rv y * rv y) + rv i * (rv t * rv t) + rv m' * (rv x' * rv x' + rv y' * rv y') + rv i' * (rv t' * rv t'))
    (hw : w = rv (fadd (fadd (fadd (fmul m (fadd (fmul x x) (fmul y y))) (fmul i (fmul t t))) (fmul m' (fadd (fmul x' x') (fmul y' y')))) (fmul i' (fmul t' t')))) :
    fin (fadd (fadd (fadd (fmul m (fadd (fmul x x) (fmul y y))) (fmul i (fmul t t))) (fmul m' (fadd (fmul x' x') (fmul y' y')))) (fmul i' (fmul t' t'))) = true ∧ 0 ≤ W ∧ W ≤ 21267647932558653966460912964485513216 ∧ (W = 0 ∨ 1 / 2658455991569831745807614120560689152 ≤ W) ∧ -(W / 281474976710656) ≤ w - W ∧ w - W ≤ W / 281474976710656 := by
  have bg := big_800
  obtain ⟨f1, a0, a9, az, a1, a2⟩ := way_weight um ux uy hm
  obtain ⟨f2, b0, b9, bz, b1, b2⟩ := turn_weight ui ut hi
  obtain ⟨f3, c0, c9, cz, c1, c2⟩ := way_weight um' ux' uy' hm'
  obtain ⟨f4, d0, d9, dz, d1, d2⟩ := turn_weight ui' ut' hi'
  rw [hw]
  generalize rv m * (rv x * rv x + rv y * rv y) = A at *
  generalize rv i * (rv t * rv t) = B at *
  generalize rv m' * (rv x' * rv x' + rv y' * rv y') = C at *
  generalize rv i' * (rv t' * rv t') = D at *
  obtain ⟨g1, x1, y1⟩ := rv_add (B := 2 * W) f1 f2 (by grind) (by grind) (by grind)
  obtain ⟨g2, x2, y2⟩ := rv_add (B := 2 * W) g1 f3 (by grind) (by grind) (by grind)
  obtain ⟨g3, x3, y3⟩ := rv_add (B := 2 * W) g2 f4 (by grind) (by grind) (by grind)
  refine ⟨g3, by grind, by grind, ?_, by grind, by grind⟩
  rcases az with h | h <;> rcases bz with h' | h' <;> rcases cz with h2 | h2 <;> rcases dz with h3 | h3 <;> first | (left; grind) | (right; grind)
theorem rv_sgn {z : Nat} (fz : fin z = true) : rv z = if sgnOf z = true then -rv (fabs z) else rv (fabs z) := by
  have hu := uu_pos
  obtain ⟨_, p1, p2, p3⟩ := rv_abs fz
  have hs := rv_mul_uu z
  rw [sval_sgn] at hs
  have m0 : (0 : Rat) ≤ (magOf (rungOf z) : Rat) := Rat.natCast_le_natCast.2 (Nat.zero_le _)
  split
  · rename_i h
    rw [h] at hs
    simp only [if_true, Rat.intCast_neg, Rat.intCast_natCast] at hs
    have h0 : rv z ≤ 0 := cancel_le hu (by rw [← hs]; grind)
    rw [p2 h0]; grind
  · rename_i h
    have h : sgnOf z = false := by simpa using h
    rw [h] at hs
    simp only [Bool.false_eq_true, if_false, Rat.intCast_natCast] at hs
    have h0 : 0 ≤ rv z := cancel_le hu (by rw [← hs]; grind)
    rw [p1 h0]
/-- A quotient by what is above nought, with signs. -/
theorem rv_quo {a b : Nat} {C : Rat} (fa : fin a = true) (fb : fin b = true) (h0 : 0 < rv b) (hC : C * 2 ≤ big) (hC0 : 1 ≤ C) (h1 : rv (fabs a) ≤ C * rv b) :
    fin (fdiv a b) = true ∧ -(rv (fabs a) / 4503599627370496 + eta * rv b) ≤ rv (fdiv a b) * rv b - rv a ∧ rv (fdiv a b) * rv b - rv a ≤ rv (fabs a) / 4503599627370496 + eta * rv b := by
  have eb : rv (fabs b) = rv b := (rv_abs fb).2.1 (by grind)
  obtain ⟨f, p1, p2, sg⟩ := rv_div (C := C) fa fb (by grind) hC hC0 (by rw [eb]; exact h1)
  rw [eb] at p1 p2
  have sb : sgnOf b = false := by
    have := rv_sgn fb
    cases h : sgnOf b
    · rfl
    · rw [h] at this; simp only [if_true] at this; grind
  rw [sb] at sg
  have s1 := rv_sgn f
  have s2 := rv_sgn fa
  have sg' : sgnOf (fdiv a b) = sgnOf a := by rw [sg]; cases sgnOf a <;> rfl
  rw [sg'] at s1
  refine ⟨f, ?_, ?_⟩ <;> (cases h : sgnOf a <;> rw [h] at s1 s2 <;> simp only [if_true, Bool.false_eq_true, if_false] at s1 s2 <;> rw [s1, s2] <;> grind)
end Go.Sim
