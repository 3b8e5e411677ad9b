/- One part of a still behind a push, and what it adds to a row's speed. -/
import Derived.Test.YtofpjfohijljgaaSimRowNear
set_option linter.unusedVariables false
set_option linter.unusedSimpArgs false
namespace Go.Sim
theorem z_way {m p w : Nat} (um : U40 m) (hm : 0 ≤ rv m) (uw : U40 w) (fp : fin p = true) (hp : rv (fabs p) ≤ 2037035976334486086268445688409378161051468393665936250636140449354381299763336706183397376) :
    fin (fmul (fmul m p) w) = true ∧ -(rv (fabs w) * rv m * rv (fabs p) / 2251799813685248 + eta * 4398046511104) ≤ rv (fmul (fmul m p) w) - rv m * rv p * rv w ∧ rv (fmul (fmul m p) w) - rv m * rv p * rv w ≤ rv (fabs w) * rv m * rv (fabs p) / 2251799813685248 + eta * 4398046511104 := by
  have bg := big_800
  have e0 := eta_pos
  have e9 := eta_900
  have em : rv (fabs m) = rv m := (rv_abs um.1).2.1 hm
  have m9 := um.bound.2
  rw [em] at m9
  obtain ⟨a0, a9⟩ := uw.bound
  obtain ⟨a1, a2, _⟩ := abs_le uw.1
  obtain ⟨q1, q2, q0⟩ := abs_le fp
  have b1 := mul_le (A := rv m) (C := rv (fabs p)) (show -rv m ≤ rv m by grind) (show rv m ≤ rv m by grind) q1 q2
  have b9 := mul_le (A := 1099511627776) (C := 2037035976334486086268445688409378161051468393665936250636140449354381299763336706183397376) (x := rv m) (y := rv (fabs p)) (by grind) (by grind) (by grind) (by grind)
  have b0 := Rat.mul_nonneg hm q0
  obtain ⟨f1, y1, y2⟩ := rv_mul (B := rv m * rv (fabs p)) um.1 fp (by grind) b1.1 b1.2
  obtain ⟨g1, g2, g0⟩ := abs_le f1
  have Y9 : rv (fabs (fmul m p)) ≤ rv m * rv (fabs p) + (rv m * rv (fabs p) / 9007199254740992 + eta) := abs_bound f1 (by grind) (by grind)
  have c1 := mul_le g1 g2 a1 a2
  have c9 := mul_le (A := 8958978968711216842229769122273777112486581988938598139599956403855167484720643781523509973086428463104) (C := 1099511627776) (x := rv (fabs (fmul m p))) (y := rv (fabs w)) (by grind) (by grind) (by grind) (by grind)
  obtain ⟨f2, z1, z2⟩ := rv_mul (B := rv (fabs (fmul m p)) * rv (fabs w)) f1 uw.1 (by grind) c1.1 c1.2
  have d1 := mul_le a1 a2 y1 y2
  have d2 := Rat.mul_nonneg a0 (show 0 ≤ rv m * rv (fabs p) + (rv m * rv (fabs p) / 9007199254740992 + eta) - rv (fabs (fmul m p)) by grind)
  have d3 := Rat.mul_nonneg (show 0 ≤ 1099511627776 - rv (fabs w) by grind) (show 0 ≤ eta by grind)
  have d4 := Rat.mul_nonneg a0 b0
  have e : rv (fmul (fmul m p) w) - rv m * rv p * rv w = (rv (fmul (fmul m p) w) - rv (fmul m p) * rv w) + rv w * (rv (fmul m p) - rv m * rv p) := by grind
  rw [e]
  generalize rv w * (rv (fmul m p) - rv m * rv p) = u1 at *
  generalize rv (fmul (fmul m p) w) - rv (fmul m p) * rv w = u2 at *
  refine ⟨f2, ?_, ?_⟩ <;> grind
theorem z_turn {m p w : Nat} (um : U40 m) (hm : 0 ≤ rv m) (uw : U40 w) (fp : fin p = true) (hp : rv (fabs p) ≤ 2037035976334486086268445688409378161051468393665936250636140449354381299763336706183397376) :
    fin (fmul m (fmul p w)) = true ∧ -(rv (fabs w) * rv m * rv (fabs p) / 2251799813685248 + eta * 4398046511104) ≤ rv (fmul m (fmul p w)) - rv m * rv p * rv w ∧ rv (fmul m (fmul p w)) - rv m * rv p * rv w ≤ rv (fabs w) * rv m * rv (fabs p) / 2251799813685248 + eta * 4398046511104 := by
  have bg := big_800
  have e0 := eta_pos
  have e9 := eta_900
  have em : rv (fabs m) = rv m := (rv_abs um.1).2.1 hm
  have m9 := um.bound.2
  rw [em] at m9
  obtain ⟨a0, a9⟩ := uw.bound
  obtain ⟨a1, a2, _⟩ := abs_le uw.1
  obtain ⟨q1, q2, q0⟩ := abs_le fp
  have b1 := mul_le q1 q2 a1 a2
  have b9 := mul_le (A := 2037035976334486086268445688409378161051468393665936250636140449354381299763336706183397376) (C := 1099511627776) (x := rv (fabs p)) (y := rv (fabs w)) (by grind) (by grind) (by grind) (by grind)
  have b0 := Rat.mul_nonneg q0 a0
  obtain ⟨f1, y1, y2⟩ := rv_mul (B := rv (fabs p) * rv (fabs w)) fp uw.1 (by grind) b1.1 b1.2
  obtain ⟨g1, g2, g0⟩ := abs_le f1
  have Y9 : rv (fabs (fmul p w)) ≤ rv (fabs p) * rv (fabs w) + (rv (fabs p) * rv (fabs w) / 9007199254740992 + eta) := abs_bound f1 (by grind) (by grind)
  have c1 := mul_le (A := rv m) (show -rv m ≤ rv m by grind) (show rv m ≤ rv m by grind) g1 g2
  have c9 := mul_le (A := 1099511627776) (C := 8958978968711216842229769122273777112486581988938598139599956403855167484720643781523509973086428463104) (x := rv m) (y := rv (fabs (fmul p w))) (by grind) (by grind) (by grind) (by grind)
  obtain ⟨f2, z1, z2⟩ := rv_mul (B := rv m * rv (fabs (fmul p w))) um.1 f1 (by grind) c1.1 c1.2
  have d1 := mul_le (A := rv m) (show -rv m ≤ rv m by grind) (show rv m ≤ rv m by grind) y1 y2
  have d2 := Rat.mul_nonneg hm (show 0 ≤ rv (fabs p) * rv (fabs w) + (rv (fabs p) * rv (fabs w) / 9007199254740992 + eta) - rv (fabs (fmul p w)) by grind)
  have d3 := Rat.mul_nonneg (show 0 ≤ 1099511627776 - rv m by grind) (show 0 ≤ eta by grind)
  have d4 := Rat.mul_nonneg hm b0
  have e : rv (fmul m (fmul p w)) - rv m * rv p * rv w = (rv (fmul m (fmul p w)) - rv m * rv (fmul p w)) + rv m * (rv (fmul p w) - rv p * rv w) := by grind
  rw [e]
  generalize rv m * (rv (fmul p w) - rv p * rv w) = u1 at *
  generalize rv (fmul m (fmul p w)) - rv m * rv (fmul p w) = u2 at *
  refine ⟨f2, ?_, ?_⟩ <;> grind
/-- A part of a speed behind a push. -/
structure Part (m p w s c : Nat) : Prop where
  fc : fin c = true
  size : rv (fabs c) ≤ 2582249878086908589655919172003011874329705792829223512830659356540647622016841194629645353280137831435903171972747493376
  lo : -(rv (fabs w) * rv m * rv (fabs p) / 2251799813685248 + rv (fabs c) / 4503599627370496 + eta * 4398046511104) ≤ rv c - (rv s + rv m * rv p * rv w)
  hi : rv c - (rv s + rv m * rv p * rv w) ≤ rv (fabs w) * rv m * rv (fabs p) / 2251799813685248 + rv (fabs c) / 4503599627370496 + eta * 4398046511104
theorem rv_of_feq {m : Nat} (fm : fin m = true) (h : feq m 0 = true) : rv m = 0 := by
  rw [feq_val (fin_not_nan fm) nanb_zero, decide_eq_true_eq, show sval 0 = 0 by decide] at h
  unfold rv; rw [h]; grind
theorem part_of {m p w s z : Nat} (um : U40 m) (hm : 0 ≤ rv m) (uw : U40 w) (us : U40 s) (fp : fin p = true) (hp : rv (fabs p) ≤ 2037035976334486086268445688409378161051468393665936250636140449354381299763336706183397376) (fz : fin z = true)
    (z1 : -(rv (fabs w) * rv m * rv (fabs p) / 2251799813685248 + eta * 4398046511104) ≤ rv z - rv m * rv p * rv w) (z2 : rv z - rv m * rv p * rv w ≤ rv (fabs w) * rv m * rv (fabs p) / 2251799813685248 + eta * 4398046511104) :
    Part m p w s (bif !(feq m 0) then fadd s z else s) := by
  have bg := big_800
  have e0 := eta_pos
  have e9 := eta_900
  have em : rv (fabs m) = rv m := (rv_abs um.1).2.1 hm
  have m9 := um.bound.2
  rw [em] at m9
  obtain ⟨a0, a9⟩ := uw.bound
  obtain ⟨a1, a2, _⟩ := abs_le uw.1
  obtain ⟨q1, q2, q0⟩ := abs_le fp
  obtain ⟨s0, s9⟩ := us.bound
  obtain ⟨s1, s2, _⟩ := abs_le us.1
  have t1 := Rat.mul_nonneg a0 hm
  have t2 := Rat.mul_nonneg t1 q0
  cases h : feq m 0
  · suffices hh : fin (fadd s z) = true ∧ rv (fabs (fadd s z)) ≤ 2582249878086908589655919172003011874329705792829223512830659356540647622016841194629645353280137831435903171972747493376 ∧ -(rv (fabs w) * rv m * rv (fabs p) / 2251799813685248 + rv (fabs (fadd s z)) / 4503599627370496 + eta * 4398046511104) ≤ rv (fadd s z) - (rv s + rv m * rv p * rv w) ∧
        rv (fadd s z) - (rv s + rv m * rv p * rv w) ≤ rv (fabs w) * rv m * rv (fabs p) / 2251799813685248 + rv (fabs (fadd s z)) / 4503599627370496 + eta * 4398046511104 from ⟨hh.1, hh.2.1, hh.2.2.1, hh.2.2.2⟩
    have b1 := mul_le (A := rv m) (C := rv (fabs p)) (show -rv m ≤ rv m by grind) (show rv m ≤ rv m by grind) q1 q2
    have b2 := mul_le b1.1 b1.2 a1 a2
    have b3 := mul_le (A := 1099511627776) (C := 1099511627776) (x := rv (fabs w)) (y := rv m) (by grind) (by grind) (by grind) (by grind)
    have b4 := mul_le (A := 1099511627776 * 1099511627776) (C := 2037035976334486086268445688409378161051468393665936250636140449354381299763336706183397376) (x := rv (fabs w) * rv m) (y := rv (fabs p)) (by grind) (by grind) (by grind) (by grind)
    have eq1 : rv m * rv (fabs p) * rv (fabs w) = rv (fabs w) * rv m * rv (fabs p) := by grind
    rw [eq1] at b2
    generalize rv (fabs w) * rv m * rv (fabs p) = K at *
    generalize rv m * rv p * rv w = k at *
    obtain ⟨T, T0, T1, T2, T3⟩ := rabs (rv s + rv z)
    have T9 : T ≤ 2521728396569246669585858566409191283525103313309788586748690777871726193375821479130513040312634601011624191379636224 := by rcases T3 with h | h <;> grind
    obtain ⟨fc, c1, c2⟩ := rv_add (B := T) us.1 fz (by grind) T1 T2
    obtain ⟨C1, C2, C0⟩ := abs_le fc
    have TC : T ≤ rv (fabs (fadd s z)) + T / 9007199254740992 := by rcases T3 with h | h <;> grind
    have CT : rv (fabs (fadd s z)) ≤ T + T / 9007199254740992 := abs_bound fc (by grind) (by grind)
    exact ⟨fc, by grind, by grind, by grind⟩
  · show Part m p w s s
    have m0 := rv_of_feq um.1 h
    have e : rv m * rv p * rv w = 0 := by rw [m0]; grind
    exact ⟨us.1, by grind, by rw [e]; grind, by rw [e]; grind⟩
theorem part_way {m p w s : Nat} (um : U40 m) (hm : 0 ≤ rv m) (uw : U40 w) (us : U40 s) (fp : fin p = true) (hp : rv (fabs p) ≤ 2037035976334486086268445688409378161051468393665936250636140449354381299763336706183397376) : Part m p w s (bif !(feq m 0) then fadd s (fmul (fmul m p) w) else s) := by
  obtain ⟨f, h1, h2⟩ := z_way um hm uw fp hp
  exact part_of um hm uw us fp hp f h1 h2
theorem part_turn {m p w s : Nat} (um : U40 m) (hm : 0 ≤ rv m) (uw : U40 w) (us : U40 s) (fp : fin p = true) (hp : rv (fabs p) ≤ 2037035976334486086268445688409378161051468393665936250636140449354381299763336706183397376) : Part m p w s (bif !(feq m 0) then fadd s (fmul m (fmul p w)) else s) := by
  obtain ⟨f, h1, h2⟩ := z_turn um hm uw fp hp
  exact part_of um hm uw us fp hp f h1 h2
/-- What such a part adds to the row's speed. -/
theorem Part.adds {m p w s c : Nat} (h : Part m p w s c) (um : U40 m) (hm : 0 ≤ rv m) (uw : U40 w) (us : U40 s) (fp : fin p = true) (hp : rv (fabs p) ≤ 2037035976334486086268445688409378161051468393665936250636140449354381299763336706183397376) :
    fin (fmul w c) = true ∧ rv (fabs (fmul w c)) ≤ 11356855067118857664833184498250070849275646260739344691898284362197488876771842551971735167402555711886914400097909030211478150447104 ∧
    -(rv (fabs p) * (rv m * (rv w * rv w)) / 1125899906842624 + rv (fabs (fmul w c)) / 2251799813685248 + eta * 19342813113834066795298816) ≤ rv (fmul w c) - (rv w * rv s + rv p * (rv m * (rv w * rv w))) ∧
    rv (fmul w c) - (rv w * rv s + rv p * (rv m * (rv w * rv w))) ≤ rv (fabs p) * (rv m * (rv w * rv w)) / 1125899906842624 + rv (fabs (fmul w c)) / 2251799813685248 + eta * 19342813113834066795298816 := by
  have bg := big_800
  have e0 := eta_pos
  have e9 := eta_900
  obtain ⟨fc, C9, h1, h2⟩ := h
  obtain ⟨a0, a9⟩ := uw.bound
  obtain ⟨a1, a2, _⟩ := abs_le uw.1
  obtain ⟨q1, q2, q0⟩ := abs_le fp
  obtain ⟨c1, c2, C0⟩ := abs_le fc
  have aa : rv w * rv w = rv (fabs w) * rv (fabs w) := by obtain ⟨_, _, h⟩ := abs_cases uw.1; rcases h with h | h <;> rw [h] <;> grind
  have x1 := mul_le a1 a2 c1 c2
  have x9 := mul_le (A := 1099511627776) (C := 2582249878086908589655919172003011874329705792829223512830659356540647622016841194629645353280137831435903171972747493376) (x := rv (fabs w)) (y := rv (fabs c)) (by grind) (by grind) (by grind) (by grind)
  have x0 := Rat.mul_nonneg a0 C0
  obtain ⟨fP, p1, p2⟩ := rv_mul (B := rv (fabs w) * rv (fabs c)) uw.1 fc (by grind) x1.1 x1.2
  obtain ⟨_, P0, Pc⟩ := abs_cases fP
  have wc : rv w * rv c = rv (fabs w) * rv (fabs c) ∨ rv w * rv c = -(rv (fabs w) * rv (fabs c)) := by
    obtain ⟨_, _, k⟩ := abs_cases uw.1
    obtain ⟨_, _, l⟩ := abs_cases fc
    rcases k with k | k <;> rcases l with l | l <;> rw [k, l] <;> first | (left; grind) | (right; grind)
  have XP : rv (fabs w) * rv (fabs c) ≤ rv (fabs (fmul w c)) + (rv (fabs w) * rv (fabs c) / 9007199254740992 + eta) := by
    rcases wc with k | k <;> rcases Pc with l | l <;> grind
  have PX : rv (fabs (fmul w c)) ≤ rv (fabs w) * rv (fabs c) + (rv (fabs w) * rv (fabs c) / 9007199254740992 + eta) := abs_bound fP (by grind) (by grind)
  have d := mul_le a1 a2 h1 h2
  have t1 := Rat.mul_nonneg a0 hm
  have t3 := Rat.mul_nonneg (show 0 ≤ 1099511627776 - rv (fabs w) by grind) (show 0 ≤ eta by grind)
  have e1 : rv (fabs w) * (rv (fabs w) * rv m * rv (fabs p) / 2251799813685248 + rv (fabs c) / 4503599627370496 + eta * 4398046511104) = rv (fabs p) * (rv m * (rv w * rv w)) / 2251799813685248 + rv (fabs w) * rv (fabs c) / 4503599627370496 + rv (fabs w) * eta * 4398046511104 := by rw [aa]; grind
  have e2 : rv w * (rv c - (rv s + rv m * rv p * rv w)) = rv w * rv c - (rv w * rv s + rv p * (rv m * (rv w * rv w))) := by grind
  rw [e1, e2] at d
  have w0 := Rat.mul_nonneg q0 (Rat.mul_nonneg hm (show 0 ≤ rv w * rv w by rw [aa]; exact Rat.mul_nonneg a0 a0))
  generalize rv (fabs p) * (rv m * (rv w * rv w)) = Q at *
  generalize rv w * rv s + rv p * (rv m * (rv w * rv w)) = L at *
  generalize rv (fabs w) * rv (fabs c) = X at *
  generalize rv w * rv c = wc' at *
  generalize rv (fabs (fmul w c)) = PP at *
  refine ⟨fP, by grind, ?_, ?_⟩ <;> grind
end Go.Sim
