/- The energy of a row solved: the floats. -/
import Derived.Test.YtojahopdcnamjaaSimRowEn2
set_option linter.unusedVariables false
set_option linter.unusedSimpArgs false
namespace Go.Sim
/-- The kinetic energy, as it is reckoned. -/
def kin (m i x y t : Nat) : Nat :=
  bif (flt 0 i) then (fadd (bif (flt 0 m) then (fadd 0 (fdiv (fadd (fmul x x) (fmul y y)) (fmul 4611686018427387904 m))) else 0) (fdiv (fmul t t) (fmul 4611686018427387904 i))) else (bif (flt 0 m) then (fadd 0 (fdiv (fadd (fmul x x) (fmul y y)) (fmul 4611686018427387904 m))) else 0)
theorem rv0 : rv 0 = 0 := by unfold rv; rw [show sval 0 = 0 by decide]; grind
theorem sq_float {x : Nat} (fx : fin x = true) (hx : rv (fabs x) ≤ 2582249878086908589655919172003011874329705792829223512830659356540647622016841194629645353280137831435903171972747493376) : fin (fmul x x) = true ∧ 0 ≤ rv (fmul x x) ∧ -(rv x * rv x / 9007199254740992 + eta) ≤ rv (fmul x x) - rv x * rv x ∧ rv (fmul x x) - rv x * rv x ≤ rv x * rv x / 9007199254740992 + eta ∧ rv x * rv x ≤ 6668014432879854274079851790721257797144758322315908160396257811764037237817632071521432200871554290742929910593433240445888801654119365080363356052330830046095157579514014558463078285911814024728965016135886601981690748037476461291163877376 := by
  have bg := big_890
  have n := sq_nn (rv x)
  obtain ⟨a1, a2, a0⟩ := abs_le fx
  have m := mul_le (A := 2582249878086908589655919172003011874329705792829223512830659356540647622016841194629645353280137831435903171972747493376) (C := 2582249878086908589655919172003011874329705792829223512830659356540647622016841194629645353280137831435903171972747493376) (x := rv x) (y := rv x) (by grind) (by grind) (by grind) (by grind)
  obtain ⟨f, e1, e2⟩ := rv_mul (B := rv x * rv x) fx fx (by grind) (by grind) (by grind)
  have hz : (sgnOf x ^^ sgnOf x) = false := by cases sgnOf x <;> rfl
  have sg : sgnOf (fmul x x) = false := by rw [fmul_fin fx fx, hz]; exact sgn_word _ (RN_le _ _)
  have r := rv_sgn f
  rw [sg] at r
  simp only [Bool.false_eq_true, if_false] at r
  exact ⟨f, by rw [r]; exact (abs_le f).2.2, e1, e2, by grind⟩
theorem flt_pos {m : Nat} (fm : fin m = true) : flt 0 m = !decide (rv m ≤ 0) := by rw [flt_rv (by decide) fm, rv0]
theorem kin_way {m x y : Nat} (um : U40 m) (hm : 0 ≤ rv m) (fx : fin x = true) (fy : fin y = true) (hx : rv (fabs x) ≤ 2582249878086908589655919172003011874329705792829223512830659356540647622016841194629645353280137831435903171972747493376) (hy : rv (fabs y) ≤ 2582249878086908589655919172003011874329705792829223512830659356540647622016841194629645353280137831435903171972747493376) {E : Rat} (hE : E = en (rv m) (rv x) + en (rv m) (rv y)) :
    fin (bif (flt 0 m) then (fadd 0 (fdiv (fadd (fmul x x) (fmul y y)) (fmul 4611686018427387904 m))) else 0) = true ∧ 0 ≤ rv (bif (flt 0 m) then (fadd 0 (fdiv (fadd (fmul x x) (fmul y y)) (fmul 4611686018427387904 m))) else 0) ∧
    -(E / 140737488355328 + eta * 35184372088832) ≤ rv (bif (flt 0 m) then (fadd 0 (fdiv (fadd (fmul x x) (fmul y y)) (fmul 4611686018427387904 m))) else 0) - E ∧ rv (bif (flt 0 m) then (fadd 0 (fdiv (fadd (fmul x x) (fmul y y)) (fmul 4611686018427387904 m))) else 0) - E ≤ E / 140737488355328 + eta * 35184372088832 ∧ 0 ≤ E ∧ E ≤ 58652475225036720546649669496166069228998121824605496380296088990333059082962747718339142176408838912879328274880511426712364770830486275482511413333124259062810366582741426385442408983508948533749841936858614266830705773786598571244254795994059356766208 := by
  have bg := big_890
  have e0 := eta_pos
  have e9 := eta_900
  rw [flt_pos um.1]
  by_cases h : rv m ≤ 0
  · have m0 : rv m = 0 := by grind
    have : E = 0 := by rw [hE]; unfold en; rw [if_pos m0, if_pos m0]; grind
    rw [decide_eq_true h]
    show fin 0 = true ∧ 0 ≤ rv 0 ∧ _ ≤ rv 0 - E ∧ rv 0 - E ≤ _ ∧ _
    rw [this, rv0]
    refine ⟨by decide, ?_, ?_, ?_, ?_, ?_⟩ <;> grind
  · have hp : 0 < rv m := by grind
    rw [decide_eq_false h]
    show fin (fadd 0 _) = true ∧ 0 ≤ rv (fadd 0 _) ∧ _ ≤ rv (fadd 0 _) - E ∧ rv (fadd 0 _) - E ≤ _ ∧ _
    obtain ⟨f1, n1, a1, a2, a9⟩ := sq_float fx hx
    obtain ⟨f2, n2, b1, b2, b9⟩ := sq_float fy hy
    have s1 := sq_nn (rv x)
    have s2 := sq_nn (rv y)
    have eX := en_mul (s := rv x) hp
    have eY := en_mul (s := rv y) hp
    have eE : E * (2 * rv m) = rv x * rv x + rv y * rv y := by rw [hE, ← eX, ← eY]; grind
    generalize rv x * rv x = XX at *
    generalize rv y * rv y = YY at *
    obtain ⟨f3, c1, c2⟩ := rv_add (B := 2 * (XX + YY) + 2 * eta) f1 f2 (by grind) (by grind) (by grind)
    obtain ⟨f4, d0, d1, d2, E0, E9⟩ := en_quo um hp f3 (X := XX + YY) (by grind) (by grind) eE (by grind) (by grind) (rv_add_nonneg f1 f2 n1 n2)
    generalize fdiv (fadd (fmul x x) (fmul y y)) (fmul 4611686018427387904 m) = d at *
    obtain ⟨f5, g1, g2⟩ := rv_add (a := 0) (B := rv d) (by decide) f4 (by grind) (by rw [rv0]; grind) (by rw [rv0]; grind)
    rw [rv0] at g1 g2
    refine ⟨f5, rv_add_nonneg (by decide) f4 (by rw [rv0]; grind) d0, ?_, ?_, E0, ?_⟩ <;> grind
theorem kin_near {m i x y t : Nat} (um : U40 m) (ui : U40 i) (hm : 0 ≤ rv m) (hi : 0 ≤ rv i) (fx : fin x = true) (fy : fin y = true) (ft : fin t = true) (hx : rv (fabs x) ≤ 2582249878086908589655919172003011874329705792829223512830659356540647622016841194629645353280137831435903171972747493376) (hy : rv (fabs y) ≤ 2582249878086908589655919172003011874329705792829223512830659356540647622016841194629645353280137831435903171972747493376) (ht : rv (fabs t) ≤ 2582249878086908589655919172003011874329705792829223512830659356540647622016841194629645353280137831435903171972747493376) {E : Rat} (hE : E = en (rv m) (rv x) + en (rv m) (rv y) + en (rv i) (rv t)) :
    fin (kin m i x y t) = true ∧ 0 ≤ rv (kin m i x y t) ∧ -(E / 35184372088832 + eta * 140737488355328) ≤ rv (kin m i x y t) - E ∧ rv (kin m i x y t) - E ≤ E / 35184372088832 + eta * 140737488355328 ∧ 0 ≤ E ∧ E ≤ 234609900900146882186598677984664276915992487298421985521184355961332236331850990873356568705635355651517313099522045706849459083321945101930045653332497036251241466330965705541769635934035794134999367747434457067322823095146394284977019183976237427064832 := by
  have bg := big_890
  have e0 := eta_pos
  have e9 := eta_900
  obtain ⟨f1, k0, k1, k2, E0, E9⟩ := kin_way um hm fx fy hx hy rfl
  unfold kin
  generalize (bif (flt 0 m) then (fadd 0 (fdiv (fadd (fmul x x) (fmul y y)) (fmul 4611686018427387904 m))) else 0) = K at *
  generalize en (rv m) (rv x) + en (rv m) (rv y) = E1 at *
  rw [flt_pos ui.1]
  by_cases h : rv i ≤ 0
  · have m0 : rv i = 0 := by grind
    have : E = E1 := by rw [hE]; unfold en; rw [if_pos m0]; grind
    rw [decide_eq_true h, this]
    show fin K = true ∧ 0 ≤ rv K ∧ _ ≤ rv K - E1 ∧ rv K - E1 ≤ _ ∧ _
    refine ⟨f1, k0, ?_, ?_, E0, ?_⟩ <;> grind
  · have hp : 0 < rv i := by grind
    rw [decide_eq_false h]
    show fin (fadd K _) = true ∧ 0 ≤ rv (fadd K _) ∧ _ ≤ rv (fadd K _) - E ∧ rv (fadd K _) - E ≤ _ ∧ _
    obtain ⟨f2, n1, a1, a2, a9⟩ := sq_float ft ht
    have s1 := sq_nn (rv t)
    have eX := en_mul (s := rv t) hp
    generalize rv t * rv t = XX at *
    obtain ⟨f4, d0, d1, d2, F0, F9⟩ := en_quo ui hp f2 (X := XX) s1 (by grind) eX (by grind) (by grind) n1
    generalize fdiv (fmul t t) (fmul 4611686018427387904 i) = d at *
    generalize en (rv i) (rv t) = E2 at *
    obtain ⟨f5, g1, g2⟩ := rv_add (B := 2 * E + eta * 70368744177664) f1 f4 (by grind) (by grind) (by grind)
    refine ⟨f5, rv_add_nonneg f1 f4 k0 d0, ?_, ?_, ?_, ?_⟩ <;> grind
theorem zero_sq {x : Nat} (fx : fin x = true) (h : rv x = 0) : V (fmul x x) 0 := by
  obtain ⟨f, e⟩ := rv_mul_zero fx fx (by rw [h]; grind)
  exact V_of_rv0 f e
theorem zero_quo {a m : Nat} (um : U40 m) (hm : 0 < rv m) (ha : V a 0) : V (fdiv a (fmul 4611686018427387904 m)) 0 := by
  have bg := big_890
  have e9 := eta_900
  have e0 := eta_pos
  have r2 : rv 4611686018427387904 = 2 := by
    have := rv_lit (a := 4611686018427387904) (p := 2) (q := 1) (by decide) (by decide) (by intro d hd; subst hd; decide +kernel)
    rw [this, show ((2 : Nat) : Rat) = 2 from rfl, show ((1 : Nat) : Rat) = 1 from rfl]; grind
  have em : rv (fabs m) = rv m := (rv_abs um.1).2.1 (by grind)
  have m2 := um.2
  rw [em] at m2
  have m3 := um.bound.2
  rw [em] at m3
  obtain ⟨f1, b1, b2⟩ := rv_mul (a := 4611686018427387904) (b := m) (B := 2 * rv m) (by decide) um.1 (by grind) (by rw [r2]; grind) (by rw [r2]; grind)
  rw [r2] at b1 b2
  have bp : 0 < rv (fmul 4611686018427387904 m) := by rcases m2 with h | h <;> grind
  have hb0 : magOf (rungOf (fmul 4611686018427387904 m)) ≠ 0 := by
    intro hh
    have := rv_abs_mag f1
    rw [hh, (rv_abs f1).2.1 (by grind), show ((0 : Nat) : Rat) = 0 from rfl] at this
    have := Rat.mul_pos bp uu_pos
    grind
  have ha0 : magOf (rungOf a) = 0 := by
    have := ha.2
    rw [sval_sgn] at this
    split at this <;> omega
  rw [fdiv_zero ha.1 f1 ha0 hb0]
  exact V.word0 _
theorem kin_zero {m i x y t : Nat} (um : U40 m) (ui : U40 i) (hm : 0 ≤ rv m) (hi : 0 ≤ rv i) (fx : fin x = true) (fy : fin y = true) (ft : fin t = true) (hx : rv x = 0) (hy : rv y = 0) (ht : rv t = 0) : V (kin m i x y t) 0 := by
  have k : V (bif (flt 0 m) then (fadd 0 (fdiv (fadd (fmul x x) (fmul y y)) (fmul 4611686018427387904 m))) else 0) 0 := by
    rw [flt_pos um.1]
    by_cases h : rv m ≤ 0
    · rw [decide_eq_true h]; exact V.zero
    · rw [decide_eq_false h]
      exact V.add V.zero (zero_quo um (by grind) (V.add (zero_sq fx hx) (zero_sq fy hy) V.zero (by omega))) V.zero (by omega)
  unfold kin
  rw [flt_pos ui.1]
  by_cases h : rv i ≤ 0
  · rw [decide_eq_true h]; exact k
  · rw [decide_eq_false h]
    exact V.add k (zero_quo ui (by grind) (zero_sq ft ht)) V.zero (by omega)
theorem rv_of_V0 {a : Nat} (h : V a 0) : rv a = 0 := by rw [rv_of_V h V.zero, rv0]
/-- The end of the matter. -/
theorem energy_end {x7 af M : Nat} (f7 : fin x7 = true) (fa : fin af = true) (fM : fin M = true) (n7 : 0 ≤ rv x7) (nM : 0 ≤ rv M) (h7 : rv x7 ≤ 7507516828804700229971157695509256861311759593549503536677899390762631562619231707947410198580331380848554019184705462619182690666302243261761460906639905160039726922590902577336628349889145412319979767917902626154330339044684617119264613887239597666074624) (hM : rv M ≤ 4149515568880992958512407863691161151012446232242436899995657329690652811412908146399707048947103794288197886611300789182395151075411775307886874834113963687061181803401509523685376) (h : rv af ≤ 0 ∨ (1 / 1809251394333065553493296640760748560207343510400633813116524750123642650624 ≤ rv x7 + rv M ∧ rv af ≤ rv x7 + (rv x7 + rv M) / 4294967296)) :
    fle af (fadd x7 (fmul 4472074429978902528 (fadd x7 M))) = true := by
  have bg := big_890
  have e0 := eta_pos
  have e9 := eta_900
  have el := rv_m30
  rw [show ((1 : Nat) : Rat) = 1 from rfl, show ((1073741824 : Nat) : Rat) = 1073741824 from rfl] at el
  have fL : fin 4472074429978902528 = true := by decide
  obtain ⟨f1, a1, a2⟩ := rv_add (B := rv x7 + rv M) f7 fM (by grind) (by grind) (by grind)
  have n1 := rv_add_nonneg f7 fM n7 nM
  obtain ⟨f2, b1, b2⟩ := rv_mul (a := 4472074429978902528) (B := rv (fadd x7 M) / 1073741824) fL f1 (by grind) (by rw [el]; grind) (by rw [el]; grind)
  rw [el] at b1 b2
  have n2 := rv_mul_nonneg fL f1 (by rw [el]; grind) n1 f2
  generalize fmul 4472074429978902528 (fadd x7 M) = Y at *
  obtain ⟨f3, c1, c2⟩ := rv_add (B := rv x7 + rv Y) f7 f2 (by grind) (by grind) (by grind)
  have n3 := rv_add_nonneg f7 f2 n7 n2
  rw [rv_le fa f3, decide_eq_true_eq]
  rcases h with h | ⟨h, h'⟩ <;> grind
end Go.Sim
