/- The energy of a row solved: the sums. -/
import Derived.Test.YtojahopdcnamjaaSimRowEn
set_option linter.unusedVariables false
set_option linter.unusedSimpArgs false
namespace Go.Sim
theorem big_890 : (8254602048994769474255309139320571976856989469314398783249386078541779727448825929287769623244643560854287421769642635607536680617229461519539671538483430889193541937484454440136429963694163141453503639190799818814812942074243152169349951543234944945149040326527156224 : Rat) ≤ big := by
  have h := lit_big (a := 8615386087159758848) (by decide) (by decide +kernel)
  have e : rv 8615386087159758848 = ((8254602048994769474255309139320571976856989469314398783249386078541779727448825929287769623244643560854287421769642635607536680617229461519539671538483430889193541937484454440136429963694163141453503639190799818814812942074243152169349951543234944945149040326527156224 : Nat) : Rat) / ((1 : Nat) : Rat) := rv_lit (by decide) (by decide) (by intro d hd; subst hd; decide +kernel)
  rw [e] at h
  have k1 : ((8254602048994769474255309139320571976856989469314398783249386078541779727448825929287769623244643560854287421769642635607536680617229461519539671538483430889193541937484454440136429963694163141453503639190799818814812942074243152169349951543234944945149040326527156224 : Nat) : Rat) = 8254602048994769474255309139320571976856989469314398783249386078541779727448825929287769623244643560854287421769642635607536680617229461519539671538483430889193541937484454440136429963694163141453503639190799818814812942074243152169349951543234944945149040326527156224 := rfl
  have k2 : ((1 : Nat) : Rat) = 1 := rfl
  rw [k1, k2] at h
  grind
theorem energy_rat {sg G W w s l d p e Q Pk A D E0 Ec : Rat} (e0 : 0 < e) (G0 : 0 ≤ G) (W0 : 0 ≤ W) (w0 : 0 < w) (w9 : w ≤ 42535295865117307932921825928971026432) (Q0 : 0 ≤ Q) (P0 : 0 ≤ Pk) (A1 : -A ≤ p) (A2 : p ≤ A) (A0 : 0 ≤ A) (A9 : A ≤ 6582018229284824168619876730229402019930943462534319453394436096) (AQ : A ≤ 2 * (Q + Pk)) (D0 : 0 ≤ D) (D3 : D = d ∨ D = -d) (E00 : 0 ≤ E0)
    (h1 : -(G / 140737488355328) ≤ s - sg) (h1' : s - sg ≤ G / 140737488355328) (sl : -G ≤ sg) (sh : sg ≤ G) (h2 : -(W / 281474976710656) ≤ w - W) (h2' : w - W ≤ W / 281474976710656)
    (h3 : -((2 * G) / 9007199254740992) ≤ l - (0 - s)) (h3' : l - (0 - s) ≤ (2 * G) / 9007199254740992) (h4 : -((3 * G) / 2251799813685248 + e * w) ≤ d * w - l) (h4' : d * w - l ≤ (3 * G) / 2251799813685248 + e * w)
    (hpd : p * (p - d) ≤ A * (Q + Pk) / 1125899906842624) (hAG : A * G ≤ p * p * W / 2 + E0)
    (hE : Ec ≤ (E0 + p * sg + p * p * W / 2) * (1 + 1 / 281474976710656) + p * p * W / 281474976710656 + 6 * (e * 19342813113834066795298816)) :
    Ec ≤ E0 + E0 / 1099511627776 + W * (Q * Q + Pk * Pk) / 1099511627776 + e * 71671831749689734737838152978190216899892655911508785116799651230841339877765150252188079784691427704832 := by
  have D1 : -D ≤ d := by rcases D3 with h | h <;> grind
  have D2 : d ≤ D := by rcases D3 with h | h <;> grind
  have Dw : D * w ≤ 2 * G + e * w := by
    rcases D3 with h | h
    · rw [h]; grind
    · have : D * w = -(d * w) := by rw [h]; grind
      rw [this]; grind
  have x3 := mul_le D1 D2 h2 h2'
  have DW : D * W ≤ 3 * G + 2 * (e * w) := by
    have := mul_le (A := D) (show -D ≤ D by grind) (show D ≤ D by grind) h2 h2'
    have k1 : D * (w - W) = D * w - D * W := by grind
    have k2 : D * (W / 281474976710656) = D * W / 281474976710656 := by grind
    have k3 := Rat.mul_nonneg D0 W0
    rw [k1, k2] at this
    generalize D * W = DW' at *
    generalize D * w = Dw' at *
    generalize e * w = ew at *
    grind
  have hX : -(G / 17592186044416 + 2 * (e * w)) ≤ sg + d * W ∧ sg + d * W ≤ G / 17592186044416 + 2 * (e * w) := by
    have k2 : D * (W / 281474976710656) = D * W / 281474976710656 := by grind
    have k3 : d * (w - W) = d * w - d * W := by grind
    rw [k2, k3] at x3
    have ew := Rat.mul_nonneg (Rat.le_of_lt e0) (Rat.le_of_lt w0)
    generalize D * W = DW' at *
    generalize d * w = dw at *
    generalize d * W = dW at *
    generalize e * w = ew at *
    constructor <;> grind
  obtain ⟨X, hXe⟩ : ∃ X, X = sg + d * W := ⟨_, rfl⟩
  rw [← hXe] at hX
  have y1 := mul_le A1 A2 hX.1 hX.2
  have y2 : A * (G / 17592186044416 + 2 * (e * w)) = A * G / 17592186044416 + 2 * (A * (e * w)) := by grind
  rw [y2] at y1
  have ew0 := Rat.mul_nonneg (Rat.le_of_lt e0) (Rat.le_of_lt w0)
  have ew9 := Rat.mul_nonneg (Rat.le_of_lt e0) (show 0 ≤ 42535295865117307932921825928971026432 - w by grind)
  have aew := Rat.mul_nonneg (show 0 ≤ 6582018229284824168619876730229402019930943462534319453394436096 - A by grind) ew0
  have y3 := Rat.mul_nonneg W0 (show 0 ≤ A * (Q + Pk) / 1125899906842624 - p * (p - d) by grind)
  have y4 := Rat.mul_nonneg W0 (Rat.mul_nonneg (show 0 ≤ Q + Pk by grind) (show 0 ≤ 2 * (Q + Pk) - A by grind))
  have y5 := Rat.mul_nonneg W0 (sq_nn (Q - Pk))
  have y6 := Rat.mul_nonneg (sq_nn p) W0
  have y7 := Rat.mul_nonneg W0 (Rat.mul_nonneg Q0 P0)
  have es : p * sg + p * p * W / 2 = p * X + W * (p * (p - d)) - p * p * W / 2 := by rw [hXe]; grind
  have z1 : W * (A * (Q + Pk) / 1125899906842624 - p * (p - d)) = W * (A * (Q + Pk)) / 1125899906842624 - W * (p * (p - d)) := by grind
  have z2 : W * ((Q + Pk) * (2 * (Q + Pk) - A)) = 2 * (W * (Q * Q + Pk * Pk)) + 4 * (W * (Q * Pk)) - W * (A * (Q + Pk)) := by grind
  have z3 : W * ((Q - Pk) * (Q - Pk)) = W * (Q * Q + Pk * Pk) - 2 * (W * (Q * Pk)) := by grind
  have z4 : e * (42535295865117307932921825928971026432 - w) = e * 42535295865117307932921825928971026432 - e * w := by grind
  have z5 : (6582018229284824168619876730229402019930943462534319453394436096 - A) * (e * w) = 6582018229284824168619876730229402019930943462534319453394436096 * (e * w) - A * (e * w) := by grind
  rw [z1] at y3
  rw [z2] at y4
  rw [z3] at y5
  rw [z4] at ew9
  rw [z5] at aew
  have hE' : Ec ≤ (E0 + (p * X + W * (p * (p - d)) - p * p * W / 2)) * (1 + 1 / 281474976710656) + p * p * W / 281474976710656 + 6 * (e * 19342813113834066795298816) := by
    have : E0 + p * sg + p * p * W / 2 = E0 + (p * sg + p * p * W / 2) := by grind
    rw [this, es] at hE; exact hE
  clear hE es hpd z1 z2 z3 z4 z5 y2 hXe hX DW Dw x3 h1 h1' h2 h2' h3 h3' h4 h4' sl sh D1 D2 D3
  generalize W * (p * (p - d)) = u1 at *
  generalize W * (A * (Q + Pk)) = u2 at *
  generalize W * (Q * Q + Pk * Pk) = u3 at *
  generalize W * (Q * Pk) = u4 at *
  generalize p * p * W = u5 at *
  generalize p * X = u6 at *
  generalize A * (e * w) = u7 at *
  generalize A * G = u8 at *
  generalize e * w = u9 at *
  grind
theorem en_zero {m s : Rat} (h : s = 0) : en m s = 0 := by
  unfold en
  split
  · rfl
  · rw [h]; grind
/-- The energy of a part that may be is nought or not too small. -/
theorem en_lo {m s : Nat} (um : U40 m) (us : U40 s) (hm : 0 ≤ rv m) : en (rv m) (rv s) ≤ 1329227995784915872903807060280344576 ∧ (en (rv m) (rv s) = 0 ∨ 1 / 2658455991569831745807614120560689152 ≤ en (rv m) (rv s)) ∧ (en (rv m) (rv s) = 0 → rv m = 0 ∨ rv s = 0) := by
  have em : rv (fabs m) = rv m := (rv_abs um.1).2.1 hm
  have sq : rv s * rv s = rv (fabs s) * rv (fabs s) := by obtain ⟨_, _, h⟩ := abs_cases us.1; rcases h with h | h <;> rw [h] <;> grind
  have m2 := um.2
  rw [em] at m2
  rcases m2 with h | ⟨h, h'⟩
  · have e : en (rv m) (rv s) = 0 := by unfold en; rw [if_pos h]
    rw [e]
    exact ⟨by grind, .inl rfl, fun _ => .inl h⟩
  · have hp : 0 < rv m := by grind
    have e := en_mul (s := rv s) hp
    have n := en_nonneg (s := rv s) hm
    rw [sq] at e
    rcases us.2 with k | ⟨k, k'⟩
    · have s0 : rv s = 0 := by obtain ⟨_, _, h⟩ := abs_cases us.1; rcases h with h | h <;> grind
      rw [en_zero s0]
      exact ⟨by grind, .inl rfl, fun _ => .inr s0⟩
    · have q := mul_le (A := 1099511627776) (C := 1099511627776) (x := rv (fabs s)) (y := rv (fabs s)) (by grind) k' (by grind) k'
      have q0 := Rat.mul_nonneg (show 0 ≤ rv (fabs s) - 1 / 1099511627776 by grind) (show 0 ≤ rv (fabs s) + 1 / 1099511627776 by grind)
      have lo : 1 / 2658455991569831745807614120560689152 ≤ en (rv m) (rv s) := by
        refine cancel_le (u := 2 * rv m) (by grind) ?_
        rw [e]; grind
      refine ⟨?_, .inr lo, fun h => by rw [h] at lo; grind⟩
      refine cancel_le (u := 2 * rv m) (by grind) ?_
      rw [e]; grind
/-- A quotient of the energy. -/
theorem en_quo {m a : Nat} {X Y : Rat} (um : U40 m) (hm : 0 < rv m) (fa : fin a = true) (X0 : 0 ≤ X) (X9 : X ≤ 26672057731519417096319407162885031188579033289263632641585031247056148951270528286085728803486217162971719642373732961783555206616477460321453424209323320184380630318056058233852313143647256098915860064543546407926762992149905845164655509504) (hY : Y * (2 * rv m) = X) (a1 : -(X / 1125899906842624 + 4 * eta) ≤ rv a - X) (a2 : rv a - X ≤ X / 1125899906842624 + 4 * eta) (an : 0 ≤ rv a) :
    fin (fdiv a (fmul 4611686018427387904 m)) = true ∧ 0 ≤ rv (fdiv a (fmul 4611686018427387904 m)) ∧ -(Y / 281474976710656 + eta * 17592186044416) ≤ rv (fdiv a (fmul 4611686018427387904 m)) - Y ∧ rv (fdiv a (fmul 4611686018427387904 m)) - Y ≤ Y / 281474976710656 + eta * 17592186044416 ∧ 0 ≤ Y ∧ Y ≤ 29326237612518360273324834748083034614499060912302748190148044495166529541481373859169571088204419456439664137440255713356182385415243137741255706666562129531405183291370713192721204491754474266874920968429307133415352886893299285622127397997029678383104 := by
  have bg := big_890
  have e0 := eta_pos
  have e9 := eta_900
  have em : rv (fabs m) = rv m := (rv_abs um.1).2.1 (by grind)
  have m2 : 1 / 1099511627776 ≤ rv m ∧ rv m ≤ 1099511627776 := by
    have m2 := um.2
    rw [em] at m2
    rcases m2 with h | h
    · grind
    · exact h
  have r2 : rv 4611686018427387904 = 2 := by
    have := rv_lit (a := 4611686018427387904) (p := 2) (q := 1) (by decide) (by decide) (by intro d hd; subst hd; decide +kernel)
    rw [this, show ((2 : Nat) : Rat) = 2 from rfl, show ((1 : Nat) : Rat) = 1 from rfl]; grind
  obtain ⟨f1, b1, b2⟩ := rv_mul (a := 4611686018427387904) (b := m) (B := 2 * rv m) (by decide) um.1 (by grind) (by rw [r2]; grind) (by rw [r2]; grind)
  rw [r2] at b1 b2
  generalize fmul 4611686018427387904 m = b at *
  have Y0 : 0 ≤ Y := cancel_le (u := 2 * rv m) (by grind) (by grind)
  have Y9 : Y ≤ 29326237612518360273324834748083034614499060912302748190148044495166529541481373859169571088204419456439664137440255713356182385415243137741255706666562129531405183291370713192721204491754474266874920968429307133415352886893299285622127397997029678383104 := cancel_le (u := 2 * rv m) (by grind) (by rw [hY]; grind)
  have bp : 0 < rv b := by grind
  have aabs : rv (fabs a) = rv a := (rv_abs fa).2.1 an
  obtain ⟨f2, d1, d2⟩ := rv_quo (C := 469219801800293764373197355969328553831984974596843971042368711922664472663701981746713137411270711303034626199044091413698918166643890203860091306664994072502482932661931411083539271868071588269998735494868914134645646190292788569954038367952474854129664) fa f1 bp (by grind) (by grind) (by rw [aabs]; grind)
  rw [aabs] at d1 d2
  have ne := Rat.mul_nonneg (show 0 ≤ 4398046511104 - rv b by grind) (Rat.le_of_lt e0)
  have dn : 0 ≤ rv (fdiv a b) := by
    have sg := rv_sgn f2
    have s1 : sgnOf (fdiv a b) = true → rv (fdiv a b) = 0 := by
      intro h
      rw [h] at sg; simp only [if_true] at sg
      obtain ⟨_, _, n3⟩ := abs_le f2
      -- the dividend's sign
      by_cases ha : rv a = 0
      · have hb0 : magOf (rungOf b) ≠ 0 := by
          intro hh
          have := rv_abs_mag f1
          rw [hh, (rv_abs f1).2.1 (by grind), show ((0 : Nat) : Rat) = 0 from rfl] at this
          have := Rat.mul_pos bp uu_pos
          grind
        have ha0 : magOf (rungOf a) = 0 := by
          have := rv_zero_sval ha
          rw [sval_sgn] at this
          split at this <;> omega
        have v := V.word0 (sgnOf a ^^ sgnOf b)
        rw [← fdiv_zero fa f1 ha0 hb0] at v
        have := rv_of_V v V.zero
        rw [this]; unfold rv; rw [show sval 0 = 0 by decide]; grind
      · have hb : 0 < rv a := by grind
        exfalso
        have key := (rv_div (C := 469219801800293764373197355969328553831984974596843971042368711922664472663701981746713137411270711303034626199044091413698918166643890203860091306664994072502482932661931411083539271868071588269998735494868914134645646190292788569954038367952474854129664) fa f1 (by rw [(rv_abs f1).2.1 (by grind)]; grind) (by grind) (by grind) (by rw [aabs, (rv_abs f1).2.1 (by grind)]; grind)).2.2.2
        have sa : sgnOf a = false := by
          have := rv_sgn fa
          obtain ⟨_, _, h3⟩ := abs_le fa
          cases hs : sgnOf a
          · rfl
          · rw [hs] at this; simp only [if_true] at this; grind
        have sb : sgnOf b = false := by
          have := rv_sgn f1
          obtain ⟨_, _, h3⟩ := abs_le f1
          cases hs : sgnOf b
          · rfl
          · rw [hs] at this; simp only [if_true] at this; grind
        rw [sa, sb, h] at key
        cases key
    cases hs : sgnOf (fdiv a b)
    · rw [hs] at sg; simp only [Bool.false_eq_true, if_false] at sg
      obtain ⟨_, _, n3⟩ := abs_le f2
      rw [sg]; exact n3
    · rw [s1 hs]; grind
  -- the divisor against 2 m
  have hm2 : -(Y * rv m / 2251799813685248 + Y * eta) ≤ Y * (rv b - 2 * rv m) ∧ Y * (rv b - 2 * rv m) ≤ Y * rv m / 2251799813685248 + Y * eta := by
    have := mul_le (A := Y) (show -Y ≤ Y by grind) (show Y ≤ Y by grind) b1 b2
    have k : Y * (2 * rv m / 9007199254740992 + eta) = 2 * (Y * rv m) / 9007199254740992 + Y * eta := by grind
    rw [k] at this
    have k0 := Rat.mul_nonneg Y0 (show 0 ≤ rv m by grind)
    generalize Y * rv m = Ym at *
    generalize Y * eta = Ye at *
    constructor <;> grind
  have hYe : Y * eta ≤ Y * rv m / 1152921504606846976 := by
    have := Rat.mul_nonneg Y0 (show 0 ≤ rv m / 1152921504606846976 - eta by grind)
    grind
  have eX : X = 2 * (Y * rv m) := by rw [← hY]; grind
  have k0 := Rat.mul_nonneg Y0 (show 0 ≤ rv m by grind)
  have kb : Y * (rv b - 2 * rv m) = Y * rv b - 2 * (Y * rv m) := by grind
  rw [kb] at hm2
  have bm : rv m ≤ rv b := by grind
  have yb := Rat.mul_nonneg Y0 (show 0 ≤ rv b - rv m by grind)
  have yb2 : Y * (rv b - rv m) = Y * rv b - Y * rv m := by grind
  rw [yb2] at yb
  have be : eta ≤ eta * 2199023255552 * rv b := by
    have := Rat.mul_nonneg (Rat.le_of_lt e0) (show 0 ≤ rv b - 1 / 2199023255552 by grind)
    grind
  have kk : eta * 2199023255552 * rv b = 2199023255552 * (eta * rv b) := by grind
  rw [kk] at be
  refine ⟨f2, dn, cancel_le bp ?_, cancel_le bp ?_, Y0, Y9⟩
  · have g : (rv (fdiv a b) - Y) * rv b = rv (fdiv a b) * rv b - Y * rv b := by grind
    have g2 : -(Y / 281474976710656 + eta * 17592186044416) * rv b = -(Y * rv b / 281474976710656 + 17592186044416 * (eta * rv b)) := by grind
    rw [g, g2]
    clear g g2 kk yb2 kb ne hY dn
    generalize rv (fdiv a b) * rv b = u1 at *
    generalize Y * rv b = u2 at *
    generalize Y * rv m = u3 at *
    generalize eta * rv b = u4 at *
    generalize Y * eta = u5 at *
    grind
  · have g : (rv (fdiv a b) - Y) * rv b = rv (fdiv a b) * rv b - Y * rv b := by grind
    have g2 : (Y / 281474976710656 + eta * 17592186044416) * rv b = Y * rv b / 281474976710656 + 17592186044416 * (eta * rv b) := by grind
    rw [g, g2]
    clear g g2 kk yb2 kb ne hY dn
    generalize rv (fdiv a b) * rv b = u1 at *
    generalize Y * rv b = u2 at *
    generalize Y * rv m = u3 at *
    generalize eta * rv b = u4 at *
    generalize Y * eta = u5 at *
    grind
end Go.Sim
