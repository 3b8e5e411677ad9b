/- MassScaled: a shape and a density so many times as great weigh so much more. -/
import Derived.Test.YtbkogihigehjlaaLawSclEC
set_option linter.unusedVariables false
set_option linter.unusedSimpArgs false
set_option maxHeartbeats 4000000
set_option exponentiation.threshold 3000
namespace Go.Proofs.Ytbkogihigehjlaa
open Go.Sim Go.Lst Ieee
theorem ieq_eq {a b : Int} (h : ieq a b = true) : a = b := by simpa [ieq] using h
theorem poly_form {k : Int} {r n d : Nat} {f g : Nat → Nat} (h3 : 3 ≤ n) (h64 : n ≤ 64) (h : ieq (s_mass_polygon_4 k r n f g d) 0 = true) :
    flt 0 (acc (crF f g) (n - 2)) = true ∧ s_mass_polygon_0 k r n f g d = fmul d (fmul (acc (crF f g) (n - 2)) 4602678819172646912) ∧
    s_mass_polygon_1 k r n f g d = fmul d (fdiv (sumF (qF f g n (cX n f g) (cY n f g)) (n - 1)) 4622945017495814144) ∧ s_mass_polygon_2 k r n f g d = cX n f g ∧ s_mass_polygon_3 k r n f g d = cY n f g := by
  have hw := (weighed_ok (f := f) (g := g) h64 h3).2
  have w0 : s_poly_weighed_0 n f g = acc (crF f g) (n - 2) := by unfold s_poly_weighed_0; rw [hw]
  have w1 : s_poly_weighed_1 n f g = acc (mxF f g) (n - 2) := by unfold s_poly_weighed_1; rw [hw]
  have w2 : s_poly_weighed_2 n f g = acc (myF f g) (n - 2) := by unfold s_poly_weighed_2; rw [hw]
  have i61 : ieq (61 : Int) 0 = false := rfl
  have a1 : ieq (s_poly_Area_1 n f g) 0 = true := by
    unfold s_mass_polygon_4 at h
    cases ha : ieq (s_poly_Area_1 n f g) 0
    · rw [ha] at h; simp only [Bool.not_false, cond_true] at h; rw [ha] at h; cases h
    · rfl
  have c2 : ieq (s_poly_Centre_2 n f g) 0 = true := by
    unfold s_mass_polygon_4 at h
    rw [a1] at h
    simp only [Bool.not_true, cond_false] at h
    cases ha : ieq (s_poly_Centre_2 n f g) 0
    · rw [ha] at h; simp only [Bool.not_false, cond_true] at h; rw [ha] at h; cases h
    · rfl
  have hc : ieq (s_poly_Check_0 n f g) 0 = true := by
    unfold s_poly_Area_1 at a1
    cases ha : ieq (s_poly_Check_0 n f g) 0
    · rw [ha] at a1; simp only [Bool.not_false, cond_true] at a1; rw [ha] at a1; cases a1
    · rfl
  have hs : flt 0 (acc (crF f g) (n - 2)) = true := by
    unfold s_poly_Area_1 at a1
    rw [hc, w0] at a1
    simp only [Bool.not_true, cond_false] at a1
    cases ha : flt 0 (acc (crF f g) (n - 2))
    · rw [ha] at a1; simp only [Bool.not_false, cond_true, i61] at a1; cases a1
    · rfl
  have x0 : s_poly_Centre_0 n f g = cX n f g := by
    unfold s_poly_Centre_0
    rw [hc, w0, w1, w2, hs]; rfl
  have x1 : s_poly_Centre_1 n f g = cY n f g := by
    unfold s_poly_Centre_1
    rw [hc, w0, w1, w2, hs]; rfl
  refine ⟨hs, ?_, ?_, ?_, ?_⟩
  · unfold s_mass_polygon_0
    rw [a1, c2]
    simp only [Bool.not_true, cond_false]
    unfold s_poly_Area_0
    rw [hc, w0, hs]; rfl
  · unfold s_mass_polygon_1
    rw [a1, c2, x0, x1, (mpoly_loop h64 h3).2, (num_sum (show 0 < n by omega) (by omega)).1]
    simp only [Bool.not_true, cond_false]
    rw [sumF_congr (n - 1) fun m hm => by rw [blt_true (show m < n by omega), cond_true]]
  · unfold s_mass_polygon_2; rw [a1, c2, x0]; rfl
  · unfold s_mass_polygon_3; rw [a1, c2, x1]; rfl
/-- All kinds. -/
theorem of_sc {k : Int} {r n d i j i2 j2 : Nat} {f g f' g' : Nat → Nat} {z e : Int} (k0 : 0 ≤ k) (k1 : k ≤ 255) (z1 : -20 ≤ z) (z2 : z ≤ 20) (hij : z + (j : Int) = i) (hz : i = 0 ∨ j = 0) (e1 : -20 ≤ e) (e2 : e ≤ 20) (hij2 : e + (j2 : Int) = i2)
    (cr : CF r) (p : Pts n f g) (hd : Pl 962 1114 d) (hf : ∀ m, m < n → f' m = fmul (f m) (pow2 z)) (hg : ∀ m, m < n → g' m = fmul (g m) (pow2 z))
    (h : ieq (s_mass_Of_4 k r n f g d) 0 = true) (h' : ieq (s_mass_Of_4 k (fmul r (pow2 z)) n f' g' (fmul d (pow2 e))) 0 = true) :
    feq (s_mass_Of_0 k (fmul r (pow2 z)) n f' g' (fmul d (pow2 e))) (fmul (fmul (fmul (s_mass_Of_0 k r n f g d) (pow2 e)) (pow2 z)) (pow2 z)) = true ∧
    feq (s_mass_Of_1 k (fmul r (pow2 z)) n f' g' (fmul d (pow2 e))) (fmul (fmul (fmul (fmul (fmul (s_mass_Of_1 k r n f g d) (pow2 e)) (pow2 z)) (pow2 z)) (pow2 z)) (pow2 z)) = true ∧
    feq (s_mass_Of_2 k (fmul r (pow2 z)) n f' g' (fmul d (pow2 e))) (fmul (s_mass_Of_2 k r n f g d) (pow2 z)) = true ∧
    feq (s_mass_Of_3 k (fmul r (pow2 z)) n f' g' (fmul d (pow2 e))) (fmul (s_mass_Of_3 k r n f g d) (pow2 z)) = true := by
  obtain ⟨sh, _, _, a, b, c, q, ea, eb, ec, eq, wi, K⟩ := of_parts k0 k1 h
  obtain ⟨sh', _, _, a', b', c', q', ea', eb', ec', eq', wi', K'⟩ := of_parts k0 k1 h'
  rw [ea, eb, ec, eq, ea', eb', ec', eq']
  have hd2 : Sc i2 j2 942 1134 d (fmul d (pow2 e)) := sc20 hd e1 e2 hij2 (by omega) (by omega) (by omega)
  have P : Pair n i j 942 1134 f g f' g' := ⟨fun m hm => by rw [hf m hm]; exact sc20 (p.pf m hm) z1 z2 hij (by omega) (by omega) (by omega), fun m hm => by rw [hg m hm]; exact sc20 (p.pg m hm) z1 z2 hij (by omega) (by omega) (by omega)⟩
  have hr : s_shape_length_0 r = true → Sc i j 972 1134 r (fmul r (pow2 z)) := fun h => sc20 (len_of cr h) z1 z2 hij (by omega) (by omega) (by omega)
  cases sh with
  | circ hk hn hw hl =>
    subst hk; subst hn
    have K1 := (K.resolve_right (by rintro (⟨h, _⟩ | ⟨h, _⟩) <;> cases h)).2
    have K2 := (K'.resolve_right (by rintro (⟨h, _⟩ | ⟨h, _⟩) <;> cases h)).2
    obtain ⟨rfl, rfl, rfl, rfl⟩ := K1
    obtain ⟨rfl, rfl, rfl, rfl⟩ := K2
    have R := hr hl
    have M : Sc (i2 + (i + i)) (j2 + (j + j)) 687 1256 (s_mass_circle_0 1 r 1 f g d) (s_mass_circle_0 1 (fmul r (pow2 z)) 1 f' g' (fmul d (pow2 e))) := disc_sc R hd2
    have I := circ_sc R hd2 1 1 f g f' g'
    have X : Sc i j 942 1134 (s_mass_circle_2 1 r 1 f g d) (s_mass_circle_2 1 (fmul r (pow2 z)) 1 f' g' (fmul d (pow2 e))) := P.f 0 (by omega)
    have Y : Sc i j 942 1134 (s_mass_circle_3 1 r 1 f g d) (s_mass_circle_3 1 (fmul r (pow2 z)) 1 f' g' (fmul d (pow2 e))) := P.g 0 (by omega)
    exact ⟨end_mass z1 z2 hij e1 e2 hij2 M M.left (by omega) (by omega) (by omega), end_turn z1 z2 hij e1 e2 hij2 I I.left (by omega) (by omega) (by omega), end_place z1 z2 hij X X.left (by omega) (by omega) (by omega), end_place z1 z2 hij Y Y.left (by omega) (by omega) (by omega)⟩
  | caps hk hn hw hv hl =>
    subst hk; subst hn
    have K1 : (a = s_mass_capsule_0 2 r 2 f g d ∧ b = s_mass_capsule_1 2 r 2 f g d ∧ c = s_mass_capsule_2 2 r 2 f g d ∧ q = s_mass_capsule_3 2 r 2 f g d) := by
      rcases K with ⟨h, _⟩ | ⟨_, h⟩ | ⟨h, _⟩
      · cases h
      · exact h
      · cases h
    have K2 : (a' = s_mass_capsule_0 2 (fmul r (pow2 z)) 2 f' g' (fmul d (pow2 e)) ∧ b' = s_mass_capsule_1 2 (fmul r (pow2 z)) 2 f' g' (fmul d (pow2 e)) ∧ c' = s_mass_capsule_2 2 (fmul r (pow2 z)) 2 f' g' (fmul d (pow2 e)) ∧ q' = s_mass_capsule_3 2 (fmul r (pow2 z)) 2 f' g' (fmul d (pow2 e))) := by
      rcases K' with ⟨h, _⟩ | ⟨_, h⟩ | ⟨h, _⟩
      · cases h
      · exact h
      · cases h
    obtain ⟨rfl, rfl, rfl, rfl⟩ := K1
    obtain ⟨rfl, rfl, rfl, rfl⟩ := K2
    obtain ⟨M, I, X, Y⟩ := caps_sc (hr hl) hd2 P 2 2
    exact ⟨end_mass z1 z2 hij e1 e2 hij2 M M.left (by omega) (by omega) (by omega), end_turn z1 z2 hij e1 e2 hij2 I I.left (by omega) (by omega) (by omega), end_place z1 z2 hij X X.left (by omega) (by omega) (by omega), end_place z1 z2 hij Y Y.left (by omega) (by omega) (by omega)⟩
  | poly hk h3 h8 hi hgood =>
    subst hk
    have K1 := (K.resolve_left (by rintro ⟨h, _⟩; cases h)).resolve_left (by rintro ⟨h, _⟩; cases h)
    have K2 := (K'.resolve_left (by rintro ⟨h, _⟩; cases h)).resolve_left (by rintro ⟨h, _⟩; cases h)
    obtain ⟨_, hp, rfl, rfl, rfl, rfl⟩ := K1
    obtain ⟨_, hp', rfl, rfl, rfl, rfl⟩ := K2
    obtain ⟨hs, m0, m1, m2, m3⟩ := poly_form h3 (by omega) hp
    obtain ⟨_, m0', m1', m2', m3'⟩ := poly_form h3 (by omega) hp'
    rw [m0, m1, m2, m3, m0', m1', m2', m3']
    rw [m2, m3] at wi
    unfold s_vec_Within_0 at wi
    rw [Bool.and_eq_true] at wi
    have bx := within_mag wi.1
    have by' := within_mag wi.2
    obtain ⟨cx0, cy0⟩ := centre_sc p.pair h3 h8 (by omega) (by omega) (by omega) (by omega) hs (by omega)
    obtain ⟨cx1, cy1⟩ := centre_sc P h3 h8 (by omega) (by omega) (by omega) (by omega) hs (by omega)
    have px : Pl 593 1114 (cX n f g) := ⟨cx0.la, cx0.la, cx0.fa, cx0.fa, rfl, rfl, cx0.da, cx0.da, bx, bx⟩
    have py : Pl 593 1114 (cY n f g) := ⟨cy0.la, cy0.la, cy0.fa, cy0.fa, rfl, rfl, cy0.da, cy0.da, by', by'⟩
    have cx : Sc i j 573 1134 (cX n f g) (cX n f' g') := cx1.fix (t := 20) px (by omega) (by omega) (by omega) (by omega)
    have cy : Sc i j 573 1134 (cY n f g) (cY n f' g') := cy1.fix (t := 20) py (by omega) (by omega) (by omega) (by omega)
    obtain ⟨t1, t0⟩ := turn_sc p P h3 h8 (by omega) (by omega) px py cx cy hgood
    have s1 := Sc.mul (X := 757) (Y := 1203) (s_sc P h3 h8 (by omega) (by omega) (by omega) (by omega)) (lithalf : Sc 0 0 _ _ _ _) (by omega) (by omega) (by omega) (by omega) (by omega)
    have M := Sc.mul (X := 625) (Y := 1263) hd2 s1 (by omega) (by omega) (by omega) (by omega) (by omega)
    have I1 := Sc.mul (X := 67) (Y := 1520) hd2 t1 (by omega) (by omega) (by omega) (by omega) (by omega)
    have I0 := hd.mul (X := 167) (Y := 1420) t0 (by omega) (by omega) (by omega) (by omega) (by omega)
    exact ⟨end_mass z1 z2 hij e1 e2 hij2 M M.left (by omega) (by omega) (by omega), end_turn z1 z2 hij e1 e2 hij2 (Sc_cast I1 (by omega) (by omega)) I0 (by omega) (by omega) (by omega), end_place z1 z2 hij cx px (by omega) (by omega) (by omega), end_place z1 z2 hij cy py (by omega) (by omega) (by omega)⟩

theorem power21 (p : Int) : ∃ z : Int, IntKind.wrap .i64 (IntKind.wrap .i64 (Int.tmod p 21 + 0) + 0) = z ∧ -20 ≤ z ∧ z ≤ 20 := by
  have h : (Int.tmod p 21).natAbs < 21 := by
    rw [Int.natAbs_tmod]; exact Nat.mod_lt _ (by decide)
  refine ⟨Int.tmod p 21, ?_, by omega, by omega⟩
  have e := wrap64 (n := Int.tmod p 21) (by omega) (by omega)
  rw [Int.add_zero, Int.add_zero, e, e]
def apF (f : Nat → Nat) (k : Nat) : Nat → Nat → Nat
  | 0 => fun _ => 0
  | j + 1 => fun i => bif Nat.blt i j then apF f k j i else fmul (f j) k
theorem apF_at (f : Nat → Nat) (k : Nat) : ∀ j i, i < j → apF f k j i = fmul (f i) k
  | 0, i, h => by omega
  | j + 1, i, h => by
    show (bif Nat.blt i j then apF f k j i else fmul (f j) k) = _
    by_cases h1 : i < j
    · rw [blt_true h1, cond_true]; exact apF_at f k j i h1
    · have : i = j := by omega
      subst this
      rw [blt_false (Nat.le_refl _), cond_false]
def tinyB (x y : Nat) : Bool := (((!(feq (fabs x) 0)) && (flt (fabs x) 4336966441157787648)) || ((!(feq (fabs y) 0)) && (flt (fabs y) 4336966441157787648)))
theorem sc_loop {n k : Nat} {f g : Nat → Nat} (h8 : n ≤ 8) : ∃ m, m ≤ n ∧ E_law08_MassScaled_L0 k n f g (V_law08_MassScaled_L0.mk (0 : Int) 0 (fun j0 => 0) (fun j0 => 0)) = true ∧
    L_law08_MassScaled_L0 k n f g (V_law08_MassScaled_L0.mk (0 : Int) 0 (fun j0 => 0) (fun j0 => 0)) = V_law08_MassScaled_L0.mk (Int.ofNat m) m (apF f k m) (apF g k m) ∧
    (∀ i, i < m → tinyB (f i) (g i) = false) ∧ (m = n ∨ tinyB (f m) (g m) = true) := by
  obtain ⟨m, hm, hall, hend⟩ := first_no (p := fun i => !(tinyB (f i) (g i))) n
  have hr := run_to (ok := ok_law08_MassScaled_L0 k n f g) (go := go_law08_MassScaled_L0 k n f g) (step := step_law08_MassScaled_L0 k n f g)
    (fun j => V_law08_MassScaled_L0.mk (Int.ofNat j) j (apF f k j) (apF g k j)) m (fun j hj => by
      unfold ok_law08_MassScaled_L0
      dsimp only
      rw [toNat_of, ile_ofNat, ilt_ofNat]
      simp only [mrg_same]
      by_cases h : j < n
      · rw [blt_true h, ble_true (Nat.le_refl j), ble_true (show (j + 1) * 16 ≤ 140737488355328 by omega)]
        simp only [mrg_same, Bool.and_self, decide_eq_true h]
      · simp only [mrgB_eq, decide_eq_false h, Bool.not_false, cond_true, cond_false])
    (fun j hj => by
      unfold go_law08_MassScaled_L0
      dsimp only
      rw [toNat_of, go_any (show j < n by omega)]
      exact hall j hj)
    (fun j hj => by
      unfold step_law08_MassScaled_L0
      dsimp only
      rw [succ_i64 (by omega), toNat_of]; rfl)
    (by
      unfold go_law08_MassScaled_L0
      dsimp only
      rw [toNat_of]
      rcases Nat.lt_or_ge m n with h | h
      · rw [go_any h]; exact hend.resolve_left (by omega)
      · have : m = n := by omega
        subst this; exact go_end)
  refine ⟨m, hm, hr.1, hr.2, fun i hi => by simpa using hall i hi, ?_⟩
  rcases hend with h | h
  · exact .inl h
  · exact .inr (by simpa using h)
theorem Sh.small {k : Int} {r n : Nat} {f g : Nat → Nat} (h : Sh k r n f g) : n ≤ 8 ∧ ∀ m, m < n → s_vec_Within_0 (f m) (g m) 4787326403894837248 = true := by
  cases h with
  | circ hk hn hw _ =>
    subst hn
    exact ⟨by omega, fun m hm => by
      have e : m = 0 := by omega
      subst e; exact hw⟩
  | caps hk hn hw hv _ => subst hn; exact ⟨by omega, fun m hm => by
      rcases Nat.lt_or_ge m 1 with h | h
      · have : m = 0 := by omega
        subst this; exact hw
      · have : m = 1 := by omega
        subst this; exact hv⟩
  | poly hk h3 h8 hi _ => exact ⟨h8, hi⟩
theorem pts_ok {n : Nat} {f g : Nat → Nat} (cf : ∀ m, m < n → CF (f m)) (cg : ∀ m, m < n → CF (g m)) (hw : ∀ m, m < n → s_vec_Within_0 (f m) (g m) 4787326403894837248 = true) (ht : ∀ m, m < n → tinyB (f m) (g m) = false) : Pts n f g := by
  have key : ∀ m, m < n → (Pl 962 1114 (f m) ∧ (magOf (rungOf (f m)) = 0 ∨ 2 ^ 1014 ≤ magOf (rungOf (f m)))) ∧ (Pl 962 1114 (g m) ∧ (magOf (rungOf (g m)) = 0 ∨ 2 ^ 1014 ≤ magOf (rungOf (g m)))) := by
    intro m hm
    have w := hw m hm
    have t := ht m hm
    unfold s_vec_Within_0 at w
    unfold tinyB at t
    rw [Bool.and_eq_true] at w
    rw [Bool.or_eq_false_iff] at t
    exact ⟨zone_of (cf m hm) w.1 t.1, zone_of (cg m hm) w.2 t.2⟩
  exact ⟨fun m hm => (key m hm).1.1, fun m hm => (key m hm).2.1, fun m hm => (key m hm).1.2, fun m hm => (key m hm).2.2⟩

section
variable {n : Nat} {f g : Nat → Nat}
theorem good_two {k : Int} {r : Nat} (hg : GoodAs ([.i .u8, .f, .sl 16 [.f, .f]] : List Kd) [AV.int .u8 k, AV.float r, AV.view n 2 (fun i => [AV.float (f i), AV.float (g i)])] 0) :
    0 ≤ k ∧ k ≤ 255 ∧ CF r ∧ (∀ i, i < n → CF (f i)) ∧ (∀ i, i < n → CF (g i)) := by
  simp only [GoodAs, GoodA, atL, flO, inO, lnO, vwO, List.getD_cons_zero, List.getD_cons_succ] at hg
  obtain ⟨⟨a, b⟩, c, ⟨_, d⟩, _⟩ := hg
  exact ⟨by simpa [IntKind.min, IntKind.signed] using a, by simpa [IntKind.max, IntKind.signed, IntKind.bits] using b, c, fun i hi => (d i hi).1, fun i hi => (d i hi).2.1⟩
end
theorem law_MassScaled (k : Int) (r n : Nat) (f g : Nat → Nat) (d : Nat) (p q : Int) (hg : GoodAs ([.i .u8, .f, .sl 16 [.f, .f]] : List Kd) [AV.int .u8 k, AV.float r, AV.view n 2 (fun i => [AV.float (f i), AV.float (g i)])] 0) (hd : GoodA (.f : Kd) (AV.float d)) (hp : GoodA (.i .i64) (.int .i64 p)) (hq : GoodA (.i .i64) (.int .i64 q)) : T_law08_MassScaled k r n f g d p q = true := by
  obtain ⟨k0, k1, cr, cf, cg⟩ := good_two hg
  have cd : CF d := hd
  have haw : s_law08_alive_0 = true := rfl
  obtain ⟨z, hz, z1, z2⟩ := power21 p
  obtain ⟨e, he, e1, e2⟩ := power21 q
  unfold T_law08_MassScaled
  dsimp only
  rw [hz, he, ldexp_word (z := z) (by omega) (by omega), ldexp_word (z := e) (by omega) (by omega), haw]
  simp only [Bool.not_true, cond_false, Bool.true_and]
  rcases (shape_ok (n := n) (f := f) (g := g) (r := r) k0 k1).2 with h | sh
  · rw [h]; rfl
  cases hc : ieq (s_shape_Check_0 k r n f g) 0
  · rfl
  obtain ⟨h8, hw⟩ := sh.small
  obtain ⟨m, hm, hE, hL, hall, hend⟩ := sc_loop (k := pow2 z) (f := f) (g := g) h8
  rw [hL]
  dsimp only
  rw [toNat_of, ilt_ofNat]
  rcases Nat.lt_or_ge m n with hmn | hmn
  · have ht := hend.resolve_left (by omega)
    unfold tinyB at ht
    rw [ht, decide_eq_true hmn]; rfl
  have hmn' : m = n := by omega
  subst hmn'
  rw [decide_eq_false (Nat.lt_irrefl m)]
  simp only [Bool.not_true, Bool.not_false, cond_true, cond_false]
  cases h4 : ieq (s_mass_Of_4 k r m f g d) 0
  · rfl
  cases h4' : ieq (s_mass_Of_4 k (fmul r (pow2 z)) m (apF f (pow2 z) m) (apF g (pow2 z) m) (fmul d (pow2 e))) 0
  · rfl
  cases hdt : ((!(feq d 0)) && (flt d 4336966441157787648))
  case true => rfl
  simp only [Bool.not_true, Bool.or_self, cond_false]
  obtain ⟨_, dw, dl, _⟩ := of_parts k0 k1 h4
  have hd := dens_of cd dw dl hdt
  obtain ⟨a, b, c, x⟩ := of_sc (i := z.toNat) (j := (-z).toNat) (i2 := e.toNat) (j2 := (-e).toNat) k0 k1 z1 z2 (by omega) (by omega) e1 e2 (by omega) cr (pts_ok cf cg hw hall) hd (fun i hi => apF_at f (pow2 z) m i hi) (fun i hi => apF_at g (pow2 z) m i hi) h4 h4'
  unfold s_vec_Scale_0 s_vec_Scale_1
  rw [a, b, c, x]; rfl
theorem pow2_u64 {z : Int} (z1 : -20 ≤ z) (z2 : z ≤ 20) : u64ok (Int.ofNat (pow2 z)) = true := by
  have := pow2_lt (z := z) (by omega) (by omega)
  show Nat.blt (pow2 z) 18446744073709551616 = true
  rw [Nat.blt_eq]; omega
theorem ob_law_MassScaled (k : Int) (r n : Nat) (f g : Nat → Nat) (d : Nat) (p q : Int) (hg : GoodAs ([.i .u8, .f, .sl 16 [.f, .f]] : List Kd) [AV.int .u8 k, AV.float r, AV.view n 2 (fun i => [AV.float (f i), AV.float (g i)])] 0) (hd : GoodA (.f : Kd) (AV.float d)) (hp : GoodA (.i .i64) (.int .i64 p)) (hq : GoodA (.i .i64) (.int .i64 q)) : O_law08_MassScaled k r n f g d p q = true := by
  obtain ⟨k0, k1, cr, cf, cg⟩ := good_two hg
  have haw : s_law08_alive_0 = true := rfl
  obtain ⟨z, hz, z1, z2⟩ := power21 p
  obtain ⟨e, he, e1, e2⟩ := power21 q
  have so := (shape_ok (n := n) (f := f) (g := g) (r := r) k0 k1).1
  have c1 : ilt z (-1022) = false := decide_eq_false (by omega)
  have c2 : ilt e (-1022) = false := decide_eq_false (by omega)
  have oo : ∀ (r' d' n' : Nat) (f' g' : Nat → Nat), o_mass_Of k r' n' f' g' d' = true := fun r' d' n' f' g' => of_o k0 k1
  unfold O_law08_MassScaled
  extract_lets x0 x1 x2 x3 x4 x5 x6 x7 x8 x9 x10 x11 x12 x13 x14 x15 x16 x17 x18 x19 x20 x21 x22 x23 x24 x25 x26 x27 x28 x29 x30 x31 x32
  have h0 : x0 = z := hz
  have h7 : x7 = e := he
  have h2 : x2 = Int.ofNat (pow2 z) := by
    rw [← ldexp_bits (z := z) (by omega) (by omega)]
    show IntKind.wrap .u64 ((((0 : Int) % (18446744073709551616 : Int)).toNat ||| ((IntKind.wrap .u64 ((IntKind.wrap .u64 (IntKind.wrap .i64 ((bif (ilt x0 (-1022 : Int)) then (IntKind.wrap .i64 (x0 + (53 : Int))) else x0) + (1023 : Int)))) * (4503599627370496 : Int))) % (18446744073709551616 : Int)).toNat : Nat) : Int) = _
    rw [h0, c1]; rfl
  have h9 : x9 = Int.ofNat (pow2 e) := by
    rw [← ldexp_bits (z := e) (by omega) (by omega)]
    show IntKind.wrap .u64 ((((0 : Int) % (18446744073709551616 : Int)).toNat ||| ((IntKind.wrap .u64 ((IntKind.wrap .u64 (IntKind.wrap .i64 ((bif (ilt x7 (-1022 : Int)) then (IntKind.wrap .i64 (x7 + (53 : Int))) else x7) + (1023 : Int)))) * (4503599627370496 : Int))) % (18446744073709551616 : Int)).toNat : Nat) : Int) = _
    rw [h7, c2]; rfl
  have h5 : x5 = pow2 z := by
    rw [← ldexp_word (z := z) (by omega) (by omega), ← h0]
  have h6 : x6 = true := by show (allB (fun _ => true) && o_shape_Check k r n f g) = true; rw [so, allB_true]; rfl
  have m1 : ∀ (a b : Bool), mrgB a true (mrgB b true ((u64ok x2) && true)) = true := fun a b => by rw [h2, pow2_u64 z1 z2, Bool.and_self, mrg_same, mrg_same]
  have m2 : ∀ (a b : Bool), mrgB a true (mrgB b true ((u64ok x9) && true)) = true := fun a b => by rw [h9, pow2_u64 e1 e2, Bool.and_self, mrg_same, mrg_same]
  rw [haw]
  simp only [Bool.not_true, mrgB_eq, cond_false]
  rcases (shape_ok (n := n) (f := f) (g := g) (r := r) k0 k1).2 with h | sh
  · rw [h]; simp only [Bool.not_false, cond_true]; exact h6
  cases hc : ieq (s_shape_Check_0 k r n f g) 0
  · simp only [Bool.not_false, cond_true]; exact h6
  obtain ⟨h8, hw⟩ := sh.small
  obtain ⟨m, hm, hE, hL, hall, hend⟩ := sc_loop (k := pow2 z) (f := f) (g := g) h8
  have h12 : x12 = true := by
    show (((mrgB x11 true (mrgB x10 true ((u64ok x9) && true))) && ((mrgB x4 true (mrgB x3 true ((u64ok x2) && true))) && x6)) && ((((((allB fun _ => true) && (allB fun _ => true)) && (eqT k k)) && (eqT 0 0)) && (eqT 0 0)) && (E_law08_MassScaled_L0 x5 n f g (V_law08_MassScaled_L0.mk (0 : Int) 0 (fun j0 => 0) (fun j0 => 0))))) = true
    rw [m1, m2, h6, h5, hE]; simp only [allB_true, eqT_self, Bool.and_self]
  have h18 : x18 = m := by
    show (L_law08_MassScaled_L0 x5 n f g (V_law08_MassScaled_L0.mk (0 : Int) 0 (fun j0 => 0) (fun j0 => 0))).v1 = m
    rw [h5, hL]
  have h20 : x20 = true := by
    show (((Nat.ble x18 x18) && ((allB fun _ => true) && (o_mass_Of k x19 x18 x17 x16 x14))) && (((allB fun _ => true) && (o_mass_Of k r n f g d)) && x12)) = true
    rw [oo, oo, h12, ble_true (Nat.le_refl x18)]; simp only [allB_true, Bool.and_self]
  have h22 : x22 = true := by show mrgB x21 x20 x20 = true; rw [mrg_same]; exact h20
  have h25 : x25 = true := by show mrgB x24 x22 (mrgB x23 x22 x22) = true; rw [mrg_same, mrg_same]; exact h22
  have h26 : x26 = true := by show mrgB (s_law08_alive_0) x25 x25 = true; rw [mrg_same]; exact h25
  have h28 : x28 = true := by show mrgB x27 x26 x26 = true; rw [mrg_same]; exact h26
  rw [h12, h25, h28]
  simp only [Bool.cond_self, Bool.not_true, cond_false]
end Go.Proofs.Ytbkogihigehjlaa
