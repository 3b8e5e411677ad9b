/- Powers of two, finer: grids out of sizes, tiny parts of a centre, areas about it. -/
import Derived.Test.YtbkogihigehjlaaSimScale3L
import Derived.Test.YtbkogihigehjlaaSimRowNear
set_option linter.unusedVariables false
set_option linter.unusedSimpArgs false
set_option exponentiation.threshold 3000
namespace Go.Sim
open Ieee
theorem pow_cancel {u v m : Nat} (h : 2 ^ (u + v) ∣ m * 2 ^ v) : 2 ^ u ∣ m := by
  rw [Nat.pow_add] at h
  exact Nat.dvd_of_mul_dvd_mul_right (Nat.two_pow_pos v) h
/-- What is known of the one is known of the other. -/
theorem Sc.fix {i j x y X Y t U V a b : Nat} (h : Sc i j x y a b) (p : Pl X Y a) (h1 : i ≤ j + t) (h2 : j ≤ i + t) (hU : U + t ≤ X) (hV : Y + t ≤ V) : Sc i j U V a b := by
  refine ⟨h.la, h.lb, h.fa, h.fb, h.sg, h.mg, ?_, ?_, ?_, ?_⟩
  · exact Nat.dvd_trans (Nat.pow_dvd_pow 2 (by omega)) p.da
  · refine pow_cancel (v := j) ?_
    rw [h.mg]
    refine Nat.dvd_trans (Nat.pow_dvd_pow 2 (show U + j ≤ X + i by omega)) ?_
    rw [Nat.pow_add]
    exact Nat.mul_dvd_mul_right p.da _
  · exact Nat.le_trans p.ua (Nat.pow_le_pow_right (by decide) (by omega))
  · have h3 : magOf (rungOf b) * 2 ^ j ≤ 2 ^ V * 2 ^ j := by
      rw [h.mg, ← Nat.pow_add]
      refine Nat.le_trans (Nat.mul_le_mul_right _ p.ua) ?_
      rw [← Nat.pow_add]
      exact Nat.pow_le_pow_right (by decide) (by omega)
    exact Nat.le_of_mul_le_mul_right h3 (Nat.two_pow_pos j)
theorem Pl.ge {x y a : Nat} (p : Pl x y a) (h : magOf (rungOf a) ≠ 0) : 2 ^ x ≤ magOf (rungOf a) := Nat.le_of_dvd (Nat.pos_of_ne_zero h) p.da
theorem Pl.up {x y X a : Nat} (p : Pl x y a) (h : 2 ^ (X + 52) ≤ magOf (rungOf a)) : Pl X y a := ⟨p.la, p.la, p.fa, p.fa, rfl, rfl, dvd_of_ge h, dvd_of_ge h, p.ua, p.ua⟩
theorem Pl.nil {x y X a : Nat} (p : Pl x y a) (h : magOf (rungOf a) = 0) : Pl X y a := by
  have : 2 ^ X ∣ magOf (rungOf a) := by rw [h]; exact Nat.dvd_zero _
  exact ⟨p.la, p.la, p.fa, p.fa, rfl, rfl, this, this, p.ua, p.ua⟩
theorem Pl.sub {x y a b : Nat} (h : Pl x y a) (g : Pl x y b) (hx : 52 ≤ x) (hy : y ≤ 2096) (hxy : 51 ≤ y) : Pl x (y + 1) (fsub a b) := Sc.sub h g hx hy hxy
theorem Pl.add {x y a b : Nat} (h : Pl x y a) (g : Pl x y b) (hx : 52 ≤ x) (hy : y ≤ 2096) (hxy : 51 ≤ y) : Pl x (y + 1) (fadd a b) := Sc.add h g hx hy hxy
theorem Pl.mul {x y x' y' X Y a b : Nat} (h : Pl x y a) (g : Pl x' y' b) (hx : 52 ≤ X) (hX : X + 1074 ≤ x + x') (hY : y + y' ≤ Y + 1074) (h52 : 52 ≤ Y) (hy : Y ≤ 2097) : Pl X Y (fmul a b) := Sc.mul h g hx hX hY h52 hy
theorem Pl.div {x y x' y' X Y a b : Nat} (h : Pl x y a) (g : Pl x' y' b) (hb : magOf (rungOf b) ≠ 0) (hx : 52 ≤ x) (hx' : 52 ≤ x') (hX0 : 52 ≤ X) (hX : X + y' ≤ x + 1020) (hY : y + 1076 ≤ Y + x') (hy : Y ≤ 2097) : Pl X Y (fdiv a b) := Sc.div (i := 0) (j := 0) (i' := 0) (j' := 0) h g hb hx hx' hX0 hX hY hy
theorem Pl.weak {x y x' y' a : Nat} (h : Pl x y a) (hx : x' ≤ x) (hy : y ≤ y') : Pl x' y' a := Sc.weak h hx hy
/-- The size of a sum. -/
theorem mag_sub {a b : Nat} (lb : b < 18446744073709551616) (fa : fin a = true) (fb : fin b = true) : magOf (rungOf (fsub a b)) = magOf (RN (sval a - sval b).natAbs 0) := by
  obtain ⟨e, f⟩ := rv_neg lb fb
  rw [sub_add lb, fadd_fin fa f, sval_fneg lb (fin_not_nan fb), rung_word _ (RN_le _ _), ← Int.sub_eq_add_neg]
theorem mag_mul {a b d : Nat} (hd : d = 1074) (fa : fin a = true) (fb : fin b = true) : magOf (rungOf (fmul a b)) = magOf (RN (magOf (rungOf a) * magOf (rungOf b)) d) := by
  rw [hd, fmul_fin fa fb, rung_word _ (RN_le _ _)]
/-- A place of a point, less a tiny part of a centre. -/
theorem tiny_sub {l c y y' : Nat} (pl : Pl 962 y l) (pc : Pl 593 y' c) (hl : magOf (rungOf l) = 0 ∨ 2 ^ 1014 ≤ magOf (rungOf l)) (hy : y ≤ 1200) (hc : magOf (rungOf c) < 2 ^ 1008) :
    (magOf (rungOf l) = 0 ∧ magOf (rungOf (fsub l c)) = magOf (rungOf c)) ∨ 2 ^ 1013 ≤ magOf (rungOf (fsub l c)) := by
  rw [mag_sub pc.la pl.fa pc.fa]
  have al := natAbs_sval l
  have ac := natAbs_sval c
  rcases hl with hl | hl
  · left
    refine ⟨hl, ?_⟩
    rw [hl] at al
    have : (sval l - sval c).natAbs = magOf (rungOf c) := by omega
    rw [this]
    have hr : rungOf c ≤ 9218868437227405312 := Nat.le_of_lt (fin_iff.1 pc.fa)
    have := RN_exact hr 0
    rw [Nat.pow_zero, Nat.mul_one] at this
    rw [this]
  · right
    have e13 : (2 : Nat) ^ 1014 = 2 * 2 ^ 1013 := by rw [← Nat.pow_succ']
    have e8 : (2 : Nat) ^ 1013 = 32 * 2 ^ 1008 := by rw [show (32 : Nat) = 2 ^ 5 by decide, ← Nat.pow_add]
    have hn : 2 ^ 1013 ≤ (sval l - sval c).natAbs := by
      generalize (2 : Nat) ^ 1014 = p14 at *
      generalize (2 : Nat) ^ 1013 = p13 at *
      generalize (2 : Nat) ^ 1008 = p8 at *
      omega
    have hb := RN_bottom (n := (sval l - sval c).natAbs) (d := 0) (y := 1013) (by simpa using hn) (by omega)
    have hl2 : magOf (RN' (sval l - sval c).natAbs 0) ≤ magOf (RN (sval l - sval c).natAbs 0) ∨ RN' (sval l - sval c).natAbs 0 ≥ 9218868437227405312 := by
      rcases Nat.lt_or_ge (RN' (sval l - sval c).natAbs 0) 9218868437227405312 with h | h
      · left; rw [RN_self h]; exact Nat.le_refl _
      · exact .inr h
    rcases hl2 with h | h
    · exact Nat.le_trans hb h
    · have e : RN (sval l - sval c).natAbs 0 = 9218868437227405312 := by rw [RN_eq]; omega
      rw [e]
      refine Nat.le_trans (show 2 ^ 1013 ≤ 2 ^ 1200 from Nat.pow_le_pow_right (by decide) (by decide)) ?_
      rw [← mag_pow (y := 1200) (by decide)]
      exact magOf_le_iff.2 (by decide)

theorem prod_big {a b d y : Nat} (hd : d = 1074) (fa : fin a = true) (fb : fin b = true) (hf : fin (fmul a b) = true) (hy : 52 ≤ y) (h : 2 ^ (y + d) ≤ magOf (rungOf a) * magOf (rungOf b)) : 2 ^ y ≤ magOf (rungOf (fmul a b)) := by
  have hn : RN' (magOf (rungOf a) * magOf (rungOf b)) d < 9218868437227405312 := by
    refine RN'_of_fin (s := sgnOf a ^^ sgnOf b) ?_
    rw [hd, ← fmul_fin fa fb]; exact hf
  rw [mag_mul hd fa fb, RN_self hn]
  exact RN_bottom h hy
theorem prod_small {a b d y : Nat} (hd : d = 1074) (fa : fin a = true) (fb : fin b = true) (hy : 52 ≤ y) (hy2 : y ≤ 2097) (h : magOf (rungOf a) * magOf (rungOf b) ≤ 2 ^ (y + d)) : magOf (rungOf (fmul a b)) ≤ 2 ^ y := by
  have ht := RN_top h hy hy2
  rw [mag_mul hd fa fb, RN_self ht.1]
  exact ht.2
theorem dif_big {p q y : Nat} (lq : q < 18446744073709551616) (fp : fin p = true) (fq : fin q = true) (hf : fin (fsub p q) = true) (hy : 53 ≤ y) (h : 2 ^ y ≤ (sval p - sval q).natAbs) : 2 ^ y ≤ magOf (rungOf (fsub p q)) := by
  obtain ⟨e, f⟩ := rv_neg lq fq
  have hn : RN' (sval p - sval q).natAbs 0 < 9218868437227405312 := by
    have hw := hf
    rw [sub_add lq, fadd_fin fp f, sval_fneg lq (fin_not_nan fq), ← Int.sub_eq_add_neg] at hw
    exact RN'_of_fin hw
  rw [mag_sub lq fp fq, RN_self hn]
  exact RN_bottom (by simpa using h) (by omega)
/-- Of two products the one is much the greater. -/
theorem dom {a b c e : Nat} (pa : Pl 593 1135 a) (pb : Pl 593 1135 b) (pc : Pl 593 1135 c) (pe : Pl 593 1135 e) (h : 16 * (magOf (rungOf a) * magOf (rungOf b)) ≤ magOf (rungOf c) * magOf (rungOf e)) (hbig : 2 ^ 1606 ≤ magOf (rungOf c) * magOf (rungOf e)) :
    Pl 475 1197 (fsub (fmul a b) (fmul c e)) ∧ Pl 475 1197 (fsub (fmul c e) (fmul a b)) := by
  obtain ⟨d, hd⟩ : ∃ d, d = 1074 := ⟨_, rfl⟩
  have q1 : Pl 112 1196 (fmul a b) := pa.mul pb (by omega) (by omega) (by omega) (by omega) (by omega)
  have q2 : Pl 112 1196 (fmul c e) := pc.mul pe (by omega) (by omega) (by omega) (by omega) (by omega)
  have r1 := q1.sub q2 (by omega) (by omega) (by omega)
  have r2 := q2.sub q1 (by omega) (by omega) (by omega)
  have b1 := fun y => prod_big (y := y) hd pc.fa pe.fa q2.fa
  have s1 := fun y => prod_small (y := y) hd pa.fa pb.fa
  have top : magOf (rungOf c) * magOf (rungOf e) ≤ 2 ^ 2270 := by
    have := Nat.mul_le_mul pc.ua pe.ua
    rwa [← Nat.pow_add] at this
  have hm0 : magOf (rungOf c) * magOf (rungOf e) ≠ 0 := by have := Nat.two_pow_pos 1606; omega
  generalize magOf (rungOf c) * magOf (rungOf e) = n2 at *
  generalize magOf (rungOf a) * magOf (rungOf b) = n1 at *
  have hlo : 2 ^ n2.log2 ≤ n2 := Nat.log2_self_le hm0
  have hhi : n2 < 2 ^ (n2.log2 + 1) := Nat.lt_log2_self
  have hl : 1606 ≤ n2.log2 := (Nat.le_log2 hm0).2 hbig
  have hl2 : n2.log2 ≤ 2270 := (Nat.pow_le_pow_iff_right (a := 2) (by decide)).1 (Nat.le_trans hlo top)
  obtain ⟨y, hy⟩ : ∃ y, n2.log2 = y + 3 + d := ⟨n2.log2 - 3 - d, by omega⟩
  have g2 : 2 ^ (y + 3) ≤ magOf (rungOf (fmul c e)) := b1 _ (by omega) (by rw [← hy]; exact hlo)
  have g1 : magOf (rungOf (fmul a b)) ≤ 2 ^ y := by
    refine s1 _ (by omega) (by omega) ?_
    have e4 : 2 ^ (n2.log2 + 1) = 16 * 2 ^ (y + d) := by rw [hy, show (16 : Nat) = 2 ^ 4 by decide, ← Nat.pow_add]; congr 1; omega
    omega
  have e8 : 2 ^ (y + 3) = 8 * 2 ^ y := by rw [Nat.pow_add]; omega
  have a1 := natAbs_sval (fmul a b)
  have a2 := natAbs_sval (fmul c e)
  have e2 : 2 ^ (y + 2) = 4 * 2 ^ y := by rw [Nat.pow_add]; omega
  have n1' : 2 ^ (y + 2) ≤ (sval (fmul a b) - sval (fmul c e)).natAbs := by omega
  have n2' : 2 ^ (y + 2) ≤ (sval (fmul c e) - sval (fmul a b)).natAbs := by omega
  have k1 := dif_big q2.la q1.fa q2.fa r1.fa (by omega) n1'
  have k2 := dif_big q1.la q2.fa q1.fa r2.fa (by omega) n2'
  have hp : 2 ^ (475 + 52) ≤ 2 ^ (y + 2) := Nat.pow_le_pow_right (by decide) (by omega)
  exact ⟨r1.up (Nat.le_trans hp k1), r2.up (Nat.le_trans hp k2)⟩

theorem up_grid {a : Nat} (p : Pl 593 1135 a) (h : 2 ^ 1013 ≤ magOf (rungOf a)) : Pl 961 1135 a := p.up h
/-- Two sides from a centre: the grid of what they span. -/
theorem cross_grid {f0 f1 g0 g1 cx cy : Nat} (p0 : Pl 962 1134 f0) (p1 : Pl 962 1134 f1) (q0 : Pl 962 1134 g0) (q1 : Pl 962 1134 g1) (px : Pl 593 1134 cx) (py : Pl 593 1134 cy)
    (z0 : magOf (rungOf f0) = 0 ∨ 2 ^ 1014 ≤ magOf (rungOf f0)) (z1 : magOf (rungOf f1) = 0 ∨ 2 ^ 1014 ≤ magOf (rungOf f1)) (w0 : magOf (rungOf g0) = 0 ∨ 2 ^ 1014 ≤ magOf (rungOf g0)) (w1 : magOf (rungOf g1) = 0 ∨ 2 ^ 1014 ≤ magOf (rungOf g1))
    (hne : ¬ (magOf (rungOf f0) = 0 ∧ magOf (rungOf f1) = 0 ∧ magOf (rungOf g0) = 0 ∧ magOf (rungOf g1) = 0)) :
    Pl 475 1197 (fsub (fmul (fsub f0 cx) (fsub g1 cy)) (fmul (fsub g0 cy) (fsub f1 cx))) := by
  have A : Pl 593 1135 (fsub f0 cx) := (p0.weak (by omega) (Nat.le_refl _)).sub px (by omega) (by omega) (by omega)
  have B : Pl 593 1135 (fsub g1 cy) := (q1.weak (by omega) (Nat.le_refl _)).sub py (by omega) (by omega) (by omega)
  have C : Pl 593 1135 (fsub g0 cy) := (q0.weak (by omega) (Nat.le_refl _)).sub py (by omega) (by omega) (by omega)
  have D : Pl 593 1135 (fsub f1 cx) := (p1.weak (by omega) (Nat.le_refl _)).sub px (by omega) (by omega) (by omega)
  have fin2 : ∀ {P Q : Nat}, Pl 475 1196 P → Pl 475 1196 Q → Pl 475 1197 (fsub P Q) := fun h g => h.sub g (by omega) (by omega) (by omega)
  have coarse : ∀ {c : Nat} {l : Nat}, Pl 593 1134 c → Pl 962 1134 l → 2 ^ 1008 ≤ magOf (rungOf c) → Pl 956 1135 (fsub l c) := fun h g k => (g.weak (by omega) (Nat.le_refl _)).sub (h.up (X := 956) k) (by omega) (by omega) (by omega)
  rcases Nat.lt_or_ge (magOf (rungOf cx)) (2 ^ 1008) with tx | tx
  · rcases Nat.lt_or_ge (magOf (rungOf cy)) (2 ^ 1008) with ty | ty
    · have a := tiny_sub p0 px z0 (by omega) tx
      have b := tiny_sub q1 py w1 (by omega) ty
      have c := tiny_sub q0 py w0 (by omega) ty
      have e := tiny_sub p1 px z1 (by omega) tx
      have e13 : (2 : Nat) ^ 1013 = 32 * 2 ^ 1008 := by rw [show (32 : Nat) = 2 ^ 5 by decide, ← Nat.pow_add]
      have big : ∀ {u v : Nat}, Pl 593 1135 u → Pl 593 1135 v → (2 ^ 1013 ≤ magOf (rungOf u) ∨ 2 ^ 1013 ≤ magOf (rungOf v)) → Pl 475 1196 (fmul u v) := by
        intro u v pu pv h
        rcases h with h | h
        · exact (up_grid pu h).mul pv (by omega) (by omega) (by omega) (by omega) (by omega)
        · exact pu.mul (up_grid pv h) (by omega) (by omega) (by omega) (by omega) (by omega)
      have nilc : ∀ {u v s t : Nat}, Pl 593 1135 u → Pl 593 1135 v → Pl 593 1135 s → Pl 593 1135 t → magOf (rungOf u) * magOf (rungOf v) = 0 → magOf (rungOf s) * magOf (rungOf t) = 0 → Pl 475 1197 (fsub (fmul u v) (fmul s t)) := by
        intro u v s t pu pv ps pt h1 h2
        obtain ⟨d, hd⟩ : ∃ d, d = 1074 := ⟨_, rfl⟩
        have k1 : magOf (rungOf (fmul u v)) = 0 := by rw [mag_mul hd pu.fa pv.fa, h1, RN_zero]; rfl
        have k2 : magOf (rungOf (fmul s t)) = 0 := by rw [mag_mul hd ps.fa pt.fa, h2, RN_zero]; rfl
        have m1 : Pl 112 1196 (fmul u v) := pu.mul pv (by omega) (by omega) (by omega) (by omega) (by omega)
        have m2 : Pl 112 1196 (fmul s t) := ps.mul pt (by omega) (by omega) (by omega) (by omega) (by omega)
        exact fin2 (m1.nil k1) (m2.nil k2)
      have lead : ∀ {u v s t : Nat}, Pl 593 1135 u → Pl 593 1135 v → Pl 593 1135 s → Pl 593 1135 t →
          magOf (rungOf u) < 2 ^ 1008 → magOf (rungOf v) < 2 ^ 1008 → (magOf (rungOf s) = magOf (rungOf v) ∨ 2 ^ 1013 ≤ magOf (rungOf s)) → (magOf (rungOf t) = magOf (rungOf u) ∨ 2 ^ 1013 ≤ magOf (rungOf t)) → (2 ^ 1013 ≤ magOf (rungOf s) ∨ 2 ^ 1013 ≤ magOf (rungOf t)) →
          16 * (magOf (rungOf u) * magOf (rungOf v)) ≤ magOf (rungOf s) * magOf (rungOf t) ∧ (magOf (rungOf s) * magOf (rungOf t) = 0 ∨ 2 ^ 1606 ≤ magOf (rungOf s) * magOf (rungOf t)) := by
        intro u v s t pu pv ps pt hu hv hs ht hb
        have ge : ∀ (z : Nat), Pl 593 1135 z → magOf (rungOf z) = 0 ∨ 2 ^ 593 ≤ magOf (rungOf z) := fun z p => by
          rcases Nat.eq_zero_or_pos (magOf (rungOf z)) with h | h
          · exact .inl h
          · exact .inr (p.ge (by omega))
        have gs := ge s ps
        have gt := ge t pt
        have e16 : (2 : Nat) ^ 1606 = 2 ^ 1013 * 2 ^ 593 := by rw [← Nat.pow_add]
        have k593 : (2 : Nat) ^ 593 ≤ 2 ^ 1013 := Nat.pow_le_pow_right (by decide) (by decide)
        generalize magOf (rungOf u) = U at *
        generalize magOf (rungOf v) = V at *
        generalize magOf (rungOf s) = S at *
        generalize magOf (rungOf t) = T at *
        generalize (2 : Nat) ^ 1606 = r at *
        generalize (2 : Nat) ^ 593 = q at *
        generalize (2 : Nat) ^ 1013 = p at *
        generalize (2 : Nat) ^ 1008 = o at *
        subst e16
        refine ⟨?_, ?_⟩
        · rcases hs with hs | hs
          · have hb' : p ≤ T := by
              rcases hb with hb | hb
              · omega
              · exact hb
            rw [hs, show 16 * (U * V) = V * (16 * U) by rw [Nat.mul_comm U V]; ac_rfl]
            exact Nat.mul_le_mul_left _ (by omega)
          · rcases ht with ht | ht
            · rw [ht, show 16 * (U * V) = 16 * V * U by ac_rfl]
              exact Nat.mul_le_mul_right _ (by omega)
            · refine Nat.le_trans ?_ (Nat.mul_le_mul hs ht)
              rw [show 16 * (U * V) = 16 * U * V by ac_rfl]
              exact Nat.mul_le_mul (by omega) (by omega)
        · rcases hb with hb | hb
          · rcases gt with h | h
            · left; rw [h, Nat.mul_zero]
            · right; exact Nat.mul_le_mul hb h
          · rcases gs with h | h
            · left; rw [h, Nat.zero_mul]
            · right; rw [Nat.mul_comm p q]; exact Nat.mul_le_mul h hb
      by_cases t1 : 2 ^ 1013 ≤ magOf (rungOf (fsub f0 cx)) ∨ 2 ^ 1013 ≤ magOf (rungOf (fsub g1 cy))
      · by_cases t2 : 2 ^ 1013 ≤ magOf (rungOf (fsub g0 cy)) ∨ 2 ^ 1013 ≤ magOf (rungOf (fsub f1 cx))
        · exact fin2 (big A B t1) (big C D t2)
        · -- the second is tiny
          have c' := c.resolve_right fun h => t2 (.inl h)
          have e' := e.resolve_right fun h => t2 (.inr h)
          obtain ⟨l1, l2⟩ := lead C D A B (by rw [c'.2]; exact ty) (by rw [e'.2]; exact tx) (a.imp (fun h => by rw [h.2, e'.2]) id) (b.imp (fun h => by rw [h.2, c'.2]) id) t1
          rcases l2 with l2 | l2
          · exact nilc A B C D l2 (by omega)
          · exact (dom C D A B l1 l2).2
      · have a' := a.resolve_right fun h => t1 (.inl h)
        have b' := b.resolve_right fun h => t1 (.inr h)
        have t2 : 2 ^ 1013 ≤ magOf (rungOf (fsub g0 cy)) ∨ 2 ^ 1013 ≤ magOf (rungOf (fsub f1 cx)) := by
          rcases c with c | c
          · rcases e with e | e
            · exact absurd ⟨a'.1, e.1, c.1, b'.1⟩ hne
            · exact .inr e
          · exact .inl c
        obtain ⟨l1, l2⟩ := lead A B C D (by rw [a'.2]; exact tx) (by rw [b'.2]; exact ty) (c.imp (fun h => by rw [h.2, b'.2]) id) (e.imp (fun h => by rw [h.2, a'.2]) id) t2
        rcases l2 with l2 | l2
        · exact nilc A B C D (by omega) l2
        · exact (dom A B C D l1 l2).1
    · have B' := coarse py q1 ty
      have C' := coarse py q0 ty
      exact fin2 (A.mul B' (by omega) (by omega) (by omega) (by omega) (by omega)) (C'.mul D (by omega) (by omega) (by omega) (by omega) (by omega))
  · have A' := coarse px p0 tx
    have D' := coarse px p1 tx
    exact fin2 (A'.mul B (by omega) (by omega) (by omega) (by omega) (by omega)) (C.mul D' (by omega) (by omega) (by omega) (by omega) (by omega))

theorem side_mag {sx sy : Nat} (px : Pl 962 1134 sx) (py : Pl 962 1134 sy) (h : flt (fsqrt (fadd (fmul sx sx) (fmul sy sy))) 4472074429978902528 = false) : ¬ (magOf (rungOf sx) ≤ 2 ^ 1034 ∧ magOf (rungOf sy) ≤ 2 ^ 1034) := by
  rintro ⟨h1, h2⟩
  have qx : Pl 962 1034 sx := ⟨px.la, px.la, px.fa, px.fa, rfl, rfl, px.da, px.da, h1, h1⟩
  have qy : Pl 962 1034 sy := ⟨py.la, py.la, py.fa, py.fa, rfl, rfl, py.da, py.da, h2, h2⟩
  have mx : Pl 850 994 (fmul sx sx) := qx.mul qx (by omega) (by omega) (by omega) (by omega) (by omega)
  have my : Pl 850 994 (fmul sy sy) := qy.mul qy (by omega) (by omega) (by omega) (by omega) (by omega)
  have sm : Pl 850 995 (fadd (fmul sx sx) (fmul sy sy)) := mx.add my (by omega) (by omega) (by omega)
  have sq : ∀ {z : Nat}, fin z = true → sgnOf (fmul z z) = false := fun {z} fz => by
    rw [fmul_fin fz fz]
    have := RN_le (magOf (rungOf z) * magOf (rungOf z)) 1074
    rw [Bool.xor_self, show double.word false (RN (magOf (rungOf z) * magOf (rungOf z)) 1074) = RN (magOf (rungOf z) * magOf (rungOf z)) 1074 by unfold Format.word; simp]
    exact (sgn_false (by omega)).2 (by omega)
  have sg : sgnOf (fadd (fmul sx sx) (fmul sy sy)) = false := by
    have a1 := sq qx.fa
    have a2 := sq qy.fa
    rw [fadd_fin mx.fa my.fa]
    have n1 : ¬ (sval (fmul sx sx) + sval (fmul sy sy) < 0) := by
      rw [sval_sgn, sval_sgn, a1, a2]; simp only [Bool.false_eq_true, if_false]; omega
    have hs : (if sval (fmul sx sx) + sval (fmul sy sy) = 0 then sgnOf (fmul sx sx) && sgnOf (fmul sy sy) else decide (sval (fmul sx sx) + sval (fmul sy sy) < 0)) = false := by
      rw [a1, a2]; split
      · rfl
      · exact decide_eq_false n1
    rw [hs]
    have := RN_le (sval (fmul sx sx) + sval (fmul sy sy)).natAbs 0
    rw [show double.word false (RN (sval (fmul sx sx) + sval (fmul sy sy)).natAbs 0) = RN (sval (fmul sx sx) + sval (fmul sy sy)).natAbs 0 by unfold Format.word; simp]
    exact (sgn_false (by omega)).2 (by omega)
  have rt : Pl 905 1038 (fsqrt (fadd (fmul sx sx) (fmul sy sy))) := Sc.sqrt (i := 0) (j := 0) sm sg (by omega) (by omega) (by omega) (by omega) (by omega)
  have fl : fin 4472074429978902528 = true := by decide
  rw [flt_val (fin_not_nan rt.fa) (fin_not_nan fl), decide_eq_false_iff_not] at h
  apply h
  have hv : sval 4472074429978902528 = ((2 ^ 1044 : Nat) : Int) := by
    rw [sval_sgn, show sgnOf 4472074429978902528 = false by decide]
    simp only [Bool.false_eq_true, if_false]
    refine congrArg Int.ofNat ?_
    have := mag_pow (y := 1044) (by decide)
    rw [← this]
    rfl
  have hu := natAbs_sval (fsqrt (fadd (fmul sx sx) (fmul sy sy)))
  have hr := rt.ua
  rw [hv]
  have hp : (2 : Nat) ^ 1044 = 64 * 2 ^ 1038 := by rw [show (64 : Nat) = 2 ^ 6 by decide, ← Nat.pow_add]
  have hpos := Nat.two_pow_pos 1038
  generalize (2 : Nat) ^ 1044 = P at *
  generalize (2 : Nat) ^ 1038 = Q at *
  omega
/-- Of two points a wide side apart, one lies well off any place. -/
theorem off_mag {f0 f1 c : Nat} (p0 : Pl 962 1134 f0) (p1 : Pl 962 1134 f1) (pc : Pl 593 1134 c) (h : 2 ^ 1034 < magOf (rungOf (fsub f1 f0))) : 2 ^ 1032 ≤ magOf (rungOf (fsub f0 c)) ∨ 2 ^ 1032 ≤ magOf (rungOf (fsub f1 c)) := by
  have r0 : Pl 593 1135 (fsub f0 c) := (p0.weak (by omega) (Nat.le_refl _)).sub pc (by omega) (by omega) (by omega)
  have r1 : Pl 593 1135 (fsub f1 c) := (p1.weak (by omega) (Nat.le_refl _)).sub pc (by omega) (by omega) (by omega)
  have rs : Pl 962 1135 (fsub f1 f0) := p1.sub p0 (by omega) (by omega) (by omega)
  have hd : 2 ^ 1034 < (sval f1 - sval f0).natAbs := by
    rcases Nat.lt_or_ge (2 ^ 1034) (sval f1 - sval f0).natAbs with k | k
    · exact k
    · exfalso
      rw [mag_sub p0.la p1.fa p0.fa] at h
      have ht := RN_top (n := (sval f1 - sval f0).natAbs) (d := 0) (y := 1034) (by simpa using k) (by omega) (by omega)
      rw [RN_self ht.1] at h
      omega
  have b0 := dif_big (y := 1032) pc.la p0.fa pc.fa r0.fa (by omega)
  have b1 := dif_big (y := 1032) pc.la p1.fa pc.fa r1.fa (by omega)
  have e4 : (2 : Nat) ^ 1034 = 4 * 2 ^ 1032 := by rw [show (4 : Nat) = 2 ^ 2 by decide, ← Nat.pow_add]
  generalize (2 : Nat) ^ 1034 = P at *
  generalize (2 : Nat) ^ 1032 = Q at *
  rcases Nat.lt_or_ge (sval f0 - sval c).natAbs Q with k | k
  · exact .inr (b1 (by omega))
  · exact .inl (b0 k)

theorem rv_sq_mag {z : Nat} (fz : fin z = true) (h : 2 ^ 1032 ≤ magOf (rungOf z)) : 1 / 19342813113834066795298816 ≤ rv z * rv z := by
  have hu := uu_pos
  have h1 := rv_abs_mag fz
  obtain ⟨_, k0, k⟩ := abs_cases fz
  have h2 : ((2 ^ 1032 : Nat) : Rat) ≤ (magOf (rungOf z) : Rat) := Rat.natCast_le_natCast.2 h
  have h3 : ((2 ^ 1032 : Nat) : Rat) * 4398046511104 = uu := by
    unfold uu
    have e : (2 : Nat) ^ 1074 = 2 ^ 1032 * 4398046511104 := by rw [show (4398046511104 : Nat) = 2 ^ 42 by decide, ← Nat.pow_add]
    rw [e, Rat.natCast_mul]; rfl
  rw [← h1] at h2
  have h4 : (1 / 4398046511104 : Rat) ≤ rv (fabs z) := by
    refine cancel_le hu ?_
    generalize ((2 ^ 1032 : Nat) : Rat) = t at *
    grind
  have h5 : rv z * rv z = rv (fabs z) * rv (fabs z) := by rcases k with k | k <;> rw [k] <;> grind
  rw [h5]
  have m1 := Rat.mul_le_mul_of_nonneg_left h4 k0
  grind
/-- The dots of two places about a centre together: not small. -/
theorem dots_mag {a b c e : Nat} (pa : Pl 593 1135 a) (pb : Pl 593 1135 b) (pc : Pl 593 1135 c) (pe : Pl 593 1135 e)
    (h : (2 ^ 1032 ≤ magOf (rungOf a) ∨ 2 ^ 1032 ≤ magOf (rungOf e)) ∨ (2 ^ 1032 ≤ magOf (rungOf c) ∨ 2 ^ 1032 ≤ magOf (rungOf b))) :
    Pl 936 1199 (fadd (fadd (fadd (fmul a a) (fmul c c)) (fadd (fmul a e) (fmul c b))) (fadd (fmul e e) (fmul b b))) := by
  have mul : ∀ {u v : Nat}, Pl 593 1135 u → Pl 593 1135 v → Pl 112 1196 (fmul u v) := fun p q => p.mul q (by omega) (by omega) (by omega) (by omega) (by omega)
  have m1 := mul pa pa
  have m2 := mul pc pc
  have m3 := mul pa pe
  have m4 := mul pc pb
  have m5 := mul pe pe
  have m6 := mul pb pb
  have s1 := m1.add m2 (by omega) (by omega) (by omega)
  have s2 := m3.add m4 (by omega) (by omega) (by omega)
  have s3 := m5.add m6 (by omega) (by omega) (by omega)
  have s4 := s1.add s2 (by omega) (by omega) (by omega)
  have s5 := s4.add (s3.weak (Nat.le_refl _) (show 1196 + 1 ≤ 1196 + 1 + 1 by omega)) (by omega) (by omega) (by omega)
  refine s5.up ?_
  -- in numbers
  have sq : ∀ x : Rat, 0 ≤ x * x := fun x => by
    rcases Rat.le_total (a := 0) (b := x) with h | h
    · exact Rat.mul_nonneg h h
    · have := Rat.mul_nonneg (show 0 ≤ -x by grind) (show 0 ≤ -x by grind); grind
  have hS : 1 / 19342813113834066795298816 ≤ rv a * rv a + rv c * rv c + rv e * rv e + rv b * rv b := by
    have q1 := sq (rv a); have q2 := sq (rv c); have q3 := sq (rv e); have q4 := sq (rv b)
    rcases h with (h | h) | (h | h)
    · have := rv_sq_mag pa.fa h; grind
    · have := rv_sq_mag pe.fa h; grind
    · have := rv_sq_mag pc.fa h; grind
    · have := rv_sq_mag pb.fa h; grind
  have n1 := sq (rv a - rv e); have n2 := sq (rv a + rv e); have n3 := sq (rv c - rv b); have n4 := sq (rv c + rv b)
  have q1 := sq (rv a); have q2 := sq (rv c); have q3 := sq (rv e); have q4 := sq (rv b)
  have he := eta_200
  have hp := eta_pos
  obtain ⟨S, eS⟩ : ∃ S, S = rv a * rv a + rv c * rv c + rv e * rv e + rv b * rv b := ⟨_, rfl⟩
  rw [← eS] at hS
  have k1 := rv_mul' (B := S) pa.fa pa.fa m1.fa (by grind) (by grind)
  have k2 := rv_mul' (B := S) pc.fa pc.fa m2.fa (by grind) (by grind)
  have k3 := rv_mul' (B := S) pa.fa pe.fa m3.fa (by grind) (by grind)
  have k4 := rv_mul' (B := S) pc.fa pb.fa m4.fa (by grind) (by grind)
  have k5 := rv_mul' (B := S) pe.fa pe.fa m5.fa (by grind) (by grind)
  have k6 := rv_mul' (B := S) pb.fa pb.fa m6.fa (by grind) (by grind)
  have hE : eta ≤ S / 9007199254740992 := by grind
  have l1 := rv_add' (B := S * 4) m1.fa m2.fa s1.fa (by grind) (by grind)
  have l2 := rv_add' (B := S * 4) m3.fa m4.fa s2.fa (by grind) (by grind)
  have l3 := rv_add' (B := S * 4) m5.fa m6.fa s3.fa (by grind) (by grind)
  have l4 := rv_add' (B := S * 4) s1.fa s2.fa s4.fa (by grind) (by grind)
  have l5 := rv_add' (B := S * 8) s4.fa s3.fa s5.fa (by grind) (by grind)
  have hlow : S / 4 ≤ rv (fadd (fadd (fadd (fmul a a) (fmul c c)) (fadd (fmul a e) (fmul c b))) (fadd (fmul e e) (fmul b b))) := by grind
  have hf := s5.fa
  generalize (fadd (fadd (fadd (fmul a a) (fmul c c)) (fadd (fmul a e) (fmul c b))) (fadd (fmul e e) (fmul b b))) = Z at *
  have hu := uu_pos
  have z1 := rv_abs_mag hf
  have z2 := (abs_le hf).2.1
  have h3 : ((2 ^ 988 : Nat) : Rat) * 77371252455336267181195264 = uu := by
    unfold uu
    have e : (2 : Nat) ^ 1074 = 2 ^ 988 * 77371252455336267181195264 := by rw [show (77371252455336267181195264 : Nat) = 2 ^ 86 by decide, ← Nat.pow_add]
    rw [e, Rat.natCast_mul]; rfl
  refine Rat.natCast_le_natCast.1 ?_
  rw [← z1, show (936 + 52 : Nat) = 988 by rfl]
  have z3 : (1 / 77371252455336267181195264 : Rat) ≤ rv (fabs Z) := by grind
  have z4 := Rat.mul_le_mul_of_nonneg_right z3 (Rat.le_of_lt hu)
  generalize ((2 ^ 988 : Nat) : Rat) = t at *
  grind
end Go.Sim
