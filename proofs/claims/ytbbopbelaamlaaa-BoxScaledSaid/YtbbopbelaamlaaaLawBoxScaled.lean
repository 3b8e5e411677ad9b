/- BoxScaled: with a power of two all is so many times as great, and what is told the same. -/
import Derived.Test.YtbbopbelaamlaaaFnsC
import Derived.Test.YtbbopbelaamlaaaSimScale3
set_option linter.unusedVariables false
set_option linter.unusedSimpArgs false
namespace Go.Proofs.Ytbbopbelaamlaaa
open Go.Sim
theorem is4 {a b c d e f g h : Nat} (h1 : a = e) (h2 : b = f) (h3 : c = g) (h4 : d = h) : s_law05_is_0 a b c d e f g h = true := by
  rw [h1, h2, h3, h4]
  unfold s_law05_is_0 s_ref05_Same_0 s_ref02_Same_0 s_ref02_Is_0 ieq
  simp
theorem sc_least {i j x y a b a' b' : Nat} (h : Sc i j x y a a') (g : Sc i j x y b b') : Sc i j x y (s_num_Least_float64__0 a b) (s_num_Least_float64__0 a' b') := by
  have e : (((s_num_none_float64__0 a') || (flt b' a')) || (((feq a' 0) && (feq b' 0)) && (s_num_minus_float64__0 b'))) = (((s_num_none_float64__0 a) || (flt b a)) || (((feq a 0) && (feq b 0)) && (s_num_minus_float64__0 b))) := by
    unfold s_num_none_float64__0
    rw [h.self.1, h.self.2, g.flt h, h.eq0, g.eq0]
    cases hz : feq b 0
    · simp
    · rw [g.same0 hz]
  unfold s_num_Least_float64__0
  rw [e]
  cases (((s_num_none_float64__0 a) || (flt b a)) || (((feq a 0) && (feq b 0)) && (s_num_minus_float64__0 b)))
  · exact h
  · exact g
theorem sc_most {i j x y a b a' b' : Nat} (h : Sc i j x y a a') (g : Sc i j x y b b') : Sc i j x y (s_num_Most_float64__0 a b) (s_num_Most_float64__0 a' b') := by
  have e : (((s_num_none_float64__0 a') || (flt a' b')) || (((feq a' 0) && (feq b' 0)) && (s_num_minus_float64__0 a'))) = (((s_num_none_float64__0 a) || (flt a b)) || (((feq a 0) && (feq b 0)) && (s_num_minus_float64__0 a))) := by
    unfold s_num_none_float64__0
    rw [h.self.1, h.self.2, h.flt g, h.eq0, g.eq0]
    cases hz : feq a 0
    · simp
    · rw [h.same0 hz]
  unfold s_num_Most_float64__0
  rw [e]
  cases (((s_num_none_float64__0 a) || (flt a b)) || (((feq a 0) && (feq b 0)) && (s_num_minus_float64__0 a)))
  · exact h
  · exact g
theorem mid_of {a : Nat} (ca : CF a) (h : (feq (fabs a) 0 || ((fle 3706462493325918208 (fabs a)) && (fle (fabs a) 5507902344274116608))) = true) : Pl 822 1274 a := by
  have la : a < 18446744073709551616 := ca.lt
  have l2 : rungOf a < 9223372036854775808 := by unfold rungOf; omega
  have rr : rungOf (rungOf a) = rungOf a := by unfold rungOf; omega
  have s2 : sgnOf (rungOf a) = false := (sgn_false (by omega)).2 l2
  cases hz : feq (fabs a) 0
  · rw [hz] at h
    simp only [Bool.false_or, Bool.and_eq_true] at h
    obtain ⟨h1, h2⟩ := h
    have hf : fin (fabs a) = true := fin_between h1 h2 (by decide) (by decide)
    have hn : nanb a = false := by have := fin_not_nan hf; rwa [nanb_fabs] at this
    have e := fabs_of hn
    have kk : key (fabs a) = (rungOf a : Int) := by rw [e]; unfold key; rw [s2, rr]; rfl
    rw [fle_key (by decide) (fin_not_nan hf), decide_eq_true_eq, kk] at h1
    rw [fle_key (fin_not_nan hf) (by decide), decide_eq_true_eq, kk] at h2
    have k1 : key 3706462493325918208 = 3706462493325918208 := by decide
    have k2 : key 5507902344274116608 = 5507902344274116608 := by decide
    exact Pl.between la (lo := 3706462493325918208) (hi := 5507902344274116608) (by decide) (by omega) (by omega) (by decide) (by decide) (by decide) (by decide)
  · have hn : nanb a = false := by
      cases hn : nanb a
      · rfl
      · have : nanb (fabs a) = true := by rw [nanb_fabs]; exact hn
        rw [feq_nan (.inl this)] at hz; cases hz
    have e := fabs_of hn
    rw [e] at hz
    refine Pl.nought la ?_
    have : nanb (rungOf a) = false := by rw [nanb_rung rr]; exact hn
    rcases (feq_zero (by omega) this).1 hz with e | e
    · exact e
    · omega
theorem middling_of {a b : Nat} (ca : CF a) (cb : CF b) (h : s_law05_middling_0 a b = true) : Pl 822 1274 a ∧ Pl 822 1274 b := by
  unfold s_law05_middling_0 at h
  rw [Bool.and_eq_true] at h
  exact ⟨mid_of ca h.1, mid_of cb h.2⟩
theorem power_small (p : Int) : ∃ z : Int, IntKind.wrap .i64 (IntKind.wrap .i64 (Int.tmod p 101 + 0) + 0) = z ∧ -100 ≤ z ∧ z ≤ 100 := by
  have h : (Int.tmod p 101).natAbs < 101 := by
    rw [Int.natAbs_tmod]; exact Nat.mod_lt _ (by decide)
  refine ⟨Int.tmod p 101, ?_, by omega, by omega⟩
  have e := wrap64 (n := Int.tmod p 101) (by omega) (by omega)
  rw [Int.add_zero, Int.add_zero, e, e]
def rayF0 (q0 q1 q2 q3 : Nat) (z0 z1 e0 e1 : Bool) : Nat := let x0 : Nat := q0; let x1 : Nat := q1; let x2 : Bool := (flt x1 x0); let x3 : Nat := (bif x2 then x1 else x0); let x4 : Nat := (bif (flt 0 x3) then x3 else 0); let x5 : Bool := z0; let x6 : Nat := (bif x5 then 0 else x4); let x7 : Nat := q2; let x8 : Nat := q3; let x9 : Bool := (flt x8 x7); let x10 : Nat := (bif x9 then x8 else x7); let x11 : Nat := (bif (flt x6 x10) then x10 else x6); let x12 : Bool := z1; let x13 : Nat := (bif x2 then x0 else x1); let x14 : Nat := (bif (flt x13 4607182418800017408) then x13 else 4607182418800017408); let x15 : Bool := (!(bif x5 then e0 else ((fle x3 x13) && (fle x4 x14)))); let x16 : Nat := (bif x5 then 4607182418800017408 else x14); let x17 : Nat := (bif x9 then x7 else x8); (bif (x15 || (!(bif x12 then e1 else ((fle x10 x17) && (fle x11 (bif (flt x17 x16) then x17 else x16)))))) then 0 else (bif x15 then x6 else (bif x12 then x6 else x11)))
theorem ray_form0 (a0 a1 a2 a3 f0 f1 w0 w1 : Nat) : s_box_Ray_0 a0 a1 a2 a3 f0 f1 w0 w1 = rayF0 (fdiv (fsub a0 f0) w0) (fdiv (fsub a2 f0) w0) (fdiv (fsub a1 f1) w1) (fdiv (fsub a3 f1) w1) ((feq w0 0) || (!(feq w0 w0))) ((feq w1 0) || (!(feq w1 w1))) ((fle a0 f0) && (fle f0 a2)) ((fle a1 f1) && (fle f1 a3)) := by kernel_rfl
theorem ray_x0 (p0 p1 q0 q1 q2 q3 : Nat) (z1 e0 e1 : Bool) : rayF0 p0 p1 q2 q3 true z1 e0 e1 = rayF0 q0 q1 q2 q3 true z1 e0 e1 := by kernel_rfl
theorem ray_y0 (p2 p3 q0 q1 q2 q3 : Nat) (z0 e0 e1 : Bool) : rayF0 q0 q1 p2 p3 z0 true e0 e1 = rayF0 q0 q1 q2 q3 z0 true e0 e1 := by kernel_rfl
def rayF1 (q0 q1 q2 q3 : Nat) (z0 z1 e0 e1 : Bool) : Bool := let x0 : Nat := q1; let x1 : Nat := q0; let x2 : Bool := (flt x0 x1); let x3 : Nat := (bif x2 then x1 else x0); let x4 : Nat := (bif (flt x3 4607182418800017408) then x3 else 4607182418800017408); let x5 : Bool := z0; let x6 : Nat := (bif x5 then 4607182418800017408 else x4); let x7 : Nat := q3; let x8 : Nat := q2; let x9 : Bool := (flt x7 x8); let x10 : Nat := (bif x9 then x8 else x7); let x11 : Nat := (bif x2 then x0 else x1); let x12 : Nat := (bif (flt 0 x11) then x11 else 0); let x13 : Nat := (bif x5 then 0 else x12); let x14 : Nat := (bif x9 then x7 else x8); (bif ((!(bif x5 then e0 else ((fle x11 x3) && (fle x12 x4)))) || (!(bif z1 then e1 else ((fle x14 x10) && (fle (bif (flt x13 x14) then x14 else x13) (bif (flt x10 x6) then x10 else x6)))))) then false else true)
theorem ray_form1 (a0 a1 a2 a3 f0 f1 w0 w1 : Nat) : s_box_Ray_1 a0 a1 a2 a3 f0 f1 w0 w1 = rayF1 (fdiv (fsub a0 f0) w0) (fdiv (fsub a2 f0) w0) (fdiv (fsub a1 f1) w1) (fdiv (fsub a3 f1) w1) ((feq w0 0) || (!(feq w0 w0))) ((feq w1 0) || (!(feq w1 w1))) ((fle a0 f0) && (fle f0 a2)) ((fle a1 f1) && (fle f1 a3)) := by kernel_rfl
theorem ray_x1 (p0 p1 q0 q1 q2 q3 : Nat) (z1 e0 e1 : Bool) : rayF1 p0 p1 q2 q3 true z1 e0 e1 = rayF1 q0 q1 q2 q3 true z1 e0 e1 := by kernel_rfl
theorem ray_y1 (p2 p3 q0 q1 q2 q3 : Nat) (z0 e0 e1 : Bool) : rayF1 q0 q1 p2 p3 z0 true e0 e1 = rayF1 q0 q1 q2 q3 z0 true e0 e1 := by kernel_rfl
theorem pick_num {c : Bool} {x y : Nat} (hx : nanb x = false) (hy : nanb y = false) : nanb (bif c then x else y) = false := by cases c <;> assumption
theorem max_num {x y : Nat} (hy : nanb y = false) : nanb (bif (flt y x) then x else y) = false := by
  cases h : flt y x
  · exact hy
  · cases hn : nanb x
    · exact hn
    · rw [flt_nan (.inr hn)] at h; cases h
theorem ray_num (q0 q1 q2 q3 : Nat) (z0 z1 e0 e1 : Bool) : nanb (rayF0 q0 q1 q2 q3 z0 z1 e0 e1) = false := by
  unfold rayF0
  extract_lets x0 x1 x2 x3 x4 x5 x6 x7 x8 x9 x10 x11 x12 x13 x14 x15 x16 x17
  have h4 : nanb x4 = false := max_num nanb_zero
  have h6 : nanb x6 = false := pick_num nanb_zero h4
  have h11 : nanb x11 = false := max_num h6
  exact pick_num nanb_zero (pick_num h6 (pick_num h6 h11))
theorem quo_same {i j a f w c f' w' : Nat} (h : Sc i j 722 1374 a c) (g : Sc i j 722 1374 f f') (k : Sc i j 722 1374 w w') (hz : feq w 0 = false) : fdiv (fsub c f') w' = fdiv (fsub a f) w := by
  have hm : magOf (rungOf w) ≠ 0 := by
    intro h
    have : sval w = 0 := by rw [sval_sgn, h]; split <;> rfl
    rw [feq_val (fin_not_nan k.fa) nanb_zero, this] at hz
    exact absurd hz (by decide)
  have d := Sc.div (X := 367) (Y := 1735) (h.sub g (by omega) (by omega) (by omega)) k hm (by omega) (by omega) (by omega) (by omega) (by omega) (by omega)
  have d' : Sc (0 + (i + j)) (0 + (i + j)) 367 1735 (fdiv (fsub a f) w) (fdiv (fsub c f') w') := by
    rw [Nat.zero_add]; rw [Nat.add_comm j i] at d; exact d
  exact ((Sc.less d').left.same (Sc.less d')).symm
theorem ray_same {i j a0 a1 a2 a3 f0 f1 w0 w1 c0 c1 c2 c3 g0 g1 v0 v1 : Nat} (h0 : Sc i j 722 1374 a0 c0) (h1 : Sc i j 722 1374 a1 c1) (h2 : Sc i j 722 1374 a2 c2) (h3 : Sc i j 722 1374 a3 c3) (k0 : Sc i j 722 1374 f0 g0) (k1 : Sc i j 722 1374 f1 g1) (l0 : Sc i j 722 1374 w0 v0) (l1 : Sc i j 722 1374 w1 v1) :
    s_box_Ray_0 a0 a1 a2 a3 f0 f1 w0 w1 = s_box_Ray_0 c0 c1 c2 c3 g0 g1 v0 v1 ∧ s_box_Ray_1 a0 a1 a2 a3 f0 f1 w0 w1 = s_box_Ray_1 c0 c1 c2 c3 g0 g1 v0 v1 := by
  simp only [ray_form0, ray_form1]
  rw [l0.eq0, l1.eq0, l0.self.1, l0.self.2, l1.self.1, l1.self.2, h0.fle k0, k0.fle h2, h1.fle k1, k1.fle h3]
  cases z0 : feq w0 0
  · rw [quo_same h0 k0 l0 z0, quo_same h2 k0 l0 z0]
    cases z1 : feq w1 0
    · rw [quo_same h1 k1 l1 z1, quo_same h3 k1 l1 z1]
      exact ⟨rfl, rfl⟩
    · exact ⟨ray_y0 _ _ _ _ _ _ _ _ _, ray_y1 _ _ _ _ _ _ _ _ _⟩
  · cases z1 : feq w1 0
    · rw [quo_same h1 k1 l1 z1, quo_same h3 k1 l1 z1]
      exact ⟨ray_x0 _ _ _ _ _ _ _ _ _, ray_x1 _ _ _ _ _ _ _ _ _⟩
    · exact ⟨(ray_x0 _ _ _ _ _ _ _ _ _).trans (ray_y0 _ _ _ _ _ _ _ _ _), (ray_x1 _ _ _ _ _ _ _ _ _).trans (ray_y1 _ _ _ _ _ _ _ _ _)⟩
theorem finite_of {x : Nat} (cx : x < 18446744073709551616) (fx : fin x = true) : s_num_Finite_float64__0 x = true := by
  unfold s_num_Finite_float64__0
  exact V.feq_of (V.sub cx (V.self fx) (V.self fx) V.zero (by omega)) V.zero
theorem ieq_same (x : Int) : ieq x x = true := by unfold ieq; simp
theorem feq_same {x : Nat} (h : fin x = true) : feq x x = true := by rw [feq_val (fin_not_nan h) (fin_not_nan h)]; simp
theorem law_BoxScaled (a0 a1 a2 a3 b0 b1 b2 b3 f0 f1 w0 w1 : Nat) (p : Int) (ca0 : CF a0) (ca1 : CF a1) (ca2 : CF a2) (ca3 : CF a3) (cb0 : CF b0) (cb1 : CF b1) (cb2 : CF b2) (cb3 : CF b3) (cf0 : CF f0) (cf1 : CF f1) (cw0 : CF w0) (cw1 : CF w1) (kp : IntKind.i64.min ≤ p ∧ p ≤ IntKind.i64.max) : T_law05_BoxScaled a0 a1 a2 a3 b0 b1 b2 b3 f0 f1 w0 w1 p = true := by
  obtain ⟨z, hz, z1, z2⟩ := power_small p
  unfold T_law05_BoxScaled
  simp only []
  rw [hz, ldexp_word (by omega) (by omega)]
  cases m0 : s_law05_middling_0 a0 a1
  · rfl
  cases m1 : s_law05_middling_0 a2 a3
  · rfl
  cases m2 : s_law05_middling_0 b0 b1
  · rfl
  cases m3 : s_law05_middling_0 b2 b3
  · rfl
  cases m4 : s_law05_middling_0 f0 f1
  · rfl
  cases m5 : s_law05_middling_0 w0 w1
  · rfl
  obtain ⟨pa0, pa1⟩ := middling_of ca0 ca1 m0
  obtain ⟨pa2, pa3⟩ := middling_of ca2 ca3 m1
  obtain ⟨pb0, pb1⟩ := middling_of cb0 cb1 m2
  obtain ⟨pb2, pb3⟩ := middling_of cb2 cb3 m3
  obtain ⟨pf0, pf1⟩ := middling_of cf0 cf1 m4
  obtain ⟨pw0, pw1⟩ := middling_of cw0 cw1 m5
  obtain ⟨i, j, hij⟩ : ∃ i j : Nat, z + (j : Int) = i := ⟨z.toNat, (-z).toNat, by omega⟩
  have tm : ∀ {x y X Y a : Nat}, Pl x y a → 52 ≤ X → X + 100 ≤ x → y + 100 ≤ Y → 52 ≤ Y → Y ≤ 2097 → Sc i j X Y a (fmul a (pow2 z)) := by
    intro x y X Y a h e1 e2 e3 e4 e5
    exact h.times (by omega) (by omega) hij e1 (by omega) (by omega) (by omega) (by omega) e4 e5
  have sa0 := tm (X := 722) (Y := 1374) pa0 (by omega) (by omega) (by omega) (by omega) (by omega)
  have sa1 := tm (X := 722) (Y := 1374) pa1 (by omega) (by omega) (by omega) (by omega) (by omega)
  have sa2 := tm (X := 722) (Y := 1374) pa2 (by omega) (by omega) (by omega) (by omega) (by omega)
  have sa3 := tm (X := 722) (Y := 1374) pa3 (by omega) (by omega) (by omega) (by omega) (by omega)
  have sb0 := tm (X := 722) (Y := 1374) pb0 (by omega) (by omega) (by omega) (by omega) (by omega)
  have sb1 := tm (X := 722) (Y := 1374) pb1 (by omega) (by omega) (by omega) (by omega) (by omega)
  have sb2 := tm (X := 722) (Y := 1374) pb2 (by omega) (by omega) (by omega) (by omega) (by omega)
  have sb3 := tm (X := 722) (Y := 1374) pb3 (by omega) (by omega) (by omega) (by omega) (by omega)
  have sf0 := tm (X := 722) (Y := 1374) pf0 (by omega) (by omega) (by omega) (by omega) (by omega)
  have sf1 := tm (X := 722) (Y := 1374) pf1 (by omega) (by omega) (by omega) (by omega) (by omega)
  have sw0 := tm (X := 722) (Y := 1374) pw0 (by omega) (by omega) (by omega) (by omega) (by omega)
  have sw1 := tm (X := 722) (Y := 1374) pw1 (by omega) (by omega) (by omega) (by omega) (by omega)
  have ea0 : s_law05_times_0 a0 a1 a2 a3 (pow2 z) = fmul a0 (pow2 z) := rfl
  have ea1 : s_law05_times_1 a0 a1 a2 a3 (pow2 z) = fmul a1 (pow2 z) := rfl
  have ea2 : s_law05_times_2 a0 a1 a2 a3 (pow2 z) = fmul a2 (pow2 z) := rfl
  have ea3 : s_law05_times_3 a0 a1 a2 a3 (pow2 z) = fmul a3 (pow2 z) := rfl
  have eb0 : s_law05_times_0 b0 b1 b2 b3 (pow2 z) = fmul b0 (pow2 z) := rfl
  have eb1 : s_law05_times_1 b0 b1 b2 b3 (pow2 z) = fmul b1 (pow2 z) := rfl
  have eb2 : s_law05_times_2 b0 b1 b2 b3 (pow2 z) = fmul b2 (pow2 z) := rfl
  have eb3 : s_law05_times_3 b0 b1 b2 b3 (pow2 z) = fmul b3 (pow2 z) := rfl
  have ef0 : s_vec_Scale_0 f0 f1 (pow2 z) = fmul f0 (pow2 z) := rfl
  have ef1 : s_vec_Scale_1 f0 f1 (pow2 z) = fmul f1 (pow2 z) := rfl
  have ew0 : s_vec_Scale_0 w0 w1 (pow2 z) = fmul w0 (pow2 z) := rfl
  have ew1 : s_vec_Scale_1 w0 w1 (pow2 z) = fmul w1 (pow2 z) := rfl
  rw [ea0, ea1, ea2, ea3, eb0, eb1, eb2, eb3, ef0, ef1, ew0, ew1]
  have three : Pl 1023 1076 4613937818241073152 := Pl.lit (m := 6755399441055744) (e := 1023) (by decide) (by decide) (by decide) (by decide) (by decide) (by decide)
  have st := tm (X := 722) (Y := 1374) (Sc.weak (x' := 822) (y' := 1274) three (by omega) (by omega)) (by omega) (by omega) (by omega) (by omega) (by omega)
  have pt : Pl 822 1274 4613937818241073152 := Sc.weak (x' := 822) (y' := 1274) three (by omega) (by omega)
  generalize hga0 : fmul a0 (pow2 z) = da0 at sa0 ⊢
  generalize hga1 : fmul a1 (pow2 z) = da1 at sa1 ⊢
  generalize hga2 : fmul a2 (pow2 z) = da2 at sa2 ⊢
  generalize hga3 : fmul a3 (pow2 z) = da3 at sa3 ⊢
  generalize hgb0 : fmul b0 (pow2 z) = db0 at sb0 ⊢
  generalize hgb1 : fmul b1 (pow2 z) = db1 at sb1 ⊢
  generalize hgb2 : fmul b2 (pow2 z) = db2 at sb2 ⊢
  generalize hgb3 : fmul b3 (pow2 z) = db3 at sb3 ⊢
  generalize hgf0 : fmul f0 (pow2 z) = df0 at sf0 ⊢
  generalize hgf1 : fmul f1 (pow2 z) = df1 at sf1 ⊢
  generalize hgw0 : fmul w0 (pow2 z) = dw0 at sw0 ⊢
  generalize hgw1 : fmul w1 (pow2 z) = dw1 at sw1 ⊢
  generalize fmul 4613937818241073152 (pow2 z) = dt at st ⊢
  have lin : ∀ {u v x y X Y : Nat}, Sc i j X Y u v → Pl x y u → 152 ≤ x → y ≤ 1997 → 52 ≤ y → v = fmul u (pow2 z) := by
    intro u v x y X Y h g e1 e2 e3
    exact h.same (tm (X := x - 100) (Y := y + 100) g (by omega) (by omega) (by omega) (by omega) (by omega))
  have lina : ∀ {u v u' v' : Nat}, Sc i j 722 1374 u u' → Sc i j 722 1374 v v' → Pl 822 1274 u → Pl 822 1274 v → fadd u' v' = fmul (fadd u v) (pow2 z) := by
    intro u v u' v' h g ph pg
    exact lin (h.add g (by omega) (by omega) (by omega)) (Sc.add ph pg (by omega) (by omega) (by omega)) (by omega) (by omega) (by omega)
  have lins : ∀ {u v u' v' : Nat}, Sc i j 722 1374 u u' → Sc i j 722 1374 v v' → Pl 822 1274 u → Pl 822 1274 v → fsub u' v' = fmul (fsub u v) (pow2 z) := by
    intro u v u' v' h g ph pg
    exact lin (h.sub g (by omega) (by omega) (by omega)) (Sc.sub ph pg (by omega) (by omega) (by omega)) (by omega) (by omega) (by omega)
  have lin1 : ∀ {u u' : Nat}, Sc i j 722 1374 u u' → Pl 822 1274 u → u' = fmul u (pow2 z) := by
    intro u u' h ph
    exact lin h ph (by omega) (by omega) (by omega)
  have linl : ∀ {u v u' v' : Nat}, Sc i j 722 1374 u u' → Sc i j 722 1374 v v' → Pl 822 1274 u → Pl 822 1274 v → s_num_Least_float64__0 u' v' = fmul (s_num_Least_float64__0 u v) (pow2 z) := by
    intro u v u' v' h g ph pg
    exact lin (sc_least h g) (sc_least ph pg) (by omega) (by omega) (by omega)
  have linm : ∀ {u v u' v' : Nat}, Sc i j 722 1374 u u' → Sc i j 722 1374 v v' → Pl 822 1274 u → Pl 822 1274 v → s_num_Most_float64__0 u' v' = fmul (s_num_Most_float64__0 u v) (pow2 z) := by
    intro u v u' v' h g ph pg
    exact lin (sc_most h g) (sc_most ph pg) (by omega) (by omega) (by omega)
  have ov : s_box_Over_0 da0 da1 da2 da3 db0 db1 db2 db3 = s_box_Over_0 a0 a1 a2 a3 b0 b1 b2 b3 := by
    unfold s_box_Over_0 s_box_below_0
    rw [sa0.fle sb2, sa1.fle sb3, sb0.fle sa2, sb1.fle sa3]
  have inn : s_box_In_0 da0 da1 da2 da3 db0 db1 db2 db3 = s_box_In_0 a0 a1 a2 a3 b0 b1 b2 b3 := by
    unfold s_box_In_0 s_box_below_0
    rw [sb0.fle sa0, sb1.fle sa1, sa2.fle sb2, sa3.fle sb3]
  have has : s_box_Has_0 da0 da1 da2 da3 df0 df1 = s_box_Has_0 a0 a1 a2 a3 f0 f1 := by
    unfold s_box_Has_0 s_box_below_0
    rw [sa0.fle sf0, sa1.fle sf1, sf0.fle sa2, sf1.fle sa3]
  have chk : s_box_Check_0 da0 da1 da2 da3 = s_box_Check_0 a0 a1 a2 a3 := by
    unfold s_box_Check_0 s_vec_Finite_0
    rw [finite_of sa0.la sa0.fa, finite_of sa1.la sa1.fa, finite_of sa2.la sa2.fa, finite_of sa3.la sa3.fa, finite_of sa0.lb sa0.fb, finite_of sa1.lb sa1.fb, finite_of sa2.lb sa2.fb, finite_of sa3.lb sa3.fb, sa2.flt sa0, sa3.flt sa1]
  obtain ⟨ray0, ray1⟩ := ray_same sa0 sa1 sa2 sa3 sf0 sf1 sw0 sw1
  have frf : feq (s_box_Ray_0 da0 da1 da2 da3 df0 df1 dw0 dw1) (s_box_Ray_0 da0 da1 da2 da3 df0 df1 dw0 dw1) = true := by
    have n := ray_num (fdiv (fsub da0 df0) dw0) (fdiv (fsub da2 df0) dw0) (fdiv (fsub da1 df1) dw1) (fdiv (fsub da3 df1) dw1) ((feq dw0 0) || (!(feq dw0 dw0))) ((feq dw1 0) || (!(feq dw1 dw1))) ((fle da0 df0) && (fle df0 da2)) ((fle da1 df1) && (fle df1 da3))
    rw [← ray_form0] at n
    rw [feq_val n n]; simp
  have z0k : (0 : Nat) = fmul 0 (pow2 z) := lin (Sc.zero i j 722 1374) (Sc.zero 0 0 822 1274) (by omega) (by omega) (by omega)
  have me0 : s_box_Meet_0 da0 da1 da2 da3 db0 db1 db2 db3 = s_law05_times_0 (s_box_Meet_0 a0 a1 a2 a3 b0 b1 b2 b3) (s_box_Meet_1 a0 a1 a2 a3 b0 b1 b2 b3) (s_box_Meet_2 a0 a1 a2 a3 b0 b1 b2 b3) (s_box_Meet_3 a0 a1 a2 a3 b0 b1 b2 b3) (pow2 z) := by
    show s_box_Meet_0 da0 da1 da2 da3 db0 db1 db2 db3 = fmul (s_box_Meet_0 a0 a1 a2 a3 b0 b1 b2 b3) (pow2 z)
    unfold s_box_Meet_0
    rw [ov]
    cases s_box_Over_0 a0 a1 a2 a3 b0 b1 b2 b3
    · exact z0k
    · exact linm sa0 sb0 pa0 pb0
  have me1 : s_box_Meet_1 da0 da1 da2 da3 db0 db1 db2 db3 = s_law05_times_1 (s_box_Meet_0 a0 a1 a2 a3 b0 b1 b2 b3) (s_box_Meet_1 a0 a1 a2 a3 b0 b1 b2 b3) (s_box_Meet_2 a0 a1 a2 a3 b0 b1 b2 b3) (s_box_Meet_3 a0 a1 a2 a3 b0 b1 b2 b3) (pow2 z) := by
    show s_box_Meet_1 da0 da1 da2 da3 db0 db1 db2 db3 = fmul (s_box_Meet_1 a0 a1 a2 a3 b0 b1 b2 b3) (pow2 z)
    unfold s_box_Meet_1
    rw [ov]
    cases s_box_Over_0 a0 a1 a2 a3 b0 b1 b2 b3
    · exact z0k
    · exact linm sa1 sb1 pa1 pb1
  have me2 : s_box_Meet_2 da0 da1 da2 da3 db0 db1 db2 db3 = s_law05_times_2 (s_box_Meet_0 a0 a1 a2 a3 b0 b1 b2 b3) (s_box_Meet_1 a0 a1 a2 a3 b0 b1 b2 b3) (s_box_Meet_2 a0 a1 a2 a3 b0 b1 b2 b3) (s_box_Meet_3 a0 a1 a2 a3 b0 b1 b2 b3) (pow2 z) := by
    show s_box_Meet_2 da0 da1 da2 da3 db0 db1 db2 db3 = fmul (s_box_Meet_2 a0 a1 a2 a3 b0 b1 b2 b3) (pow2 z)
    unfold s_box_Meet_2
    rw [ov]
    cases s_box_Over_0 a0 a1 a2 a3 b0 b1 b2 b3
    · exact z0k
    · exact linl sa2 sb2 pa2 pb2
  have me3 : s_box_Meet_3 da0 da1 da2 da3 db0 db1 db2 db3 = s_law05_times_3 (s_box_Meet_0 a0 a1 a2 a3 b0 b1 b2 b3) (s_box_Meet_1 a0 a1 a2 a3 b0 b1 b2 b3) (s_box_Meet_2 a0 a1 a2 a3 b0 b1 b2 b3) (s_box_Meet_3 a0 a1 a2 a3 b0 b1 b2 b3) (pow2 z) := by
    show s_box_Meet_3 da0 da1 da2 da3 db0 db1 db2 db3 = fmul (s_box_Meet_3 a0 a1 a2 a3 b0 b1 b2 b3) (pow2 z)
    unfold s_box_Meet_3
    rw [ov]
    cases s_box_Over_0 a0 a1 a2 a3 b0 b1 b2 b3
    · exact z0k
    · exact linl sa3 sb3 pa3 pb3
  have me4 : s_box_Meet_4 da0 da1 da2 da3 db0 db1 db2 db3 = s_box_Meet_4 a0 a1 a2 a3 b0 b1 b2 b3 := by unfold s_box_Meet_4; rw [ov]
  have jo0 : s_box_Join_0 da0 da1 da2 da3 db0 db1 db2 db3 = s_law05_times_0 (s_box_Join_0 a0 a1 a2 a3 b0 b1 b2 b3) (s_box_Join_1 a0 a1 a2 a3 b0 b1 b2 b3) (s_box_Join_2 a0 a1 a2 a3 b0 b1 b2 b3) (s_box_Join_3 a0 a1 a2 a3 b0 b1 b2 b3) (pow2 z) := linl sa0 sb0 pa0 pb0
  have jo1 : s_box_Join_1 da0 da1 da2 da3 db0 db1 db2 db3 = s_law05_times_1 (s_box_Join_0 a0 a1 a2 a3 b0 b1 b2 b3) (s_box_Join_1 a0 a1 a2 a3 b0 b1 b2 b3) (s_box_Join_2 a0 a1 a2 a3 b0 b1 b2 b3) (s_box_Join_3 a0 a1 a2 a3 b0 b1 b2 b3) (pow2 z) := linl sa1 sb1 pa1 pb1
  have jo2 : s_box_Join_2 da0 da1 da2 da3 db0 db1 db2 db3 = s_law05_times_2 (s_box_Join_0 a0 a1 a2 a3 b0 b1 b2 b3) (s_box_Join_1 a0 a1 a2 a3 b0 b1 b2 b3) (s_box_Join_2 a0 a1 a2 a3 b0 b1 b2 b3) (s_box_Join_3 a0 a1 a2 a3 b0 b1 b2 b3) (pow2 z) := linm sa2 sb2 pa2 pb2
  have jo3 : s_box_Join_3 da0 da1 da2 da3 db0 db1 db2 db3 = s_law05_times_3 (s_box_Join_0 a0 a1 a2 a3 b0 b1 b2 b3) (s_box_Join_1 a0 a1 a2 a3 b0 b1 b2 b3) (s_box_Join_2 a0 a1 a2 a3 b0 b1 b2 b3) (s_box_Join_3 a0 a1 a2 a3 b0 b1 b2 b3) (pow2 z) := linm sa3 sb3 pa3 pb3
  have mo0 : s_box_Moved_0 da0 da1 da2 da3 dw0 dw1 = s_law05_times_0 (s_box_Moved_0 a0 a1 a2 a3 w0 w1) (s_box_Moved_1 a0 a1 a2 a3 w0 w1) (s_box_Moved_2 a0 a1 a2 a3 w0 w1) (s_box_Moved_3 a0 a1 a2 a3 w0 w1) (pow2 z) := by
    show s_box_Moved_0 da0 da1 da2 da3 dw0 dw1 = fmul (s_box_Moved_0 a0 a1 a2 a3 w0 w1) (pow2 z)
    unfold s_box_Moved_0
    rw [sw0.flt (Sc.zero i j 722 1374)]
    cases flt w0 0
    · exact lin1 sa0 pa0
    · exact lina sa0 sw0 pa0 pw0
  have mo1 : s_box_Moved_1 da0 da1 da2 da3 dw0 dw1 = s_law05_times_1 (s_box_Moved_0 a0 a1 a2 a3 w0 w1) (s_box_Moved_1 a0 a1 a2 a3 w0 w1) (s_box_Moved_2 a0 a1 a2 a3 w0 w1) (s_box_Moved_3 a0 a1 a2 a3 w0 w1) (pow2 z) := by
    show s_box_Moved_1 da0 da1 da2 da3 dw0 dw1 = fmul (s_box_Moved_1 a0 a1 a2 a3 w0 w1) (pow2 z)
    unfold s_box_Moved_1
    rw [sw1.flt (Sc.zero i j 722 1374)]
    cases flt w1 0
    · exact lin1 sa1 pa1
    · exact lina sa1 sw1 pa1 pw1
  have mo2 : s_box_Moved_2 da0 da1 da2 da3 dw0 dw1 = s_law05_times_2 (s_box_Moved_0 a0 a1 a2 a3 w0 w1) (s_box_Moved_1 a0 a1 a2 a3 w0 w1) (s_box_Moved_2 a0 a1 a2 a3 w0 w1) (s_box_Moved_3 a0 a1 a2 a3 w0 w1) (pow2 z) := by
    show s_box_Moved_2 da0 da1 da2 da3 dw0 dw1 = fmul (s_box_Moved_2 a0 a1 a2 a3 w0 w1) (pow2 z)
    unfold s_box_Moved_2
    rw [sw0.flt (Sc.zero i j 722 1374)]
    cases flt w0 0
    · exact lina sa2 sw0 pa2 pw0
    · exact lin1 sa2 pa2
  have mo3 : s_box_Moved_3 da0 da1 da2 da3 dw0 dw1 = s_law05_times_3 (s_box_Moved_0 a0 a1 a2 a3 w0 w1) (s_box_Moved_1 a0 a1 a2 a3 w0 w1) (s_box_Moved_2 a0 a1 a2 a3 w0 w1) (s_box_Moved_3 a0 a1 a2 a3 w0 w1) (pow2 z) := by
    show s_box_Moved_3 da0 da1 da2 da3 dw0 dw1 = fmul (s_box_Moved_3 a0 a1 a2 a3 w0 w1) (pow2 z)
    unfold s_box_Moved_3
    rw [sw1.flt (Sc.zero i j 722 1374)]
    cases flt w1 0
    · exact lina sa3 sw1 pa3 pw1
    · exact lin1 sa3 pa3
  have gr0 : s_box_Grow_0 da0 da1 da2 da3 dt = s_law05_times_0 (s_box_Grow_0 a0 a1 a2 a3 4613937818241073152) (s_box_Grow_1 a0 a1 a2 a3 4613937818241073152) (s_box_Grow_2 a0 a1 a2 a3 4613937818241073152) (s_box_Grow_3 a0 a1 a2 a3 4613937818241073152) (pow2 z) := lins sa0 st pa0 pt
  have gr1 : s_box_Grow_1 da0 da1 da2 da3 dt = s_law05_times_1 (s_box_Grow_0 a0 a1 a2 a3 4613937818241073152) (s_box_Grow_1 a0 a1 a2 a3 4613937818241073152) (s_box_Grow_2 a0 a1 a2 a3 4613937818241073152) (s_box_Grow_3 a0 a1 a2 a3 4613937818241073152) (pow2 z) := lins sa1 st pa1 pt
  have gr2 : s_box_Grow_2 da0 da1 da2 da3 dt = s_law05_times_2 (s_box_Grow_0 a0 a1 a2 a3 4613937818241073152) (s_box_Grow_1 a0 a1 a2 a3 4613937818241073152) (s_box_Grow_2 a0 a1 a2 a3 4613937818241073152) (s_box_Grow_3 a0 a1 a2 a3 4613937818241073152) (pow2 z) := lina sa2 st pa2 pt
  have gr3 : s_box_Grow_3 da0 da1 da2 da3 dt = s_law05_times_3 (s_box_Grow_0 a0 a1 a2 a3 4613937818241073152) (s_box_Grow_1 a0 a1 a2 a3 4613937818241073152) (s_box_Grow_2 a0 a1 a2 a3 4613937818241073152) (s_box_Grow_3 a0 a1 a2 a3 4613937818241073152) (pow2 z) := lina sa3 st pa3 pt
  have ds0 := sa2.sub sa0 (by omega) (by omega) (by omega)
  have ds1 := sa3.sub sa1 (by omega) (by omega) (by omega)
  have qs0 := Sc.sub pa2 pa0 (by omega) (by omega) (by omega)
  have qs1 := Sc.sub pa3 pa1 (by omega) (by omega) (by omega)
  have ss := ds0.add ds1 (by omega) (by omega) (by omega)
  have sz : s_box_Size_0 da0 da1 da2 da3 = fmul (s_box_Size_0 a0 a1 a2 a3) (pow2 z) := lin ss (Sc.add qs0 qs1 (by omega) (by omega) (by omega)) (by omega) (by omega) (by omega)
  have sa := Sc.mul (X := 370) (Y := 1676) ds0 ds1 (by omega) (by omega) (by omega) (by omega) (by omega)
  have qa : Pl 570 1476 (fmul (fsub a2 a0) (fsub a3 a1)) := Sc.mul (i := 0) (j := 0) (i' := 0) (j' := 0) (X := 570) (Y := 1476) qs0 qs1 (by omega) (by omega) (by omega) (by omega) (by omega)
  have ar : s_box_Area_0 da0 da1 da2 da3 = fmul (fmul (s_box_Area_0 a0 a1 a2 a3) (pow2 z)) (pow2 z) := by
    have t1 := tm (X := 470) (Y := 1576) qa (by omega) (by omega) (by omega) (by omega) (by omega)
    have t2 := tm (X := 370) (Y := 1676) t1.right (by omega) (by omega) (by omega) (by omega) (by omega)
    exact sa.same ((t1.weak (x' := 370) (y' := 1676) (by omega) (by omega)).trans t2 (by omega) (by omega))
  have f1 : feq (s_box_Size_0 da0 da1 da2 da3) (fmul (s_box_Size_0 a0 a1 a2 a3) (pow2 z)) = true := by rw [← sz]; exact feq_same ss.fb
  have f2 : feq (s_box_Area_0 da0 da1 da2 da3) (fmul (fmul (s_box_Area_0 a0 a1 a2 a3) (pow2 z)) (pow2 z)) = true := by rw [← ar]; exact feq_same sa.fb
  rw [ov, inn, has, chk, ray0, ray1, frf, me4, f1, f2, is4 me0 me1 me2 me3, is4 jo0 jo1 jo2 jo3, is4 mo0 mo1 mo2 mo3, is4 gr0 gr1 gr2 gr3, ieq_same]
  simp
theorem ob_BoxScaled (a0 a1 a2 a3 b0 b1 b2 b3 f0 f1 w0 w1 : Nat) (p : Int) (ca0 : CF a0) (ca1 : CF a1) (ca2 : CF a2) (ca3 : CF a3) (cb0 : CF b0) (cb1 : CF b1) (cb2 : CF b2) (cb3 : CF b3) (cf0 : CF f0) (cf1 : CF f1) (cw0 : CF w0) (cw1 : CF w1) (kp : IntKind.i64.min ≤ p ∧ p ≤ IntKind.i64.max) : O_law05_BoxScaled a0 a1 a2 a3 b0 b1 b2 b3 f0 f1 w0 w1 p = true := by
  obtain ⟨z, hz, z1, z2⟩ := power_small p
  have c1 : ilt z (-1075) = false := decide_eq_false (by omega)
  have c2 : ilt 1023 z = false := decide_eq_false (by omega)
  have c3 : ilt z (-1022) = false := decide_eq_false (by omega)
  have c4 : u64ok (Int.ofNat (pow2 z)) = true := by
    have := pow2_lt (z := z) (by omega) (by omega)
    show Nat.blt (pow2 z) 18446744073709551616 = true
    rw [Nat.blt_eq]; omega
  unfold O_law05_BoxScaled
  extract_lets x0 x1 x2 x3 x4 x5 x6 x7 x8 x9 x10 x11 x12 x13 x14 x15 x16 x17 x18 x19 x20 x21 x22 x23 x24 x25 x26 x27 x28 x29 x30 x31 x32 x33 x34 x35 x36 x37 x38 x39 x40 x41 x42 x43 x44 x45 x46 x47 x48 x49 x50 x51 x52 x53 x54 x55 x56 x57
  have h0 : x0 = z := hz
  have h1 : x1 = false := by show ilt x0 (-1022) = false; rw [h0]; exact c3
  have h2 : x2 = Int.ofNat (pow2 z) := by
    rw [← ldexp_bits (z := z) (by omega) (by omega)]
    show IntKind.wrap .u64 ((((0 : Int) % (18446744073709551616 : Int)).toNat ||| ((IntKind.wrap .u64 ((IntKind.wrap .u64 (IntKind.wrap .i64 ((bif x1 then (IntKind.wrap .i64 (x0 + (53 : Int))) else x0) + (1023 : Int)))) * (4503599627370496 : Int))) % (18446744073709551616 : Int)).toNat : Nat) : Int) = _
    rw [h1, h0]; rfl
  have h5 : x5 = true := by show (x4 || (x3 || ((u64ok x2) && (x1 || true)))) = true; rw [h2, c4, Bool.or_true, Bool.and_self, Bool.or_true, Bool.or_true]
  clear_value x5 x6 x7 x8 x9 x10 x11 x12 x13 x14 x15 x17 x19 x20 x21 x23 x25 x26 x27 x29 x31 x33 x34 x35 x36 x37 x39 x40 x41 x42 x43 x45 x46 x47 x48 x49 x51 x52 x53 x54 x55 x56
  have h16 : x16 = true := by show (bif x15 then x5 else x5) = true; rw [Bool.cond_self]; exact h5
  have h18 : x18 = true := by show (bif x17 then x16 else x16) = true; rw [Bool.cond_self]; exact h16
  have h22 : x22 = true := by show (bif x21 then x18 else x18) = true; rw [Bool.cond_self]; exact h18
  have h24 : x24 = true := by show (bif x23 then x22 else x22) = true; rw [Bool.cond_self]; exact h22
  have h28 : x28 = true := by show (bif x27 then x24 else x24) = true; rw [Bool.cond_self]; exact h24
  have h30 : x30 = true := by show (bif x29 then x28 else x28) = true; rw [Bool.cond_self]; exact h28
  have h32 : x32 = true := by show (bif x31 then x30 else x30) = true; rw [Bool.cond_self]; exact h30
  have h38 : x38 = true := by show (bif x37 then x32 else x32) = true; rw [Bool.cond_self]; exact h32
  have h44 : x44 = true := by show (bif x43 then x38 else x38) = true; rw [Bool.cond_self]; exact h38
  have h50 : x50 = true := by show (bif x49 then x44 else x44) = true; rw [Bool.cond_self]; exact h44
  have h57 : x57 = true := by show (bif x56 then x50 else x50) = true; rw [Bool.cond_self]; exact h50
  have e : ∀ c : Bool, (bif c then x57 else x57) = true := fun c => by rw [Bool.cond_self]; exact h57
  rw [e]
  simp
end Go.Proofs.Ytbbopbelaamlaaa
