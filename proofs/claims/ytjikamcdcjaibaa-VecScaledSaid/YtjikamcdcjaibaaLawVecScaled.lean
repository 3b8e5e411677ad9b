/- VecScaled: with a power of two all is so many times as great. -/
import Derived.Test.YtjikamcdcjaibaaFnsC
import Derived.Test.YtjikamcdcjaibaaSimScale3
set_option linter.unusedVariables false
set_option linter.unusedSimpArgs false
namespace Go.Proofs.Ytjikamcdcjaibaa
open Go.Sim
theorem is_of' {a b c d : Nat} (h : a = c) (k : b = d) : s_law02_is_0 a b c d = true := by
  rw [h, k]
  unfold s_law02_is_0 s_ref02_Same_0 s_ref02_Is_0 ieq
  simp
theorem one_of {a b : Nat} (h : a = b) : s_law02_one_0 a b = true := by
  rw [h]
  unfold s_law02_one_0 s_ref02_Is_0 ieq
  simp
theorem plain_of {a : Nat} (ca : CF a) (h : s_law02_plain_0 a = true) : Pl 822 1274 a := by
  have la : a < 18446744073709551616 := ca.lt
  unfold s_law02_plain_0 at h
  cases hz : feq a 0
  · rw [hz] at h
    simp only [Bool.false_or, Bool.and_eq_true] at h
    obtain ⟨h1, h2⟩ := h
    have hf : fin (fabs a) = true := fin_between h1 h2 (by decide) (by decide)
    have hn : nanb a = false := by have := fin_not_nan hf; rwa [nanb_fabs] at this
    have e := fabs_of hn
    have rr : rungOf (rungOf a) = rungOf a := by unfold rungOf; omega
    have l2 : rungOf a < 9223372036854775808 := by unfold rungOf; omega
    have s2 : sgnOf (rungOf a) = false := (sgn_false (by omega)).2 l2
    have kk : key (fabs a) = (rungOf a : Int) := by rw [e]; unfold key; rw [s2, rr]; rfl
    rw [fle_key (by decide) (fin_not_nan hf), decide_eq_true_eq, kk] at h1
    rw [fle_key (fin_not_nan hf) (by decide), decide_eq_true_eq, kk] at h2
    have k1 : key 3706462493325918208 = 3706462493325918208 := by decide
    have k2 : key 5507902344274116608 = 5507902344274116608 := by decide
    exact Pl.between la (lo := 3706462493325918208) (hi := 5507902344274116608) (by decide) (by omega) (by omega) (by decide) (by decide) (by decide) (by decide)
  · have hn : nanb a = false := by
      cases hn : nanb a
      · rfl
      · rw [feq_nan (.inl hn)] at hz; cases hz
    rcases (feq_zero la hn).1 hz with e | e <;> rw [e] <;> exact Pl.nought (by decide) (by decide)
theorem power_small (p : Int) : ∃ z : Int, IntKind.wrap .i64 (IntKind.wrap .i64 (Int.tmod p 101 + 0) + 0) = z ∧ -100 ≤ z ∧ z ≤ 100 := by
  have h : (Int.tmod p 101).natAbs < 101 := by
    rw [Int.natAbs_tmod]; exact Nat.mod_lt _ (by decide)
  refine ⟨Int.tmod p 101, ?_, by omega, by omega⟩
  have e := wrap64 (n := Int.tmod p 101) (by omega) (by omega)
  rw [Int.add_zero, Int.add_zero, e, e]
theorem finite_of {x : Nat} (cx : x < 18446744073709551616) (fx : fin x = true) : s_num_Finite_float64__0 x = true := by
  unfold s_num_Finite_float64__0
  exact V.feq_of (V.sub cx (V.self fx) (V.self fx) V.zero (by omega)) V.zero
theorem sq_sign {x : Nat} (fx : fin x = true) : sgnOf (fmul x x) = false := by
  have hz : (sgnOf x ^^ sgnOf x) = false := by cases sgnOf x <;> rfl
  rw [fmul_fin fx fx, hz]; exact sgn_word _ (RN_le _ _)
theorem sum_sign {p q : Nat} (fp : fin p = true) (fq : fin q = true) (h1 : sgnOf p = false) (h2 : sgnOf q = false) : sgnOf (fadd p q) = false := by
  have v1 : 0 ≤ sval p := by rw [sval_sgn, h1]; simp
  have v2 : 0 ≤ sval q := by rw [sval_sgn, h2]; simp
  rw [fadd_fin fp fq, sgn_word _ (RN_le _ _), h1, h2]
  split
  · rfl
  · simp; omega
theorem unit_same {a0 a1 c0 c1 L L' : Nat} {i j : Nat} (h0 : Sc i j 722 1374 a0 c0) (h1 : Sc i j 722 1374 a1 c1) (hL : Sc i j 665 1378 L L') :
    (bif ((!(s_num_Finite_float64__0 L)) || (feq L 0)) then 0 else (fdiv a0 L)) = (bif ((!(s_num_Finite_float64__0 L')) || (feq L' 0)) then 0 else (fdiv c0 L')) ∧
    (bif ((!(s_num_Finite_float64__0 L)) || (feq L 0)) then 0 else (fdiv a1 L)) = (bif ((!(s_num_Finite_float64__0 L')) || (feq L' 0)) then 0 else (fdiv c1 L')) ∧
    (bif ((!(s_num_Finite_float64__0 L)) || (feq L 0)) then false else true) = (bif ((!(s_num_Finite_float64__0 L')) || (feq L' 0)) then false else true) := by
  rw [finite_of hL.la hL.fa, finite_of hL.lb hL.fb, hL.feq (Sc.zero i j 665 1378)]
  cases hz : feq L 0
  · have hm : magOf (rungOf L) ≠ 0 := by
      intro h
      have : sval L = 0 := by rw [sval_sgn, h]; split <;> rfl
      rw [feq_val (fin_not_nan hL.fa) nanb_zero, this] at hz
      exact absurd hz (by decide)
    have key : ∀ {a c : Nat}, Sc i j 722 1374 a c → fdiv a L = fdiv c L' := by
      intro a c h
      have d := Sc.div (X := 364) (Y := 1785) h hL hm (by omega) (by omega) (by omega) (by omega) (by omega) (by omega)
      have d' : Sc (0 + (i + j)) (0 + (i + j)) 364 1785 (fdiv a L) (fdiv c L') := by
        rw [Nat.zero_add]; rw [Nat.add_comm j i] at d; exact d
      exact (Sc.less d').left.same (Sc.less d')
    exact ⟨key h0, key h1, rfl⟩
  · exact ⟨rfl, rfl, rfl⟩
theorem law_VecScaled (a0 a1 b0 b1 : Nat) (p : Int) (ca0 : CF a0) (ca1 : CF a1) (cb0 : CF b0) (cb1 : CF b1) (kp : IntKind.i64.min ≤ p ∧ p ≤ IntKind.i64.max) : T_law02_VecScaled a0 a1 b0 b1 p = true := by
  obtain ⟨z, hz, z1, z2⟩ := power_small p
  unfold T_law02_VecScaled
  simp only []
  rw [hz, ldexp_word (by omega) (by omega)]
  cases h0 : s_law02_plain_0 a0
  · rfl
  cases h1 : s_law02_plain_0 a1
  · rfl
  cases h2 : s_law02_plain_0 b0
  · rfl
  cases h3 : s_law02_plain_0 b1
  · rfl
  have pa0 := plain_of ca0 h0
  have pa1 := plain_of ca1 h1
  have pb0 := plain_of cb0 h2
  have pb1 := plain_of cb1 h3
  obtain ⟨i, j, hij⟩ : ∃ i j : Nat, z + (j : Int) = i := ⟨z.toNat, (-z).toNat, by omega⟩
  have tm : ∀ {x y X Y a : Nat}, Pl x y a → 52 ≤ X → X + 100 ≤ x → y + 100 ≤ Y → 52 ≤ Y → Y ≤ 2097 → Sc i j X Y a (fmul a (pow2 z)) := by
    intro x y X Y a h e1 e2 e3 e4 e5
    exact h.times (by omega) (by omega) hij e1 (by omega) (by omega) (by omega) (by omega) e4 e5
  have sa0 := tm (X := 722) (Y := 1374) pa0 (by omega) (by omega) (by omega) (by omega) (by omega)
  have sa1 := tm (X := 722) (Y := 1374) pa1 (by omega) (by omega) (by omega) (by omega) (by omega)
  have sb0 := tm (X := 722) (Y := 1374) pb0 (by omega) (by omega) (by omega) (by omega) (by omega)
  have sb1 := tm (X := 722) (Y := 1374) pb1 (by omega) (by omega) (by omega) (by omega) (by omega)
  have e0 : s_vec_Scale_0 a0 a1 (pow2 z) = fmul a0 (pow2 z) := rfl
  have e1 : s_vec_Scale_1 a0 a1 (pow2 z) = fmul a1 (pow2 z) := rfl
  have e2 : s_vec_Scale_0 b0 b1 (pow2 z) = fmul b0 (pow2 z) := rfl
  have e3 : s_vec_Scale_1 b0 b1 (pow2 z) = fmul b1 (pow2 z) := rfl
  rw [e0, e1, e2, e3]
  generalize fmul a0 (pow2 z) = c0 at *
  generalize fmul a1 (pow2 z) = c1 at *
  generalize fmul b0 (pow2 z) = d0 at *
  generalize fmul b1 (pow2 z) = d1 at *
  -- what is linear
  have lin : ∀ {u v x y X Y x' y' : Nat}, Sc i j X Y u v → Pl x y u → 152 ≤ x → y ≤ 1997 → 52 ≤ y → v = fmul u (pow2 z) := by
    intro u v x y X Y x' y' h g e1 e2 e3
    exact h.same (tm (X := x - 100) (Y := y + 100) g (by omega) (by omega) (by omega) (by omega) (by omega))
  have add0 := sa0.add sb0 (by omega) (by omega) (by omega)
  have add1 := sa1.add sb1 (by omega) (by omega) (by omega)
  have padd0 := Sc.add pa0 pb0 (by omega) (by omega) (by omega)
  have padd1 := Sc.add pa1 pb1 (by omega) (by omega) (by omega)
  have ladd0 := lin (x' := 0) (y' := 0) add0 padd0 (by omega) (by omega) (by omega)
  have ladd1 := lin (x' := 0) (y' := 0) add1 padd1 (by omega) (by omega) (by omega)
  have sub0 := sa0.sub sb0 (by omega) (by omega) (by omega)
  have sub1 := sa1.sub sb1 (by omega) (by omega) (by omega)
  have psub0 := Sc.sub pa0 pb0 (by omega) (by omega) (by omega)
  have psub1 := Sc.sub pa1 pb1 (by omega) (by omega) (by omega)
  have lsub0 := lin (x' := 0) (y' := 0) sub0 psub0 (by omega) (by omega) (by omega)
  have lsub1 := lin (x' := 0) (y' := 0) sub1 psub1 (by omega) (by omega) (by omega)
  have half : Pl 1021 1074 4602678819172646912 := Pl.lit (m := 4503599627370496) (e := 1021) (by decide) (by decide) (by decide) (by decide) (by decide) (by decide)
  have three : Pl 1023 1076 4613937818241073152 := Pl.lit (m := 6755399441055744) (e := 1023) (by decide) (by decide) (by decide) (by decide) (by decide) (by decide)
  have mid0 := Sc.mul (X := 669) (Y := 1375) add0 half (by omega) (by omega) (by omega) (by omega) (by omega)
  have mid1 := Sc.mul (X := 669) (Y := 1375) add1 half (by omega) (by omega) (by omega) (by omega) (by omega)
  have pmid0 := Sc.mul (X := 769) (Y := 1275) padd0 half (by omega) (by omega) (by omega) (by omega) (by omega)
  have pmid1 := Sc.mul (X := 769) (Y := 1275) padd1 half (by omega) (by omega) (by omega) (by omega) (by omega)
  have lmid0 := lin (x' := 0) (y' := 0) mid0 pmid0 (by omega) (by omega) (by omega)
  have lmid1 := lin (x' := 0) (y' := 0) mid1 pmid1 (by omega) (by omega) (by omega)
  have lneg1 := lin (x' := 0) (y' := 0) sa1.neg (Sc.neg pa1) (by omega) (by omega) (by omega)
  have lpos0 := lin (x' := 0) (y' := 0) sa0 pa0 (by omega) (by omega) (by omega)
  have thr0 := Sc.mul (i := 0) (j := 0) (X := 671) (Y := 1376) three sb0 (by omega) (by omega) (by omega) (by omega) (by omega)
  have thr1 := Sc.mul (i := 0) (j := 0) (X := 671) (Y := 1376) three sb1 (by omega) (by omega) (by omega) (by omega) (by omega)
  rw [Nat.zero_add, Nat.zero_add] at thr0 thr1
  have pthr0 := Sc.mul (i := 0) (j := 0) (i' := 0) (j' := 0) (X := 771) (Y := 1276) three pb0 (by omega) (by omega) (by omega) (by omega) (by omega)
  have pthr1 := Sc.mul (i := 0) (j := 0) (i' := 0) (j' := 0) (X := 771) (Y := 1276) three pb1 (by omega) (by omega) (by omega) (by omega) (by omega)
  have mor0 := Sc.add (sa0.weak (x' := 671) (y' := 1376) (by omega) (by omega)) thr0 (by omega) (by omega) (by omega)
  have mor1 := Sc.add (sa1.weak (x' := 671) (y' := 1376) (by omega) (by omega)) thr1 (by omega) (by omega) (by omega)
  have pmor0 := Sc.add (Sc.weak (x' := 771) (y' := 1276) pa0 (by omega) (by omega)) pthr0 (by omega) (by omega) (by omega)
  have pmor1 := Sc.add (Sc.weak (x' := 771) (y' := 1276) pa1 (by omega) (by omega)) pthr1 (by omega) (by omega) (by omega)
  have lmor0 := lin (x' := 0) (y' := 0) mor0 pmor0 (by omega) (by omega) (by omega)
  have lmor1 := lin (x' := 0) (y' := 0) mor1 pmor1 (by omega) (by omega) (by omega)
  -- what is square
  have two : ∀ {u v x y X Y : Nat}, Sc (i + i) (j + j) X Y u v → Pl x y u → 252 ≤ x → y ≤ 1897 → 52 ≤ y → v = fmul (fmul u (pow2 z)) (pow2 z) := by
    intro u v x y X Y h g e1 e2 e3
    have t1 := tm (X := x - 100) (Y := y + 100) g (by omega) (by omega) (by omega) (by omega) (by omega)
    have t2 := tm (X := x - 200) (Y := y + 200) t1.right (by omega) (by omega) (by omega) (by omega) (by omega)
    exact h.same ((t1.weak (x' := x - 200) (y' := y + 200) (by omega) (by omega)).trans t2 (by omega) (by omega))
  have prod : ∀ {u v s t : Nat}, Sc i j 722 1374 u v → Sc i j 722 1374 s t → Sc (i + i) (j + j) 370 1674 (fmul u s) (fmul v t) := by
    intro u v s t h g
    exact Sc.mul h g (by omega) (by omega) (by omega) (by omega) (by omega)
  have pprod : ∀ {u s : Nat}, Pl 822 1274 u → Pl 822 1274 s → Pl 570 1474 (fmul u s) := by
    intro u s h g
    exact Sc.mul (i := 0) (j := 0) (i' := 0) (j' := 0) h g (by omega) (by omega) (by omega) (by omega) (by omega)
  have dot := (prod sa0 sb0).add (prod sa1 sb1) (by omega) (by omega) (by omega)
  have pdot := Sc.add (pprod pa0 pb0) (pprod pa1 pb1) (by omega) (by omega) (by omega)
  have ldot := two dot pdot (by omega) (by omega) (by omega)
  have cro := (prod sa0 sb1).sub (prod sa1 sb0) (by omega) (by omega) (by omega)
  have pcro := Sc.sub (pprod pa0 pb1) (pprod pa1 pb0) (by omega) (by omega) (by omega)
  have lcro := two cro pcro (by omega) (by omega) (by omega)
  have sqr := (prod sa0 sa0).add (prod sa1 sa1) (by omega) (by omega) (by omega)
  have psqr := Sc.add (pprod pa0 pa0) (pprod pa1 pa1) (by omega) (by omega) (by omega)
  have lsqr := two sqr psqr (by omega) (by omega) (by omega)
  have ssqr : sgnOf (fadd (fmul a0 a0) (fmul a1 a1)) = false := sum_sign (pprod pa0 pa0).fa (pprod pa1 pa1).fa (sq_sign pa0.fa) (sq_sign pa1.fa)
  have i2 : i + i = 2 * i := by omega
  have j2 : j + j = 2 * j := by omega
  rw [i2, j2] at sqr
  have len := Sc.sqrt (X := 665) (Y := 1378) sqr ssqr (by omega) (by omega) (by omega) (by omega) (by omega)
  have llen := lin (x' := 0) (y' := 0) len len.left (by omega) (by omega) (by omega)
  obtain ⟨u0, u1, u2⟩ := unit_same sa0 sa1 len
  have r0 : s_law02_is_0 (s_vec_Add_0 c0 c1 d0 d1) (s_vec_Add_1 c0 c1 d0 d1) (s_vec_Scale_0 (s_vec_Add_0 a0 a1 b0 b1) (s_vec_Add_1 a0 a1 b0 b1) (pow2 z)) (s_vec_Scale_1 (s_vec_Add_0 a0 a1 b0 b1) (s_vec_Add_1 a0 a1 b0 b1) (pow2 z)) = true := is_of' ladd0 ladd1
  have r1 : s_law02_is_0 (s_vec_Sub_0 c0 c1 d0 d1) (s_vec_Sub_1 c0 c1 d0 d1) (s_vec_Scale_0 (s_vec_Sub_0 a0 a1 b0 b1) (s_vec_Sub_1 a0 a1 b0 b1) (pow2 z)) (s_vec_Scale_1 (s_vec_Sub_0 a0 a1 b0 b1) (s_vec_Sub_1 a0 a1 b0 b1) (pow2 z)) = true := is_of' lsub0 lsub1
  have r2 : s_law02_is_0 (s_vec_Middle_0 c0 c1 d0 d1) (s_vec_Middle_1 c0 c1 d0 d1) (s_vec_Scale_0 (s_vec_Middle_0 a0 a1 b0 b1) (s_vec_Middle_1 a0 a1 b0 b1) (pow2 z)) (s_vec_Scale_1 (s_vec_Middle_0 a0 a1 b0 b1) (s_vec_Middle_1 a0 a1 b0 b1) (pow2 z)) = true := is_of' lmid0 lmid1
  have r3 : s_law02_is_0 (s_vec_Left_0 c0 c1) (s_vec_Left_1 c0 c1) (s_vec_Scale_0 (s_vec_Left_0 a0 a1) (s_vec_Left_1 a0 a1) (pow2 z)) (s_vec_Scale_1 (s_vec_Left_0 a0 a1) (s_vec_Left_1 a0 a1) (pow2 z)) = true := is_of' lneg1 lpos0
  have r4 : s_law02_is_0 (s_vec_More_0 c0 c1 4613937818241073152 d0 d1) (s_vec_More_1 c0 c1 4613937818241073152 d0 d1) (s_vec_Scale_0 (s_vec_More_0 a0 a1 4613937818241073152 b0 b1) (s_vec_More_1 a0 a1 4613937818241073152 b0 b1) (pow2 z)) (s_vec_Scale_1 (s_vec_More_0 a0 a1 4613937818241073152 b0 b1) (s_vec_More_1 a0 a1 4613937818241073152 b0 b1) (pow2 z)) = true := is_of' lmor0 lmor1
  have r5 : s_law02_one_0 (s_vec_Dot_0 c0 c1 d0 d1) (fmul (fmul (s_vec_Dot_0 a0 a1 b0 b1) (pow2 z)) (pow2 z)) = true := one_of ldot
  have r6 : s_law02_one_0 (s_vec_Cross_0 c0 c1 d0 d1) (fmul (fmul (s_vec_Cross_0 a0 a1 b0 b1) (pow2 z)) (pow2 z)) = true := one_of lcro
  have r7 : s_law02_one_0 (s_vec_Square_0 c0 c1) (fmul (fmul (s_vec_Square_0 a0 a1) (pow2 z)) (pow2 z)) = true := one_of lsqr
  have r8 : s_law02_one_0 (s_vec_Length_0 c0 c1) (fmul (s_vec_Length_0 a0 a1) (pow2 z)) = true := one_of llen
  have r9 : s_vec_Unit_0 a0 a1 = s_vec_Unit_0 c0 c1 := u0
  have r10 : s_vec_Unit_1 a0 a1 = s_vec_Unit_1 c0 c1 := u1
  have r11 : s_vec_Unit_2 a0 a1 = s_vec_Unit_2 c0 c1 := u2
  have r12 : s_ref02_Finite_0 c0 c1 = true := by
    unfold s_ref02_Finite_0 s_ref02_End_0
    have f : ∀ {x : Nat}, x < 18446744073709551616 → fin x = true → feq (fsub x x) 0 = true := fun cx fx => V.feq_of (V.sub cx (V.self fx) (V.self fx) V.zero (by omega)) V.zero
    rw [f sa0.lb sa0.fb, f sa1.lb sa1.fb]; rfl
  rw [r0, r1, r2, r3, r4, r5, r6, r7, r8, r9, r10, r11, r12, is_of' rfl rfl]
  simp
theorem ob_VecScaled (a0 a1 b0 b1 : Nat) (p : Int) (ca0 : CF a0) (ca1 : CF a1) (cb0 : CF b0) (cb1 : CF b1) (kp : IntKind.i64.min ≤ p ∧ p ≤ IntKind.i64.max) : O_law02_VecScaled a0 a1 b0 b1 p = true := by
  obtain ⟨z, hz, z1, z2⟩ := power_small p
  have c1 : ilt z (-1075) = false := decide_eq_false (by omega)
  have c2 : ilt 1023 z = false := decide_eq_false (by omega)
  have c3 : ilt z (-1022) = false := decide_eq_false (by omega)
  have c4 : u64ok (Int.ofNat (pow2 z)) = true := by
    have := pow2_lt (z := z) (by omega) (by omega)
    show Nat.blt (pow2 z) 18446744073709551616 = true
    rw [Nat.blt_eq]; omega
  unfold O_law02_VecScaled
  extract_lets x0 x1 x2 x3 x4 x5 x6 x7 x8 x9 x10 x11 x12 x13 x14 x15 x16 x17 x18 x19 x20 x21 x22 x23 x24 x25 x26 x27 x28 x29 x30 x31 x32 x33 x34 x35 x36 x37 x38
  have h0 : x0 = z := hz
  have h1 : x1 = false := by show ilt x0 (-1022) = false; rw [h0]; exact c3
  have h2 : x2 = Int.ofNat (pow2 z) := by
    rw [← ldexp_bits (z := z) (by omega) (by omega)]
    show IntKind.wrap .u64 ((((0 : Int) % (18446744073709551616 : Int)).toNat ||| ((IntKind.wrap .u64 ((IntKind.wrap .u64 (IntKind.wrap .i64 ((bif x1 then (IntKind.wrap .i64 (x0 + (53 : Int))) else x0) + (1023 : Int)))) * (4503599627370496 : Int))) % (18446744073709551616 : Int)).toNat : Nat) : Int) = _
    rw [h1, h0]; rfl
  have h5 : x5 = true := by show (x4 || (x3 || ((u64ok x2) && (x1 || true)))) = true; rw [h2, c4, Bool.or_true, Bool.and_self, Bool.or_true, Bool.or_true]
  clear_value x5 x6 x7 x8 x9 x10 x11 x12 x13 x15 x16 x17 x19 x20 x21 x23 x25 x27 x29 x31 x32 x33 x35 x37
  have h14 : x14 = true := by show (bif x13 then x5 else x5) = true; rw [Bool.cond_self]; exact h5
  have h18 : x18 = true := by show (bif x17 then x14 else x14) = true; rw [Bool.cond_self]; exact h14
  have h22 : x22 = true := by show (bif x21 then x18 else x18) = true; rw [Bool.cond_self]; exact h18
  have h24 : x24 = true := by show (bif x23 then x22 else x22) = true; rw [Bool.cond_self]; exact h22
  have h26 : x26 = true := by show (bif x25 then x24 else x24) = true; rw [Bool.cond_self]; exact h24
  have h28 : x28 = true := by show (bif x27 then x26 else x26) = true; rw [Bool.cond_self]; exact h26
  have h30 : x30 = true := by show (bif x29 then x28 else x28) = true; rw [Bool.cond_self]; exact h28
  have h34 : x34 = true := by show (bif x33 then x30 else x30) = true; rw [Bool.cond_self]; exact h30
  have h36 : x36 = true := by show (bif x35 then x34 else x34) = true; rw [Bool.cond_self]; exact h34
  have h38 : x38 = true := by show (bif x37 then x36 else x36) = true; rw [Bool.cond_self]; exact h36
  have e : ∀ c : Bool, (bif c then x38 else x38) = true := fun c => by rw [Bool.cond_self]; exact h38
  rw [e]
  simp
end Go.Proofs.Ytjikamcdcjaibaa
