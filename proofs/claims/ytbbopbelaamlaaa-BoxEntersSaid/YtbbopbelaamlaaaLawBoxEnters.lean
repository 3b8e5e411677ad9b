/- BoxEnters: where a way enters a box, and where it does not. -/
import Derived.Test.YtbbopbelaamlaaaFnsD
import Derived.Test.YtbbopbelaamlaaaSimRowSol2
set_option linter.unusedVariables false
set_option linter.unusedSimpArgs false
namespace Go.Proofs.Ytbbopbelaamlaaa
open Go.Sim
def rayF0 (q0 q1 q2 q3 : Nat) (z0 z1 e0 e1 : Bool) : Nat := let x0 : Nat := q0; let x1 : Nat := q1; let x2 : Bool := (flt x1 x0); let x3 : Nat := (bif x2 then x1 else x0); let x4 : Nat := (bif (flt 0 x3) then x3 else 0); let x5 : Bool := z0; let x6 : Nat := (bif x5 then 0 else x4); let x7 : Nat := q2; let x8 : Nat := q3; let x9 : Bool := (flt x8 x7); let x10 : Nat := (bif x9 then x8 else x7); let x11 : Nat := (bif (flt x6 x10) then x10 else x6); let x12 : Bool := z1; let x13 : Nat := (bif x2 then x0 else x1); let x14 : Nat := (bif (flt x13 4607182418800017408) then x13 else 4607182418800017408); let x15 : Bool := (!(bif x5 then e0 else ((fle x3 x13) && (fle x4 x14)))); let x16 : Nat := (bif x5 then 4607182418800017408 else x14); let x17 : Nat := (bif x9 then x7 else x8); (bif (x15 || (!(bif x12 then e1 else ((fle x10 x17) && (fle x11 (bif (flt x17 x16) then x17 else x16)))))) then 0 else (bif x15 then x6 else (bif x12 then x6 else x11)))
theorem ray_form0 (a0 a1 a2 a3 f0 f1 w0 w1 : Nat) : s_box_Ray_0 a0 a1 a2 a3 f0 f1 w0 w1 = rayF0 (fdiv (fsub a0 f0) w0) (fdiv (fsub a2 f0) w0) (fdiv (fsub a1 f1) w1) (fdiv (fsub a3 f1) w1) ((feq w0 0) || (!(feq w0 w0))) ((feq w1 0) || (!(feq w1 w1))) ((fle a0 f0) && (fle f0 a2)) ((fle a1 f1) && (fle f1 a3)) := by kernel_rfl
def rayF1 (q0 q1 q2 q3 : Nat) (z0 z1 e0 e1 : Bool) : Bool := let x0 : Nat := q1; let x1 : Nat := q0; let x2 : Bool := (flt x0 x1); let x3 : Nat := (bif x2 then x1 else x0); let x4 : Nat := (bif (flt x3 4607182418800017408) then x3 else 4607182418800017408); let x5 : Bool := z0; let x6 : Nat := (bif x5 then 4607182418800017408 else x4); let x7 : Nat := q3; let x8 : Nat := q2; let x9 : Bool := (flt x7 x8); let x10 : Nat := (bif x9 then x8 else x7); let x11 : Nat := (bif x2 then x0 else x1); let x12 : Nat := (bif (flt 0 x11) then x11 else 0); let x13 : Nat := (bif x5 then 0 else x12); let x14 : Nat := (bif x9 then x7 else x8); (bif ((!(bif x5 then e0 else ((fle x11 x3) && (fle x12 x4)))) || (!(bif z1 then e1 else ((fle x14 x10) && (fle (bif (flt x13 x14) then x14 else x13) (bif (flt x10 x6) then x10 else x6)))))) then false else true)
theorem ray_form1 (a0 a1 a2 a3 f0 f1 w0 w1 : Nat) : s_box_Ray_1 a0 a1 a2 a3 f0 f1 w0 w1 = rayF1 (fdiv (fsub a0 f0) w0) (fdiv (fsub a2 f0) w0) (fdiv (fsub a1 f1) w1) (fdiv (fsub a3 f1) w1) ((feq w0 0) || (!(feq w0 w0))) ((feq w1 0) || (!(feq w1 w1))) ((fle a0 f0) && (fle f0 a2)) ((fle a1 f1) && (fle f1 a3)) := by kernel_rfl
def mn (x y : Nat) : Nat := bif (flt y x) then y else x
def mx (x y : Nat) : Nat := bif (flt y x) then x else y
def up (a x : Nat) : Nat := bif (flt a x) then x else a
def dn (x b : Nat) : Nat := bif (flt x b) then x else b
def one : Nat := 4607182418800017408
def ok1 (q0 q1 : Nat) (z0 e0 : Bool) : Bool := bif z0 then e0 else ((fle (mn q0 q1) (mx q0 q1)) && (fle (up 0 (mn q0 q1)) (dn (mx q0 q1) one)))
def aa (q0 q1 : Nat) (z0 : Bool) : Nat := bif z0 then 0 else up 0 (mn q0 q1)
def bb (q0 q1 : Nat) (z0 : Bool) : Nat := bif z0 then one else dn (mx q0 q1) one
def ok2 (a b q2 q3 : Nat) (z1 e1 : Bool) : Bool := bif z1 then e1 else ((fle (mn q2 q3) (mx q2 q3)) && (fle (up a (mn q2 q3)) (dn (mx q2 q3) b)))
theorem rayF1_eq (q0 q1 q2 q3 : Nat) (z0 z1 e0 e1 : Bool) : rayF1 q0 q1 q2 q3 z0 z1 e0 e1 = (bif ((!(ok1 q0 q1 z0 e0)) || (!(ok2 (aa q0 q1 z0) (bb q0 q1 z0) q2 q3 z1 e1))) then false else true) := by kernel_rfl
theorem rayF0_eq (q0 q1 q2 q3 : Nat) (z0 z1 e0 e1 : Bool) : rayF0 q0 q1 q2 q3 z0 z1 e0 e1 = (bif ((!(ok1 q0 q1 z0 e0)) || (!(ok2 (aa q0 q1 z0) (bb q0 q1 z0) q2 q3 z1 e1))) then 0 else (bif (!(ok1 q0 q1 z0 e0)) then (aa q0 q1 z0) else (bif z1 then (aa q0 q1 z0) else (up (aa q0 q1 z0) (mn q2 q3))))) := by kernel_rfl
theorem mn_key {x y : Nat} (hx : nanb x = false) (hy : nanb y = false) : nanb (mn x y) = false ∧ key (mn x y) = min (key x) (key y) := by
  unfold mn
  rw [flt_key hy hx]
  by_cases h : key y < key x
  · rw [decide_eq_true h]; exact ⟨hy, by show key y = _; omega⟩
  · rw [decide_eq_false h]; exact ⟨hx, by show key x = _; omega⟩
theorem mx_key {x y : Nat} (hx : nanb x = false) (hy : nanb y = false) : nanb (mx x y) = false ∧ key (mx x y) = max (key x) (key y) := by
  unfold mx
  rw [flt_key hy hx]
  by_cases h : key y < key x
  · rw [decide_eq_true h]; exact ⟨hx, by show key x = _; omega⟩
  · rw [decide_eq_false h]; exact ⟨hy, by show key y = _; omega⟩
theorem up_key {a x : Nat} (ha : nanb a = false) (hx : nanb x = false) : nanb (up a x) = false ∧ key (up a x) = max (key a) (key x) := by
  unfold up
  rw [flt_key ha hx]
  by_cases h : key a < key x
  · rw [decide_eq_true h]; exact ⟨hx, by show key x = _; omega⟩
  · rw [decide_eq_false h]; exact ⟨ha, by show key a = _; omega⟩
theorem dn_key {x b : Nat} (hx : nanb x = false) (hb : nanb b = false) : nanb (dn x b) = false ∧ key (dn x b) = min (key x) (key b) := by
  unfold dn
  rw [flt_key hx hb]
  by_cases h : key x < key b
  · rw [decide_eq_true h]; exact ⟨hx, by show key x = _; omega⟩
  · rw [decide_eq_false h]; exact ⟨hb, by show key b = _; omega⟩
theorem one_num : nanb one = false := by decide
/-- One of two numbers is at most so great, the other at least. -/
def Btw (s p q : Nat) : Prop := (key p ≤ key s ∧ key s ≤ key q) ∨ (key q ≤ key s ∧ key s ≤ key p)
theorem aa_key {q0 q1 : Nat} {z0 : Bool} (h : z0 = false → nanb q0 = false ∧ nanb q1 = false) : nanb (aa q0 q1 z0) = false ∧ key (aa q0 q1 z0) = (if z0 = true then 0 else max 0 (min (key q0) (key q1))) := by
  cases z0
  · obtain ⟨h0, h1⟩ := h rfl
    obtain ⟨m1, m2⟩ := mn_key h0 h1
    obtain ⟨u1, u2⟩ := up_key nanb_zero m1
    exact ⟨u1, by show key (up 0 (mn q0 q1)) = _; rw [u2, m2, key_0]; simp⟩
  · exact ⟨nanb_zero, key_0⟩
theorem bb_key {q0 q1 : Nat} {z0 : Bool} (h : z0 = false → nanb q0 = false ∧ nanb q1 = false) : nanb (bb q0 q1 z0) = false ∧ key (bb q0 q1 z0) = (if z0 = true then key one else min (max (key q0) (key q1)) (key one)) := by
  cases z0
  · obtain ⟨h0, h1⟩ := h rfl
    obtain ⟨m1, m2⟩ := mx_key h0 h1
    obtain ⟨u1, u2⟩ := dn_key m1 one_num
    exact ⟨u1, by show key (dn (mx q0 q1) one) = _; rw [u2, m2]; simp⟩
  · exact ⟨one_num, by rw [if_pos rfl]; rfl⟩
theorem ok1_key {q0 q1 : Nat} {e0 : Bool} (h0 : nanb q0 = false) (h1 : nanb q1 = false) : ok1 q0 q1 false e0 = decide (max 0 (min (key q0) (key q1)) ≤ min (max (key q0) (key q1)) (key one)) := by
  obtain ⟨m1, m2⟩ := mn_key h0 h1
  obtain ⟨m3, m4⟩ := mx_key h0 h1
  obtain ⟨u1, u2⟩ := up_key nanb_zero m1
  obtain ⟨u3, u4⟩ := dn_key m3 one_num
  show ((fle (mn q0 q1) (mx q0 q1)) && (fle (up 0 (mn q0 q1)) (dn (mx q0 q1) one))) = _
  rw [fle_key m1 m3, fle_key u1 u3, u2, u4, m2, m4, key_0, decide_eq_true (by omega : min (key q0) (key q1) ≤ max (key q0) (key q1)), Bool.true_and]
theorem ok2_key {a b q0 q1 : Nat} {e0 : Bool} (ha : nanb a = false) (hb : nanb b = false) (h0 : nanb q0 = false) (h1 : nanb q1 = false) : ok2 a b q0 q1 false e0 = decide (max (key a) (min (key q0) (key q1)) ≤ min (max (key q0) (key q1)) (key b)) := by
  obtain ⟨m1, m2⟩ := mn_key h0 h1
  obtain ⟨m3, m4⟩ := mx_key h0 h1
  obtain ⟨u1, u2⟩ := up_key ha m1
  obtain ⟨u3, u4⟩ := dn_key m3 hb
  show ((fle (mn q0 q1) (mx q0 q1)) && (fle (up a (mn q0 q1)) (dn (mx q0 q1) b))) = _
  rw [fle_key m1 m3, fle_key u1 u3, u2, u4, m2, m4, decide_eq_true (by omega : min (key q0) (key q1) ≤ max (key q0) (key q1)), Bool.true_and]
/-- The ray enters: its number, and what it tells. -/
theorem ray_true {q0 q1 q2 q3 : Nat} {z0 z1 e0 e1 : Bool} (n0 : z0 = false → nanb q0 = false ∧ nanb q1 = false) (n1 : z1 = false → nanb q2 = false ∧ nanb q3 = false) (h : rayF1 q0 q1 q2 q3 z0 z1 e0 e1 = true) :
    nanb (rayF0 q0 q1 q2 q3 z0 z1 e0 e1) = false ∧ 0 ≤ key (rayF0 q0 q1 q2 q3 z0 z1 e0 e1) ∧ key (rayF0 q0 q1 q2 q3 z0 z1 e0 e1) ≤ key one ∧ (z0 = true → e0 = true) ∧ (z1 = true → e1 = true) ∧ (z0 = false → Btw (rayF0 q0 q1 q2 q3 z0 z1 e0 e1) q0 q1) ∧ (z1 = false → Btw (rayF0 q0 q1 q2 q3 z0 z1 e0 e1) q2 q3) := by
  rw [rayF1_eq] at h
  rw [rayF0_eq]
  cases hk1 : ok1 q0 q1 z0 e0
  · rw [hk1] at h; cases h
  cases hk2 : ok2 (aa q0 q1 z0) (bb q0 q1 z0) q2 q3 z1 e1
  · rw [hk1, hk2] at h; cases h
  show nanb (bif z1 then (aa q0 q1 z0) else (up (aa q0 q1 z0) (mn q2 q3))) = false ∧ _ ≤ key (bif z1 then (aa q0 q1 z0) else (up (aa q0 q1 z0) (mn q2 q3))) ∧ key (bif z1 then (aa q0 q1 z0) else (up (aa q0 q1 z0) (mn q2 q3))) ≤ _ ∧ _ ∧ _ ∧ (_ → Btw (bif z1 then (aa q0 q1 z0) else (up (aa q0 q1 z0) (mn q2 q3))) _ _) ∧ (_ → Btw (bif z1 then (aa q0 q1 z0) else (up (aa q0 q1 z0) (mn q2 q3))) _ _)
  obtain ⟨a1, a2⟩ := aa_key n0
  obtain ⟨b1, b2⟩ := bb_key n0
  have ko : 0 ≤ key one := by decide
  have hz0 : (z0 = true → e0 = true) ∧ (z0 = false → max 0 (min (key q0) (key q1)) ≤ min (max (key q0) (key q1)) (key one)) := by
    cases z0
    · rw [ok1_key (n0 rfl).1 (n0 rfl).2, decide_eq_true_eq] at hk1
      exact ⟨(by intro h; cases h), fun _ => hk1⟩
    · exact ⟨fun _ => hk1, (by intro h; cases h)⟩
  have hz1 : (z1 = true → e1 = true) ∧ (z1 = false → max (key (aa q0 q1 z0)) (min (key q2) (key q3)) ≤ min (max (key q2) (key q3)) (key (bb q0 q1 z0))) := by
    cases z1
    · rw [ok2_key a1 b1 (n1 rfl).1 (n1 rfl).2, decide_eq_true_eq] at hk2
      exact ⟨(by intro h; cases h), fun _ => hk2⟩
    · exact ⟨fun _ => hk2, (by intro h; cases h)⟩
  rw [a2, b2] at hz1
  unfold Btw
  cases z1
  · obtain ⟨m1, m2⟩ := mn_key (n1 rfl).1 (n1 rfl).2
    obtain ⟨u1, u2⟩ := up_key a1 m1
    have h2 := hz1.2 rfl
    show nanb (up (aa q0 q1 z0) (mn q2 q3)) = false ∧ _ ≤ key (up (aa q0 q1 z0) (mn q2 q3)) ∧ key (up (aa q0 q1 z0) (mn q2 q3)) ≤ _ ∧ _ ∧ _ ∧ (_ → (_ ≤ key (up (aa q0 q1 z0) (mn q2 q3)) ∧ key (up (aa q0 q1 z0) (mn q2 q3)) ≤ _) ∨ (_ ≤ key (up (aa q0 q1 z0) (mn q2 q3)) ∧ key (up (aa q0 q1 z0) (mn q2 q3)) ≤ _)) ∧ (_ → (_ ≤ key (up (aa q0 q1 z0) (mn q2 q3)) ∧ key (up (aa q0 q1 z0) (mn q2 q3)) ≤ _) ∨ (_ ≤ key (up (aa q0 q1 z0) (mn q2 q3)) ∧ key (up (aa q0 q1 z0) (mn q2 q3)) ≤ _))
    rw [u2, m2, a2]
    refine ⟨u1, ?_, ?_, hz0.1, (by intro h; cases h), ?_, ?_⟩
    · cases z0 <;> simp at * <;> omega
    · cases z0 <;> simp at * <;> omega
    · intro h; subst h
      have h1 := hz0.2 rfl
      simp at *; omega
    · intro _
      cases z0 <;> simp at * <;> omega
  · show nanb (aa q0 q1 z0) = false ∧ _ ≤ key (aa q0 q1 z0) ∧ key (aa q0 q1 z0) ≤ _ ∧ _ ∧ _ ∧ (_ → (_ ≤ key (aa q0 q1 z0) ∧ key (aa q0 q1 z0) ≤ _) ∨ (_ ≤ key (aa q0 q1 z0) ∧ key (aa q0 q1 z0) ≤ _)) ∧ (_ → (_ ≤ key (aa q0 q1 z0) ∧ key (aa q0 q1 z0) ≤ _) ∨ (_ ≤ key (aa q0 q1 z0) ∧ key (aa q0 q1 z0) ≤ _))
    rw [a2]
    refine ⟨a1, ?_, ?_, hz0.1, hz1.1, ?_, (by intro h; cases h)⟩
    · cases z0 <;> simp at * <;> omega
    · cases z0 <;> simp at * <;> omega
    · intro h; subst h
      have h1 := hz0.2 rfl
      simp at *; omega
/-- A number that every part allows: the ray enters. -/
theorem ray_of {t q0 q1 q2 q3 : Nat} {z0 z1 e0 e1 : Bool} (n0 : z0 = false → nanb q0 = false ∧ nanb q1 = false) (n1 : z1 = false → nanb q2 = false ∧ nanb q3 = false) (t0 : 0 ≤ key t) (t1 : key t ≤ key one)
    (h0 : z0 = true → e0 = true) (h1 : z1 = true → e1 = true) (b0 : z0 = false → Btw t q0 q1) (b1 : z1 = false → Btw t q2 q3) : rayF1 q0 q1 q2 q3 z0 z1 e0 e1 = true := by
  obtain ⟨a1, a2⟩ := aa_key n0
  obtain ⟨c1, c2⟩ := bb_key n0
  have k1 : ok1 q0 q1 z0 e0 = true := by
    cases z0
    · rw [ok1_key (n0 rfl).1 (n0 rfl).2, decide_eq_true_eq]
      have := b0 rfl
      unfold Btw at this
      omega
    · exact h0 rfl
  have k2 : ok2 (aa q0 q1 z0) (bb q0 q1 z0) q2 q3 z1 e1 = true := by
    cases z1
    · rw [ok2_key a1 c1 (n1 rfl).1 (n1 rfl).2, decide_eq_true_eq, a2, c2]
      have g1 := b1 rfl
      unfold Btw at g1
      cases z0
      · have g0 := b0 rfl
        unfold Btw at g0
        simp; omega
      · simp; omega
    · exact h1 rfl
  rw [rayF1_eq, k1, k2]; rfl
theorem ray_false {q0 q1 q2 q3 : Nat} {z0 z1 e0 e1 : Bool} (h : rayF1 q0 q1 q2 q3 z0 z1 e0 e1 = false) : rayF0 q0 q1 q2 q3 z0 z1 e0 e1 = 0 := by
  rw [rayF1_eq] at h
  rw [rayF0_eq]
  cases hc : ((!(ok1 q0 q1 z0 e0)) || (!(ok2 (aa q0 q1 z0) (bb q0 q1 z0) q2 q3 z1 e1)))
  · rw [hc] at h; cases h
  · rfl
theorem key_rv {a b : Nat} (fa : fin a = true) (fb : fin b = true) : key a ≤ key b ↔ rv a ≤ rv b := by
  have h1 := fle_key (fin_not_nan fa) (fin_not_nan fb)
  rw [rv_le fa fb] at h1
  exact decide_eq_decide.1 h1.symm
theorem rv_20 : rv 4697254411347427328 = ((1048576 : Nat) : Rat) / ((1 : Nat) : Rat) := rv_lit (by decide) (by decide) (by intro d hd; subst hd; decide +kernel)
theorem rv_m20 : rv 4517110426252607488 = ((1 : Nat) : Rat) / ((1048576 : Nat) : Rat) := rv_lit (by decide) (by decide) (by intro d hd; subst hd; decide +kernel)
theorem e20 : rv 4697254411347427328 = 1048576 := by rw [rv_20, show ((1048576 : Nat) : Rat) = 1048576 from rfl, show ((1 : Nat) : Rat) = 1 from rfl]; grind
theorem em20 : rv 4517110426252607488 = 1 / 1048576 := by rw [rv_m20, show ((1048576 : Nat) : Rat) = 1048576 from rfl, show ((1 : Nat) : Rat) = 1 from rfl]
theorem e1 : rv one = 1 := by show rv 4607182418800017408 = 1; rw [rv_one, show ((1 : Nat) : Rat) = 1 from rfl]; grind
theorem eneg : rv 13740482463107383296 = -(1 / 1048576) := by
  have h := (rv_neg (b := 4517110426252607488) (by decide) (by decide)).1
  rw [show fneg 4517110426252607488 = 13740482463107383296 by decide, em20] at h
  exact h
theorem within_of {x : Nat} (h : s_num_Within_float64__0 x 4697254411347427328 = true) : fin x = true ∧ -1048576 ≤ rv x ∧ rv x ≤ 1048576 := by
  unfold s_num_Within_float64__0 at h
  rw [Bool.and_eq_true] at h
  have f : fin x = true := fin_between h.1 h.2 (by decide) (by decide)
  have n := (rv_neg (b := 4697254411347427328) (by decide) (by decide))
  rw [rv_le n.2 f, decide_eq_true_eq, n.1, e20] at h
  rw [rv_le f (by decide), decide_eq_true_eq, e20] at h
  exact ⟨f, h.1, h.2⟩
def Sm (w : Nat) : Prop := fin w = true ∧ ((feq w 0 = true ∧ rv w = 0) ∨ (feq w 0 = false ∧ 1 / 1048576 ≤ rv (fabs w) ∧ rv (fabs w) ≤ 1048576))
theorem small_of {x : Nat} (cx : CF x) (h : s_law05_small_0 x = true) : Sm x := by
  unfold s_law05_small_0 at h
  cases h1 : feq x 0
  · rw [h1] at h
    simp only [Bool.false_or, Bool.and_eq_true] at h
    obtain ⟨g1, g2⟩ := h
    have hq : fin (fabs x) = true := fin_between g1 g2 (by decide) (by decide)
    have hn : nanb x = false := by have := fin_not_nan hq; rwa [nanb_fabs] at this
    have ff : fin x = true := by
      have e := fabs_of hn
      rw [e, fin_iff] at hq
      have r2 : rungOf (rungOf x) = rungOf x := by unfold rungOf; omega
      rw [r2] at hq
      exact fin_iff.2 hq
    rw [rv_le (by decide) hq, decide_eq_true_eq, em20] at g1
    rw [rv_le hq (by decide), decide_eq_true_eq, e20] at g2
    exact ⟨ff, .inr ⟨h1, g1, g2⟩⟩
  · have hn : nanb x = false := by
      cases hn : nanb x
      · rfl
      · rw [feq_nan (.inl hn)] at h1; cases h1
    have ff : fin x = true := by
      rcases (feq_zero cx.lt hn).1 h1 with e | e <;> rw [e] <;> decide
    exact ⟨ff, .inl ⟨h1, rv_of_feq ff h1⟩⟩
theorem z_of {w : Nat} (h : Sm w) : ((feq w 0) || (!(feq w w))) = feq w 0 := by
  have : feq w w = true := by rw [feq_val (fin_not_nan h.1) (fin_not_nan h.1)]; simp
  rw [this]; simp
/-- A quotient of a way's part. -/
theorem axis_quo {l f w : Nat} (cf : CF f) (fl : fin l = true) (ff : fin f = true) (l1 : -1048576 ≤ rv l) (l2 : rv l ≤ 1048576) (f1 : -1048576 ≤ rv f) (f2 : rv f ≤ 1048576) (hw : Sm w) (hz : feq w 0 = false) :
    fin (fdiv (fsub l f) w) = true ∧ -(1 / 1073741824) ≤ rv w * rv (fdiv (fsub l f) w) - (rv l - rv f) ∧ rv w * rv (fdiv (fsub l f) w) - (rv l - rv f) ≤ 1 / 1073741824 := by
  have bg := big_800
  have e9 := eta_900
  have e0 := eta_pos
  obtain ⟨fw, h⟩ := hw
  rcases h with ⟨h, _⟩ | ⟨_, w1, w2⟩
  · rw [h] at hz; cases hz
  obtain ⟨fx, x1, x2⟩ := rv_sub (B := 2097152) cf.lt fl ff (by grind) (by grind) (by grind)
  obtain ⟨a1, a2, a0⟩ := abs_le fx
  have xa := abs_bound (B := 2097153) fx (by grind) (by grind)
  obtain ⟨fq, d1, d2, sg⟩ := rv_div (C := 4398046511104) fx fw (by grind) (by grind) (by grind) (by grind)
  have s1 := rv_sgn fq
  have s2 := rv_sgn fx
  have s3 := rv_sgn fw
  rw [sg] at s1
  have ew := Rat.mul_nonneg (Rat.le_of_lt e0) (show 0 ≤ 1048576 - rv (fabs w) by grind)
  have key : rv w * rv (fdiv (fsub l f) w) - rv (fsub l f) = rv (fabs (fdiv (fsub l f) w)) * rv (fabs w) - rv (fabs (fsub l f)) ∨ rv w * rv (fdiv (fsub l f) w) - rv (fsub l f) = -(rv (fabs (fdiv (fsub l f) w)) * rv (fabs w) - rv (fabs (fsub l f))) := by
    cases h2 : sgnOf (fsub l f) <;> cases h3 : sgnOf w <;> rw [h2, h3] at s1 <;> rw [h2] at s2 <;> rw [h3] at s3 <;> simp at s1 s2 s3 <;> rw [s1, s2, s3] <;> first | (left; grind) | (right; grind)
  have ee : eta * (1048576 - rv (fabs w)) = eta * 1048576 - eta * rv (fabs w) := by grind
  rw [ee] at ew
  clear s1 s2 s3 sg ee
  generalize rv (fabs (fdiv (fsub l f) w)) * rv (fabs w) = Z at *
  generalize eta * rv (fabs w) = Y at *
  generalize rv w * rv (fdiv (fsub l f) w) = X at *
  refine ⟨fq, ?_, ?_⟩ <;> rcases key with k | k <;> grind
/-- A place on the way. -/
theorem place {f s w : Nat} (ff : fin f = true) (f1 : -1048576 ≤ rv f) (f2 : rv f ≤ 1048576) (hw : Sm w) (fs : fin s = true) (s0 : 0 ≤ rv s) (s1 : rv s ≤ 1) :
    fin (fadd f (fmul s w)) = true ∧ -(1 / 1073741824) ≤ rv (fadd f (fmul s w)) - (rv f + rv w * rv s) ∧ rv (fadd f (fmul s w)) - (rv f + rv w * rv s) ≤ 1 / 1073741824 ∧ (feq w 0 = true → V (fadd f (fmul s w)) (sval f)) := by
  have bg := big_800
  have e9 := eta_900
  have e0 := eta_pos
  obtain ⟨fw, h⟩ := hw
  have wb : -1048576 ≤ rv w ∧ rv w ≤ 1048576 := by
    obtain ⟨a1, a2, a0⟩ := abs_le fw
    rcases h with ⟨_, h⟩ | ⟨_, w1, w2⟩
    · rw [h]; constructor <;> grind
    · constructor <;> grind
  have m := mul_le (A := 1) (C := 1048576) (x := rv s) (y := rv w) (by grind) s1 wb.1 wb.2
  obtain ⟨fm, m1, m2⟩ := rv_mul (B := 1048576) fs fw (by grind) (by grind) (by grind)
  obtain ⟨fa, a1, a2⟩ := rv_add (B := 4194304) ff fm (by grind) (by grind) (by grind)
  have e : rv s * rv w = rv w * rv s := by grind
  rw [e] at m1 m2
  refine ⟨fa, by grind, by grind, fun hz => ?_⟩
  have w0 : rv w = 0 := rv_of_feq fw hz
  obtain ⟨g1, g2⟩ := rv_mul_zero fs fw (by rw [w0]; grind)
  exact V.add (V.self ff) (V_of_rv0 g1 g2) (V.self ff) (by omega)
theorem between_mul {w p q s : Rat} (h : (p ≤ s ∧ s ≤ q) ∨ (q ≤ s ∧ s ≤ p)) : (w * p ≤ w * s ∧ w * s ≤ w * q) ∨ (w * q ≤ w * s ∧ w * s ≤ w * p) := by
  rcases Rat.le_total (a := 0) (b := w) with hw | hw
  · rcases h with ⟨h1, h2⟩ | ⟨h1, h2⟩
    · left; exact ⟨Rat.mul_le_mul_of_nonneg_left h1 hw, Rat.mul_le_mul_of_nonneg_left h2 hw⟩
    · right; exact ⟨Rat.mul_le_mul_of_nonneg_left h1 hw, Rat.mul_le_mul_of_nonneg_left h2 hw⟩
  · have hn : 0 ≤ -w := by grind
    rcases h with ⟨h1, h2⟩ | ⟨h1, h2⟩
    · right
      have a := Rat.mul_le_mul_of_nonneg_left h1 hn
      have b := Rat.mul_le_mul_of_nonneg_left h2 hn
      constructor <;> grind
    · left
      have a := Rat.mul_le_mul_of_nonneg_left h1 hn
      have b := Rat.mul_le_mul_of_nonneg_left h2 hn
      constructor <;> grind
theorem mul_between {w p q s : Rat} (h1 : w * p ≤ w * s) (h2 : w * s ≤ w * q) (hw : w ≠ 0) : (p ≤ s ∧ s ≤ q) ∨ (q ≤ s ∧ s ≤ p) := by
  rcases Rat.le_total (a := 0) (b := w) with h | h
  · have hp : 0 < w := by grind
    left
    exact ⟨cancel_le hp (by grind), cancel_le hp (by grind)⟩
  · have hp : 0 < -w := by grind
    right
    exact ⟨cancel_le hp (by grind), cancel_le hp (by grind)⟩
/-- One part of the place where the way enters. -/
theorem axis_in {l h f s w : Nat} (cf : CF f) (cl : CF l) (fl : fin l = true) (fh : fin h = true) (ff : fin f = true) (l1 : -1048576 ≤ rv l) (l2 : rv l ≤ 1048576) (h1 : -1048576 ≤ rv h) (h2 : rv h ≤ 1048576) (f1 : -1048576 ≤ rv f) (f2 : rv f ≤ 1048576) (lh : rv l ≤ rv h) (hw : Sm w)
    (ns : nanb s = false) (s0 : 0 ≤ key s) (s1 : key s ≤ key one) (z1 : feq w 0 = true → ((fle l f) && (fle f h)) = true) (z0 : feq w 0 = false → Btw s (fdiv (fsub l f) w) (fdiv (fsub h f) w)) :
    fle (fsub l 4517110426252607488) (fadd f (fmul s w)) = true ∧ fle (fadd f (fmul s w)) (fadd h 4517110426252607488) = true := by
  have bg := big_800
  have fs : fin s = true := by
    have := key_abs s
    have k1 : key one = 4607182418800017408 := by decide
    rw [fin_iff]
    omega
  have s0' : 0 ≤ rv s := by rw [← key_0] at s0; rw [key_rv (by decide) fs] at s0; have : rv 0 = 0 := by unfold rv; rw [show sval 0 = 0 by decide]; grind
                            grind
  have s1' : rv s ≤ 1 := by rw [key_rv fs (by decide), e1] at s1; exact s1
  obtain ⟨fP, p1, p2, p3⟩ := place ff f1 f2 hw fs s0' s1'
  obtain ⟨fL, a1, a2⟩ := rv_sub (a := l) (b := 4517110426252607488) (B := 1048577) (by decide) fl (by decide) (by grind) (by rw [em20]; grind) (by rw [em20]; grind)
  obtain ⟨fH, b1, b2⟩ := rv_add (a := h) (b := 4517110426252607488) (B := 1048577) fh (by decide) (by grind) (by rw [em20]; grind) (by rw [em20]; grind)
  rw [em20] at a1 a2 b1 b2
  rw [rv_le fL fP, rv_le fP fH, decide_eq_true_eq, decide_eq_true_eq]
  cases hz : feq w 0
  · obtain ⟨g0, q1, q2⟩ := axis_quo cf fl ff l1 l2 f1 f2 hw hz
    obtain ⟨g1, q3, q4⟩ := axis_quo cf fh ff h1 h2 f1 f2 hw hz
    have b := z0 hz
    unfold Btw at b
    rw [key_rv g0 fs, key_rv fs g1, key_rv g1 fs, key_rv fs g0] at b
    have m := between_mul (w := rv w) b
    clear b
    generalize rv w * rv s = X at *
    generalize rv w * rv (fdiv (fsub l f) w) = Y at *
    generalize rv w * rv (fdiv (fsub h f) w) = Z at *
    rcases m with m | m <;> constructor <;> grind
  · have v := rv_of_V (p3 hz) (V.self ff)
    have z := z1 hz
    rw [Bool.and_eq_true, rv_le fl ff, rv_le ff fh, decide_eq_true_eq, decide_eq_true_eq] at z
    rw [v]
    constructor <;> grind
/-- One part of a place in the lesser box. -/
theorem axis_out {l h f s w : Nat} (cf : CF f) (cl : CF l) (fl : fin l = true) (fh : fin h = true) (ff : fin f = true) (l1 : -1048576 ≤ rv l) (l2 : rv l ≤ 1048576) (h1 : -1048576 ≤ rv h) (h2 : rv h ≤ 1048576) (f1 : -1048576 ≤ rv f) (f2 : rv f ≤ 1048576) (hw : Sm w)
    (fs : fin s = true) (s0 : 0 ≤ rv s) (s1 : rv s ≤ 1) (g1 : fle (fsub l 13740482463107383296) (fadd f (fmul s w)) = true) (g2 : fle (fadd f (fmul s w)) (fadd h 13740482463107383296) = true) :
    (feq w 0 = true → ((fle l f) && (fle f h)) = true) ∧ (feq w 0 = false → Btw s (fdiv (fsub l f) w) (fdiv (fsub h f) w)) := by
  have bg := big_800
  obtain ⟨fP, p1, p2, p3⟩ := place ff f1 f2 hw fs s0 s1
  obtain ⟨fL, a1, a2⟩ := rv_sub (a := l) (b := 13740482463107383296) (B := 1048577) (by decide) fl (by decide) (by grind) (by rw [eneg]; grind) (by rw [eneg]; grind)
  obtain ⟨fH, b1, b2⟩ := rv_add (a := h) (b := 13740482463107383296) (B := 1048577) fh (by decide) (by grind) (by rw [eneg]; grind) (by rw [eneg]; grind)
  rw [eneg] at a1 a2 b1 b2
  rw [rv_le fL fP, decide_eq_true_eq] at g1
  rw [rv_le fP fH, decide_eq_true_eq] at g2
  constructor
  · intro hz
    have v := rv_of_V (p3 hz) (V.self ff)
    rw [v] at g1 g2
    rw [Bool.and_eq_true, rv_le fl ff, rv_le ff fh, decide_eq_true_eq, decide_eq_true_eq]
    constructor <;> grind
  · intro hz
    obtain ⟨q0, q1, q2⟩ := axis_quo cf fl ff l1 l2 f1 f2 hw hz
    obtain ⟨q3, q4, q5⟩ := axis_quo cf fh ff h1 h2 f1 f2 hw hz
    have w0 : rv w ≠ 0 := by
      intro h
      have : feq w 0 = true := V.feq_of (V_of_rv0 hw.1 h) V.zero
      rw [this] at hz; cases hz
    unfold Btw
    rw [key_rv q0 fs, key_rv fs q3, key_rv q3 fs, key_rv fs q0]
    refine mul_between (w := rv w) ?_ ?_ w0
    · grind
    · grind
theorem law_BoxEnters (a0 a1 a2 a3 f0 f1 w0 w1 : Nat) (ca0 : CF a0) (ca1 : CF a1) (ca2 : CF a2) (ca3 : CF a3) (cf0 : CF f0) (cf1 : CF f1) (cw0 : CF w0) (cw1 : CF w1) : T_law05_BoxEnters a0 a1 a2 a3 f0 f1 w0 w1 = true := by
  unfold T_law05_BoxEnters
  extract_lets x0 x1 x2 x3 x4 x5 x6 x7 x8 x9 x10 x11 x12 x13 x14 x15 x16 x17 x18 x19 x20 x21 x22 x23 x24 x25 x26 x27 x28 x29 x30 x31 x32 x33 x34 x35 x36 x37 x38 x39 x40 x41 x42 x43 x44 x45 x46 x47 x48 x49 x50 x51 x52 x53 x54 x55 x56 x57 x58 x59 x60 x61 x62 x63 x64 x65 x66 x67 x68
  cases hc : ieq (s_box_Check_0 a0 a1 a2 a3) 0
  · rfl
  cases hl : s_vec_Within_0 a0 a1 4697254411347427328
  · rfl
  cases hh : s_vec_Within_0 a2 a3 4697254411347427328
  · rfl
  cases hf : s_vec_Within_0 f0 f1 4697254411347427328
  · rfl
  cases hw0 : s_law05_small_0 w0
  · rfl
  cases hw1 : s_law05_small_0 w1
  · rfl
  unfold s_vec_Within_0 at hl hh hf
  rw [Bool.and_eq_true] at hl hh hf
  obtain ⟨ga0, la0, ma0⟩ := within_of hl.1
  obtain ⟨ga1, la1, ma1⟩ := within_of hl.2
  obtain ⟨ga2, la2, ma2⟩ := within_of hh.1
  obtain ⟨ga3, la3, ma3⟩ := within_of hh.2
  obtain ⟨gf0, lf0, mf0⟩ := within_of hf.1
  obtain ⟨gf1, lf1, mf1⟩ := within_of hf.2
  have sw0 := small_of cw0 hw0
  have sw1 := small_of cw1 hw1
  have hord : rv a0 ≤ rv a2 ∧ rv a1 ≤ rv a3 := by
    unfold s_box_Check_0 at hc
    cases hb : ((((!(s_vec_Finite_0 a0 a1)) || (!(s_vec_Finite_0 a2 a3))) || (flt a2 a0)) || (flt a3 a1))
    · simp only [Bool.or_eq_false_iff] at hb
      have h1 := hb.1.2
      have h2 := hb.2
      rw [flt_rv ga2 ga0, Bool.not_eq_false', decide_eq_true_eq] at h1
      rw [flt_rv ga3 ga1, Bool.not_eq_false', decide_eq_true_eq] at h2
      exact ⟨h1, h2⟩
    · rw [hb] at hc; exact absurd hc (by decide)
  have n0 : ((feq w0 0) || (!(feq w0 w0))) = false → nanb (fdiv (fsub a0 f0) w0) = false ∧ nanb (fdiv (fsub a2 f0) w0) = false := by
    intro h
    rw [z_of sw0] at h
    exact ⟨fin_not_nan (axis_quo cf0 ga0 gf0 la0 ma0 lf0 mf0 sw0 h).1, fin_not_nan (axis_quo cf0 ga2 gf0 la2 ma2 lf0 mf0 sw0 h).1⟩
  have n1 : ((feq w1 0) || (!(feq w1 w1))) = false → nanb (fdiv (fsub a1 f1) w1) = false ∧ nanb (fdiv (fsub a3 f1) w1) = false := by
    intro h
    rw [z_of sw1] at h
    exact ⟨fin_not_nan (axis_quo cf1 ga1 gf1 la1 ma1 lf1 mf1 sw1 h).1, fin_not_nan (axis_quo cf1 ga3 gf1 la3 ma3 lf1 mf1 sw1 h).1⟩
  have h67 : x67 = s_box_Ray_0 a0 a1 a2 a3 f0 f1 w0 w1 := rfl
  have h68 : x68 = s_box_Ray_1 a0 a1 a2 a3 f0 f1 w0 w1 := rfl
  rw [ray_form0] at h67
  rw [ray_form1] at h68
  cases hr : rayF1 (fdiv (fsub a0 f0) w0) (fdiv (fsub a2 f0) w0) (fdiv (fsub a1 f1) w1) (fdiv (fsub a3 f1) w1) ((feq w0 0) || (!(feq w0 w0))) ((feq w1 0) || (!(feq w1 w1))) ((fle a0 f0) && (fle f0 a2)) ((fle a1 f1) && (fle f1 a3))
  rotate_left
  · obtain ⟨r1, r2, r3, r4, r5, r6, r7⟩ := ray_true n0 n1 hr
    rw [← h67] at r1 r2 r3 r6 r7
    rw [hr] at h68
    clear_value x67 x68
    rw [h68]
    rw [z_of sw0] at r4 r6
    rw [z_of sw1] at r5 r7
    have t1 : feq x67 x67 = true := by rw [feq_val r1 r1]; simp
    have t2 : flt x67 0 = false := by rw [flt_key r1 nanb_zero, key_0]; simp; omega
    have t3 : flt 4607182418800017408 x67 = false := by rw [flt_key (by decide) r1]; have : key 4607182418800017408 = key one := rfl
                                                        rw [this]; simp; omega
    have i0 := axis_in cf0 ca0 ga0 ga2 gf0 la0 ma0 la2 ma2 lf0 mf0 hord.1 sw0 r1 r2 r3 r4 r6
    have i1 := axis_in cf1 ca1 ga1 ga3 gf1 la1 ma1 la3 ma3 lf1 mf1 hord.2 sw1 r1 r2 r3 r5 r7
    have t4 : s_box_Has_0 (s_box_Grow_0 a0 a1 a2 a3 4517110426252607488) (s_box_Grow_1 a0 a1 a2 a3 4517110426252607488) (s_box_Grow_2 a0 a1 a2 a3 4517110426252607488) (s_box_Grow_3 a0 a1 a2 a3 4517110426252607488) (s_vec_More_0 f0 f1 x67 w0 w1) (s_vec_More_1 f0 f1 x67 w0 w1) = true := by
      show (((fle (fsub a0 4517110426252607488) (fadd f0 (fmul x67 w0))) && (fle (fsub a1 4517110426252607488) (fadd f1 (fmul x67 w1)))) && ((fle (fadd f0 (fmul x67 w0)) (fadd a2 4517110426252607488)) && (fle (fadd f1 (fmul x67 w1)) (fadd a3 4517110426252607488)))) = true
      rw [i0.1, i0.2, i1.1, i1.2]; rfl
    rw [t1, t2, t3, t4]
    simp
  · have hs := ray_false hr
    rw [← h67] at hs
    rw [hr] at h68
    have out : ∀ t : Nat, fin t = true → 0 ≤ key t → key t ≤ key one → s_box_Has_0 x3 x2 x1 x0 (s_vec_More_0 f0 f1 t w0 w1) (s_vec_More_1 f0 f1 t w0 w1) = false := by
      intro t ft t0 t1
      have t0' : 0 ≤ rv t := by
        rw [← key_0] at t0; rw [key_rv (by decide) ft] at t0
        have : rv 0 = 0 := by unfold rv; rw [show sval 0 = 0 by decide]; grind
        grind
      have t1' : rv t ≤ 1 := by rw [key_rv ft (by decide), e1] at t1; exact t1
      cases hb : s_box_Has_0 x3 x2 x1 x0 (s_vec_More_0 f0 f1 t w0 w1) (s_vec_More_1 f0 f1 t w0 w1)
      · rfl
      · exfalso
        have hb' : (((fle (fsub a0 13740482463107383296) (fadd f0 (fmul t w0))) && (fle (fsub a1 13740482463107383296) (fadd f1 (fmul t w1)))) && ((fle (fadd f0 (fmul t w0)) (fadd a2 13740482463107383296)) && (fle (fadd f1 (fmul t w1)) (fadd a3 13740482463107383296)))) = true := hb
        simp only [Bool.and_eq_true] at hb'
        obtain ⟨⟨b1, b2⟩, b3, b4⟩ := hb'
        have o0 := axis_out cf0 ca0 ga0 ga2 gf0 la0 ma0 la2 ma2 lf0 mf0 sw0 ft t0' t1' b1 b3
        have o1 := axis_out cf1 ca1 ga1 ga3 gf1 la1 ma1 la3 ma3 lf1 mf1 sw1 ft t0' t1' b2 b4
        rw [← z_of sw0] at o0
        rw [← z_of sw1] at o1
        rw [ray_of n0 n1 t0 t1 o0.1 o1.1 o0.2 o1.2] at hr
        cases hr
    have h4 : x4 = false := out 4606971312567484416 (by decide) (by decide) (by decide)
    have h5 : x5 = false := out 4606830575079129088 (by decide) (by decide) (by decide)
    have h6 : x6 = false := out 4606689837590773760 (by decide) (by decide) (by decide)
    have h7 : x7 = false := out 4606549100102418432 (by decide) (by decide) (by decide)
    have h8 : x8 = false := out 4606408362614063104 (by decide) (by decide) (by decide)
    have h9 : x9 = false := out 4606267625125707776 (by decide) (by decide) (by decide)
    have h10 : x10 = false := out 4606126887637352448 (by decide) (by decide) (by decide)
    have h11 : x11 = false := out 4605986150148997120 (by decide) (by decide) (by decide)
    have h12 : x12 = false := out 4605845412660641792 (by decide) (by decide) (by decide)
    have h13 : x13 = false := out 4605704675172286464 (by decide) (by decide) (by decide)
    have h14 : x14 = false := out 4605563937683931136 (by decide) (by decide) (by decide)
    have h15 : x15 = false := out 4605423200195575808 (by decide) (by decide) (by decide)
    have h16 : x16 = false := out 4605282462707220480 (by decide) (by decide) (by decide)
    have h17 : x17 = false := out 4605141725218865152 (by decide) (by decide) (by decide)
    have h18 : x18 = false := out 4605000987730509824 (by decide) (by decide) (by decide)
    have h19 : x19 = false := out 4604860250242154496 (by decide) (by decide) (by decide)
    have h20 : x20 = false := out 4604719512753799168 (by decide) (by decide) (by decide)
    have h21 : x21 = false := out 4604578775265443840 (by decide) (by decide) (by decide)
    have h22 : x22 = false := out 4604438037777088512 (by decide) (by decide) (by decide)
    have h23 : x23 = false := out 4604297300288733184 (by decide) (by decide) (by decide)
    have h24 : x24 = false := out 4604156562800377856 (by decide) (by decide) (by decide)
    have h25 : x25 = false := out 4604015825312022528 (by decide) (by decide) (by decide)
    have h26 : x26 = false := out 4603875087823667200 (by decide) (by decide) (by decide)
    have h27 : x27 = false := out 4603734350335311872 (by decide) (by decide) (by decide)
    have h28 : x28 = false := out 4603593612846956544 (by decide) (by decide) (by decide)
    have h29 : x29 = false := out 4603452875358601216 (by decide) (by decide) (by decide)
    have h30 : x30 = false := out 4603312137870245888 (by decide) (by decide) (by decide)
    have h31 : x31 = false := out 4603171400381890560 (by decide) (by decide) (by decide)
    have h32 : x32 = false := out 4603030662893535232 (by decide) (by decide) (by decide)
    have h33 : x33 = false := out 4602889925405179904 (by decide) (by decide) (by decide)
    have h34 : x34 = false := out 4602749187916824576 (by decide) (by decide) (by decide)
    have h35 : x35 = false := out 4602538081684291584 (by decide) (by decide) (by decide)
    have h36 : x36 = false := out 4602256606707580928 (by decide) (by decide) (by decide)
    have h37 : x37 = false := out 4601975131730870272 (by decide) (by decide) (by decide)
    have h38 : x38 = false := out 4601693656754159616 (by decide) (by decide) (by decide)
    have h39 : x39 = false := out 4601412181777448960 (by decide) (by decide) (by decide)
    have h40 : x40 = false := out 4601130706800738304 (by decide) (by decide) (by decide)
    have h41 : x41 = false := out 4600849231824027648 (by decide) (by decide) (by decide)
    have h42 : x42 = false := out 4600567756847316992 (by decide) (by decide) (by decide)
    have h43 : x43 = false := out 4600286281870606336 (by decide) (by decide) (by decide)
    have h44 : x44 = false := out 4600004806893895680 (by decide) (by decide) (by decide)
    have h45 : x45 = false := out 4599723331917185024 (by decide) (by decide) (by decide)
    have h46 : x46 = false := out 4599441856940474368 (by decide) (by decide) (by decide)
    have h47 : x47 = false := out 4599160381963763712 (by decide) (by decide) (by decide)
    have h48 : x48 = false := out 4598878906987053056 (by decide) (by decide) (by decide)
    have h49 : x49 = false := out 4598597432010342400 (by decide) (by decide) (by decide)
    have h50 : x50 = false := out 4598315957033631744 (by decide) (by decide) (by decide)
    have h51 : x51 = false := out 4597893744568565760 (by decide) (by decide) (by decide)
    have h52 : x52 = false := out 4597330794615144448 (by decide) (by decide) (by decide)
    have h53 : x53 = false := out 4596767844661723136 (by decide) (by decide) (by decide)
    have h54 : x54 = false := out 4596204894708301824 (by decide) (by decide) (by decide)
    have h55 : x55 = false := out 4595641944754880512 (by decide) (by decide) (by decide)
    have h56 : x56 = false := out 4595078994801459200 (by decide) (by decide) (by decide)
    have h57 : x57 = false := out 4594516044848037888 (by decide) (by decide) (by decide)
    have h58 : x58 = false := out 4593953094894616576 (by decide) (by decide) (by decide)
    have h59 : x59 = false := out 4593108669964484608 (by decide) (by decide) (by decide)
    have h60 : x60 = false := out 4591982770057641984 (by decide) (by decide) (by decide)
    have h61 : x61 = false := out 4590856870150799360 (by decide) (by decide) (by decide)
    have h62 : x62 = false := out 4589730970243956736 (by decide) (by decide) (by decide)
    have h63 : x63 = false := out 4588042120383692800 (by decide) (by decide) (by decide)
    have h64 : x64 = false := out 4585790320570007552 (by decide) (by decide) (by decide)
    have h65 : x65 = false := out 4582412620849479680 (by decide) (by decide) (by decide)
    have h66 : x66 = false := out 4575657221408423936 (by decide) (by decide) (by decide)
    have hlast := out 4607112050055839744 (by decide) (by decide) (by decide)
    clear_value x67 x68 x4 x5 x6 x7 x8 x9 x10 x11 x12 x13 x14 x15 x16 x17 x18 x19 x20 x21 x22 x23 x24 x25 x26 x27 x28 x29 x30 x31 x32 x33 x34 x35 x36 x37 x38 x39 x40 x41 x42 x43 x44 x45 x46 x47 x48 x49 x50 x51 x52 x53 x54 x55 x56 x57 x58 x59 x60 x61 x62 x63 x64 x65 x66
    rw [hs, h68, hlast, h4, h5, h6, h7, h8, h9, h10, h11, h12, h13, h14, h15, h16, h17, h18, h19, h20, h21, h22, h23, h24, h25, h26, h27, h28, h29, h30, h31, h32, h33, h34, h35, h36, h37, h38, h39, h40, h41, h42, h43, h44, h45, h46, h47, h48, h49, h50, h51, h52, h53, h54, h55, h56, h57, h58, h59, h60, h61, h62, h63, h64, h65, h66]
    have f0' : feq 0 0 = true := by decide +kernel
    have f1' : flt 0 0 = false := by decide +kernel
    have f2' : flt 4607182418800017408 0 = false := by decide +kernel
    rw [f0', f1', f2']
    rfl
end Go.Proofs.Ytbbopbelaamlaaa
