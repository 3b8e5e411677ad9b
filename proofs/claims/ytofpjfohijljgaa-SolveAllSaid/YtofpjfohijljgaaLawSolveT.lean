/- Rows solved by turns: what the calls answer, both alike. -/
import Derived.Test.YtofpjfohijljgaaLawSolveQ
set_option linter.unusedVariables false
set_option linter.unusedSimpArgs false
set_option linter.unusedSectionVars false
set_option maxHeartbeats 4000000
set_option maxRecDepth 4000
namespace Go.Proofs.Ytofpjfohijljgaa
open Go.Sim Go.Lst
noncomputable def spdR (r : Rw) (a b : Sl) : Nat := s_ref20_Speed_0 r.v0 r.v1 r.v2 r.v3 r.v4 r.v5 r.v6 r.v7 r.v8 r.v9 r.v10 r.v11 r.v12 r.v13 a.v0 a.v1 a.v2 a.v3 a.v4 b.v0 b.v1 b.v2 b.v3 b.v4
noncomputable def wgtR (r : Rw) (a b : Sl) : Nat := s_ref20_Weight_0 r.v0 r.v1 r.v2 r.v3 r.v4 r.v5 r.v6 r.v7 r.v8 r.v9 r.v10 r.v11 r.v12 r.v13 a.v0 a.v1 a.v2 a.v3 a.v4 b.v0 b.v1 b.v2 b.v3 b.v4
theorem spdP (r : Rw) (a b : Sl) : s_rows_Speed_0 r.v0 r.v1 r.v2 r.v3 r.v4 r.v5 r.v6 r.v7 r.v8 r.v9 r.v10 r.v11 r.v12 r.v13 a.v0 a.v1 a.v2 a.v3 a.v4 b.v0 b.v1 b.v2 b.v3 b.v4 = spdR r a b := by
 unfold s_rows_Speed_0 spdR s_ref20_Speed_0
 rw [asked_eq, ieq_asked, speed_eq]
theorem wgtP (r : Rw) (a b : Sl) : s_rows_Weight_0 r.v0 r.v1 r.v2 r.v3 r.v4 r.v5 r.v6 r.v7 r.v8 r.v9 r.v10 r.v11 r.v12 r.v13 a.v0 a.v1 a.v2 a.v3 a.v4 b.v0 b.v1 b.v2 b.v3 b.v4 = wgtR r a b := by
 unfold s_rows_Weight_0 wgtR s_ref20_Weight_0
 rw [asked_eq, ieq_asked, weight_eq]
noncomputable def offR (r : Rw) (a b : Sl) : Nat := s_ref21_off_0 r.v0 r.v1 r.v2 r.v3 r.v4 r.v5 r.v6 r.v7 r.v8 r.v9 r.v10 r.v11 r.v12 r.v13 a.v0 a.v1 a.v2 a.v3 a.v4 b.v0 b.v1 b.v2 b.v3 b.v4
def okA (x : Nat) : Prop := x < 9223372036854775808 ∧ nanb x = false
theorem okA.cf {x : Nat} (h : okA x) : CF x := ⟨by have := h.1; omega, fun e => by rw [h.2] at e; cases e⟩
theorem most_zero {x : Nat} (h : okA x) : s_ref01_Most_0 x 0 = x := by
 have n0 : nanb 0 = false := by decide
 have p0 : s_ref01_place_0 0 = 0 := by rw [place_eq (by decide)]; decide
 unfold s_ref01_Most_0
 rw [h.2, n0, p0, place_eq (by have := h.1; omega), if_neg (by have := h.1; omega), ile_true (by omega)]; rfl
theorem okA_most {x d : Nat} (h : okA x) : okA (s_ref01_Most_0 x (fabs d)) := by
 unfold s_ref01_Most_0
 rw [h.2, cond_false]
 cases nd : nanb (fabs d)
 ·cases ile (s_ref01_place_0 (fabs d)) (s_ref01_place_0 x)
  ·refine ⟨?_, nd⟩
   have : nanb d = false := by rw [← nanb_fabs]; exact nd
   show fabs d < _
   rw [fabs_of this]; unfold rungOf; omega
  ·exact h
 ·exact h
theorem off_cases (r : Rw) (a b : Sl) : offR r a b = 0 ∨ offR r a b = fabs (fsub r.v8 (spdR r a b)) := by
 unfold offR s_ref21_off_0
 show (bif _ then 0 else fabs (fsub r.v8 (spdR r a b))) = 0 ∨ (bif _ then 0 else fabs (fsub r.v8 (spdR r a b))) = _
 generalize (((!(flt 0 (s_ref20_Weight_0 r.v0 r.v1 r.v2 r.v3 r.v4 r.v5 r.v6 r.v7 r.v8 r.v9 r.v10 r.v11 r.v12 r.v13 a.v0 a.v1 a.v2 a.v3 a.v4 b.v0 b.v1 b.v2 b.v3 b.v4))) || ((flt (fsub r.v8 (s_ref20_Speed_0 r.v0 r.v1 r.v2 r.v3 r.v4 r.v5 r.v6 r.v7 r.v8 r.v9 r.v10 r.v11 r.v12 r.v13 a.v0 a.v1 a.v2 a.v3 a.v4 b.v0 b.v1 b.v2 b.v3 b.v4)) 0) && (fle r.v11 r.v9))) || ((flt 0 (fsub r.v8 (s_ref20_Speed_0 r.v0 r.v1 r.v2 r.v3 r.v4 r.v5 r.v6 r.v7 r.v8 r.v9 r.v10 r.v11 r.v12 r.v13 a.v0 a.v1 a.v2 a.v3 a.v4 b.v0 b.v1 b.v2 b.v3 b.v4))) && (fle r.v10 r.v11))) = q
 cases q
 ·exact .inr rfl
 ·exact .inl rfl
theorem okA_off {x : Nat} (h : okA x) (r : Rw) (a b : Sl) : okA (s_ref01_Most_0 x (offR r a b)) := by
 rcases off_cases r a b with e | e
 ·rw [e, most_zero h]; exact h
 ·rw [e]; exact okA_most h
theorem leftP {x : Nat} (h : okA x) (r : Rw) (a b : Sl) :
  (bif ((!(flt 0 (s_rows_Weight_0 r.v0 r.v1 r.v2 r.v3 r.v4 r.v5 r.v6 r.v7 r.v8 r.v9 r.v10 r.v11 r.v12 r.v13 a.v0 a.v1 a.v2 a.v3 a.v4 b.v0 b.v1 b.v2 b.v3 b.v4))) || (((flt (fsub r.v8 (s_rows_Speed_0 r.v0 r.v1 r.v2 r.v3 r.v4 r.v5 r.v6 r.v7 r.v8 r.v9 r.v10 r.v11 r.v12 r.v13 a.v0 a.v1 a.v2 a.v3 a.v4 b.v0 b.v1 b.v2 b.v3 b.v4)) 0) && (fle r.v11 r.v9)) || ((flt 0 (fsub r.v8 (s_rows_Speed_0 r.v0 r.v1 r.v2 r.v3 r.v4 r.v5 r.v6 r.v7 r.v8 r.v9 r.v10 r.v11 r.v12 r.v13 a.v0 a.v1 a.v2 a.v3 a.v4 b.v0 b.v1 b.v2 b.v3 b.v4))) && (fle r.v10 r.v11)))) then x else (s_num_Most_float64__0 x (fabs (fsub r.v8 (s_rows_Speed_0 r.v0 r.v1 r.v2 r.v3 r.v4 r.v5 r.v6 r.v7 r.v8 r.v9 r.v10 r.v11 r.v12 r.v13 a.v0 a.v1 a.v2 a.v3 a.v4 b.v0 b.v1 b.v2 b.v3 b.v4))))) = s_ref01_Most_0 x (offR r a b) := by
 rw [spdP, wgtP, ← Bool.or_assoc]
 unfold offR s_ref21_off_0
 show _ = s_ref01_Most_0 x (bif (((!(flt 0 (wgtR r a b))) || ((flt (fsub r.v8 (spdR r a b)) 0) && (fle r.v11 r.v9))) || ((flt 0 (fsub r.v8 (spdR r a b))) && (fle r.v10 r.v11))) then 0 else fabs (fsub r.v8 (spdR r a b)))
 generalize (((!(flt 0 (wgtR r a b))) || ((flt (fsub r.v8 (spdR r a b)) 0) && (fle r.v11 r.v9))) || ((flt 0 (fsub r.v8 (spdR r a b))) && (fle r.v10 r.v11))) = q
 cases q
 ·exact most_eq h.cf (CF.fabs (CF.sub _ _))
 ·exact (most_zero h).symm
noncomputable def lft (l : Nat → Rw) (s : Nat → Sl) (n : Nat) : Nat := itr (fun i x => s_ref01_Most_0 x (offR (l i) (s (Int.toNat (l i).v0)) (s (Int.toNat (l i).v1)))) n 0
theorem okA_lft (l : Nat → Rw) (s : Nat → Sl) : ∀ n, okA (lft l s n)
 | 0 => ⟨by show 0 < _; omega, by show nanb 0 = false; decide⟩
 | n + 1 => okA_off (okA_lft l s n) _ _ _
theorem lft_loc {n m : Nat} {l l' : Nat → Rw} {s s' : Nat → Sl} (h : inv n m l) (el : ∀ j, j < n → l j = l' j) (es : ∀ k, k < m → s k = s' k) : ∀ k, k ≤ n → lft l s k = lft l' s' k
 | 0, _ => rfl
 | k + 1, hk => by
  have hr := h k (by omega)
  show s_ref01_Most_0 (lft l s k) _ = s_ref01_Most_0 (lft l' s' k) _
  rw [lft_loc h el es k (by omega), ← el k (by omega), ← es _ (toNat_lt hr.a0 hr.a1), ← es _ (toNat_lt hr.b0 hr.b1)]
theorem runLP {n m : Nat} {l : Nat → Rw} {s : Nat → Sl} (hn : n < 9223372036854775807) (h : inv n m l) :
  E_solve_Left_L0 m (fun j => (s j).v0) (fun j => (s j).v1) (fun j => (s j).v2) (fun j => (s j).v3) (fun j => (s j).v4) n (fun j => (l j).v0) (fun j => (l j).v1) (fun j => (l j).v2) (fun j => (l j).v3) (fun j => (l j).v4) (fun j => (l j).v5) (fun j => (l j).v6) (fun j => (l j).v7) (fun j => (l j).v8) (fun j => (l j).v9) (fun j => (l j).v10) (fun j => (l j).v11) (fun j => (l j).v12) (fun j => (l j).v13) (Int.ofNat n) (V_solve_Left_L0.mk 0 (0 : Int)) = true ∧ (L_solve_Left_L0 m (fun j => (s j).v0) (fun j => (s j).v1) (fun j => (s j).v2) (fun j => (s j).v3) (fun j => (s j).v4) n (fun j => (l j).v0) (fun j => (l j).v1) (fun j => (l j).v2) (fun j => (l j).v3) (fun j => (l j).v4) (fun j => (l j).v5) (fun j => (l j).v6) (fun j => (l j).v7) (fun j => (l j).v8) (fun j => (l j).v9) (fun j => (l j).v10) (fun j => (l j).v11) (fun j => (l j).v12) (fun j => (l j).v13) (Int.ofNat n) (V_solve_Left_L0.mk 0 (0 : Int))).v0 = lft l s n := by
 have hr : E_solve_Left_L0 m (fun j => (s j).v0) (fun j => (s j).v1) (fun j => (s j).v2) (fun j => (s j).v3) (fun j => (s j).v4) n (fun j => (l j).v0) (fun j => (l j).v1) (fun j => (l j).v2) (fun j => (l j).v3) (fun j => (l j).v4) (fun j => (l j).v5) (fun j => (l j).v6) (fun j => (l j).v7) (fun j => (l j).v8) (fun j => (l j).v9) (fun j => (l j).v10) (fun j => (l j).v11) (fun j => (l j).v12) (fun j => (l j).v13) (Int.ofNat n) (V_solve_Left_L0.mk 0 (0 : Int)) = true ∧ L_solve_Left_L0 m (fun j => (s j).v0) (fun j => (s j).v1) (fun j => (s j).v2) (fun j => (s j).v3) (fun j => (s j).v4) n (fun j => (l j).v0) (fun j => (l j).v1) (fun j => (l j).v2) (fun j => (l j).v3) (fun j => (l j).v4) (fun j => (l j).v5) (fun j => (l j).v6) (fun j => (l j).v7) (fun j => (l j).v8) (fun j => (l j).v9) (fun j => (l j).v10) (fun j => (l j).v11) (fun j => (l j).v12) (fun j => (l j).v13) (Int.ofNat n) (V_solve_Left_L0.mk 0 (0 : Int)) = V_solve_Left_L0.mk (lft l s n) (Int.ofNat n) := run_to
  (fun k => V_solve_Left_L0.mk (lft l s k) (Int.ofNat k)) n
  (fun k hk => by
   unfold ok_solve_Left_L0
   simp only [toNat_of, mrgB_eq, ilt_ofNat, ile_ofNat, Bool.cond_self, Bool.true_and]
   by_cases hk : k < n
   ·have hr := h k hk
    simp only [decide_eq_true hk, blt_true hk, ile_true hr.a0, ile_true hr.b0, blt_true (toNat_lt hr.a0 hr.a1), blt_true (toNat_lt hr.b0 hr.b1), Bool.not_true, cond_false, Bool.and_self]
   ·simp only [decide_eq_false hk, Bool.not_false, cond_true])
  (fun k hk => by unfold go_solve_Left_L0; simp only [ilt_ofNat]; simp [hk])
  (fun k hk => by
   unfold step_solve_Left_L0
   simp only [toNat_of]
   rw [succ_i64 (by omega), leftP (okA_lft l s k)]; rfl)
  (by unfold go_solve_Left_L0; simp only [ilt_ofNat]; simp)
 exact ⟨hr.1, congrArg V_solve_Left_L0.v0 hr.2⟩
theorem runLR {n m : Nat} {l : Nat → Rw} {s : Nat → Sl} (hn : n < 9223372036854775807) (h : inv n m l) :
  E_ref21_Left_L0 n (fun j => (l j).v0) (fun j => (l j).v1) (fun j => (l j).v2) (fun j => (l j).v3) (fun j => (l j).v4) (fun j => (l j).v5) (fun j => (l j).v6) (fun j => (l j).v7) (fun j => (l j).v8) (fun j => (l j).v9) (fun j => (l j).v10) (fun j => (l j).v11) (fun j => (l j).v12) (fun j => (l j).v13) m (fun j => (s j).v0) (fun j => (s j).v1) (fun j => (s j).v2) (fun j => (s j).v3) (fun j => (s j).v4) (V_ref21_Left_L0.mk 0 (0 : Int)) = true ∧ (L_ref21_Left_L0 n (fun j => (l j).v0) (fun j => (l j).v1) (fun j => (l j).v2) (fun j => (l j).v3) (fun j => (l j).v4) (fun j => (l j).v5) (fun j => (l j).v6) (fun j => (l j).v7) (fun j => (l j).v8) (fun j => (l j).v9) (fun j => (l j).v10) (fun j => (l j).v11) (fun j => (l j).v12) (fun j => (l j).v13) m (fun j => (s j).v0) (fun j => (s j).v1) (fun j => (s j).v2) (fun j => (s j).v3) (fun j => (s j).v4) (V_ref21_Left_L0.mk 0 (0 : Int))).v0 = lft l s n := by
 have hr : E_ref21_Left_L0 n (fun j => (l j).v0) (fun j => (l j).v1) (fun j => (l j).v2) (fun j => (l j).v3) (fun j => (l j).v4) (fun j => (l j).v5) (fun j => (l j).v6) (fun j => (l j).v7) (fun j => (l j).v8) (fun j => (l j).v9) (fun j => (l j).v10) (fun j => (l j).v11) (fun j => (l j).v12) (fun j => (l j).v13) m (fun j => (s j).v0) (fun j => (s j).v1) (fun j => (s j).v2) (fun j => (s j).v3) (fun j => (s j).v4) (V_ref21_Left_L0.mk 0 (0 : Int)) = true ∧ L_ref21_Left_L0 n (fun j => (l j).v0) (fun j => (l j).v1) (fun j => (l j).v2) (fun j => (l j).v3) (fun j => (l j).v4) (fun j => (l j).v5) (fun j => (l j).v6) (fun j => (l j).v7) (fun j => (l j).v8) (fun j => (l j).v9) (fun j => (l j).v10) (fun j => (l j).v11) (fun j => (l j).v12) (fun j => (l j).v13) m (fun j => (s j).v0) (fun j => (s j).v1) (fun j => (s j).v2) (fun j => (s j).v3) (fun j => (s j).v4) (V_ref21_Left_L0.mk 0 (0 : Int)) = V_ref21_Left_L0.mk (lft l s n) (Int.ofNat n) := run_to
  (fun k => V_ref21_Left_L0.mk (lft l s k) (Int.ofNat k)) n
  (fun k hk => by
   unfold ok_ref21_Left_L0
   simp only [toNat_of, mrgB_eq, ilt_ofNat, ile_ofNat, Bool.cond_self, Bool.true_and]
   by_cases hk : k < n
   ·have hr := h k hk
    simp only [decide_eq_true hk, blt_true hk, ile_true hr.a0, ile_true hr.b0, blt_true (toNat_lt hr.a0 hr.a1), blt_true (toNat_lt hr.b0 hr.b1), Bool.not_true, cond_false, Bool.and_self]
   ·simp only [decide_eq_false hk, Bool.not_false, cond_true])
  (fun k hk => by unfold go_ref21_Left_L0; simp only [ilt_ofNat]; simp [hk])
  (fun k hk => by
   unfold step_ref21_Left_L0
   simp only [toNat_of]
   rw [succ_i64 (by omega)]; rfl)
  (by unfold go_ref21_Left_L0; simp only [ilt_ofNat]; simp)
 exact ⟨hr.1, congrArg V_ref21_Left_L0.v0 hr.2⟩
theorem ask_ok {n m : Nat} {l : Nat → Rw} {s : Nat → Sl} (h : askN n m l s = 0) (c : ∀ i, i < n → CF (l i).v9 ∧ CF (l i).v10) :
  n ≤ 1048576 ∧ m ≤ 1024 ∧ inv n m l ∧ (∀ i, i < n → may (l i) = true) ∧ rst m s := by
 unfold askN at h
 cases hb : (ilt (1048576 : Int) (Int.ofNat n)) || (ilt (1024 : Int) (Int.ofNat m)) with
 | true => rw [hb] at h; cases h
 | false =>
  rw [hb, cond_false] at h
  cases hl : badL n m l with
  | true => rw [hl] at h; cases h
  | false =>
   cases hs : badS m s with
   | true => rw [hl, hs] at h; cases h
   | false =>
    have h1 : n ≤ 1048576 ∧ m ≤ 1024 := by
     unfold ilt at hb; simp at hb; omega
    have nb : ∀ i, i < n → bad n m (l i) = false := fun i hi => by
     cases e : bad n m (l i) with
     | false => rfl
     | true => exact absurd ⟨i, hi, e⟩ (of_decide_eq_false hl)
    have ns : ∀ k, k < m → rest (s k) = true := fun k hk => by
     cases e : rest (s k) with
     | true => rfl
     | false => exact absurd ⟨k, hk, by rw [e]; rfl⟩ (of_decide_eq_false hs)
    have mm : ∀ i, i < n → may (l i) = true := fun i hi => by
     have := nb i hi
     unfold bad at this
     cases e : may (l i) with
     | true => rfl
     | false => rw [e] at this; simp at this
    refine ⟨h1.1, h1.2, fun i hi => ?_, mm, ns⟩
    have hbad := nb i hi
    have hm := mm i hi
    unfold bad at hbad
    rw [hm] at hbad
    unfold may s_ref20_May_0 at hm
    simp only [Bool.and_eq_true, ile, decide_eq_true_eq] at hm
    simp only [Bool.not_true, Bool.false_or, Bool.or_eq_false_iff, ile, decide_eq_false_iff_not, Int.ofNat_eq_natCast] at hbad
    exact ⟨hm.1.1.1.1.1.2, by omega, hm.1.1.1.1.2, by omega, by omega, (c i hi).1, (c i hi).2⟩
theorem ask_loc {n m : Nat} {l l' : Nat → Rw} {s s' : Nat → Sl} (el : ∀ j, j < n → l j = l' j) (es : ∀ k, k < m → s k = s' k) : askN n m l s = askN n m l' s' := by
 have h1 : badL n m l = badL n m l' := decide_eq_decide.2 ⟨fun ⟨i, hi, h⟩ => ⟨i, hi, by rw [← el i hi]; exact h⟩, fun ⟨i, hi, h⟩ => ⟨i, hi, by rw [el i hi]; exact h⟩⟩
 have h2 : badS m s = badS m s' := decide_eq_decide.2 ⟨fun ⟨i, hi, h⟩ => ⟨i, hi, by rw [← es i hi]; exact h⟩, fun ⟨i, hi, h⟩ => ⟨i, hi, by rw [es i hi]; exact h⟩⟩
 unfold askN; rw [h1, h2]
theorem ieq0 {a : Int} (h : a ≠ 0) : ieq a 0 = false := ieq_false h
theorem outR'_eq {n m R : Nat} {l : Nat → Rw} {s : Nat → Sl} (h : inv n m l) (hm : ∀ i, i < n → may (l i) = true) (hs : rst m s) : outR' n l s R = outR n l s R := by
 unfold outR' outR; rw [(warms_rst h hm hs n (Nat.le_refl n)).2]
noncomputable section
def al0 (n : Nat) (l : Nat → Rw) (m : Nat) (s : Nat → Sl) (z : Int) : Nat := s_solve_All_0 n (fun j => (l j).v0) (fun j => (l j).v1) (fun j => (l j).v2) (fun j => (l j).v3) (fun j => (l j).v4) (fun j => (l j).v5) (fun j => (l j).v6) (fun j => (l j).v7) (fun j => (l j).v8) (fun j => (l j).v9) (fun j => (l j).v10) (fun j => (l j).v11) (fun j => (l j).v12) (fun j => (l j).v13) m (fun j => (s j).v0) (fun j => (s j).v1) (fun j => (s j).v2) (fun j => (s j).v3) (fun j => (s j).v4) z
def be0 (n : Nat) (l : Nat → Rw) (m : Nat) (s : Nat → Sl) (z : Int) : Nat := s_ref21_All_0 n (fun j => (l j).v0) (fun j => (l j).v1) (fun j => (l j).v2) (fun j => (l j).v3) (fun j => (l j).v4) (fun j => (l j).v5) (fun j => (l j).v6) (fun j => (l j).v7) (fun j => (l j).v8) (fun j => (l j).v9) (fun j => (l j).v10) (fun j => (l j).v11) (fun j => (l j).v12) (fun j => (l j).v13) m (fun j => (s j).v0) (fun j => (s j).v1) (fun j => (s j).v2) (fun j => (s j).v3) (fun j => (s j).v4) z
def al2 (n : Nat) (l : Nat → Rw) (m : Nat) (s : Nat → Sl) (z : Int) : Nat := s_solve_All_2 n (fun j => (l j).v0) (fun j => (l j).v1) (fun j => (l j).v2) (fun j => (l j).v3) (fun j => (l j).v4) (fun j => (l j).v5) (fun j => (l j).v6) (fun j => (l j).v7) (fun j => (l j).v8) (fun j => (l j).v9) (fun j => (l j).v10) (fun j => (l j).v11) (fun j => (l j).v12) (fun j => (l j).v13) m (fun j => (s j).v0) (fun j => (s j).v1) (fun j => (s j).v2) (fun j => (s j).v3) (fun j => (s j).v4) z
def be2 (n : Nat) (l : Nat → Rw) (m : Nat) (s : Nat → Sl) (z : Int) : Nat := s_ref21_All_2 n (fun j => (l j).v0) (fun j => (l j).v1) (fun j => (l j).v2) (fun j => (l j).v3) (fun j => (l j).v4) (fun j => (l j).v5) (fun j => (l j).v6) (fun j => (l j).v7) (fun j => (l j).v8) (fun j => (l j).v9) (fun j => (l j).v10) (fun j => (l j).v11) (fun j => (l j).v12) (fun j => (l j).v13) m (fun j => (s j).v0) (fun j => (s j).v1) (fun j => (s j).v2) (fun j => (s j).v3) (fun j => (s j).v4) z
def al4 (n : Nat) (l : Nat → Rw) (m : Nat) (s : Nat → Sl) (z : Int) : Int := s_solve_All_4 n (fun j => (l j).v0) (fun j => (l j).v1) (fun j => (l j).v2) (fun j => (l j).v3) (fun j => (l j).v4) (fun j => (l j).v5) (fun j => (l j).v6) (fun j => (l j).v7) (fun j => (l j).v8) (fun j => (l j).v9) (fun j => (l j).v10) (fun j => (l j).v11) (fun j => (l j).v12) (fun j => (l j).v13) m (fun j => (s j).v0) (fun j => (s j).v1) (fun j => (s j).v2) (fun j => (s j).v3) (fun j => (s j).v4) z
def be4 (n : Nat) (l : Nat → Rw) (m : Nat) (s : Nat → Sl) (z : Int) : Int := s_ref21_All_4 n (fun j => (l j).v0) (fun j => (l j).v1) (fun j => (l j).v2) (fun j => (l j).v3) (fun j => (l j).v4) (fun j => (l j).v5) (fun j => (l j).v6) (fun j => (l j).v7) (fun j => (l j).v8) (fun j => (l j).v9) (fun j => (l j).v10) (fun j => (l j).v11) (fun j => (l j).v12) (fun j => (l j).v13) m (fun j => (s j).v0) (fun j => (s j).v1) (fun j => (s j).v2) (fun j => (s j).v3) (fun j => (s j).v4) z
def al5 (n : Nat) (l : Nat → Rw) (m : Nat) (s : Nat → Sl) (z : Int) : Nat := s_solve_All_5 n (fun j => (l j).v0) (fun j => (l j).v1) (fun j => (l j).v2) (fun j => (l j).v3) (fun j => (l j).v4) (fun j => (l j).v5) (fun j => (l j).v6) (fun j => (l j).v7) (fun j => (l j).v8) (fun j => (l j).v9) (fun j => (l j).v10) (fun j => (l j).v11) (fun j => (l j).v12) (fun j => (l j).v13) m (fun j => (s j).v0) (fun j => (s j).v1) (fun j => (s j).v2) (fun j => (s j).v3) (fun j => (s j).v4) z
def be5 (n : Nat) (l : Nat → Rw) (m : Nat) (s : Nat → Sl) (z : Int) : Nat := s_ref21_All_5 n (fun j => (l j).v0) (fun j => (l j).v1) (fun j => (l j).v2) (fun j => (l j).v3) (fun j => (l j).v4) (fun j => (l j).v5) (fun j => (l j).v6) (fun j => (l j).v7) (fun j => (l j).v8) (fun j => (l j).v9) (fun j => (l j).v10) (fun j => (l j).v11) (fun j => (l j).v12) (fun j => (l j).v13) m (fun j => (s j).v0) (fun j => (s j).v1) (fun j => (s j).v2) (fun j => (s j).v3) (fun j => (s j).v4) z
def al20 (n : Nat) (l : Nat → Rw) (m : Nat) (s : Nat → Sl) (z : Int) : Nat := s_solve_All_20 n (fun j => (l j).v0) (fun j => (l j).v1) (fun j => (l j).v2) (fun j => (l j).v3) (fun j => (l j).v4) (fun j => (l j).v5) (fun j => (l j).v6) (fun j => (l j).v7) (fun j => (l j).v8) (fun j => (l j).v9) (fun j => (l j).v10) (fun j => (l j).v11) (fun j => (l j).v12) (fun j => (l j).v13) m (fun j => (s j).v0) (fun j => (s j).v1) (fun j => (s j).v2) (fun j => (s j).v3) (fun j => (s j).v4) z
def be20 (n : Nat) (l : Nat → Rw) (m : Nat) (s : Nat → Sl) (z : Int) : Nat := s_ref21_All_20 n (fun j => (l j).v0) (fun j => (l j).v1) (fun j => (l j).v2) (fun j => (l j).v3) (fun j => (l j).v4) (fun j => (l j).v5) (fun j => (l j).v6) (fun j => (l j).v7) (fun j => (l j).v8) (fun j => (l j).v9) (fun j => (l j).v10) (fun j => (l j).v11) (fun j => (l j).v12) (fun j => (l j).v13) m (fun j => (s j).v0) (fun j => (s j).v1) (fun j => (s j).v2) (fun j => (s j).v3) (fun j => (s j).v4) z
def alO (n : Nat) (l : Nat → Rw) (m : Nat) (s : Nat → Sl) (z : Int) : Bool := o_solve_All n (fun j => (l j).v0) (fun j => (l j).v1) (fun j => (l j).v2) (fun j => (l j).v3) (fun j => (l j).v4) (fun j => (l j).v5) (fun j => (l j).v6) (fun j => (l j).v7) (fun j => (l j).v8) (fun j => (l j).v9) (fun j => (l j).v10) (fun j => (l j).v11) (fun j => (l j).v12) (fun j => (l j).v13) m (fun j => (s j).v0) (fun j => (s j).v1) (fun j => (s j).v2) (fun j => (s j).v3) (fun j => (s j).v4) z
def beO (n : Nat) (l : Nat → Rw) (m : Nat) (s : Nat → Sl) (z : Int) : Bool := o_ref21_All n (fun j => (l j).v0) (fun j => (l j).v1) (fun j => (l j).v2) (fun j => (l j).v3) (fun j => (l j).v4) (fun j => (l j).v5) (fun j => (l j).v6) (fun j => (l j).v7) (fun j => (l j).v8) (fun j => (l j).v9) (fun j => (l j).v10) (fun j => (l j).v11) (fun j => (l j).v12) (fun j => (l j).v13) m (fun j => (s j).v0) (fun j => (s j).v1) (fun j => (s j).v2) (fun j => (s j).v3) (fun j => (s j).v4) z
end
structure TellP (n : Nat) (l : Nat → Rw) (m : Nat) (s : Nat → Sl) (z : Int) (e : Int) (k k' : Nat) (x : Nat → Rw) (y : Nat → Sl) : Prop where
 err : al4 n l m s z = e
 nr : al0 n l m s z = k
 ns : al2 n l m s z = k'
 nr5 : k ≤ al5 n l m s z
 ns20 : k' ≤ al20 n l m s z
 rows : ∀ j, j < k → rlP n l m s z j = x j
 stills : ∀ j, j < k' → slP n l m s z j = y j
 ob : alO n l m s z = true
structure TellR (n : Nat) (l : Nat → Rw) (m : Nat) (s : Nat → Sl) (z : Int) (e : Int) (k k' : Nat) (x : Nat → Rw) (y : Nat → Sl) : Prop where
 err : be4 n l m s z = e
 nr : be0 n l m s z = k
 ns : be2 n l m s z = k'
 nr5 : k ≤ be5 n l m s z
 ns20 : k' ≤ be20 n l m s z
 rows : ∀ j, j < k → rlR n l m s z j = x j
 stills : ∀ j, j < k' → slR n l m s z j = y j
 ob : beO n l m s z = true
theorem tellP {n m : Nat} {l : Nat → Rw} {s : Nat → Sl} {z : Int} (hn : n < 9223372036854775807) (hm : m < 9223372036854775807) (c : ∀ i, i < n → CF (l i).v9 ∧ CF (l i).v10) :
  (∃ e, (e = askN n m l s ∧ askN n m l s ≠ 0 ∨ e = 210 ∧ askN n m l s = 0 ∧ (z < 0 ∨ 64 < z)) ∧ ∀ x y, TellP n l m s z e 0 0 x y) ∨
  (askN n m l s = 0 ∧ 0 ≤ z ∧ z ≤ 64 ∧ TellP n l m s z 0 n m (outR n l s (Int.toNat z)).1 (outR n l s (Int.toNat z)).2) := by
 obtain ⟨a1, a2⟩ := askP (l := l) (s := s) hn hm
 by_cases h0 : askN n m l s = 0
 ·by_cases hz : z < 0 ∨ 64 < z
  ·have hzb : ((ilt z (0 : Int)) || (ilt (64 : Int) z)) = true := by unfold ilt; simp; omega
   refine .inl ⟨210, .inr ⟨rfl, h0, hz⟩, fun x y => ⟨?_, ?_, ?_, Nat.zero_le _, Nat.zero_le _, fun j hj => by omega, fun j hj => by omega, ?_⟩⟩
   ·unfold al4 s_solve_All_4; rw [a1, h0, hzb]; rfl
   ·unfold al0 s_solve_All_0; rw [a1, h0, hzb, csame_eq, csame_eq]; rfl
   ·unfold al2 s_solve_All_2; rw [a1, h0, hzb, csame_eq, csame_eq]; rfl
   ·unfold alO o_solve_All; simp only [a1, h0, hzb, a2, mrgB_eq, Bool.cond_self]; rfl
  ·have hzb : ((ilt z (0 : Int)) || (ilt (64 : Int) z)) = false := by unfold ilt; simp; omega
   obtain ⟨b1, b2, hi, hmay, hr⟩ := ask_ok h0 c
   have hz0 : 0 ≤ z := by omega
   have hz1 : z ≤ 64 := by omega
   obtain ⟨R, rfl⟩ : ∃ R : Nat, z = Int.ofNat R := ⟨Int.toNat z, by simp; omega⟩
   have hR : R < 9223372036854775807 := by simp at hz1; omega
   obtain ⟨g1, g2, g3, g4, g5⟩ := allP (s := s) hn hR hi
   refine .inr ⟨h0, hz0, hz1, ?_, ?_, ?_, Nat.le_of_eq g3.symm, Nat.le_of_eq g4.symm, fun j hj => by rw [g1, out_eq hi]; rfl, fun j hj => by rw [g2, out_eq hi]; rfl, ?_⟩
   ·unfold al4 s_solve_All_4; rw [a1, h0, hzb]; rfl
   ·unfold al0 s_solve_All_0; rw [a1, h0, hzb, csame_eq, csame_eq]; rfl
   ·unfold al2 s_solve_All_2; rw [a1, h0, hzb, csame_eq, csame_eq]; rfl
   ·show mrgB (!(ieq (s_solve_asked_0 n (fun j => (l j).v0) (fun j => (l j).v1) (fun j => (l j).v2) (fun j => (l j).v3) (fun j => (l j).v4) (fun j => (l j).v5) (fun j => (l j).v6) (fun j => (l j).v7) (fun j => (l j).v8) (fun j => (l j).v9) (fun j => (l j).v10) (fun j => (l j).v11) (fun j => (l j).v12) (fun j => (l j).v13) m (fun j => (s j).v0) (fun j => (s j).v1) (fun j => (s j).v2) (fun j => (s j).v3) (fun j => (s j).v4)) 0)) _ (mrgB (ilt (Int.ofNat R) 0 || ilt 64 (Int.ofNat R)) _ ((((Nat.ble (m * 40) 140737488355328) && ((Nat.ble (n * 112) 140737488355328) && (mrgB (ilt (Int.ofNat R) (0 : Int)) (o_solve_asked n (fun j => (l j).v0) (fun j => (l j).v1) (fun j => (l j).v2) (fun j => (l j).v3) (fun j => (l j).v4) (fun j => (l j).v5) (fun j => (l j).v6) (fun j => (l j).v7) (fun j => (l j).v8) (fun j => (l j).v9) (fun j => (l j).v10) (fun j => (l j).v11) (fun j => (l j).v12) (fun j => (l j).v13) m (fun j => (s j).v0) (fun j => (s j).v1) (fun j => (s j).v2) (fun j => (s j).v3) (fun j => (s j).v4)) (o_solve_asked n (fun j => (l j).v0) (fun j => (l j).v1) (fun j => (l j).v2) (fun j => (l j).v3) (fun j => (l j).v4) (fun j => (l j).v5) (fun j => (l j).v6) (fun j => (l j).v7) (fun j => (l j).v8) (fun j => (l j).v9) (fun j => (l j).v10) (fun j => (l j).v11) (fun j => (l j).v12) (fun j => (l j).v13) m (fun j => (s j).v0) (fun j => (s j).v1) (fun j => (s j).v2) (fun j => (s j).v3) (fun j => (s j).v4))))) && (E_solve_All_L0 n m (Int.ofNat n) (fun j => (l j).v0) (fun j => (l j).v1) (fun j => (l j).v2) (fun j => (l j).v3) (fun j => (l j).v4) (fun j => (l j).v5) (fun j => (l j).v6) (fun j => (l j).v7) (fun j => (l j).v8) (fun j => (l j).v9) (fun j => (l j).v10) (fun j => (l j).v11) (fun j => (l j).v12) (fun j => (l j).v13) (WP 0 s))) && (E_solve_All_L2 n m (Int.ofNat R) (X2P n l m (X0P n l m s))))) = true
    rw [g5, (runP0 (s := s) hn hi).1, a1, h0, hzb, a2, ble_true (show m * 40 ≤ 140737488355328 by omega), ble_true (show n * 112 ≤ 140737488355328 by omega), mrgB_self]; rfl
 ·have hb : (!(ieq (askN n m l s) 0)) = true := by rw [ieq0 h0]; rfl
  refine .inl ⟨askN n m l s, .inl ⟨rfl, h0⟩, fun x y => ⟨?_, ?_, ?_, Nat.zero_le _, Nat.zero_le _, fun j hj => by omega, fun j hj => by omega, ?_⟩⟩
  ·unfold al4 s_solve_All_4; rw [a1, hb]; rfl
  ·unfold al0 s_solve_All_0; rw [a1, hb, csame_eq]; rfl
  ·unfold al2 s_solve_All_2; rw [a1, hb, csame_eq]; rfl
  ·unfold alO o_solve_All; simp only [a1, hb, a2, mrgB_eq, cond_true]
theorem tellR {n m : Nat} {l : Nat → Rw} {s : Nat → Sl} {z : Int} (hn : n < 9223372036854775807) (hm : m < 9223372036854775807) (c : ∀ i, i < n → CF (l i).v9 ∧ CF (l i).v10) (cs : ∀ k, k < m → CF (s k).v0 ∧ CF (s k).v1) :
  (∃ e, (e = askN n m l s ∧ askN n m l s ≠ 0 ∨ e = 210 ∧ askN n m l s = 0 ∧ (z < 0 ∨ 64 < z)) ∧ ∀ x y, TellR n l m s z e 0 0 x y) ∨
  (askN n m l s = 0 ∧ 0 ≤ z ∧ z ≤ 64 ∧ TellR n l m s z 0 n m (outR n l s (Int.toNat z)).1 (outR n l s (Int.toNat z)).2) := by
 obtain ⟨a1, a2⟩ := askR (l := l) (s := s) hn hm cs
 by_cases h0 : askN n m l s = 0
 ·by_cases hz : z < 0 ∨ 64 < z
  ·have hzb : ((ilt z (0 : Int)) || (ilt (64 : Int) z)) = true := by unfold ilt; simp; omega
   refine .inl ⟨210, .inr ⟨rfl, h0, hz⟩, fun x y => ⟨?_, ?_, ?_, Nat.zero_le _, Nat.zero_le _, fun j hj => by omega, fun j hj => by omega, ?_⟩⟩
   ·unfold be4 s_ref21_All_4; rw [a1, h0, hzb]; rfl
   ·unfold be0 s_ref21_All_0; rw [a1, h0, hzb, csame_eq, csame_eq]; rfl
   ·unfold be2 s_ref21_All_2; rw [a1, h0, hzb, csame_eq, csame_eq]; rfl
   ·unfold beO o_ref21_All; simp only [a1, h0, hzb, a2, mrgB_eq, Bool.cond_self]; rfl
  ·have hzb : ((ilt z (0 : Int)) || (ilt (64 : Int) z)) = false := by unfold ilt; simp; omega
   obtain ⟨b1, b2, hi, hmay, hr⟩ := ask_ok h0 c
   have hz0 : 0 ≤ z := by omega
   have hz1 : z ≤ 64 := by omega
   obtain ⟨R, rfl⟩ : ∃ R : Nat, z = Int.ofNat R := ⟨Int.toNat z, by simp; omega⟩
   have hR : R < 9223372036854775807 := by simp at hz1; omega
   obtain ⟨g1, g2, g5⟩ := allR (s := s) hn hR hi
   refine .inr ⟨h0, hz0, hz1, ?_, ?_, ?_, Nat.le_refl n, Nat.le_refl m, fun j hj => by rw [g1, outR'_eq hi hmay hr]; rfl, fun j hj => by rw [g2, outR'_eq hi hmay hr]; rfl, ?_⟩
   ·unfold be4 s_ref21_All_4; rw [a1, h0, hzb]; rfl
   ·unfold be0 s_ref21_All_0; rw [a1, h0, hzb, csame_eq, csame_eq]; rfl
   ·unfold be2 s_ref21_All_2; rw [a1, h0, hzb, csame_eq, csame_eq]; rfl
   ·show mrgB (!(ieq (s_ref21_Asked_0 n (fun j => (l j).v0) (fun j => (l j).v1) (fun j => (l j).v2) (fun j => (l j).v3) (fun j => (l j).v4) (fun j => (l j).v5) (fun j => (l j).v6) (fun j => (l j).v7) (fun j => (l j).v8) (fun j => (l j).v9) (fun j => (l j).v10) (fun j => (l j).v11) (fun j => (l j).v12) (fun j => (l j).v13) m (fun j => (s j).v0) (fun j => (s j).v1) (fun j => (s j).v2) (fun j => (s j).v3) (fun j => (s j).v4)) 0)) _ (mrgB (ilt (Int.ofNat R) 0 || ilt 64 (Int.ofNat R)) _ ((((Nat.ble (m * 40) 140737488355328) && ((Nat.ble (n * 112) 140737488355328) && (mrgB (ilt (Int.ofNat R) (0 : Int)) (o_ref21_Asked n (fun j => (l j).v0) (fun j => (l j).v1) (fun j => (l j).v2) (fun j => (l j).v3) (fun j => (l j).v4) (fun j => (l j).v5) (fun j => (l j).v6) (fun j => (l j).v7) (fun j => (l j).v8) (fun j => (l j).v9) (fun j => (l j).v10) (fun j => (l j).v11) (fun j => (l j).v12) (fun j => (l j).v13) m (fun j => (s j).v0) (fun j => (s j).v1) (fun j => (s j).v2) (fun j => (s j).v3) (fun j => (s j).v4)) (o_ref21_Asked n (fun j => (l j).v0) (fun j => (l j).v1) (fun j => (l j).v2) (fun j => (l j).v3) (fun j => (l j).v4) (fun j => (l j).v5) (fun j => (l j).v6) (fun j => (l j).v7) (fun j => (l j).v8) (fun j => (l j).v9) (fun j => (l j).v10) (fun j => (l j).v11) (fun j => (l j).v12) (fun j => (l j).v13) m (fun j => (s j).v0) (fun j => (s j).v1) (fun j => (s j).v2) (fun j => (s j).v3) (fun j => (s j).v4))))) && (E_ref21_All_L0 n m (fun j => (l j).v0) (fun j => (l j).v1) (fun j => (l j).v2) (fun j => (l j).v3) (fun j => (l j).v4) (fun j => (l j).v5) (fun j => (l j).v6) (fun j => (l j).v7) (fun j => (l j).v8) (fun j => (l j).v9) (fun j => (l j).v10) (fun j => (l j).v11) (fun j => (l j).v12) (fun j => (l j).v13) (WR 0 s))) && (E_ref21_All_L2 (Int.ofNat R) n m (X2R l (X0R n l m s))))) = true
    rw [g5, (runR0 (s := s) hn hi).1, a1, h0, hzb, a2, ble_true (show m * 40 ≤ 140737488355328 by omega), ble_true (show n * 112 ≤ 140737488355328 by omega), mrgB_self]; rfl
 ·have hb : (!(ieq (askN n m l s) 0)) = true := by rw [ieq0 h0]; rfl
  refine .inl ⟨askN n m l s, .inl ⟨rfl, h0⟩, fun x y => ⟨?_, ?_, ?_, Nat.zero_le _, Nat.zero_le _, fun j hj => by omega, fun j hj => by omega, ?_⟩⟩
  ·unfold be4 s_ref21_All_4; rw [a1, hb]; rfl
  ·unfold be0 s_ref21_All_0; rw [a1, hb, csame_eq]; rfl
  ·unfold be2 s_ref21_All_2; rw [a1, hb, csame_eq]; rfl
  ·unfold beO o_ref21_All; simp only [a1, hb, a2, mrgB_eq, cond_true]
theorem leftP_tell {n m : Nat} {l : Nat → Rw} {s : Nat → Sl} (hn : n < 9223372036854775807) (hm : m < 9223372036854775807) (c : ∀ i, i < n → CF (l i).v9 ∧ CF (l i).v10) :
  s_solve_Left_1 n (fun j => (l j).v0) (fun j => (l j).v1) (fun j => (l j).v2) (fun j => (l j).v3) (fun j => (l j).v4) (fun j => (l j).v5) (fun j => (l j).v6) (fun j => (l j).v7) (fun j => (l j).v8) (fun j => (l j).v9) (fun j => (l j).v10) (fun j => (l j).v11) (fun j => (l j).v12) (fun j => (l j).v13) m (fun j => (s j).v0) (fun j => (s j).v1) (fun j => (s j).v2) (fun j => (s j).v3) (fun j => (s j).v4) = askN n m l s ∧ s_solve_Left_0 n (fun j => (l j).v0) (fun j => (l j).v1) (fun j => (l j).v2) (fun j => (l j).v3) (fun j => (l j).v4) (fun j => (l j).v5) (fun j => (l j).v6) (fun j => (l j).v7) (fun j => (l j).v8) (fun j => (l j).v9) (fun j => (l j).v10) (fun j => (l j).v11) (fun j => (l j).v12) (fun j => (l j).v13) m (fun j => (s j).v0) (fun j => (s j).v1) (fun j => (s j).v2) (fun j => (s j).v3) (fun j => (s j).v4) = (bif ieq (askN n m l s) 0 then lft l s n else 0) ∧ o_solve_Left n (fun j => (l j).v0) (fun j => (l j).v1) (fun j => (l j).v2) (fun j => (l j).v3) (fun j => (l j).v4) (fun j => (l j).v5) (fun j => (l j).v6) (fun j => (l j).v7) (fun j => (l j).v8) (fun j => (l j).v9) (fun j => (l j).v10) (fun j => (l j).v11) (fun j => (l j).v12) (fun j => (l j).v13) m (fun j => (s j).v0) (fun j => (s j).v1) (fun j => (s j).v2) (fun j => (s j).v3) (fun j => (s j).v4) = true := by
 obtain ⟨a1, a2⟩ := askP (l := l) (s := s) hn hm
 unfold s_solve_Left_1 s_solve_Left_0 o_solve_Left
 simp only [a1, a2]
 by_cases h0 : askN n m l s = 0
 ·obtain ⟨b1, b2, hi, hmay, hr⟩ := ask_ok h0 c
  have r := runLP (s := s) hn hi
  rw [h0, r.1, r.2]
  exact ⟨rfl, rfl, mrgB_self _ _⟩
 ·rw [ieq0 h0]
  exact ⟨rfl, rfl, by rw [mrgB_eq]; rfl⟩
theorem leftR_tell {n m : Nat} {l : Nat → Rw} {s : Nat → Sl} (hn : n < 9223372036854775807) (hm : m < 9223372036854775807) (c : ∀ i, i < n → CF (l i).v9 ∧ CF (l i).v10) (cs : ∀ k, k < m → CF (s k).v0 ∧ CF (s k).v1) :
  s_ref21_Left_1 n (fun j => (l j).v0) (fun j => (l j).v1) (fun j => (l j).v2) (fun j => (l j).v3) (fun j => (l j).v4) (fun j => (l j).v5) (fun j => (l j).v6) (fun j => (l j).v7) (fun j => (l j).v8) (fun j => (l j).v9) (fun j => (l j).v10) (fun j => (l j).v11) (fun j => (l j).v12) (fun j => (l j).v13) m (fun j => (s j).v0) (fun j => (s j).v1) (fun j => (s j).v2) (fun j => (s j).v3) (fun j => (s j).v4) = askN n m l s ∧ s_ref21_Left_0 n (fun j => (l j).v0) (fun j => (l j).v1) (fun j => (l j).v2) (fun j => (l j).v3) (fun j => (l j).v4) (fun j => (l j).v5) (fun j => (l j).v6) (fun j => (l j).v7) (fun j => (l j).v8) (fun j => (l j).v9) (fun j => (l j).v10) (fun j => (l j).v11) (fun j => (l j).v12) (fun j => (l j).v13) m (fun j => (s j).v0) (fun j => (s j).v1) (fun j => (s j).v2) (fun j => (s j).v3) (fun j => (s j).v4) = (bif ieq (askN n m l s) 0 then lft l s n else 0) ∧ o_ref21_Left n (fun j => (l j).v0) (fun j => (l j).v1) (fun j => (l j).v2) (fun j => (l j).v3) (fun j => (l j).v4) (fun j => (l j).v5) (fun j => (l j).v6) (fun j => (l j).v7) (fun j => (l j).v8) (fun j => (l j).v9) (fun j => (l j).v10) (fun j => (l j).v11) (fun j => (l j).v12) (fun j => (l j).v13) m (fun j => (s j).v0) (fun j => (s j).v1) (fun j => (s j).v2) (fun j => (s j).v3) (fun j => (s j).v4) = true := by
 obtain ⟨a1, a2⟩ := askR (l := l) (s := s) hn hm cs
 unfold s_ref21_Left_1 s_ref21_Left_0 o_ref21_Left
 simp only [a1, a2]
 by_cases h0 : askN n m l s = 0
 ·obtain ⟨b1, b2, hi, hmay, hr⟩ := ask_ok h0 c
  have r := runLR (s := s) hn hi
  rw [h0, r.1, r.2]
  exact ⟨rfl, rfl, mrgB_self _ _⟩
 ·rw [ieq0 h0]
  exact ⟨rfl, rfl, by rw [mrgB_eq]; rfl⟩
end Go.Proofs.Ytofpjfohijljgaa
