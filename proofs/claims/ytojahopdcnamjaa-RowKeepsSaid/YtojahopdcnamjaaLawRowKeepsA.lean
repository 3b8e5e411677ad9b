/- A touch and its rows: which touches may be, what their rows leave: the program and the document, word by word. -/
import Derived.Test.YtojahopdcnamjaaLawLBaseK
set_option linter.unusedVariables false
set_option linter.unusedSimpArgs false
set_option linter.unusedSectionVars false
set_option maxHeartbeats 2000000
namespace Go.Proofs.Ytojahopdcnamjaa
open Go.Sim Go.Lst
theorem c_far : CF 4796333603149578240 := ⟨by decide, fun h => absurd h (by decide)⟩
theorem c_mx : CF 4787326403894837248 := ⟨by decide, fun h => absurd h (by decide)⟩
theorem c_two : CF 4611686018427387904 := ⟨by decide, fun h => absurd h (by decide)⟩
theorem abs_within {a M : Nat} (ha : CF a) (cM : CF M) (nM : nanb M = false) : fle (fabs a) M = (fle (fneg M) a && fle a M) := by
  cases na : nanb a
  · have nf : nanb (fneg M) = false := by rw [nanb_fneg cM.lt]; exact nM
    have nb : nanb (fabs a) = false := by rw [nanb_fabs]; exact na
    rw [fle_key nb nM, fle_key nf na, fle_key na nM, key_fneg cM.lt nM, key_fabs na]
    have hk := key_abs a
    rw [Bool.eq_iff_iff]
    simp
    omega
  · have nb : nanb (fabs a) = true := by rw [nanb_fabs]; exact na
    rw [fle_nan (.inl nb), fle_nan (b := a) (.inr na)]; rfl
theorem within_same {a b M : Nat} (ha : CF a) (hb : CF b) (cM : CF M) (nM : nanb M = false) : s_vec_Within_0 a b M = s_ref02_Within_0 a b M := by
  unfold s_vec_Within_0 s_ref02_Within_0 s_num_Within_float64__0
  rw [abs_within ha cM nM, abs_within hb cM nM]
theorem depth_same {d : Nat} (cd : CF d) : (!(s_num_Within_float64__0 d 4796333603149578240) || flt d 0) = !((fle 0 d) && (fle d 4796333603149578240)) := by
  unfold s_num_Within_float64__0
  have n0 : nanb 0 = false := by decide
  have nM : nanb 4796333603149578240 = false := by decide
  have kM : key 4796333603149578240 = 4796333603149578240 := by decide
  cases nd : nanb d
  · have nf : nanb (fneg 4796333603149578240) = false := by rw [nanb_fneg c_far.lt]; exact nM
    rw [fle_key nf nd, fle_key nd nM, flt_key nd n0, fle_key n0 nd, key_fneg c_far.lt nM, key_0, kM, Bool.eq_iff_iff]
    simp
    omega
  · rw [fle_nan (a := d) (.inl nd), fle_nan (b := d) (.inr nd), flt_nan (.inl nd)]; simp
theorem first_not {p : Nat → Bool} : ∀ (n : Nat), ∃ j, j ≤ n ∧ (∀ i, i < j → p i = true) ∧ (j = n ∨ p j = false)
  | 0 => ⟨0, by omega, fun i hi => by omega, .inl rfl⟩
  | n + 1 => by
    obtain ⟨j, h1, h2, h3⟩ := first_not (p := p) n
    rcases h3 with rfl | h3
    · cases hp : p j with
      | false => exact ⟨j, by omega, h2, .inr hp⟩
      | true => exact ⟨j + 1, by omega, fun i hi => by
          by_cases hij : i = j
          · subst hij; exact hp
          · exact h2 i (by omega), .inl rfl⟩
    · exact ⟨j, by omega, h2, .inr h3⟩
theorem contains_eq {i : Nat} {e0 : Nat → Nat} {e1 : Nat → Nat} {e2 : Nat → Nat} {e3 : Nat → Int} {e4 : Nat → Nat} {e5 : Nat → Nat} {p0 p1 p2 p4 p5 : Nat} {p3 : Int} (hi : i ≤ 70) : s_slices_ContainsFunc___api_Point_api_Point__v1_0 i e0 e1 e2 e3 e4 e5 p0 p1 p2 p3 p4 p5 = decide (∃ j, j < i ∧ e3 j = p3) ∧ o_slices_ContainsFunc___api_Point_api_Point__v1 i e0 e1 e2 e3 e4 e5 p0 p1 p2 p3 p4 p5 = true := by
  obtain ⟨j, hj, hall, hend⟩ := first_not (p := fun j => !(ieq (e3 j) p3)) i
  have hr := run_to (ok := ok_slices_IndexFunc___api_Point_api_Point__v1_L0 i e0 e1 e2 e3 e4 e5 p0 p1 p2 p3 p4 p5 (Int.ofNat i)) (go := go_slices_IndexFunc___api_Point_api_Point__v1_L0 i e0 e1 e2 e3 e4 e5 p0 p1 p2 p3 p4 p5 (Int.ofNat i)) (step := step_slices_IndexFunc___api_Point_api_Point__v1_L0 i e0 e1 e2 e3 e4 e5 p0 p1 p2 p3 p4 p5 (Int.ofNat i))
    (fun k => V_slices_IndexFunc___api_Point_api_Point__v1_L0.mk (Int.ofNat k)) j (fun k hk => by
      unfold ok_slices_IndexFunc___api_Point_api_Point__v1_L0
      simp only [toNat_of, mrgB_eq]
      rw [ilt_ofNat, ile_ofNat]
      by_cases h : k < i
      · rw [blt_true h]; simp [h]
      · simp [h]) (fun k hk => by
      unfold go_slices_IndexFunc___api_Point_api_Point__v1_L0 s_touch_Check_1_0
      simp only [toNat_of]
      have h := hall k hk
      simp only [Bool.not_eq_true'] at h
      rw [ilt_ofNat, h]
      have : k < i := by omega
      simp [this]) (fun k hk => by
      unfold step_slices_IndexFunc___api_Point_api_Point__v1_L0
      simp only
      rw [succ_i64 (by omega)]) (by
      unfold go_slices_IndexFunc___api_Point_api_Point__v1_L0 s_touch_Check_1_0
      simp only [toNat_of]
      rw [ilt_ofNat]
      rcases hend with rfl | h
      · simp
      · simp only [Bool.not_eq_false'] at h; rw [h]; simp)
  have e : (L_slices_IndexFunc___api_Point_api_Point__v1_L0 i e0 e1 e2 e3 e4 e5 p0 p1 p2 p3 p4 p5 (Int.ofNat i) (V_slices_IndexFunc___api_Point_api_Point__v1_L0.mk (0 : Int))).v0 = Int.ofNat j := congrArg V_slices_IndexFunc___api_Point_api_Point__v1_L0.v0 hr.2
  have ee : E_slices_IndexFunc___api_Point_api_Point__v1_L0 i e0 e1 e2 e3 e4 e5 p0 p1 p2 p3 p4 p5 (Int.ofNat i) (V_slices_IndexFunc___api_Point_api_Point__v1_L0.mk (0 : Int)) = true := hr.1
  unfold s_slices_ContainsFunc___api_Point_api_Point__v1_0 o_slices_ContainsFunc___api_Point_api_Point__v1 s_slices_IndexFunc___api_Point_api_Point__v1_0 o_slices_IndexFunc___api_Point_api_Point__v1 s_touch_Check_1_0
  simp only [e, ee, toNat_of, mrgB_eq, Bool.cond_self, and_true]
  rw [ilt_ofNat]
  have hno : ∀ k, k < j → e3 k ≠ p3 := fun k hk h => by
    have := hall k hk
    simp [ieq, h] at this
  by_cases h : j < i
  · rcases hend with h' | h'
    · omega
    · simp only [Bool.not_eq_false'] at h'
      rw [h', show decide (∃ j, j < i ∧ e3 j = p3) = true from decide_eq_true ⟨j, h, by simpa [ieq] using h'⟩]
      simp [h, ile]
  · have : j = i := by omega
    subst this
    rw [show decide (∃ k, k < j ∧ e3 k = p3) = false from decide_eq_false fun ⟨k, hk, hk'⟩ => hno k hk hk']
    simp [ile]
theorem refdup {i n : Nat} {g3 : Nat → Int} {p3 : Int} (hi : i ≤ n) (hn : n ≤ 70) :
    (bif (!(ilt ((L_ref11_Check_L0 (Int.ofNat i) n g3 p3 (V_ref11_Check_L0.mk (0 : Int))).v0) (Int.ofNat i))) then false else (ieq (g3 (Int.toNat ((L_ref11_Check_L0 (Int.ofNat i) n g3 p3 (V_ref11_Check_L0.mk (0 : Int))).v0))) p3)) = decide (∃ j, j < i ∧ g3 j = p3) ∧
    E_ref11_Check_L0 (Int.ofNat i) n g3 p3 (V_ref11_Check_L0.mk (0 : Int)) = true := by
  obtain ⟨j, hj, hall, hend⟩ := first_not (p := fun j => !(ieq (g3 j) p3)) i
  have hr := run_to (ok := ok_ref11_Check_L0 (Int.ofNat i) n g3 p3) (go := go_ref11_Check_L0 (Int.ofNat i) n g3 p3) (step := step_ref11_Check_L0 (Int.ofNat i) n g3 p3)
    (fun k => V_ref11_Check_L0.mk (Int.ofNat k)) j (fun k hk => by
      unfold ok_ref11_Check_L0
      simp only [toNat_of, mrgB_eq]
      rw [ilt_ofNat, ile_ofNat]
      by_cases h : k < i
      · rw [blt_true (show k < n by omega)]; simp [h]
      · simp [h]) (fun k hk => by
      unfold go_ref11_Check_L0
      simp only [toNat_of]
      have h := hall k hk
      simp only [Bool.not_eq_true'] at h
      rw [ilt_ofNat, h]
      have : k < i := by omega
      simp [this]) (fun k hk => by
      unfold step_ref11_Check_L0
      simp only
      rw [succ_i64 (by omega)]) (by
      unfold go_ref11_Check_L0
      simp only [toNat_of]
      rw [ilt_ofNat]
      rcases hend with rfl | h
      · simp
      · simp only [Bool.not_eq_false'] at h; rw [h]; simp)
  have e : (L_ref11_Check_L0 (Int.ofNat i) n g3 p3 (V_ref11_Check_L0.mk (0 : Int))).v0 = Int.ofNat j := congrArg V_ref11_Check_L0.v0 hr.2
  refine ⟨?_, hr.1⟩
  rw [e, ilt_ofNat, toNat_of]
  have hno : ∀ k, k < j → g3 k ≠ p3 := fun k hk h => by
    have := hall k hk
    simp [ieq, h] at this
  by_cases h : j < i
  · rcases hend with h' | h'
    · omega
    · simp only [Bool.not_eq_false'] at h'
      rw [h', show decide (∃ j, j < i ∧ g3 j = p3) = true from decide_eq_true ⟨j, h, by simpa [ieq] using h'⟩]
      simp [h]
  · have : j = i := by omega
    subst this
    rw [show decide (∃ k, k < j ∧ g3 k = p3) = false from decide_eq_false fun ⟨k, hk, hk'⟩ => hno k hk hk']
    simp
noncomputable def badE (e0 : Nat → Nat) (e1 : Nat → Nat) (e2 : Nat → Nat) (e3 : Nat → Int) (e4 : Nat → Nat) (e5 : Nat → Nat) (i : Nat) : Bool := ((((((!(s_vec_Within_0 (e0 i) (e1 i) 4796333603149578240)) || (!(s_num_Within_float64__0 (e2 i) 4796333603149578240))) || (flt (e2 i) 0)) || (!(s_num_Within_float64__0 (e4 i) 4787326403894837248))) || (!(s_num_Within_float64__0 (e5 i) 4787326403894837248))) || (s_slices_ContainsFunc___api_Point_api_Point__v1_0 i e0 e1 e2 e3 e4 e5 (e0 i) (e1 i) (e2 i) (e3 i) (e4 i) (e5 i)))
noncomputable def badX (n : Nat) (g0 : Nat → Nat) (g1 : Nat → Nat) (g2 : Nat → Nat) (g3 : Nat → Int) (g4 : Nat → Nat) (g5 : Nat → Nat) (i : Nat) : Bool := ((((!(s_ref02_Within_0 (g0 i) (g1 i) 4796333603149578240)) || (!(s_ref02_Within_0 (s_ref02_Vec_0 (g4 i) (g5 i)) (s_ref02_Vec_1 (g4 i) (g5 i)) 4787326403894837248))) || (!((fle 0 (g2 i)) && (fle (g2 i) 4796333603149578240)))) || (bif (!(ilt ((L_ref11_Check_L0 (Int.ofNat i) n g3 (g3 i) (V_ref11_Check_L0.mk (0 : Int))).v0) (Int.ofNat i))) then false else (ieq (g3 (Int.toNat ((L_ref11_Check_L0 (Int.ofNat i) n g3 (g3 i) (V_ref11_Check_L0.mk (0 : Int))).v0))) (g3 i))))
theorem bad_same {n : Nat} {e0 : Nat → Nat} {e1 : Nat → Nat} {e2 : Nat → Nat} {e3 : Nat → Int} {e4 : Nat → Nat} {e5 : Nat → Nat} {g0 : Nat → Nat} {g1 : Nat → Nat} {g2 : Nat → Nat} {g3 : Nat → Int} {g4 : Nat → Nat} {g5 : Nat → Nat} (hn : n ≤ 70) (q0 : ∀ i, i < n → e0 i = g0 i) (q1 : ∀ i, i < n → e1 i = g1 i) (q2 : ∀ i, i < n → e2 i = g2 i) (q3 : ∀ i, i < n → e3 i = g3 i) (q4 : ∀ i, i < n → e4 i = g4 i) (q5 : ∀ i, i < n → e5 i = g5 i) (c0 : ∀ i, i < n → CF (g0 i)) (c1 : ∀ i, i < n → CF (g1 i)) (c2 : ∀ i, i < n → CF (g2 i)) (c4 : ∀ i, i < n → CF (g4 i)) (c5 : ∀ i, i < n → CF (g5 i)) {i : Nat} (hi : i < n) : badE e0 e1 e2 e3 e4 e5 i = badX n g0 g1 g2 g3 g4 g5 i := by
  unfold badE badX
  rw [(contains_eq (by omega)).1, (refdup (Nat.le_of_lt hi) hn).1, q0 i hi, q1 i hi, q2 i hi, q4 i hi, q5 i hi, within_same (c0 i hi) (c1 i hi) c_far (by decide), ← depth_same (c2 i hi), ← within_same (a := s_ref02_Vec_0 (g4 i) (g5 i)) (b := s_ref02_Vec_1 (g4 i) (g5 i)) (c4 i hi) (c5 i hi) c_mx (by decide)]
  have hd : decide (∃ j, j < i ∧ e3 j = e3 i) = decide (∃ j, j < i ∧ g3 j = g3 i) := by
    apply decide_eq_decide.2
    constructor
    · rintro ⟨j, h1, h2⟩; exact ⟨j, h1, by rw [← q3 j (by omega), ← q3 i hi]; exact h2⟩
    · rintro ⟨j, h1, h2⟩; exact ⟨j, h1, by rw [q3 j (by omega), q3 i hi]; exact h2⟩
  rw [hd]
  unfold s_vec_Within_0 s_ref02_Vec_0 s_ref02_Vec_1
  generalize s_ref02_Within_0 (g0 i) (g1 i) 4796333603149578240 = u0
  generalize s_num_Within_float64__0 (g2 i) 4796333603149578240 = u2
  generalize s_num_Within_float64__0 (g4 i) 4787326403894837248 = u4
  generalize s_num_Within_float64__0 (g5 i) 4787326403894837248 = u5
  generalize flt (g2 i) 0 = u6
  generalize decide (∃ j, j < i ∧ g3 j = g3 i) = u7
  clear hd
  revert u0 u2 u4 u5 u6 u7
  decide
theorem tc_loop {n m : Nat} {e0 : Nat → Nat} {e1 : Nat → Nat} {e2 : Nat → Nat} {e3 : Nat → Int} {e4 : Nat → Nat} {e5 : Nat → Nat} (hn : n ≤ 70) (hm : m ≤ n) (hall : ∀ i, i < m → badE e0 e1 e2 e3 e4 e5 i = false) (hend : m = n ∨ badE e0 e1 e2 e3 e4 e5 m = true) :
    E_touch_Check_L0 n e0 e1 e2 e3 e4 e5 (Int.ofNat n) (V_touch_Check_L0.mk (0 : Int)) = true ∧ (L_touch_Check_L0 n e0 e1 e2 e3 e4 e5 (Int.ofNat n) (V_touch_Check_L0.mk (0 : Int))).v0 = Int.ofNat m := by
  have hg : ∀ k, go_touch_Check_L0 n e0 e1 e2 e3 e4 e5 (Int.ofNat n) (V_touch_Check_L0.mk (Int.ofNat k)) = (bif (bif (!(ilt (Int.ofNat k) (Int.ofNat n))) then false else badE e0 e1 e2 e3 e4 e5 k) then false else (bif (!(ilt (Int.ofNat k) (Int.ofNat n))) then false else true)) := fun k => rfl
  have hr := run_to (ok := ok_touch_Check_L0 n e0 e1 e2 e3 e4 e5 (Int.ofNat n)) (go := go_touch_Check_L0 n e0 e1 e2 e3 e4 e5 (Int.ofNat n)) (step := step_touch_Check_L0 n e0 e1 e2 e3 e4 e5 (Int.ofNat n))
    (fun k => V_touch_Check_L0.mk (Int.ofNat k)) m (fun k hk => by
      unfold ok_touch_Check_L0
      simp only [toNat_of, mrgB_eq]
      rw [ilt_ofNat, ile_ofNat]
      by_cases h : k < n
      · rw [(contains_eq (by omega)).2, blt_true h, ble_true (Nat.le_of_lt h), allB_true]; simp [h]
      · simp [h]) (fun k hk => by
      rw [hg, ilt_ofNat, hall k hk]
      have : k < n := by omega
      simp [this]) (fun k hk => by
      unfold step_touch_Check_L0
      simp only
      rw [succ_i64 (by omega)]) (by
      rw [hg, ilt_ofNat]
      rcases hend with rfl | h
      · simp
      · rw [h]; simp)
  exact ⟨hr.1, congrArg V_touch_Check_L0.v0 hr.2⟩
theorem rc_loop {n m : Nat} {g0 : Nat → Nat} {g1 : Nat → Nat} {g2 : Nat → Nat} {g3 : Nat → Int} {g4 : Nat → Nat} {g5 : Nat → Nat} (hn : n ≤ 70) (hm : m ≤ n) (hall : ∀ i, i < m → badX n g0 g1 g2 g3 g4 g5 i = false) (hend : m = n ∨ badX n g0 g1 g2 g3 g4 g5 m = true) :
    E_ref11_Check_L1 n g0 g1 g2 g3 g4 g5 (V_ref11_Check_L1.mk (0 : Int)) = true ∧ (L_ref11_Check_L1 n g0 g1 g2 g3 g4 g5 (V_ref11_Check_L1.mk (0 : Int))).v0 = Int.ofNat m := by
  have hg : ∀ k, go_ref11_Check_L1 n g0 g1 g2 g3 g4 g5 (V_ref11_Check_L1.mk (Int.ofNat k)) = (bif (bif (!(ilt (Int.ofNat k) (Int.ofNat n))) then false else badX n g0 g1 g2 g3 g4 g5 k) then false else (bif (!(ilt (Int.ofNat k) (Int.ofNat n))) then false else true)) := fun k => rfl
  have hr := run_to (ok := ok_ref11_Check_L1 n g0 g1 g2 g3 g4 g5) (go := go_ref11_Check_L1 n g0 g1 g2 g3 g4 g5) (step := step_ref11_Check_L1 n g0 g1 g2 g3 g4 g5)
    (fun k => V_ref11_Check_L1.mk (Int.ofNat k)) m (fun k hk => by
      unfold ok_ref11_Check_L1
      simp only [toNat_of, mrgB_eq]
      rw [ilt_ofNat, ile_ofNat]
      by_cases h : k < n
      · rw [(refdup (Nat.le_of_lt h) hn).2, blt_true h, allB_true]; simp [h]
      · simp [h]) (fun k hk => by
      rw [hg, ilt_ofNat, hall k hk]
      have : k < n := by omega
      simp [this]) (fun k hk => by
      unfold step_ref11_Check_L1
      simp only
      rw [succ_i64 (by omega)]) (by
      rw [hg, ilt_ofNat]
      rcases hend with rfl | h
      · simp
      · rw [h]; simp)
  exact ⟨hr.1, congrArg V_ref11_Check_L1.v0 hr.2⟩
theorem pair_same (a b c d : Int) : s_touch_paired_0 a b c d = s_ref11_Pair_0 a b c d := by
  unfold s_touch_paired_0 s_ref11_Pair_0 s_touch_paired_1_0
  simp only [Bool.and_assoc]
theorem unit_same (a b : Nat) : s_touch_unit_0 a b = s_ref11_unit_0 a b := by
  unfold s_touch_unit_0 s_ref11_unit_0 s_vec_Square_0 s_ref02_Square_0 s_vec_Dot_0 s_ref02_Dot_0; rfl
theorem check_same {a0 a1 a2 a3 : Int} {a4 : Bool} {a5 a6 n : Nat} {e0 : Nat → Nat} {e1 : Nat → Nat} {e2 : Nat → Nat} {e3 : Nat → Int} {e4 : Nat → Nat} {e5 : Nat → Nat} {g0 : Nat → Nat} {g1 : Nat → Nat} {g2 : Nat → Nat} {g3 : Nat → Int} {g4 : Nat → Nat} {g5 : Nat → Nat} (hn : n ≤ 70) (c5' : CF a5) (c6' : CF a6) (q0 : ∀ i, i < n → e0 i = g0 i) (q1 : ∀ i, i < n → e1 i = g1 i) (q2 : ∀ i, i < n → e2 i = g2 i) (q3 : ∀ i, i < n → e3 i = g3 i) (q4 : ∀ i, i < n → e4 i = g4 i) (q5 : ∀ i, i < n → e5 i = g5 i) (c0 : ∀ i, i < n → CF (g0 i)) (c1 : ∀ i, i < n → CF (g1 i)) (c2 : ∀ i, i < n → CF (g2 i)) (c4 : ∀ i, i < n → CF (g4 i)) (c5 : ∀ i, i < n → CF (g5 i)) :
    s_touch_Check_0 a0 a1 a2 a3 a4 a5 a6 n e0 e1 e2 e3 e4 e5 = s_ref11_Check_0 a0 a1 a2 a3 a4 a5 a6 n g0 g1 g2 g3 g4 g5 ∧ o_touch_Check a0 a1 a2 a3 a4 a5 a6 n e0 e1 e2 e3 e4 e5 = true ∧ o_ref11_Check a0 a1 a2 a3 a4 a5 a6 n g0 g1 g2 g3 g4 g5 = true := by
  obtain ⟨m, hm, hall, hend⟩ := first_not (p := fun i => !(badX n g0 g1 g2 g3 g4 g5 i)) n
  have hs : ∀ i, i < n → badE e0 e1 e2 e3 e4 e5 i = badX n g0 g1 g2 g3 g4 g5 i := fun i hi => bad_same hn q0 q1 q2 q3 q4 q5 c0 c1 c2 c4 c5 hi
  have hall' : ∀ i, i < m → badX n g0 g1 g2 g3 g4 g5 i = false := fun i hi => by have := hall i hi; simpa using this
  have hend' : m = n ∨ badX n g0 g1 g2 g3 g4 g5 m = true := hend.imp id fun h => by simpa using h
  obtain ⟨p1, p2⟩ := tc_loop (e0 := e0) (e1 := e1) (e2 := e2) (e3 := e3) (e4 := e4) (e5 := e5) hn hm (fun i hi => by rw [hs i (by omega)]; exact hall' i hi) (by
    rcases Nat.eq_or_lt_of_le hm with h | h
    · exact .inl h
    · rcases hend' with h' | h'
      · omega
      · exact .inr (by rw [hs m h]; exact h'))
  obtain ⟨r1, r2⟩ := rc_loop (g0 := g0) (g1 := g1) (g2 := g2) (g3 := g3) (g4 := g4) (g5 := g5) hn hm hall' hend'
  have hbad : (bif (!(ilt (Int.ofNat m) (Int.ofNat n))) then false else badE e0 e1 e2 e3 e4 e5 m) = (bif (!(ilt (Int.ofNat m) (Int.ofNat n))) then false else badX n g0 g1 g2 g3 g4 g5 m) := by
    rw [ilt_ofNat]
    by_cases h : m < n
    · rw [hs m h]
    · simp [h]
  have h1 : ilt (Int.ofNat n) 1 = ieq (Int.ofNat n) 0 := by
    unfold ilt ieq; apply decide_eq_decide.2; simp only [Int.ofNat_eq_natCast]; omega
  refine ⟨?_, ?_, ?_⟩
  · have eP : s_touch_Check_0 a0 a1 a2 a3 a4 a5 a6 n e0 e1 e2 e3 e4 e5 = (bif (((((!(s_touch_paired_0 a0 a1 a2 a3)) || (!(s_touch_unit_0 a5 a6))) || (!(s_vec_Within_0 a5 a6 4611686018427387904))) || (ieq (Int.ofNat n) (0 : Int))) || (ilt (8 : Int) (Int.ofNat n))) then (2 : Int) else (bif (bif (!(ilt (Int.ofNat m) (Int.ofNat n))) then false else badE e0 e1 e2 e3 e4 e5 m) then (2 : Int) else (0 : Int))) := by
      unfold s_touch_Check_0
      simp only [p2, toNat_of]; rfl
    have eR : s_ref11_Check_0 a0 a1 a2 a3 a4 a5 a6 n g0 g1 g2 g3 g4 g5 = (bif (((((!(s_ref11_Pair_0 a0 a1 a2 a3)) || (!(s_ref11_unit_0 a5 a6))) || (!(s_ref02_Within_0 a5 a6 4611686018427387904))) || (ilt (Int.ofNat n) (1 : Int))) || (ilt (8 : Int) (Int.ofNat n))) then (2 : Int) else (bif (bif (!(ilt (Int.ofNat m) (Int.ofNat n))) then false else badX n g0 g1 g2 g3 g4 g5 m) then (2 : Int) else (0 : Int))) := by
      unfold s_ref11_Check_0
      simp only [r2, toNat_of, Bool.cond_self]; rfl
    rw [eP, eR, hbad, pair_same, unit_same, within_same c5' c6' c_two (by decide), h1]
  · unfold o_touch_Check
    simp only [p1, mrgB_eq, Bool.cond_self]
  · unfold o_ref11_Check
    simp only [r1, mrgB_eq, Bool.cond_self]
theorem real_same (a : Nat) : s_ref20_real_0 a = s_rows_real_0 a := by
  unfold s_ref20_real_0 s_rows_real_0 s_num_Within_float64__0
  rw [show fneg 4787326403894837248 = 14010698440749613056 by decide]
theorem two_i64 {k : Nat} (h : k ≤ 70) : IntKind.wrap .i64 ((2 : Int) * Int.ofNat k) = Int.ofNat (2 * k) := by
  have := wrap_i64 (n := (2 : Int) * Int.ofNat k) (by simp only [Int.ofNat_eq_natCast]; omega) (by simp only [Int.ofNat_eq_natCast]; omega)
  rw [this]; simp
theorem half_i64 {q : Nat} (h : q ≤ 70) : IntKind.wrap .i64 (Int.tdiv (Int.ofNat (2 * q)) (2 : Int)) = Int.ofNat q := by
  have e : Int.tdiv (Int.ofNat (2 * q)) (2 : Int) = Int.ofNat q := by
    show Int.ofNat (2 * q / 2) = _
    rw [Nat.mul_div_cancel_left _ (by omega)]
  rw [e, wrap_i64 (by simp only [Int.ofNat_eq_natCast]; omega) (by simp only [Int.ofNat_eq_natCast]; omega)]
def kept (c : Nat → Nat) (f : Nat → Nat) (q : Nat) (h : Nat → Nat) : Nat → Nat := fun j => bif Nat.blt j q then c (f j) else h j
theorem rows_Keep_loop {m n q : Nat} {r h1 h2 : Nat → Nat} (hn : n ≤ 70) (hq : q ≤ n) (hm : m = 2 * q) :
    E_rows_Keep_L0 m r (Int.ofNat q) n (V_rows_Keep_L0.mk (0 : Int) h1 h2) = true ∧ (L_rows_Keep_L0 m r (Int.ofNat q) n (V_rows_Keep_L0.mk (0 : Int) h1 h2)).v1 = kept (fun i => s_rows_real_0 (r i)) (fun j => 2 * j + 1) q h1 ∧ (L_rows_Keep_L0 m r (Int.ofNat q) n (V_rows_Keep_L0.mk (0 : Int) h1 h2)).v2 = kept (fun i => s_rows_real_0 (r i)) (fun j => 2 * j) q h2 := by
  have hr := run_to (ok := ok_rows_Keep_L0 m r (Int.ofNat q) n) (go := go_rows_Keep_L0 m r (Int.ofNat q) n) (step := step_rows_Keep_L0 m r (Int.ofNat q) n)
    (fun k => V_rows_Keep_L0.mk (Int.ofNat k) (kept (fun i => s_rows_real_0 (r i)) (fun j => 2 * j + 1) k h1) (kept (fun i => s_rows_real_0 (r i)) (fun j => 2 * j) k h2)) q (fun k hk => by
      unfold ok_rows_Keep_L0
      simp only [toNat_of, mrgB_eq]
      rw [two_i64 (show k ≤ 70 by omega), succ_i64 (show 2 * k < 9223372036854775807 by omega)]
      simp only [toNat_of, ile_ofNat]
      rw [ilt_ofNat]
      by_cases h : k < q
      · rw [blt_true (show k < n by omega), blt_true (show 2 * k + 1 < m by omega), blt_true (show 2 * k < m by omega)]; simp
      · simp [h]) (fun k hk => by
      unfold go_rows_Keep_L0
      simp only
      rw [ilt_ofNat]
      simp [hk]) (fun k hk => by
      unfold step_rows_Keep_L0
      simp only [toNat_of]
      rw [two_i64 (show k ≤ 70 by omega), succ_i64 (show 2 * k < 9223372036854775807 by omega), succ_i64 (show k < 9223372036854775807 by omega)]
      simp only [toNat_of]
      congr 1
      · funext j
        unfold kept
        by_cases e : j = k
        · subst e; rw [beqn_self, blt_true (Nat.lt_succ_self j)]; rfl
        · rw [beqn_false e, cond_false]
          by_cases e2 : j < k
          · rw [blt_true e2, blt_true (show j < k + 1 by omega)]
          · rw [blt_false (show k ≤ j by omega), blt_false (show k + 1 ≤ j by omega)]
      · funext j
        unfold kept
        by_cases e : j = k
        · subst e; rw [beqn_self, blt_true (Nat.lt_succ_self j)]; rfl
        · rw [beqn_false e, cond_false]
          by_cases e2 : j < k
          · rw [blt_true e2, blt_true (show j < k + 1 by omega)]
          · rw [blt_false (show k ≤ j by omega), blt_false (show k + 1 ≤ j by omega)]) (by
      unfold go_rows_Keep_L0
      simp only
      rw [ilt_ofNat]
      simp)
  have z : ∀ (c f h : Nat → Nat), kept c f 0 h = h := fun c f h => by funext j; unfold kept; rw [blt_false (Nat.zero_le j), cond_false]
  simp only [z] at hr
  exact ⟨hr.1, congrArg V_rows_Keep_L0.v1 hr.2, congrArg V_rows_Keep_L0.v2 hr.2⟩
theorem ref20_Keep_loop {m n q : Nat} {r h1 h2 : Nat → Nat} (hn : n ≤ 70) (hq : q ≤ n) (hm : m = 2 * q) :
    E_ref20_Keep_L0 m r (Int.ofNat (2 * q)) n n (V_ref20_Keep_L0.mk (0 : Int) h1 h2) = true ∧ (L_ref20_Keep_L0 m r (Int.ofNat (2 * q)) n n (V_ref20_Keep_L0.mk (0 : Int) h1 h2)).v1 = kept (fun i => s_rows_real_0 (r i)) (fun j => 2 * j + 1) q h1 ∧ (L_ref20_Keep_L0 m r (Int.ofNat (2 * q)) n n (V_ref20_Keep_L0.mk (0 : Int) h1 h2)).v2 = kept (fun i => s_rows_real_0 (r i)) (fun j => 2 * j) q h2 := by
  have hr := run_to (ok := ok_ref20_Keep_L0 m r (Int.ofNat (2 * q)) n n) (go := go_ref20_Keep_L0 m r (Int.ofNat (2 * q)) n n) (step := step_ref20_Keep_L0 m r (Int.ofNat (2 * q)) n n)
    (fun k => V_ref20_Keep_L0.mk (Int.ofNat k) (kept (fun i => s_rows_real_0 (r i)) (fun j => 2 * j + 1) k h1) (kept (fun i => s_rows_real_0 (r i)) (fun j => 2 * j) k h2)) q (fun k hk => by
      unfold ok_ref20_Keep_L0
      simp only [toNat_of, mrgB_eq]
      rw [two_i64 (show k ≤ 70 by omega), succ_i64 (show 2 * k < 9223372036854775807 by omega), half_i64 (show q ≤ 70 by omega)]
      simp only [toNat_of, ile_ofNat]
      rw [ilt_ofNat]
      by_cases h : k < q
      · rw [blt_true (show k < n by omega), blt_true (show 2 * k + 1 < m by omega), blt_true (show 2 * k < m by omega)]; simp
      · simp [h]) (fun k hk => by
      unfold go_ref20_Keep_L0
      simp only
      rw [half_i64 (show q ≤ 70 by omega), ilt_ofNat]
      simp [hk]) (fun k hk => by
      unfold step_ref20_Keep_L0
      simp only [toNat_of]
      rw [two_i64 (show k ≤ 70 by omega), succ_i64 (show 2 * k < 9223372036854775807 by omega), succ_i64 (show k < 9223372036854775807 by omega)]
      simp only [toNat_of, real_same]
      congr 1
      · funext j
        unfold kept
        by_cases e : j = k
        · subst e; rw [beqn_self, blt_true (Nat.lt_succ_self j)]; rfl
        · rw [beqn_false e, cond_false]
          by_cases e2 : j < k
          · rw [blt_true e2, blt_true (show j < k + 1 by omega)]
          · rw [blt_false (show k ≤ j by omega), blt_false (show k + 1 ≤ j by omega)]
      · funext j
        unfold kept
        by_cases e : j = k
        · subst e; rw [beqn_self, blt_true (Nat.lt_succ_self j)]; rfl
        · rw [beqn_false e, cond_false]
          by_cases e2 : j < k
          · rw [blt_true e2, blt_true (show j < k + 1 by omega)]
          · rw [blt_false (show k ≤ j by omega), blt_false (show k + 1 ≤ j by omega)]) (by
      unfold go_ref20_Keep_L0
      simp only
      rw [half_i64 (show q ≤ 70 by omega), ilt_ofNat]
      simp)
  have z : ∀ (c f h : Nat → Nat), kept c f 0 h = h := fun c f h => by funext j; unfold kept; rw [blt_false (Nat.zero_le j), cond_false]
  simp only [z] at hr
  exact ⟨hr.1, congrArg V_ref20_Keep_L0.v1 hr.2, congrArg V_ref20_Keep_L0.v2 hr.2⟩
end Go.Proofs.Ytojahopdcnamjaa
