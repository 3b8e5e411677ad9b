/- MassAbout: about the centre and off it; the masses in the opposite order. -/
import Derived.Test.YtbkogihigehjlaaLawAboutB
set_option linter.unusedVariables false
set_option linter.unusedSimpArgs false
set_option maxHeartbeats 4000000
namespace Go.Proofs.Ytbkogihigehjlaa
open Go.Sim Go.Lst
theorem mrg_t {q a b : Bool} (ha : a = true) (hb : b = true) : mrgB q a b = true := by rw [ha, hb]; cases q <;> rfl
theorem rv_le_sval {a b : Nat} (h : sval a ≤ sval b) : rv a ≤ rv b := by
  have hu := uu_pos
  have h5 : (sval a : Rat) ≤ (sval b : Rat) := Rat.intCast_le_intCast.2 h
  rw [rv_mul_uu, rv_mul_uu] at h5
  exact cancel_le hu h5
theorem fmax_ok {a b : Nat} (fa : fin a = true) (fb : fin b = true) : fin (fmax a b) = true ∧ rv a ≤ rv (fmax a b) ∧ rv b ≤ rv (fmax a b) ∧ (∀ B : Rat, rv a ≤ B → rv b ≤ B → rv (fmax a b) ≤ B) := by
  have ho := order_eq (fin_not_nan fa) (fin_not_nan fb)
  have key : ∀ x, (x = a ∧ sval b ≤ sval a) ∨ (x = b ∧ sval a ≤ sval b) → fin x = true ∧ rv a ≤ rv x ∧ rv b ≤ rv x ∧ (∀ B : Rat, rv a ≤ B → rv b ≤ B → rv x ≤ B) := by
    intro x hx
    rcases hx with ⟨rfl, h⟩ | ⟨rfl, h⟩
    · exact ⟨fa, Rat.le_refl, rv_le_sval h, fun B h1 _ => h1⟩
    · exact ⟨fb, rv_le_sval h, Rat.le_refl, fun B _ h2 => h2⟩
  apply key
  unfold fmax
  rw [ho]
  have hc := Int.compare_eq_lt (a := sval a) (b := sval b)
  have hg := Int.compare_eq_gt (a := sval a) (b := sval b)
  have he := Int.compare_eq_eq (a := sval a) (b := sval b)
  cases hcmp : compare (sval a) (sval b)
  · exact .inr ⟨rfl, Int.le_of_lt (hc.1 hcmp)⟩
  · have e := he.1 hcmp
    show (cond (FloatKind.f64.decode a).neg b a = a ∧ _) ∨ (cond (FloatKind.f64.decode a).neg b a = b ∧ _)
    cases (FloatKind.f64.decode a).neg
    · exact .inl ⟨rfl, by omega⟩
    · exact .inr ⟨rfl, by omega⟩
  · exact .inl ⟨rfl, Int.le_of_lt (hg.1 hcmp)⟩
/-- The list from behind, and the greatest part of the places. -/
def backF (n : Nat) (l : Nat → Nat) : Nat → Nat → Nat
  | 0 => fun j0 => 0
  | k + 1 => fun j0 => (bif (Nat.blt j0 k) then (backF n l k j0) else (l (n - 1 - k)))
def mst (n : Nat) (c d : Nat → Nat) : Nat → Nat
  | 0 => 0
  | k + 1 => fmax (fmax (mst n c d k) (fabs (c (n - 1 - k)))) (fabs (d (n - 1 - k)))
theorem backF_at (n : Nat) (l : Nat → Nat) : ∀ k j, j < k → backF n l k j = l (n - 1 - j)
  | 0, j, h => by omega
  | k + 1, j, h => by
    show (bif (Nat.blt j k) then (backF n l k j) else (l (n - 1 - k))) = _
    by_cases h1 : j < k
    · rw [blt_true h1, cond_true]; exact backF_at n l k j h1
    · have : j = k := by omega
      rw [blt_false (by omega), cond_false, this]
theorem mst_ok {n : Nat} {c d : Nat → Nat} {B : Rat} (B0 : 0 ≤ B) (hc : ∀ i, i < n → fin (c i) = true ∧ rv (fabs (c i)) ≤ B) (hd : ∀ i, i < n → fin (d i) = true ∧ rv (fabs (d i)) ≤ B) : ∀ k, k ≤ n → fin (mst n c d k) = true ∧ rv (mst n c d k) ≤ B ∧ ∀ j, j < k → rv (fabs (c (n - 1 - j))) ≤ rv (mst n c d k) ∧ rv (fabs (d (n - 1 - j))) ≤ rv (mst n c d k)
  | 0, _ => ⟨fin_0, by show rv 0 ≤ B; rw [rv_0]; exact B0, fun j hj => by omega⟩
  | k + 1, hk => by
    obtain ⟨f, b, h⟩ := mst_ok B0 hc hd k (by omega)
    obtain ⟨fc, bc⟩ := hc (n - 1 - k) (by omega)
    obtain ⟨fd, bd⟩ := hd (n - 1 - k) (by omega)
    obtain ⟨f1, p1, p2, p3⟩ := fmax_ok f (abs_cases fc).1
    obtain ⟨f2, q1, q2, q3⟩ := fmax_ok f1 (abs_cases fd).1
    refine ⟨f2, q3 B (p3 B b bc) bd, fun j hj => ?_⟩
    show _ ≤ rv (fmax (fmax (mst n c d k) (fabs (c (n - 1 - k)))) (fabs (d (n - 1 - k)))) ∧ _ ≤ rv (fmax (fmax (mst n c d k) (fabs (c (n - 1 - k)))) (fabs (d (n - 1 - k))))
    by_cases hjk : j < k
    · obtain ⟨r1, r2⟩ := h j hjk
      exact ⟨Rat.le_trans r1 (Rat.le_trans p1 q1), Rat.le_trans r2 (Rat.le_trans p1 q1)⟩
    · have : j = k := by omega
      subst this
      exact ⟨Rat.le_trans p2 q1, q2⟩
theorem law_loop {n : Nat} {e0 e1 e2 e3 : Nat → Nat} (h64 : n ≤ 64) :
    E_law08_MassAbout_L0 n e0 e1 e2 e3 (V_law08_MassAbout_L0.mk 0 0 (IntKind.wrap .i64 ((Int.ofNat n) - (1 : Int))) (fun j0 => 0) (fun j0 => 0) (fun j0 => 0) (fun j0 => 0)) = true ∧
    L_law08_MassAbout_L0 n e0 e1 e2 e3 (V_law08_MassAbout_L0.mk 0 0 (IntKind.wrap .i64 ((Int.ofNat n) - (1 : Int))) (fun j0 => 0) (fun j0 => 0) (fun j0 => 0) (fun j0 => 0)) = V_law08_MassAbout_L0.mk n (mst n e2 e3 n) (-1) (backF n e0 n) (backF n e1 n) (backF n e2 n) (backF n e3 n) := by
  have hr := run_to (ok := ok_law08_MassAbout_L0 n e0 e1 e2 e3) (go := go_law08_MassAbout_L0 n e0 e1 e2 e3) (step := step_law08_MassAbout_L0 n e0 e1 e2 e3)
    (fun k => V_law08_MassAbout_L0.mk k (mst n e2 e3 k) (Int.ofNat n - 1 - Int.ofNat k) (backF n e0 k) (backF n e1 k) (backF n e2 k) (backF n e3 k)) n (fun k hk => by
      unfold ok_law08_MassAbout_L0
      dsimp only
      rw [mrgB_eq]
      by_cases h : k < n
      · have e : Int.ofNat n - 1 - Int.ofNat k = Int.ofNat (n - 1 - k) := by simp only [Int.ofNat_eq_natCast]; omega
        rw [e, ile_ofNat, toNat_of, blt_true (show n - 1 - k < n by omega), ble_true (Nat.le_refl k), ble_true (show (k + 1) * 32 ≤ 140737488355328 by omega)]; rfl
      · rw [ile_false (by simp only [Int.ofNat_eq_natCast]; omega)]; rfl) (fun k hk => by
      unfold go_law08_MassAbout_L0
      dsimp only
      rw [ile_true (by simp only [Int.ofNat_eq_natCast]; omega)]; rfl) (fun k hk => by
      unfold step_law08_MassAbout_L0
      dsimp only
      have e : Int.ofNat n - 1 - Int.ofNat k = Int.ofNat (n - 1 - k) := by simp only [Int.ofNat_eq_natCast]; omega
      have e2 : IntKind.i64.wrap (Int.ofNat n - 1 - Int.ofNat k - 1) = Int.ofNat n - 1 - Int.ofNat (k + 1) := by
        rw [wrap_i64 (by simp only [Int.ofNat_eq_natCast]; omega) (by simp only [Int.ofNat_eq_natCast]; omega)]; simp only [Int.ofNat_eq_natCast]; omega
      rw [e2, e, toNat_of]; rfl) (by
      unfold go_law08_MassAbout_L0
      dsimp only
      rw [ile_false (by simp only [Int.ofNat_eq_natCast]; omega)]; rfl)
  have e0' : IntKind.i64.wrap (Int.ofNat n - 1) = Int.ofNat n - 1 - Int.ofNat 0 := by
    rw [wrap_i64 (by simp only [Int.ofNat_eq_natCast]; omega) (by simp only [Int.ofNat_eq_natCast]; omega)]; simp only [Int.ofNat_eq_natCast]; omega
  have e9 : Int.ofNat n - 1 - Int.ofNat n = -1 := by simp only [Int.ofNat_eq_natCast]; omega
  rw [e0']
  rw [e9] at hr
  exact hr
theorem rv_m100 : rv 4156822456062967808 = 1 / 1267650600228229401496703205376 := by
  have h : rv 4156822456062967808 = ((1 : Nat) : Rat) / ((1267650600228229401496703205376 : Nat) : Rat) := rv_lit (by decide) (by decide) (by intro d hd; subst hd; decide +kernel)
  have k1 : ((1 : Nat) : Rat) = 1 := rfl
  have k2 : ((1267650600228229401496703205376 : Nat) : Rat) = 1267650600228229401496703205376 := rfl
  rw [h, k1, k2]
theorem zero_ok : s_mass_Check_0 0 0 0 0 = 0 := by
  have h : s_mass_weight_0 0 = true := by unfold s_mass_weight_0 s_num_Finite_float64__0; decide
  have h2 : s_vec_Within_0 0 0 4787326403894837248 = true := by unfold s_vec_Within_0 s_num_Within_float64__0; decide
  unfold s_mass_Check_0; rw [h, h2]; rfl
theorem ieq_zero {a : Int} (h : ieq a 0 = true) : a = 0 := by simpa [ieq] using h
theorem checked_ok {a b c d : Nat} (h : s_mass_checked_4 a b c d = 0) : s_mass_Check_0 a b c d = 0 ∧ s_mass_checked_0 a b c d = a ∧ s_mass_checked_1 a b c d = b ∧ s_mass_checked_2 a b c d = c ∧ s_mass_checked_3 a b c d = d := by
  have hc : s_mass_Check_0 a b c d = 0 := by
    rcases check_two a b c d with e | e
    · unfold s_mass_checked_4 at h; rw [e] at h; cases h
    · exact e
  have hi : ieq (0 : Int) 0 = true := rfl
  refine ⟨hc, ?_, ?_, ?_, ?_⟩
  · unfold s_mass_checked_0; rw [hc, hi]; rfl
  · unfold s_mass_checked_1; rw [hc, hi]; rfl
  · unfold s_mass_checked_2; rw [hc, hi]; rfl
  · unfold s_mass_checked_3; rw [hc, hi]; rfl
theorem Jn.good {n : Nat} {e0 e1 e2 e3 : Nat → Nat} (j : Jn n e0 e1 e2 e3) (h4 : s_mass_Join_4 n e0 e1 e2 e3 = 0) (c2 : ∀ i, i < n → CF (e2 i)) (c3 : ∀ i, i < n → CF (e3 i)) : s_mass_Check_0 (s_mass_Join_0 n e0 e1 e2 e3) (s_mass_Join_1 n e0 e1 e2 e3) (s_mass_Join_2 n e0 e1 e2 e3) (s_mass_Join_3 n e0 e1 e2 e3) = 0 ∧ CF (s_mass_Join_2 n e0 e1 e2 e3) ∧ CF (s_mass_Join_3 n e0 e1 e2 e3) := by
  cases j with
  | bad m h hb hm h4' => rw [h4] at h4'; cases h4'
  | nil h h0 h1 h2 h3 _ => rw [h0, h1, h2, h3]; exact ⟨zero_ok, cf0, cf0⟩
  | one h hb h0 h1 h2 h3 _ => rw [h0, h1, h2, h3]; exact ⟨hb, c2 0 (by omega), c3 0 (by omega)⟩
  | nought h hb ha h0 h1 h2 h3 _ => rw [h0, h1, h2, h3]; exact ⟨zero_ok, cf0, cf0⟩
  | some h hb ha t h0 h1 h2 h3 h4' =>
    rw [h4'] at h4
    obtain ⟨k, k0, k1, k2, k3⟩ := checked_ok h4
    rw [h0, h1, h2, h3, k0, k1, k2, k3]
    exact ⟨k, CF.div _ _, CF.div _ _⟩
/-- The masses in both orders. -/
theorem both {n : Nat} {e0 e1 e2 e3 : Nat → Nat} (h64 : n ≤ 64) (c0 : ∀ i, i < n → CF (e0 i)) (n1 : n ≠ 1) (h4 : s_mass_Join_4 n e0 e1 e2 e3 = 0) (g4 : s_mass_Join_4 n (backF n e0 n) (backF n e1 n) (backF n e2 n) (backF n e3 n) = 0)
    (t1 : flt (s_mass_Join_0 n e0 e1 e2 e3) 4156822456062967808 = false) (t2 : flt (mst n e2 e3 n) 553942754166571008 = false) :
    s_law08_nearly_0 (s_mass_Join_0 n e0 e1 e2 e3) (s_mass_Join_0 n (backF n e0 n) (backF n e1 n) (backF n e2 n) (backF n e3 n)) (s_mass_Join_0 n e0 e1 e2 e3) 4427038433705197568 = true ∧ s_law08_nearly_0 (s_mass_Join_2 n e0 e1 e2 e3) (s_mass_Join_2 n (backF n e0 n) (backF n e1 n) (backF n e2 n) (backF n e3 n)) (mst n e2 e3 n) 4427038433705197568 = true ∧ s_law08_nearly_0 (s_mass_Join_3 n e0 e1 e2 e3) (s_mass_Join_3 n (backF n e0 n) (backF n e1 n) (backF n e2 n) (backF n e3 n)) (mst n e2 e3 n) 4427038433705197568 = true := by
  have z0 : flt 0 4156822456062967808 = true := by decide
  cases (join_ok (e0 := e0) (e1 := e1) (e2 := e2) (e3 := e3) h64).2 with
  | bad m h hb hm h4' => rw [h4] at h4'; cases h4'
  | nil h h0 h1 h2 h3 _ => rw [h0, z0] at t1; cases t1
  | one h hb h0 h1 h2 h3 _ => exact absurd h n1
  | nought h hb ha h0 h1 h2 h3 _ => rw [h0, z0] at t1; cases t1
  | some h hb ha t h0 h1 h2 h3 h4' =>
    have hbf : ∀ (e : Nat → Nat) j, j < n → backF n e n j = e (n - 1 - j) := fun e j hj => backF_at n e n j hj
    rw [h4'] at h4
    obtain ⟨k, k0, k1, k2, k3⟩ := checked_ok h4
    obtain ⟨⟨fA, A0⟩, _, ⟨fX, _⟩, ⟨fY, _⟩, _⟩ := check_ok k
    rw [h0, k0] at t1
    rw [h0, h2, h3, k0, k2, k3]
    have fl : fin 4156822456062967808 = true := by decide
    have hA : 1 / 1267650600228229401496703205376 ≤ rv (allS e0 n) := by
      rw [flt_rv fA fl, rv_m100] at t1; simpa using t1
    have eA : allS (backF n e0 n) n = sumQ (fun j => e0 (n - 1 - j)) (n - 1) := sumQ_congr _ fun j hj => hbf e0 j (by omega)
    have eX : prdS (backF n e0 n) (backF n e2 n) n = sumQ (fun j => fmul (e0 (n - 1 - j)) (e2 (n - 1 - j))) (n - 1) := sumQ_congr _ fun j hj => by rw [hbf e0 j (by omega), hbf e2 j (by omega)]
    have eY : prdS (backF n e0 n) (backF n e3 n) n = sumQ (fun j => fmul (e0 (n - 1 - j)) (e3 (n - 1 - j))) (n - 1) := sumQ_congr _ fun j hj => by rw [hbf e0 j (by omega), hbf e3 j (by omega)]
    have all := fun i hi => check_ok (hb i hi)
    have m0 : ∀ j, j ≤ n - 1 → 0 ≤ rv (e0 j) := fun j hj => (all j (by omega)).1.2
    obtain ⟨fm, bm, hm⟩ := mst_ok (n := n) (c := e2) (d := e3) (B := 1099511627776) (by grind) (fun i hi => (all i hi).2.2.1) (fun i hi => (all i hi).2.2.2.1) n (Nat.le_refl n)
    have fl2 : fin 553942754166571008 = true := by decide
    have hW : rv 553942754166571008 ≤ rv (mst n e2 e3 n) := by
      rw [flt_rv fm fl2] at t2; simpa using t2
    have eb := eta_big
    have hc2 : ∀ j, j ≤ n - 1 → rv (fabs (e2 j)) ≤ rv (mst n e2 e3 n) := fun j hj => by
      have := (hm (n - 1 - j) (by omega)).1
      rwa [show n - 1 - (n - 1 - j) = j by omega] at this
    have hc3 : ∀ j, j ≤ n - 1 → rv (fabs (e3 j)) ≤ rv (mst n e2 e3 n) := fun j hj => by
      have := (hm (n - 1 - j) (by omega)).2
      rwa [show n - 1 - (n - 1 - j) = j by omega] at this
    cases (join_ok (e0 := backF n e0 n) (e1 := backF n e1 n) (e2 := backF n e2 n) (e3 := backF n e3 n) h64).2 with
    | bad m h hb hm h5 => rw [g4] at h5; cases h5
    | nil h h0 h1 h2 h3 _ => omega
    | one h hb h0 h1 h2 h3 _ => exact absurd h n1
    | nought h hb' ha' i0 i1 i2 i3 _ =>
      exfalso
      rw [eA] at ha'
      have fB : fin (sumQ (fun j => e0 (n - 1 - j)) (n - 1)) = true := by
        cases hn : nanb (sumQ (fun j => e0 (n - 1 - j)) (n - 1))
        · have cb : CF (sumQ (fun j => e0 (n - 1 - j)) (n - 1)) := cf_sumQ fun j hj => c0 _ (by omega)
          rcases (feq_zero cb.lt hn).1 ha' with e | e <;> rw [e] <;> decide
        · rw [feq_nan (.inl hn)] at ha'; cases ha'
      obtain ⟨M0, a1, a2, b1, b2⟩ := mass_near (m := e0) (k := n - 1) (by omega) fA fB m0 rfl
      have hz : rv (sumQ (fun j => e0 (n - 1 - j)) (n - 1)) = 0 := by
        rw [feq_val (fin_not_nan fB) (by decide)] at ha'
        simp only [decide_eq_true_eq] at ha'
        have e : sval 0 = 0 := by decide
        unfold rv; rw [ha', e, Rat.div_def]; exact Rat.zero_mul _
      rw [hz] at b1 b2
      change 1 / 1267650600228229401496703205376 ≤ rv (sumQ e0 (n - 1)) at hA
      grind
    | some h hb' ha' t' i0 i1 i2 i3 i4 =>
      rw [i4] at g4
      obtain ⟨l, l0, l1, l2, l3⟩ := checked_ok g4
      obtain ⟨⟨fB, B0⟩, _, ⟨fU, _⟩, ⟨fV, _⟩, _⟩ := check_ok l
      rw [i0, i2, i3, l0, l2, l3]
      have xA := fin_div fA fX
      have yA := fin_div fA fY
      have xB := fin_div fB fU
      have yB := fin_div fB fV
      rw [eA] at fB ⊢
      rw [eX] at xB ⊢
      rw [eY] at yB ⊢
      refine ⟨?_, ?_, ?_⟩
      · exact near_mass (m := e0) (k := n - 1) (by omega) (fun j hj => c0 j (by omega)) fA fB m0 hA
      · exact near_centre (m := e0) (c := e2) (k := n - 1) (by omega) fA fB m0 hA xA xB fm hc2 (by grind) (by grind)
      · exact near_centre (m := e0) (c := e3) (k := n - 1) (by omega) fA fB m0 hA yA yB fm hc3 (by grind) (by grind)
theorem law_MassAbout (n : Nat) (g0 g1 g2 g3 : Nat → Nat) (p q : Nat) (hgood : GoodA (.sl 32 [.f, .f, .f, .f]) (.view n 4 (fun i => [.float (g0 i), .float (g1 i), .float (g2 i), .float (g3 i)]))) (hp : GoodAs ([.f, .f] : List Kd) [AV.float p, AV.float q] 0) : T_law08_MassAbout n g0 g1 g2 g3 p q = true := by
  have c0 : ∀ i, i < n → CF (g0 i) := fun i hi => (hgood.2 i hi).1
  have c2 : ∀ i, i < n → CF (g2 i) := fun i hi => (hgood.2 i hi).2.2.1
  have c3 : ∀ i, i < n → CF (g3 i) := fun i hi => (hgood.2 i hi).2.2.2.1
  simp only [GoodAs, GoodA, atL, flO, List.getD_cons_zero, List.getD_cons_succ] at hp
  have cp : CF p := hp.1
  have cq : CF q := hp.2.1
  have haw : s_law08_alive_0 = true := rfl
  unfold T_law08_MassAbout
  by_cases h64 : n ≤ 64
  · have i64' : ilt (64 : Int) (Int.ofNat n) = false := ilt_false (by simp; omega)
    rw [(law_loop h64).2]
    have j1 := (join_ok (e0 := g0) (e1 := g1) (e2 := g2) (e3 := g3) h64).2
    have j2 := (join_ok (e0 := backF n g0 n) (e1 := backF n g1 n) (e2 := backF n g2 n) (e3 := backF n g3 n) h64).2
    have hbf : ∀ (e : Nat → Nat) j, j < n → backF n e n j = e (n - 1 - j) := fun e j hj => backF_at n e n j hj
    simp only [haw, i64', Bool.not_true, cond_true, cond_false, Bool.true_and, Bool.false_or]
    cases hfirst : (((ieq (s_mass_Join_4 n g0 g1 g2 g3) (80 : Int)) && (ilt (0 : Int) (Int.ofNat n))) && (!(ieq (s_mass_Check_0 (g0 0) (g1 0) (g2 0) (g3 0)) (0 : Int))))
    · rw [cond_false]
      cases h4 : ieq (s_mass_Join_4 n g0 g1 g2 g3) 0
      · rfl
      cases g4 : ieq (s_mass_Join_4 n (backF n g0 n) (backF n g1 n) (backF n g2 n) (backF n g3 n)) 0
      · rfl
      have h4' := ieq_zero h4
      have g4' := ieq_zero g4
      obtain ⟨k, kc, kd⟩ := j1.good h4' c2 c3
      obtain ⟨a1, a2, a3, a4⟩ := about_ok kc kd cp cq k
      rw [a1, a2, a3]
      have hx : (!(ieq (bif s_vec_Within_0 p q 4787326403894837248 then (0 : Int) else 5) 0 == s_vec_Within_0 p q 4787326403894837248)) = false := by
        cases s_vec_Within_0 p q 4787326403894837248 <;> rfl
      have hy : (s_vec_Within_0 p q 4787326403894837248 && flt (s_mass_About_0 (s_mass_Join_0 n g0 g1 g2 g3) (s_mass_Join_1 n g0 g1 g2 g3) (s_mass_Join_2 n g0 g1 g2 g3) (s_mass_Join_3 n g0 g1 g2 g3) p q) (s_mass_About_0 (s_mass_Join_0 n g0 g1 g2 g3) (s_mass_Join_1 n g0 g1 g2 g3) (s_mass_Join_2 n g0 g1 g2 g3) (s_mass_Join_3 n g0 g1 g2 g3) (s_mass_Join_2 n g0 g1 g2 g3) (s_mass_Join_3 n g0 g1 g2 g3))) = false := by
        cases hw : s_vec_Within_0 p q 4787326403894837248
        · rfl
        · rw [a4 hw]; rfl
      rw [hx, hy]
      simp only [ieq_self, Bool.not_true, Bool.or_self, Bool.or_false, cond_false]
      by_cases n1 : n = 1
      · subst n1
        cases j1 with
        | bad m h hb hm h5 => rw [h4'] at h5; cases h5
        | nil h h0 h1 h2 h3 _ => omega
        | one h hb h0 h1 h2 h3 _ =>
          rw [h0, h1, h2, h3, show ieq (Int.ofNat 1) 1 = true from rfl, cond_true]
          unfold s_ref08_Same_0 s_ref02_Same_0
          rw [is_same, is_same, is_same, is_same]; rfl
        | nought h hb ha h0 h1 h2 h3 _ => omega
        | some h hb ha t h0 h1 h2 h3 h5 => omega
      · rw [ieq_false (show Int.ofNat n ≠ 1 by simp only [Int.ofNat_eq_natCast]; omega), cond_false]
        cases t1 : flt (s_mass_Join_0 n g0 g1 g2 g3) 4156822456062967808
        · cases t2 : flt (mst n g2 g3 n) 553942754166571008
          · obtain ⟨r1, r2, r3⟩ := both h64 c0 n1 h4' g4' t1 t2
            rw [r1, r2, r3]; rfl
          · rfl
        · rfl
    · rw [cond_true]
      rw [Bool.and_eq_true, Bool.and_eq_true] at hfirst
      obtain ⟨⟨f1, f2⟩, f3⟩ := hfirst
      have hn : 0 < n := by
        rcases Nat.eq_zero_or_pos n with h | h
        · rw [h] at f2; cases f2
        · exact h
      have e80 : s_mass_Join_4 n g0 g1 g2 g3 = 80 := by simpa [ieq] using f1
      rw [e80]
      have hbad : s_mass_Check_0 (g0 0) (g1 0) (g2 0) (g3 0) ≠ 0 := by
        intro e; rw [e] at f3; cases f3
      have back0 : s_mass_Check_0 (backF n g0 n (n - 1)) (backF n g1 n (n - 1)) (backF n g2 n (n - 1)) (backF n g3 n (n - 1)) ≠ 0 := by
        rw [hbf g0 _ (by omega), hbf g1 _ (by omega), hbf g2 _ (by omega), hbf g3 _ (by omega), Nat.sub_self]; exact hbad
      cases j2 with
      | bad m h hb hm h5 => rw [h5]; rfl
      | nil h h0 h1 h2 h3 _ => omega
      | one h hb h0 h1 h2 h3 _ => exact absurd (by subst h; exact hb) back0
      | nought h hb ha h0 h1 h2 h3 _ => exact absurd (hb _ (by omega)) back0
      | some h hb ha t h0 h1 h2 h3 h5 => exact absurd (hb _ (by omega)) back0
  · have i64' : ilt (64 : Int) (Int.ofNat n) = true := ilt_true (by simp; omega)
    simp only [haw, i64', Bool.not_true, cond_true, cond_false]
theorem ob_law_MassAbout (n : Nat) (g0 g1 g2 g3 : Nat → Nat) (p q : Nat) (hgood : GoodA (.sl 32 [.f, .f, .f, .f]) (.view n 4 (fun i => [.float (g0 i), .float (g1 i), .float (g2 i), .float (g3 i)]))) (hp : GoodAs ([.f, .f] : List Kd) [AV.float p, AV.float q] 0) : O_law08_MassAbout n g0 g1 g2 g3 p q = true := by
  have haw : s_law08_alive_0 = true := rfl
  unfold O_law08_MassAbout
  by_cases h64 : n ≤ 64
  · obtain ⟨lE, lL⟩ := law_loop (e0 := g0) (e1 := g1) (e2 := g2) (e3 := g3) h64
    have o1 := (join_ok (e0 := g0) (e1 := g1) (e2 := g2) (e3 := g3) h64).1
    have o2 := (join_ok (e0 := backF n g0 n) (e1 := backF n g1 n) (e2 := backF n g2 n) (e3 := backF n g3 n) h64).1
    by_cases hn : 0 < n
    · simp only [lE, lL, o1, o2, haw, allB_true, mrgB_self, ble_true (Nat.le_refl n), blt_true hn, Bool.and_self, Bool.true_and, Bool.and_true]
      exact mrg_t rfl (mrg_t rfl (by simp [eqT]))
    · have hz : n = 0 := by omega
      subst hz
      simp only [lE, lL, o1, o2, haw, allB_true, mrgB_self, mrgB_eq, show Nat.ble 0 0 = true from rfl, show ilt (0 : Int) (Int.ofNat 0) = false from rfl, show ieq (Int.ofNat 0) 1 = false from rfl, Bool.and_self, Bool.true_and, Bool.and_true, Bool.and_false, Bool.false_and, cond_false, Bool.cond_self]
      simp [eqT]
  · have i64' : ilt (64 : Int) (Int.ofNat n) = true := ilt_true (by simp; omega)
    simp only [haw, i64', mrgB_eq, Bool.not_true, cond_true, cond_false]
end Go.Proofs.Ytbkogihigehjlaa
