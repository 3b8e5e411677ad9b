/- Every list of parts: what they weigh together, as the document says. -/
import Derived.Test.YtbkogihigehjlaaGreatLawJoinTD
set_option linter.unusedVariables false
set_option linter.unusedSimpArgs false
set_option maxHeartbeats 4000000
namespace Go.Proofs.YtbkogihigehjlaaGreat
open Go.Sim Go.Lst Ieee
theorem is_same (a : Nat) : s_ref02_Is_0 a a = true := by unfold s_ref02_Is_0; exact ieq_self _
theorem of_cf {n : Nat} {f g : Nat → Nat} (cf : ∀ i, i < n → CF (f i)) (cg : ∀ i, i < n → CF (g i)) {k : Int} {r d : Nat} (k0 : 0 ≤ k) (k1 : k ≤ 255) (h100 : n ≤ 1000000) : CF (s_ref08_Of_2 k r n f g d) ∧ CF (s_ref08_Of_3 k r n f g d) := by
  have t : Two n f g f g := ⟨fun _ _ => rfl, fun _ _ => rfl, cf, cg⟩
  obtain ⟨c, o1, o2, hs⟩ := shape_same t (r := r) k0 k1 h100
  unfold s_ref08_Of_2 s_ref08_Of_3
  rcases hs with hs | hs
  · rw [hs]; exact ⟨cf_nil, cf_nil⟩
  · cases hs with
    | circ hk hn =>
      subst hk; subst hn
      exact ⟨cf_bif (cf_bif (cf_bif (cf 0 (by omega)))), cf_bif (cf_bif (cf_bif (cg 0 (by omega))))⟩
    | caps hk hn =>
      subst hk; subst hn
      refine ⟨cf_bif (cf_bif (cf_bif ?_)), cf_bif (cf_bif (cf_bif ?_))⟩
      · unfold s_ref08_capsule_2 s_ref02_Middle_0 s_ref02_Vec_0; exact CF.div _ _
      · unfold s_ref08_capsule_3 s_ref02_Middle_1 s_ref02_Vec_1; exact CF.div _ _
    | poly hk h3 h8 hr =>
      subst hk
      obtain ⟨cc2, cc3⟩ := centre_cf n f g 3 r d
      exact ⟨cf_bif (cf_bif (cf_bif (cf_bif cc2))), cf_bif (cf_bif (cf_bif (cf_bif cc3)))⟩
section
variable (n : Nat) (k : Nat → Int) (r : Nat → Nat) (m : Nat → Nat) (f g : Nat → Nat → Nat) (d : Nat → Nat) (c : Nat → Bool)
/-- The loops' heads. -/
noncomputable def pS : Nat → V_mass_Parts_L0
  | 0 => V_mass_Parts_L0.mk 0 0 (fun _ => 0) (fun _ => 0) (fun _ => 0) (fun _ => 0)
  | j + 1 => step_mass_Parts_L0 n k r m f g d c (Int.ofNat n) (pS j)
noncomputable def rS : Nat → V_ref08_Parts_L0
  | 0 => V_ref08_Parts_L0.mk 0 0 (fun _ => 0) (fun _ => 0) (fun _ => 0) (fun _ => 0)
  | j + 1 => step_ref08_Parts_L0 n k r m f g d c (rS j)
end
variable {n : Nat} {k : Nat → Int} {r : Nat → Nat} {m : Nat → Nat} {f g : Nat → Nat → Nat} {d : Nat → Nat} {c : Nat → Bool}
theorem pS_at : ∀ j, j ≤ 20 → (pS n k r m f g d c j).v1 = Int.ofNat j ∧ (pS n k r m f g d c j).v0 ≤ j
  | 0, _ => ⟨rfl, Nat.le_refl _⟩
  | j + 1, h => by
    obtain ⟨h1, h2⟩ := pS_at j (by omega)
    simp only [pS, step_mass_Parts_L0, h1]
    refine ⟨succ_i64 (by omega), ?_⟩
    rw [csame_eq]; cases !(c (Int.toNat (Int.ofNat j))) <;> simp <;> omega
theorem rS_at : ∀ j, j ≤ 20 → (rS n k r m f g d c j).v1 = Int.ofNat j
  | 0, _ => rfl
  | j + 1, h => by
    have h1 := rS_at j (by omega)
    simp only [rS, step_ref08_Parts_L0, h1]
    exact succ_i64 (by omega)
theorem S_same (H : ∀ i, i < n → OfSame (k i) (r i) (m i) (f i) (g i) (f i) (g i) (d i)) (h20 : n ≤ 20) : ∀ j, j ≤ n → (pS n k r m f g d c j).v0 = (rS n k r m f g d c j).v0 ∧ (pS n k r m f g d c j).v2 = (rS n k r m f g d c j).v2 ∧ (pS n k r m f g d c j).v3 = (rS n k r m f g d c j).v3 ∧ (pS n k r m f g d c j).v4 = (rS n k r m f g d c j).v4 ∧ (pS n k r m f g d c j).v5 = (rS n k r m f g d c j).v5
  | 0, _ => ⟨rfl, rfl, rfl, rfl, rfl⟩
  | j + 1, h => by
    obtain ⟨a0, a2, a3, a4, a5⟩ := S_same H h20 j (by omega)
    have p1 := (pS_at (n := n) (k := k) (r := r) (m := m) (f := f) (g := g) (d := d) (c := c) j (by omega)).1
    have r1 := rS_at (n := n) (k := k) (r := r) (m := m) (f := f) (g := g) (d := d) (c := c) j (by omega)
    have s := H j (by omega)
    simp only [pS, rS, step_mass_Parts_L0, step_ref08_Parts_L0, p1, r1, toNat_of, a0, a2, a3, a4, a5, s.e0, s.e1, s.e2, s.e3, and_self]
theorem rS_cf (H : ∀ i, i < n → CF (s_ref08_Of_2 (k i) (r i) (m i) (f i) (g i) (d i)) ∧ CF (s_ref08_Of_3 (k i) (r i) (m i) (f i) (g i) (d i))) (h20 : n ≤ 20) : ∀ j, j ≤ n → ∀ i, CF ((rS n k r m f g d c j).v4 i) ∧ CF ((rS n k r m f g d c j).v5 i)
  | 0, _, i => ⟨cf_nil, cf_nil⟩
  | j + 1, h, i => by
    obtain ⟨a, b⟩ := rS_cf H h20 j (by omega) i
    have r1 := rS_at (n := n) (k := k) (r := r) (m := m) (f := f) (g := g) (d := d) (c := c) j (by omega)
    have s := H j (by omega)
    simp only [rS, step_ref08_Parts_L0, r1, toNat_of]
    cases c j
    · cases Nat.blt i (rS n k r m f g d c j).v0
      · exact s
      · exact ⟨a, b⟩
    · exact ⟨a, b⟩
theorem parts_same {e5 e6 : Nat → Nat} {h7 h8 : Nat → Int} (hn : n ≤ 8) (H : ∀ i, i < n → OfSame (k i) (r i) (m i) (f i) (g i) (f i) (g i) (d i)) (C : ∀ i, i < n → CF (s_ref08_Of_2 (k i) (r i) (m i) (f i) (g i) (d i)) ∧ CF (s_ref08_Of_3 (k i) (r i) (m i) (f i) (g i) (d i))) :
    (s_mass_Parts_0 n k r m f g d e5 e6 c h7 h8 = s_ref08_Parts_0 n k r m f g d e5 e6 c h7 h8 ∧ s_mass_Parts_1 n k r m f g d e5 e6 c h7 h8 = s_ref08_Parts_1 n k r m f g d e5 e6 c h7 h8 ∧ s_mass_Parts_2 n k r m f g d e5 e6 c h7 h8 = s_ref08_Parts_2 n k r m f g d e5 e6 c h7 h8 ∧ s_mass_Parts_3 n k r m f g d e5 e6 c h7 h8 = s_ref08_Parts_3 n k r m f g d e5 e6 c h7 h8 ∧ s_mass_Parts_4 n k r m f g d e5 e6 c h7 h8 = s_ref08_Parts_4 n k r m f g d e5 e6 c h7 h8) ∧
    o_mass_Parts n k r m f g d e5 e6 c h7 h8 = true ∧ o_ref08_Parts n k r m f g d e5 e6 c h7 h8 = true := by
  obtain ⟨j, hj, hall, hend⟩ := first_no (p := fun i => ieq (s_ref08_Of_4 (k i) (r i) (m i) (f i) (g i) (d i)) 0) n
  have l8 : ilt (8 : Int) (Int.ofNat n) = false := ilt_false (by simp only [Int.ofNat_eq_natCast]; omega)
  have hp := run_to (ok := ok_mass_Parts_L0 n k r m f g d c (Int.ofNat n)) (go := go_mass_Parts_L0 n k r m f g d c (Int.ofNat n)) (step := step_mass_Parts_L0 n k r m f g d c (Int.ofNat n)) (pS n k r m f g d c) j
    (fun i hi => by
      obtain ⟨p1, p0⟩ := pS_at (n := n) (k := k) (r := r) (m := m) (f := f) (g := g) (d := d) (c := c) i (by omega)
      unfold ok_mass_Parts_L0
      simp only [p1, toNat_of, ile_ofNat]
      by_cases h : i < n
      · simp only [(H i h).op, allB_true, blt_true h, ble_true (Nat.le_refl _), ble_true (show ((pS n k r m f g d c i).v0 + 1) * 32 ≤ 140737488355328 by omega), Bool.and_self, mrg_same]
      · rw [ilt_ofNat]; simp [h, mrgB_eq])
    (fun i hi => by
      have p1 := (pS_at (n := n) (k := k) (r := r) (m := m) (f := f) (g := g) (d := d) (c := c) i (by omega)).1
      unfold go_mass_Parts_L0
      simp only [p1, toNat_of]
      rw [go_any (show i < n by omega), Bool.not_not, (H i (by omega)).e4]; exact hall i hi)
    (fun i hi => rfl)
    (by
      have p1 := (pS_at (n := n) (k := k) (r := r) (m := m) (f := f) (g := g) (d := d) (c := c) j (by omega)).1
      unfold go_mass_Parts_L0
      simp only [p1, toNat_of]
      by_cases h : j < n
      · rw [go_any h, Bool.not_not, (H j h).e4]; exact hend.resolve_left (by omega)
      · have : j = n := by omega
        subst this; exact go_end)
  have hr := run_to (ok := ok_ref08_Parts_L0 n k r m f g d c) (go := go_ref08_Parts_L0 n k r m f g d c) (step := step_ref08_Parts_L0 n k r m f g d c) (rS n k r m f g d c) j
    (fun i hi => by
      have p1 := rS_at (n := n) (k := k) (r := r) (m := m) (f := f) (g := g) (d := d) (c := c) i (by omega)
      have p0 := (pS_at (n := n) (k := k) (r := r) (m := m) (f := f) (g := g) (d := d) (c := c) i (by omega)).2
      rw [(S_same (c := c) H (by omega) i (by omega)).1] at p0
      unfold ok_ref08_Parts_L0
      simp only [p1, toNat_of, ile_ofNat]
      by_cases h : i < n
      · simp only [(H i h).or, allB_true, blt_true h, ble_true (Nat.le_refl _), ble_true (show ((rS n k r m f g d c i).v0 + 1) * 32 ≤ 140737488355328 by omega), Bool.and_self, mrg_same]
      · rw [ilt_ofNat]; simp [h, mrgB_eq])
    (fun i hi => by
      have p1 := rS_at (n := n) (k := k) (r := r) (m := m) (f := f) (g := g) (d := d) (c := c) i (by omega)
      unfold go_ref08_Parts_L0
      simp only [p1, toNat_of]
      rw [go_any (show i < n by omega), Bool.not_not]; exact hall i hi)
    (fun i hi => rfl)
    (by
      have p1 := rS_at (n := n) (k := k) (r := r) (m := m) (f := f) (g := g) (d := d) (c := c) j (by omega)
      unfold go_ref08_Parts_L0
      simp only [p1, toNat_of]
      by_cases h : j < n
      · rw [go_any h, Bool.not_not]; exact hend.resolve_left (by omega)
      · have : j = n := by omega
        subst this; exact go_end)
  have pE : E_mass_Parts_L0 n k r m f g d c (Int.ofNat n) (V_mass_Parts_L0.mk 0 0 (fun _ => 0) (fun _ => 0) (fun _ => 0) (fun _ => 0)) = true := hp.1
  have pL : L_mass_Parts_L0 n k r m f g d c (Int.ofNat n) (V_mass_Parts_L0.mk 0 0 (fun _ => 0) (fun _ => 0) (fun _ => 0) (fun _ => 0)) = pS n k r m f g d c j := hp.2
  have rE : E_ref08_Parts_L0 n k r m f g d c (V_ref08_Parts_L0.mk 0 0 (fun _ => 0) (fun _ => 0) (fun _ => 0) (fun _ => 0)) = true := hr.1
  have rL : L_ref08_Parts_L0 n k r m f g d c (V_ref08_Parts_L0.mk 0 0 (fun _ => 0) (fun _ => 0) (fun _ => 0) (fun _ => 0)) = rS n k r m f g d c j := hr.2
  obtain ⟨a0, a2, a3, a4, a5⟩ := S_same (c := c) H (by omega) j hj
  obtain ⟨p1, p0⟩ := pS_at (n := n) (k := k) (r := r) (m := m) (f := f) (g := g) (d := d) (c := c) j (by omega)
  have r1 := rS_at (n := n) (k := k) (r := r) (m := m) (f := f) (g := g) (d := d) (c := c) j (by omega)
  have cfs := rS_cf (c := c) C (by omega) j hj
  obtain ⟨⟨j0, j1, j2, j3, j4⟩, jo1, jo2⟩ := Jn.join_same (n := (rS n k r m f g d c j).v0) (e0 := (rS n k r m f g d c j).v2) (e1 := (rS n k r m f g d c j).v3) (e2 := (rS n k r m f g d c j).v4) (e3 := (rS n k r m f g d c j).v5)
    (g0 := (rS n k r m f g d c j).v2) (g1 := (rS n k r m f g d c j).v3) (g2 := (rS n k r m f g d c j).v4) (g3 := (rS n k r m f g d c j).v5) (by rw [a0] at p0; omega) (fun _ _ => rfl) (fun _ _ => rfl) (fun _ _ => rfl) (fun _ _ => rfl) (fun i _ => (cfs i).1) (fun i _ => (cfs i).2)
  by_cases h : j < n
  · have he := hend.resolve_left (by omega)
    have lt : ilt (Int.ofNat j) (Int.ofNat n) = true := by rw [ilt_ofNat]; exact decide_eq_true h
    have e4 := (H j h).e4
    refine ⟨⟨?_, ?_, ?_, ?_, ?_⟩, ?_, ?_⟩
    · unfold s_mass_Parts_0 s_ref08_Parts_0; simp only [pL, rL, p1, r1, toNat_of, l8, lt, e4, he, Bool.not_true, Bool.not_false, cond_true, cond_false]
    · unfold s_mass_Parts_1 s_ref08_Parts_1; simp only [pL, rL, p1, r1, toNat_of, l8, lt, e4, he, Bool.not_true, Bool.not_false, cond_true, cond_false]
    · unfold s_mass_Parts_2 s_ref08_Parts_2; simp only [pL, rL, p1, r1, toNat_of, l8, lt, e4, he, Bool.not_true, Bool.not_false, cond_true, cond_false]
    · unfold s_mass_Parts_3 s_ref08_Parts_3; simp only [pL, rL, p1, r1, toNat_of, l8, lt, e4, he, Bool.not_true, Bool.not_false, cond_true, cond_false]
    · unfold s_mass_Parts_4 s_ref08_Parts_4; simp only [pL, rL, p1, r1, toNat_of, l8, lt, e4, he, Bool.not_true, Bool.not_false, cond_true, cond_false]
    · unfold o_mass_Parts; simp only [pE, pL, p1, toNat_of, l8, lt, e4, he, mrgB_eq, Bool.not_true, Bool.not_false, cond_true, cond_false]
    · unfold o_ref08_Parts; simp only [rE, rL, r1, toNat_of, l8, lt, he, mrgB_eq, Bool.not_true, Bool.not_false, cond_true, cond_false]
  · have lt : ilt (Int.ofNat j) (Int.ofNat n) = false := by rw [ilt_ofNat]; exact decide_eq_false h
    refine ⟨⟨?_, ?_, ?_, ?_, ?_⟩, ?_, ?_⟩
    · unfold s_mass_Parts_0 s_ref08_Parts_0; simp only [pL, rL, p1, r1, l8, lt, a0, a2, a3, a4, a5, j0, Bool.not_false, cond_true, cond_false]
    · unfold s_mass_Parts_1 s_ref08_Parts_1; simp only [pL, rL, p1, r1, l8, lt, a0, a2, a3, a4, a5, j1, Bool.not_false, cond_true, cond_false]
    · unfold s_mass_Parts_2 s_ref08_Parts_2; simp only [pL, rL, p1, r1, l8, lt, a0, a2, a3, a4, a5, j2, Bool.not_false, cond_true, cond_false]
    · unfold s_mass_Parts_3 s_ref08_Parts_3; simp only [pL, rL, p1, r1, l8, lt, a0, a2, a3, a4, a5, j3, Bool.not_false, cond_true, cond_false]
    · unfold s_mass_Parts_4 s_ref08_Parts_4; simp only [pL, rL, p1, r1, l8, lt, a0, a2, a3, a4, a5, j4, Bool.not_false, cond_true, cond_false]
    · unfold o_mass_Parts; simp only [pE, pL, p1, l8, lt, a0, a2, a3, a4, a5, jo1, ble_true (Nat.le_refl _), mrgB_eq, Bool.not_false, Bool.and_self, cond_true, cond_false]
    · unfold o_ref08_Parts; simp only [rE, rL, r1, l8, lt, jo2, ble_true (Nat.le_refl _), mrgB_eq, Bool.not_false, Bool.and_self, cond_true, cond_false]
theorem law_loop (h20 : n ≤ 20) : ∃ j, j ≤ n ∧ E_law08_MassParts_L0 n m (V_law08_MassParts_L0.mk 0) = true ∧ L_law08_MassParts_L0 n m (V_law08_MassParts_L0.mk 0) = V_law08_MassParts_L0.mk (Int.ofNat j) ∧ (∀ i, i < j → m i ≤ 100) ∧ (j = n ∨ 100 < m j) := by
  obtain ⟨j, _, hj, hE, hL, hall, hend⟩ := search (ok := ok_law08_MassParts_L0 n m) (go := go_law08_MassParts_L0 n m) (step := step_law08_MassParts_L0 n m) V_law08_MassParts_L0.mk (fun i => decide (m i ≤ 100)) 0 n (Nat.zero_le _)
    (fun k _ hk => by
      unfold ok_law08_MassParts_L0
      simp only [toNat_of, mrgB_eq, ilt_ofNat, ile_ofNat]
      by_cases h : k < n
      · simp [h, blt_true h]
      · simp [h])
    (fun k _ hk => by
      unfold go_law08_MassParts_L0
      simp only [toNat_of]
      rw [go_any hk, ilt_int]
      simp only [Int.ofNat_eq_natCast]
      by_cases h : m k ≤ 100
      · rw [decide_eq_true h, decide_eq_false (by omega)]; rfl
      · rw [decide_eq_false h, decide_eq_true (by omega)]; rfl) (by unfold go_law08_MassParts_L0; exact go_end)
    (fun k _ hk => by unfold step_law08_MassParts_L0; rw [succ_i64 (by omega)])
  exact ⟨j, hj, hE, hL, fun i hi => of_decide_eq_true (hall i (Nat.zero_le _) hi), hend.imp id fun h => by have := of_decide_eq_false h; omega⟩
theorem parts_good (n : Nat) (k : Nat → Int) (r m : Nat → Nat) (f g : Nat → Nat → Nat) (d e5 e6 : Nat → Nat) (c : Nat → Bool) (h7 h8 : Nat → Int) (hg : GoodA (.sl 72 [.i .u8, .f, .sl 16 [.f, .f], .f, .f, .f, .b, .i .u16, .i .u16]) (.view n 9 (fun i0 => [AV.int .u8 (k i0), AV.float (r i0), AV.view (m i0) 2 (fun i1 => [AV.float (f i0 i1), AV.float (g i0 i1)]), AV.float (d i0), AV.float (e5 i0), AV.float (e6 i0), AV.bool (c i0), AV.int .u16 (h7 i0), AV.int .u16 (h8 i0)]))) : ∀ i, i < n → 0 ≤ k i ∧ k i ≤ 255 ∧ (∀ j, j < m i → CF (f i j)) ∧ (∀ j, j < m i → CF (g i j)) ∧ CF (d i) := by
  simp only [GoodAs, GoodA, atL, flO, inO, lnO, vwO, List.getD_cons_zero, List.getD_cons_succ] at hg
  intro i hi
  obtain ⟨⟨a, b⟩, c1, ⟨_, e⟩, dd, _⟩ := hg.2 i hi
  exact ⟨by simpa [IntKind.min, IntKind.signed] using a, by simpa [IntKind.max, IntKind.signed, IntKind.bits] using b, fun j hj => (e j hj).1, fun j hj => (e j hj).2.1, dd⟩
theorem law_MassParts (n : Nat) (k : Nat → Int) (r m : Nat → Nat) (f g : Nat → Nat → Nat) (d e5 e6 : Nat → Nat) (c : Nat → Bool) (h7 h8 : Nat → Int) (hg : GoodA (.sl 72 [.i .u8, .f, .sl 16 [.f, .f], .f, .f, .f, .b, .i .u16, .i .u16]) (.view n 9 (fun i0 => [AV.int .u8 (k i0), AV.float (r i0), AV.view (m i0) 2 (fun i1 => [AV.float (f i0 i1), AV.float (g i0 i1)]), AV.float (d i0), AV.float (e5 i0), AV.float (e6 i0), AV.bool (c i0), AV.int .u16 (h7 i0), AV.int .u16 (h8 i0)]))) : T_law08_MassParts n k r m f g d e5 e6 c h7 h8 = true := by
  have good := parts_good n k r m f g d e5 e6 c h7 h8 hg
  have haw : s_law08_alive_0 = true := rfl
  unfold T_law08_MassParts
  by_cases h20 : n ≤ 20
  · obtain ⟨j, hj, hE, hL, hall, hend⟩ := law_loop (m := m) h20
    simp only [haw, hL, toNat_of, ilt_false (show Int.ofNat n ≤ (20 : Int) by simp only [Int.ofNat_eq_natCast]; omega), Bool.not_true, cond_false, Bool.true_and]
    by_cases h : j < n
    · have he := hend.resolve_left (by omega)
      rw [ilt_ofNat, decide_eq_true h, ilt_int, decide_eq_true (show (100 : Int) < Int.ofNat (m j) by simp only [Int.ofNat_eq_natCast]; omega)]; rfl
    · rw [ilt_ofNat, decide_eq_false h, Bool.not_false, cond_true, cond_false]
      by_cases h8' : n ≤ 8
      · have H : ∀ i, i < n → OfSame (k i) (r i) (m i) (f i) (g i) (f i) (g i) (d i) := fun i hi => by
          obtain ⟨k0, k1, cf, cg, cd⟩ := good i hi
          exact of_same ⟨fun _ _ => rfl, fun _ _ => rfl, cf, cg⟩ k0 k1 (by have := hall i (by omega); omega) cd
        have C : ∀ i, i < n → CF (s_ref08_Of_2 (k i) (r i) (m i) (f i) (g i) (d i)) ∧ CF (s_ref08_Of_3 (k i) (r i) (m i) (f i) (g i) (d i)) := fun i hi => by
          obtain ⟨k0, k1, cf, cg, cd⟩ := good i hi
          exact of_cf cf cg k0 k1 (by have := hall i (by omega); omega)
        obtain ⟨⟨a0, a1, a2, a3, a4⟩, _, _⟩ := parts_same (c := c) (e5 := e5) (e6 := e6) (h7 := h7) (h8 := h8) h8' H C
        rw [a0, a1, a2, a3, a4, ieq_self]
        unfold s_ref08_Same_0 s_ref02_Same_0
        rw [is_same, is_same, is_same, is_same]; rfl
      · have l8 : ilt (8 : Int) (Int.ofNat n) = true := ilt_true (by simp only [Int.ofNat_eq_natCast]; omega)
        unfold s_mass_Parts_0 s_mass_Parts_1 s_mass_Parts_2 s_mass_Parts_3 s_mass_Parts_4 s_ref08_Parts_0 s_ref08_Parts_1 s_ref08_Parts_2 s_ref08_Parts_3 s_ref08_Parts_4
        simp only [l8, cond_true]
        decide
  · simp only [haw, ilt_true (show (20 : Int) < Int.ofNat n by simp only [Int.ofNat_eq_natCast]; omega), Bool.not_true, cond_true, cond_false]
theorem ob_law_MassParts (n : Nat) (k : Nat → Int) (r m : Nat → Nat) (f g : Nat → Nat → Nat) (d e5 e6 : Nat → Nat) (c : Nat → Bool) (h7 h8 : Nat → Int) (hg : GoodA (.sl 72 [.i .u8, .f, .sl 16 [.f, .f], .f, .f, .f, .b, .i .u16, .i .u16]) (.view n 9 (fun i0 => [AV.int .u8 (k i0), AV.float (r i0), AV.view (m i0) 2 (fun i1 => [AV.float (f i0 i1), AV.float (g i0 i1)]), AV.float (d i0), AV.float (e5 i0), AV.float (e6 i0), AV.bool (c i0), AV.int .u16 (h7 i0), AV.int .u16 (h8 i0)]))) : O_law08_MassParts n k r m f g d e5 e6 c h7 h8 = true := by
  have good := parts_good n k r m f g d e5 e6 c h7 h8 hg
  have haw : s_law08_alive_0 = true := rfl
  unfold O_law08_MassParts
  by_cases h20 : n ≤ 20
  · obtain ⟨j, hj, hE, hL, hall, hend⟩ := law_loop (m := m) h20
    by_cases h : j < n
    · have he := hend.resolve_left (by omega)
      simp only [haw, hE, hL, toNat_of, ilt_false (show Int.ofNat n ≤ (20 : Int) by simp only [Int.ofNat_eq_natCast]; omega), allB_true, Bool.and_self, Bool.true_and, Bool.not_true, mrgB_eq, cond_false]
      rw [ilt_ofNat, decide_eq_true h, ilt_int, decide_eq_true (show (100 : Int) < Int.ofNat (m j) by simp only [Int.ofNat_eq_natCast]; omega)]; rfl
    · have ho : o_mass_Parts n k r m f g d e5 e6 c h7 h8 = true ∧ o_ref08_Parts n k r m f g d e5 e6 c h7 h8 = true := by
        by_cases h8' : n ≤ 8
        · have H : ∀ i, i < n → OfSame (k i) (r i) (m i) (f i) (g i) (f i) (g i) (d i) := fun i hi => by
            obtain ⟨k0, k1, cf, cg, cd⟩ := good i hi
            exact of_same ⟨fun _ _ => rfl, fun _ _ => rfl, cf, cg⟩ k0 k1 (by have := hall i (by omega); omega) cd
          have C : ∀ i, i < n → CF (s_ref08_Of_2 (k i) (r i) (m i) (f i) (g i) (d i)) ∧ CF (s_ref08_Of_3 (k i) (r i) (m i) (f i) (g i) (d i)) := fun i hi => by
            obtain ⟨k0, k1, cf, cg, cd⟩ := good i hi
            exact of_cf cf cg k0 k1 (by have := hall i (by omega); omega)
          exact (parts_same (c := c) (e5 := e5) (e6 := e6) (h7 := h7) (h8 := h8) h8' H C).2
        · have l8 : ilt (8 : Int) (Int.ofNat n) = true := ilt_true (by simp only [Int.ofNat_eq_natCast]; omega)
          unfold o_mass_Parts o_ref08_Parts
          simp only [l8, mrgB_eq, cond_true, and_self]
      simp only [haw, hE, ho.1, ho.2, allB_true, Bool.and_self, Bool.true_and, Bool.and_true, mrg_same]
  · simp only [haw, ilt_true (show (20 : Int) < Int.ofNat n by simp only [Int.ofNat_eq_natCast]; omega), Bool.not_true, mrgB_eq, cond_true, cond_false]
end Go.Proofs.YtbkogihigehjlaaGreat
