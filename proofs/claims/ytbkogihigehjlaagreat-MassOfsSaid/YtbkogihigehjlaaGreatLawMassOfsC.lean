/- Every shape and density: what it weighs, as the document says; the shape stays. -/
import Derived.Test.YtbkogihigehjlaaGreatLawShpHC
set_option linter.unusedVariables false
set_option linter.unusedSimpArgs false
set_option maxHeartbeats 4000000
namespace Go.Proofs.YtbkogihigehjlaaGreat
open Go.Sim Go.Lst Ieee
variable {n : Nat} {f g : Nat → Nat}
theorem is_same (a : Nat) : s_ref02_Is_0 a a = true := by unfold s_ref02_Is_0; exact ieq_self _
theorem kept_loop {N : Nat} {F G : Nat → Nat} (hN : n + 2 ≤ N) (h100 : n ≤ 100) (hs : ∀ i, i < n → s_ref02_Same_0 (F i) (G i) (f i) (g i) = true) :
    E_law08_kept_L0 N F G n n f g (V_law08_kept_L0.mk 0) = true ∧ L_law08_kept_L0 N F G n n f g (V_law08_kept_L0.mk 0) = V_law08_kept_L0.mk (Int.ofNat n) := by
  have hr := run_to (ok := ok_law08_kept_L0 N F G n n f g) (go := go_law08_kept_L0 N F G n n f g) (step := step_law08_kept_L0 N F G n n f g) (fun k => V_law08_kept_L0.mk (Int.ofNat k)) n
    (fun k hk => by
      unfold ok_law08_kept_L0
      simp only [toNat_of, mrgB_eq, ilt_ofNat, ile_ofNat]
      by_cases h : k < n
      · rw [blt_true h, blt_true (show k < N by omega)]; simp [h]
      · simp [h])
    (fun k hk => by unfold go_law08_kept_L0; simp only [toNat_of]; rw [go_any hk, Bool.not_not]; exact hs k hk)
    (fun k hk => by unfold step_law08_kept_L0; rw [succ_i64 (by omega)]) (by unfold go_law08_kept_L0; exact go_end)
  exact hr
theorem lent_at {k : Int} {r : Nat} : (∀ i, i < n → s_law08_lent_5 k r n f g i = f i ∧ s_law08_lent_6 k r n f g i = g i) ∧ s_law08_lent_5 k r n f g n = 4635118810238550016 ∧ s_law08_lent_6 k r n f g n = 0 ∧ s_law08_lent_5 k r n f g (n + 1) = 4635189178982727680 ∧ s_law08_lent_6 k r n f g (n + 1) = 0 := by
  unfold s_law08_lent_5 s_law08_lent_6
  refine ⟨fun i hi => ?_, ?_, ?_, ?_, ?_⟩
  · rw [blt_true (show i < 0 + n by omega)]; exact ⟨rfl, rfl⟩
  · rw [blt_false (show 0 + n ≤ n by omega), show n - (0 + n) = 0 by omega]; rfl
  · rw [blt_false (show 0 + n ≤ n by omega), Bool.cond_self]; rfl
  · rw [blt_false (show 0 + n ≤ n + 1 by omega), show n + 1 - (0 + n) = 1 by omega]; rfl
  · rw [blt_false (show 0 + n ≤ n + 1 by omega), Bool.cond_self]; rfl
theorem good_two {k : Int} {r : Nat} (hg : GoodAs ([.i .u8, .f, .sl 16 [.f, .f]] : List Kd) [AV.int .u8 k, AV.float r, AV.view n 2 (fun i => [AV.float (f i), AV.float (g i)])] 0) :
    0 ≤ k ∧ k ≤ 255 ∧ CF r ∧ (∀ i, i < n → CF (f i)) ∧ (∀ i, i < n → CF (g i)) := by
  simp only [GoodAs, GoodA, atL, flO, inO, lnO, vwO, List.getD_cons_zero, List.getD_cons_succ] at hg
  obtain ⟨⟨a, b⟩, c, ⟨_, d⟩, _⟩ := hg
  exact ⟨by simpa [IntKind.min, IntKind.signed] using a, by simpa [IntKind.max, IntKind.signed, IntKind.bits] using b, c, fun i hi => (d i hi).1, fun i hi => (d i hi).2.1⟩
theorem law_MassOfs (k : Int) (r n : Nat) (f g : Nat → Nat) (d : Nat) (hg : GoodAs ([.i .u8, .f, .sl 16 [.f, .f]] : List Kd) [AV.int .u8 k, AV.float r, AV.view n 2 (fun i => [AV.float (f i), AV.float (g i)])] 0) (hd : GoodA (.f : Kd) (AV.float d)) : T_law08_MassOfs k r n f g d = true := by
  obtain ⟨k0, k1, cr, cf, cg⟩ := good_two hg
  have cd : CF d := hd
  have haw : s_law08_alive_0 = true := rfl
  unfold T_law08_MassOfs
  simp only [haw, Bool.not_true, cond_false, Bool.true_and]
  by_cases h100 : n ≤ 100
  · rw [ilt_false (show Int.ofNat n ≤ (100 : Int) by simp only [Int.ofNat_eq_natCast]; omega), cond_false]
    obtain ⟨l1, l2, l3, l4, l5⟩ := lent_at (n := n) (f := f) (g := g) (k := k) (r := r)
    have t : Two n f g (s_law08_lent_5 k r n f g) (s_law08_lent_6 k r n f g) := ⟨fun i hi => (l1 i hi).1, fun i hi => (l1 i hi).2, cf, cg⟩
    have s := of_same t (r := r) (d := d) k0 k1 (by omega) cd
    have kl := kept_loop (n := n) (N := n + 2) (f := f) (g := g) (F := s_law08_lent_5 k r n f g) (G := s_law08_lent_6 k r n f g) (Nat.le_refl _) h100 (fun i hi => by
      rw [(l1 i hi).1, (l1 i hi).2]; unfold s_ref02_Same_0; rw [is_same, is_same]; rfl)
    have hk : s_law08_kept_0 k r n (n + 2) k r n f g (n + 2) (s_law08_lent_5 k r n f g) (s_law08_lent_6 k r n f g) = true := by
      unfold s_law08_kept_0
      simp only [kl.2, toNat_of]
      rw [ilt_ofNat, decide_eq_false (Nat.lt_irrefl n), Bool.not_false, cond_true, cond_false, succ_i64 (by omega), toNat_of, l2, l3, l4, l5]
      decide
    have e0 : s_law08_lent_0 k r n f g = k := rfl
    have e1 : s_law08_lent_1 k r n f g = r := rfl
    have e2 : s_law08_lent_2 k r n f g = n := rfl
    have e3 : s_law08_lent_3 k r n f g = n + 2 := by show 0 + n + 2 = n + 2; omega
    have e4 : s_law08_lent_4 k r n f g = n + 2 := by show 0 + n + 2 = n + 2; omega
    rw [e0, e1, e2, e3, e4, hk, s.e0, s.e1, s.e2, s.e3, s.e4, ieq_self]
    unfold s_ref08_Same_0 s_ref02_Same_0
    rw [is_same, is_same, is_same, is_same]; rfl
  · rw [ilt_true (show (100 : Int) < Int.ofNat n by simp only [Int.ofNat_eq_natCast]; omega), cond_true]
theorem ob_law_MassOfs (k : Int) (r n : Nat) (f g : Nat → Nat) (d : Nat) (hg : GoodAs ([.i .u8, .f, .sl 16 [.f, .f]] : List Kd) [AV.int .u8 k, AV.float r, AV.view n 2 (fun i => [AV.float (f i), AV.float (g i)])] 0) (hd : GoodA (.f : Kd) (AV.float d)) : O_law08_MassOfs k r n f g d = true := by
  obtain ⟨k0, k1, cr, cf, cg⟩ := good_two hg
  have cd : CF d := hd
  have haw : s_law08_alive_0 = true := rfl
  unfold O_law08_MassOfs
  by_cases h100 : n ≤ 100
  · obtain ⟨l1, l2, l3, l4, l5⟩ := lent_at (n := n) (f := f) (g := g) (k := k) (r := r)
    have t : Two n f g (s_law08_lent_5 k r n f g) (s_law08_lent_6 k r n f g) := ⟨fun i hi => (l1 i hi).1, fun i hi => (l1 i hi).2, cf, cg⟩
    have s := of_same t (r := r) (d := d) k0 k1 (by omega) cd
    have kl := kept_loop (n := n) (N := n + 2) (f := f) (g := g) (F := s_law08_lent_5 k r n f g) (G := s_law08_lent_6 k r n f g) (Nat.le_refl _) h100 (fun i hi => by
      rw [(l1 i hi).1, (l1 i hi).2]; unfold s_ref02_Same_0; rw [is_same, is_same]; rfl)
    have hk : o_law08_kept k r n (n + 2) k r n f g (n + 2) (s_law08_lent_5 k r n f g) (s_law08_lent_6 k r n f g) = true := by
      unfold o_law08_kept
      have w2 : IntKind.wrap .i64 (Int.ofNat n + 2) = Int.ofNat (n + 2) := wrap_i64 (by simp only [Int.ofNat_eq_natCast]; omega) (by simp only [Int.ofNat_eq_natCast]; omega)
      rw [w2, succ_i64 (by omega)]
      simp only [kl.1, kl.2, toNat_of, ile_ofNat, ble_true (Nat.le_refl (n + 2)), blt_true (show n < n + 2 by omega), blt_true (show n + 1 < n + 2 by omega), Bool.true_or, Bool.and_self, Bool.true_and, mrg_same]
    have e0 : s_law08_lent_0 k r n f g = k := rfl
    have e1 : s_law08_lent_1 k r n f g = r := rfl
    have e2 : s_law08_lent_2 k r n f g = n := rfl
    have e3 : s_law08_lent_3 k r n f g = n + 2 := by show 0 + n + 2 = n + 2; omega
    have e4 : s_law08_lent_4 k r n f g = n + 2 := by show 0 + n + 2 = n + 2; omega
    simp only [e0, e1, e2, e3, e4, hk, s.op, s.or, haw, allB_true, mrg_same, Nat.zero_add, ble_true (Nat.le_refl n), ble_true (show n ≤ n + 2 by omega), ble_true (show (n + 2) * 16 ≤ 140737488355328 by omega), ble_true (show n * 16 ≤ 140737488355328 by omega), Bool.true_or, Bool.and_self, Bool.true_and, Bool.and_true]
  · simp only [haw, ilt_true (show (100 : Int) < Int.ofNat n by simp only [Int.ofNat_eq_natCast]; omega), Bool.not_true, mrgB_eq, cond_true, cond_false]
end Go.Proofs.YtbkogihigehjlaaGreat
