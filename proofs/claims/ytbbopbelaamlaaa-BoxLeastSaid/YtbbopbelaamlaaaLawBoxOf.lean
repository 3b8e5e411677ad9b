/- Boxes of lists of places: the program's and the document's go through the list alike. -/
import Derived.Test.YtbbopbelaamlaaaLawBoxNum
set_option linter.unusedVariables false
set_option linter.unusedSimpArgs false
namespace Go.Proofs.Ytbbopbelaamlaaa
open Go.Sim Go.Lst
def foldN (f : Nat → Nat → Nat) (g : Nat → Nat) : Nat → Nat
  | 0 => g 0
  | k + 1 => f (foldN f g k) (g k)
theorem foldN_congr {f : Nat → Nat → Nat} {g h : Nat → Nat} {n : Nat} (hn : 0 < n) (hg : ∀ i, i < n → g i = h i) : ∀ k, k ≤ n → foldN f g k = foldN f h k
  | 0, _ => hg 0 hn
  | k + 1, hk => by simp only [foldN]; rw [foldN_congr hn hg k (by omega), hg k (by omega)]
theorem foldN_cf {f : Nat → Nat → Nat} (hf : ∀ a b, CF a → CF b → CF (f a b)) {g : Nat → Nat} {n : Nat} (hn : 0 < n) (hg : ∀ i, i < n → CF (g i)) : ∀ k, k ≤ n → CF (foldN f g k)
  | 0, _ => hg 0 hn
  | k + 1, hk => hf _ _ (foldN_cf hf hn hg k (by omega)) (hg k (by omega))
/-- The program's loop. -/
noncomputable def boxS (g h : Nat → Nat) (k : Nat) : V_box_Of_L0 := V_box_Of_L0.mk (Int.ofNat k) (foldN s_num_Least_float64__0 g k) (foldN s_num_Least_float64__0 h k) (foldN s_num_Most_float64__0 g k) (foldN s_num_Most_float64__0 h k)
theorem box_loop {n : Nat} (hn : n < 9223372036854775807) (g h : Nat → Nat) :
    E_box_Of_L0 n g h (Int.ofNat n) (V_box_Of_L0.mk 0 (g 0) (h 0) (g 0) (h 0)) = true ∧ L_box_Of_L0 n g h (Int.ofNat n) (V_box_Of_L0.mk 0 (g 0) (h 0) (g 0) (h 0)) = boxS g h n := by
  refine run_to (boxS g h) n (fun k hk => ?_) (fun k hk => ?_) (fun k hk => ?_) ?_
  · unfold ok_box_Of_L0 boxS
    simp only [ile_ofNat, toNat_of, ilt_ofNat, Bool.true_and]
    by_cases hkn : k < n
    · rw [blt_true hkn]; simp
    · simp [hkn]
  · unfold go_box_Of_L0 boxS; rw [ilt_ofNat]; simp [hk]
  · unfold step_box_Of_L0 boxS
    simp only [toNat_of]
    rw [succ_i64 (by omega)]
    rfl
  · unfold go_box_Of_L0 boxS; rw [ilt_ofNat]; simp
/-- The document's loop. -/
noncomputable def refS (g h : Nat → Nat) (k : Nat) : V_ref05_Of_L0 := V_ref05_Of_L0.mk (Int.ofNat (k + 1)) (foldN s_num_Least_float64__0 g (k + 1)) (foldN s_num_Least_float64__0 h (k + 1)) (foldN s_num_Most_float64__0 g (k + 1)) (foldN s_num_Most_float64__0 h (k + 1))
theorem ref_loop {n : Nat} (hn : n < 9223372036854775807) (hp : 0 < n) (g h : Nat → Nat) (hg : ∀ i, i < n → CF (g i)) (hh : ∀ i, i < n → CF (h i)) :
    E_ref05_Of_L0 n g h (V_ref05_Of_L0.mk 1 (g 0) (h 0) (g 0) (h 0)) = true ∧ L_ref05_Of_L0 n g h (V_ref05_Of_L0.mk 1 (g 0) (h 0) (g 0) (h 0)) = refS g h (n - 1) := by
  have e : V_ref05_Of_L0.mk 1 (g 0) (h 0) (g 0) (h 0) = refS g h 0 := by unfold refS; simp only [foldN, least_self, most_self]; rfl
  rw [e]
  refine run_to (refS g h) (n - 1) (fun k hk => ?_) (fun k hk => ?_) (fun k hk => ?_) ?_
  · unfold ok_ref05_Of_L0 refS
    simp only [ile_ofNat, toNat_of, ilt_ofNat, Bool.true_and]
    by_cases hkn : k + 1 < n
    · rw [blt_true hkn]; simp
    · simp [hkn]
  · unfold go_ref05_Of_L0 refS
    rw [ilt_ofNat]
    have : k + 1 < n := by omega
    simp [this]
  · unfold step_ref05_Of_L0 refS
    simp only [toNat_of]
    rw [succ_i64 (by omega)]
    have c1 := foldN_cf (fun a b => least_cf (a := a) (b := b)) hp hg (k + 1) (by omega)
    have c2 := foldN_cf (fun a b => least_cf (a := a) (b := b)) hp hh (k + 1) (by omega)
    have c3 := foldN_cf (fun a b => most_cf (a := a) (b := b)) hp hg (k + 1) (by omega)
    have c4 := foldN_cf (fun a b => most_cf (a := a) (b := b)) hp hh (k + 1) (by omega)
    have d1 := hg (k + 1) (by omega)
    have d2 := hh (k + 1) (by omega)
    show V_ref05_Of_L0.mk _ (s_ref01_Least_0 _ _) (s_ref01_Least_0 _ _) (s_ref01_Most_0 _ _) (s_ref01_Most_0 _ _) = _
    rw [← least_eq c1 d1, ← least_eq c2 d2, ← most_eq c3 d1, ← most_eq c4 d2]
    rfl
  · unfold go_ref05_Of_L0 refS
    rw [ilt_ofNat]
    have : ¬ n - 1 + 1 < n := by omega
    simp [this]
theorem isz {n : Nat} : ieq (Int.ofNat n) 0 = decide (n = 0) := by simp [ieq]
/-- The box of a list, of which the first places are another one's. -/
theorem box_of {n : Nat} (hn : n < 9223372036854775807) (g h p q : Nat → Nat) (hg : ∀ i, i < n → p i = g i) (hh : ∀ i, i < n → q i = h i) (cg : ∀ i, i < n → CF (g i)) (ch : ∀ i, i < n → CF (h i)) :
    o_box_Of n p q = true ∧ s_box_Of_0 n p q = s_ref05_Of_0 n g h ∧ s_box_Of_1 n p q = s_ref05_Of_1 n g h ∧ s_box_Of_2 n p q = s_ref05_Of_2 n g h ∧ s_box_Of_3 n p q = s_ref05_Of_3 n g h ∧ s_box_Of_4 n p q = s_ref05_Of_4 n g h := by
  by_cases h0 : n = 0
  · subst h0
    unfold o_box_Of s_box_Of_0 s_box_Of_1 s_box_Of_2 s_box_Of_3 s_box_Of_4 s_ref05_Of_0 s_ref05_Of_1 s_ref05_Of_2 s_ref05_Of_3 s_ref05_Of_4
    rw [isz]; simp
  · have hp : 0 < n := by omega
    obtain ⟨e1, l1⟩ := box_loop hn p q
    obtain ⟨_, l2⟩ := ref_loop hn hp g h cg ch
    unfold o_box_Of s_box_Of_0 s_box_Of_1 s_box_Of_2 s_box_Of_3 s_box_Of_4 s_ref05_Of_0 s_ref05_Of_1 s_ref05_Of_2 s_ref05_Of_3 s_ref05_Of_4
    rw [e1, l1, l2]
    simp only [isz, h0, decide_false, cond_false, boxS, refS, Bool.false_or, blt_true hp]
    have hk : n - 1 + 1 = n := by omega
    rw [hk]
    exact ⟨rfl, foldN_congr hp hg n (Nat.le_refl _), foldN_congr hp hh n (Nat.le_refl _), foldN_congr hp hg n (Nat.le_refl _), foldN_congr hp hh n (Nat.le_refl _), by simp⟩
theorem ref_ob {n : Nat} (hn : n < 9223372036854775807) (g h : Nat → Nat) (cg : ∀ i, i < n → CF (g i)) (ch : ∀ i, i < n → CF (h i)) : o_ref05_Of n g h = true := by
  unfold o_ref05_Of
  rw [isz]
  by_cases h0 : n = 0
  · simp [h0]
  · rw [(ref_loop hn (by omega) g h cg ch).1, blt_true (by omega : 0 < n)]; simp
/-- The law's own loop: all places are as they were. -/
theorem law_loop {n m : Nat} (hn : n < 9223372036854775807) (hm : n ≤ m) (g h p q : Nat → Nat) (hg : ∀ i, i < n → p i = g i) (hh : ∀ i, i < n → q i = h i) :
    E_law05_BoxOf_L0 n g h m p q (V_law05_BoxOf_L0.mk 0) = true ∧ L_law05_BoxOf_L0 n g h m p q (V_law05_BoxOf_L0.mk 0) = V_law05_BoxOf_L0.mk (Int.ofNat n) := by
  have same : ∀ i, i < n → s_ref02_Same_0 (p i) (q i) (g i) (h i) = true := fun i hi => by
    rw [hg i hi, hh i hi]; exact and_of (is_self _) (is_self _)
  refine run_to (fun k => V_law05_BoxOf_L0.mk (Int.ofNat k)) n (fun k hk => ?_) (fun k hk => ?_) (fun k hk => ?_) ?_
  · unfold ok_law05_BoxOf_L0
    simp only [ile_ofNat, toNat_of, ilt_ofNat, Bool.true_and]
    by_cases hkn : k < n
    · rw [blt_true hkn, blt_true (by omega : k < m), same k hkn]; simp
    · simp [hkn]
  · unfold go_law05_BoxOf_L0
    simp only [toNat_of, ilt_ofNat]
    rw [same k hk]; simp [hk]
  · unfold step_law05_BoxOf_L0
    simp only
    rw [succ_i64 (by omega)]
  · unfold go_law05_BoxOf_L0
    simp only [ilt_ofNat]; simp
theorem good_list {n : Nat} {g h : Nat → Nat} (hgood : GoodA (.sl 16 [.f, .f]) (.view n 2 (fun i => [.float (g i), .float (h i)]))) : n * 16 ≤ 140737488351232 ∧ (∀ i, i < n → CF (g i)) ∧ (∀ i, i < n → CF (h i)) := by
  obtain ⟨h1, h2⟩ := hgood
  exact ⟨h1, fun i hi => (h2 i hi).1, fun i hi => (h2 i hi).2.1⟩
theorem law_BoxOf (n : Nat) (g h : Nat → Nat) (hgood : GoodA (.sl 16 [.f, .f]) (.view n 2 (fun i => [.float (g i), .float (h i)]))) : T_law05_BoxOf n g h = true := by
  obtain ⟨hb, cg, ch⟩ := good_list hgood
  have hn : n < 9223372036854775807 := by omega
  unfold T_law05_BoxOf
  extract_lets x0 x1 x2 x3 x4 x5 x6 x7 x8 x9 x10
  have hp : ∀ i, i < n → (fun j0 => bif Nat.blt j0 (0 + n) then g j0 else bif Nat.beq (j0 - (0 + n)) 0 then 4635118810238550016 else 0) i = g i := fun i hi => by
    simp only [Nat.zero_add, blt_true hi, cond_true]
  have hq : ∀ i, i < n → (fun j0 => bif Nat.blt j0 (0 + n) then h j0 else bif Nat.beq (j0 - (0 + n)) 0 then 0 else 4635189178982727680) i = h i := fun i hi => by
    simp only [Nat.zero_add, blt_true hi, cond_true]
  obtain ⟨_, b0, b1, b2, b3, b4⟩ := box_of hn g h _ _ hp hq cg ch
  have e5 : x5 = Int.ofNat n := by
    show (L_law05_BoxOf_L0 _ _ _ _ _ _ _).v0 = _
    rw [(law_loop hn (by omega) g h _ _ hp hq).2]
  have e0 : x0 = n + 1 := by
    show Int.toNat _ = _
    rw [succ_i64 (by omega)]; rfl
  have e1 : x1 = false := by show Nat.beq (x0 - (0 + n)) 0 = false; rw [e0]; exact beqn_false (by omega)
  have e2 : x2 = false := by show Nat.blt x0 (0 + n) = false; rw [e0]; exact blt_false (by omega)
  have e3 : x3 = true := by show Nat.beq (n - (0 + n)) 0 = true; rw [Nat.zero_add, Nat.sub_self]; rfl
  have e4 : x4 = false := by show Nat.blt n (0 + n) = false; exact blt_false (by omega)
  rw [b0, b1, b2, b3, b4, e1, e2, e3, e4, e5, ilt_ofNat]
  have hlt : decide (n < n) = false := by simp
  rw [hlt]
  simp only [Bool.not_false, cond_true, cond_false]
  rw [same_of rfl rfl rfl rfl, beq_of rfl]
  decide
theorem ob_law_BoxOf (n : Nat) (g h : Nat → Nat) (hgood : GoodA (.sl 16 [.f, .f]) (.view n 2 (fun i => [.float (g i), .float (h i)]))) : O_law05_BoxOf n g h = true := by
  obtain ⟨hb, cg, ch⟩ := good_list hgood
  have hn : n < 9223372036854775807 := by omega
  have hp : ∀ i, i < n → (fun j0 => bif Nat.blt j0 (0 + n) then g j0 else bif Nat.beq (j0 - (0 + n)) 0 then 4635118810238550016 else 0) i = g i := fun i hi => by
    simp only [Nat.zero_add, blt_true hi, cond_true]
  have hq : ∀ i, i < n → (fun j0 => bif Nat.blt j0 (0 + n) then h j0 else bif Nat.beq (j0 - (0 + n)) 0 then 0 else 4635189178982727680) i = h i := fun i hi => by
    simp only [Nat.zero_add, blt_true hi, cond_true]
  obtain ⟨o1, _⟩ := box_of hn g h _ _ hp hq cg ch
  have o2 := ref_ob hn g h cg ch
  have o3 := (law_loop hn (m := 0 + n + 2) (by omega) g h _ _ hp hq).1
  unfold O_law05_BoxOf
  extract_lets x0 x1 x2 x3 x4 x5 x6 x7 x8 x9 x10 x11 x12 x13 x14 x15 x16 x17 x18
  have e1 : x1 = true := eqT_self _
  have e2 : x2 = true := ble_true (show n ≤ 0 + n + 2 by omega)
  have e3 : x3 = true := by
    show (((((allB fun _ => true) && (o_ref05_Of n g h)) && ((x2 && ((allB fun _ => true) && (o_box_Of n _ _))) && ((x2 || x2) && (((Nat.ble (0 + n) (0 + n)) && (Nat.ble (x0 * 16) 140737488355328)) && (Nat.ble ((0 + n) * 16) 140737488355328))))) && (((((allB fun _ => true) && (allB fun _ => true)) && x1) && x1) && (E_law05_BoxOf_L0 n g h x0 _ _ _)))) = true
    rw [o1, o2, o3, e1, e2, allB_true, ble_true (show x0 * 16 ≤ 140737488355328 by show (0 + n + 2) * 16 ≤ _; omega), ble_true (show (0 + n) * 16 ≤ 140737488355328 by omega), ble_true (Nat.le_refl (0 + n))]
    rfl
  have e5 : x5 = true := by show (bif x4 then x3 else x3) = true; rw [e3, Bool.cond_self]
  have e6 : x6 = true := blt_true (show n < 0 + n + 2 by omega)
  have e8 : x8 = true := by show (bif x7 then (x6 && (x6 && x5)) else x5) = true; rw [e5, e6]; cases x7 <;> rfl
  have e9 : x9 = Int.ofNat (n + 1) := succ_i64 hn
  have e10 : x10 = true := by show Nat.blt (Int.toNat x9) x0 = true; rw [e9]; exact blt_true (show n + 1 < 0 + n + 2 by omega)
  rw [e3, e8, e9, e10, ile_ofNat]
  clear_value x4 x7 x11 x12 x13 x17 x18
  simp
end Go.Proofs.Ytbbopbelaamlaaa
