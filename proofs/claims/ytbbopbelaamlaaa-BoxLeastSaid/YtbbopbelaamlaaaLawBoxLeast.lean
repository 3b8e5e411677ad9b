/- BoxLeast: the box of places has them all and touches one on each side; it is the boxes of its pieces joined. -/
import Derived.Test.YtbbopbelaamlaaaLawBoxKeys
set_option linter.unusedVariables false
set_option linter.unusedSimpArgs false
namespace Go.Proofs.Ytbbopbelaamlaaa
open Go.Sim Go.Lst
/-- The one of two that lies before the other, by an order of floats. -/
structure Sl (f : Nat → Nat → Nat) (pl : Nat → Int) : Prop where
  form : ∀ a b, CF a → CF b → nanb a = false → nanb b = false → f a b = if pl a ≤ pl b then a else b
  nan2 : ∀ a b, CF a → CF b → nanb a = false → nanb b = true → f a b = a
  inj : ∀ a b, CF a → CF b → pl a = pl b → a = b
  one : ∀ a, f a a = a
theorem sl_least : Sl s_num_Least_float64__0 s_ref01_place_0 where
  form := fun a b ca cb na nb => by
    rw [least_eq ca cb]; unfold s_ref01_Least_0
    rw [na, nb]; unfold ile
    by_cases h : s_ref01_place_0 a ≤ s_ref01_place_0 b <;> simp [h]
  nan2 := fun a b ca cb na nb => by
    rw [least_eq ca cb]; unfold s_ref01_Least_0
    rw [na, nb]; simp
  inj := fun a b ca cb h => place_inj ca.lt cb.lt h
  one := least_self
theorem sl_most : Sl s_num_Most_float64__0 (fun a => - s_ref01_place_0 a) where
  form := fun a b ca cb na nb => by
    rw [most_eq ca cb]; unfold s_ref01_Most_0
    rw [na, nb]; unfold ile
    by_cases h : s_ref01_place_0 b ≤ s_ref01_place_0 a <;> simp [h]
  nan2 := fun a b ca cb na nb => by
    rw [most_eq ca cb]; unfold s_ref01_Most_0
    rw [na, nb]; simp
  inj := fun a b ca cb h => place_inj ca.lt cb.lt (by omega)
  one := most_self
section
variable {f : Nat → Nat → Nat} {pl : Nat → Int} (S : Sl f pl)
include S
theorem Sl.fold {g : Nat → Nat} {n : Nat} (hn : 0 < n) (cg : ∀ i, i < n → CF (g i)) (h0 : nanb (g 0) = false) : ∀ k, k ≤ n →
    nanb (foldN f g k) = false ∧ (∃ i, i < n ∧ (i < k ∨ i = 0) ∧ foldN f g k = g i) ∧ pl (foldN f g k) ≤ pl (g 0) ∧ ∀ i, i < k → nanb (g i) = false → pl (foldN f g k) ≤ pl (g i)
  | 0, _ => ⟨h0, ⟨0, hn, .inr rfl, rfl⟩, Int.le_refl _, fun i hi => by omega⟩
  | k + 1, hk => by
    obtain ⟨h1, ⟨i, hi, hi2, e⟩, h3, h4⟩ := Sl.fold hn cg h0 k (by omega)
    have cr : CF (foldN f g k) := by rw [e]; exact cg i hi
    have ck := cg k (by omega)
    simp only [foldN]
    cases hb : nanb (g k) with
    | true =>
      rw [S.nan2 _ _ cr ck h1 hb]
      refine ⟨h1, ⟨i, hi, by omega, e⟩, h3, fun j hj hnj => ?_⟩
      by_cases hjk : j = k
      · subst hjk; rw [hb] at hnj; cases hnj
      · exact h4 j (by omega) hnj
    | false =>
      rw [S.form _ _ cr ck h1 hb]
      by_cases hle : pl (foldN f g k) ≤ pl (g k)
      · rw [if_pos hle]
        refine ⟨h1, ⟨i, hi, by omega, e⟩, h3, fun j hj hnj => ?_⟩
        by_cases hjk : j = k
        · subst hjk; exact hle
        · exact h4 j (by omega) hnj
      · rw [if_neg hle]
        refine ⟨hb, ⟨k, by omega, .inl (by omega), rfl⟩, by omega, fun j hj hnj => ?_⟩
        by_cases hjk : j = k
        · subst hjk; exact Int.le_refl _
        · have := h4 j (by omega) hnj; omega
/-- The box of a list is those of its pieces joined. -/
theorem Sl.pieces {g : Nat → Nat} {n k : Nat} (hk : 0 < k) (hkn : k < n) (cg : ∀ i, i < n → CF (g i)) (ng : ∀ i, i < n → nanb (g i) = false) :
    f (foldN f g k) (foldN f (fun j => g (k + j)) (n - k)) = foldN f g n := by
  obtain ⟨a1, ⟨i, hi, hi2, ei⟩, _, a4⟩ := S.fold (by omega : 0 < n) cg (ng 0 (by omega)) k (by omega)
  obtain ⟨b1, ⟨j, hj, hj2, ej⟩, _, b4⟩ := S.fold (g := fun j => g (k + j)) (n := n - k) (by omega) (fun i hi => cg (k + i) (by omega)) (ng (k + 0) (by omega)) (n - k) (by omega)
  obtain ⟨c1, ⟨l, hl, hl2, el⟩, _, c4⟩ := S.fold (by omega : 0 < n) cg (ng 0 (by omega)) n (by omega)
  have ca : CF (foldN f g k) := by rw [ei]; exact cg i hi
  have cb : CF (foldN f (fun j => g (k + j)) (n - k)) := by rw [show foldN f (fun j => g (k + j)) (n - k) = g (k + j) from ej]; exact cg (k + j) (by omega)
  rw [S.form _ _ ca cb a1 b1]
  have hall : ∀ m, m < n → pl (if pl (foldN f g k) ≤ pl (foldN f (fun j => g (k + j)) (n - k)) then foldN f g k else foldN f (fun j => g (k + j)) (n - k)) ≤ pl (g m) := by
    intro m hm
    by_cases hmk : m < k
    · have := a4 m hmk (ng m hm)
      split <;> omega
    · have : pl (foldN f (fun j => g (k + j)) (n - k)) ≤ pl (g (k + (m - k))) := b4 (m - k) (by omega) (ng (k + (m - k)) (by omega))
      rw [show k + (m - k) = m by omega] at this
      split <;> omega
  have hel : ∃ m, m < n ∧ (if pl (foldN f g k) ≤ pl (foldN f (fun j => g (k + j)) (n - k)) then foldN f g k else foldN f (fun j => g (k + j)) (n - k)) = g m := by
    split
    · exact ⟨i, hi, ei⟩
    · exact ⟨k + j, by omega, ej⟩
  obtain ⟨m, hm, em⟩ := hel
  rw [em]
  refine S.inj _ _ (cg m hm) (by rw [el]; exact cg l hl) ?_
  have h1 := hall l hl
  rw [em] at h1
  have h2 := c4 m hm (ng m hm)
  rw [el] at h2 ⊢
  omega
end
theorem least_before {g : Nat → Nat} {n : Nat} (hn : 0 < n) (cg : ∀ i, i < n → CF (g i)) (h0 : nanb (g 0) = false) {i : Nat} (hi : i < n) (ni : nanb (g i) = false) :
    fle (foldN s_num_Least_float64__0 g n) (g i) = true := by
  obtain ⟨h1, ⟨j, hj, _, e⟩, _, h4⟩ := sl_least.fold hn cg h0 n (Nat.le_refl _)
  rw [fle_key h1 ni]
  have := place_le (by rw [e]; exact (cg j hj).lt) (cg i hi).lt (h4 i hi ni)
  simpa using this
theorem most_behind {g : Nat → Nat} {n : Nat} (hn : 0 < n) (cg : ∀ i, i < n → CF (g i)) (h0 : nanb (g 0) = false) {i : Nat} (hi : i < n) (ni : nanb (g i) = false) :
    fle (g i) (foldN s_num_Most_float64__0 g n) = true := by
  obtain ⟨h1, ⟨j, hj, _, e⟩, _, h4⟩ := sl_most.fold hn cg h0 n (Nat.le_refl _)
  rw [fle_key ni h1]
  have hlt : foldN s_num_Most_float64__0 g n < 18446744073709551616 := by rw [e]; exact (cg j hj).lt
  have h5 := h4 i hi ni
  have := place_le (a := g i) (b := foldN s_num_Most_float64__0 g n) (cg i hi).lt hlt (by omega)
  simpa using this
/-- The four sides of the box. -/
theorem box_sides {n : Nat} (hn : n < 9223372036854775807) (hp : 0 < n) (g h : Nat → Nat) : o_box_Of n g h = true ∧
    s_box_Of_0 n g h = foldN s_num_Least_float64__0 g n ∧ s_box_Of_1 n g h = foldN s_num_Least_float64__0 h n ∧ s_box_Of_2 n g h = foldN s_num_Most_float64__0 g n ∧ s_box_Of_3 n g h = foldN s_num_Most_float64__0 h n ∧ s_box_Of_4 n g h = true := by
  have h0 : n ≠ 0 := by omega
  obtain ⟨e1, l1⟩ := box_loop hn g h
  unfold o_box_Of s_box_Of_0 s_box_Of_1 s_box_Of_2 s_box_Of_3 s_box_Of_4
  rw [e1, l1]
  simp only [isz, h0, decide_false, cond_false, boxS, Bool.false_or, blt_true hp]
  exact ⟨rfl, by simp⟩
theorem box_none (g h : Nat → Nat) : o_box_Of 0 g h = true ∧ s_box_Of_4 0 g h = false := by
  unfold o_box_Of s_box_Of_4
  rw [isz]; simp
def orN (p : Nat → Bool) : Nat → Bool
  | 0 => false
  | k + 1 => orN p k || p k
theorem orN_true {p : Nat → Bool} {i : Nat} (hp : p i = true) : ∀ {k : Nat}, i < k → orN p k = true
  | 0, h => by omega
  | k + 1, h => by
    simp only [orN]
    by_cases hik : i = k
    · subst hik; rw [hp]; simp
    · rw [orN_true hp (by omega)]; rfl
/-- The law's loop, up to the first place that is not finite. -/
noncomputable def leastS (g h : Nat → Nat) (a b c d : Nat) (k : Nat) : V_law05_BoxLeast_L0 :=
  V_law05_BoxLeast_L0.mk (orN (fun i => feq (h i) b) k) (orN (fun i => feq (h i) d) k) (orN (fun i => feq (g i) a) k) (orN (fun i => feq (g i) c) k) (Int.ofNat k)
theorem least_loop {n j : Nat} (hn : n < 9223372036854775807) (hj : j ≤ n) (g h : Nat → Nat) (a b c d : Nat) (hf : ∀ i, i < j → s_vec_Finite_0 (g i) (h i) = true) (hh : ∀ i, i < j → s_box_Has_0 a b c d (g i) (h i) = true) (he : j = n ∨ s_vec_Finite_0 (g j) (h j) = false) :
    E_law05_BoxLeast_L0 n g h a b c d (V_law05_BoxLeast_L0.mk false false false false 0) = true ∧ L_law05_BoxLeast_L0 n g h a b c d (V_law05_BoxLeast_L0.mk false false false false 0) = leastS g h a b c d j := by
  refine run_to (leastS g h a b c d) j (fun k hk => ?_) (fun k hk => ?_) (fun k hk => ?_) ?_
  · unfold ok_law05_BoxLeast_L0 leastS
    simp only [ile_ofNat, toNat_of, ilt_ofNat, Bool.true_and]
    by_cases hkn : k < n
    · rw [blt_true hkn]; simp
    · simp [hkn]
  · unfold go_law05_BoxLeast_L0 leastS
    simp only [toNat_of, ilt_ofNat]
    rw [hf k hk, hh k hk]
    have : k < n := by omega
    simp [this]
  · unfold step_law05_BoxLeast_L0 leastS
    simp only [toNat_of]
    rw [succ_i64 (by omega)]
    rfl
  · unfold go_law05_BoxLeast_L0 leastS
    simp only [toNat_of, ilt_ofNat]
    rcases he with rfl | he
    · simp
    · rw [he]; simp
theorem first_not {p : Nat → Bool} : ∀ (n : Nat), ∃ j, j ≤ n ∧ (∀ i, i < j → p i = true) ∧ (j = n ∨ p j = false)
  | 0 => ⟨0, by omega, fun i hi => by omega, .inl rfl⟩
  | n + 1 => by
    obtain ⟨j, h1, h2, h3⟩ := first_not (p := p) n
    rcases h3 with rfl | h3
    · cases hp : p j with
      | false => exact ⟨j, by omega, h2, .inr hp⟩
      | true => exact ⟨j + 1, by omega, fun i hi => by
          by_cases hij : i = j
          · subst hij; exact hp
          · exact h2 i (by omega), .inl rfl⟩
    · exact ⟨j, by omega, h2, .inr h3⟩
theorem cut_at {a : Int} {n : Nat} (hp : 0 < n) (hn : n < 4611686018427387904) : ∃ k, k < n ∧ Int.tmod (IntKind.i64.wrap (Int.tmod a (Int.ofNat n) + Int.ofNat n)) (Int.ofNat n) = Int.ofNat k := by
  have h1 : -(n : Int) < Int.tmod a (Int.ofNat n) := by
    have := Int.lt_tmod_of_pos a (b := (n : Int)) (by omega)
    simpa using this
  have h2 : Int.tmod a (Int.ofNat n) < (n : Int) := Int.tmod_lt_of_pos a (by simp; omega)
  rw [wrap_i64 (by simp only [Int.ofNat_eq_natCast] at *; omega) (by simp only [Int.ofNat_eq_natCast] at *; omega)]
  generalize hq : Int.tmod a (Int.ofNat n) + Int.ofNat n = q at *
  have hq0 : 0 ≤ q := by simp only [Int.ofNat_eq_natCast] at *; omega
  have h3 : 0 ≤ Int.tmod q (Int.ofNat n) := Int.tmod_nonneg _ hq0
  have h4 : Int.tmod q (Int.ofNat n) < (n : Int) := Int.tmod_lt_of_pos q (by simp; omega)
  exact ⟨(Int.tmod q (Int.ofNat n)).toNat, by omega, (Int.toNat_of_nonneg h3).symm⟩
theorem finite_true {a b : Nat} (ca : CF a) (cb : CF b) (h : s_vec_Finite_0 a b = true) : fin a = true ∧ fin b = true := by
  unfold s_vec_Finite_0 at h
  rw [finite_eq ca, finite_eq cb] at h
  simpa using h
/-- What the law reads of the whole box. -/
theorem box_facts {n j : Nat} (hn : n < 9223372036854775807) (hp : 0 < n) (hj : j ≤ n) (g h : Nat → Nat) (cg : ∀ i, i < n → CF (g i)) (ch : ∀ i, i < n → CF (h i)) (hf : ∀ i, i < j → s_vec_Finite_0 (g i) (h i) = true) :
    ∀ i, i < j → s_box_Has_0 (foldN s_num_Least_float64__0 g n) (foldN s_num_Least_float64__0 h n) (foldN s_num_Most_float64__0 g n) (foldN s_num_Most_float64__0 h n) (g i) (h i) = true := by
  intro i hi
  have f0 := finite_true (cg 0 hp) (ch 0 hp) (hf 0 (by omega))
  have fi := finite_true (cg i (by omega)) (ch i (by omega)) (hf i hi)
  unfold s_box_Has_0 s_box_below_0
  rw [least_before hp cg (fin_not_nan f0.1) (by omega) (fin_not_nan fi.1), least_before hp ch (fin_not_nan f0.2) (by omega) (fin_not_nan fi.2),
    most_behind hp cg (fin_not_nan f0.1) (by omega) (fin_not_nan fi.1), most_behind hp ch (fin_not_nan f0.2) (by omega) (fin_not_nan fi.2)]
  rfl
theorem fold_in {f : Nat → Nat → Nat} {pl : Nat → Int} (S : Sl f pl) {g : Nat → Nat} {n : Nat} (hp : 0 < n) (cg : ∀ i, i < n → CF (g i)) (hf : ∀ i, i < n → fin (g i) = true) :
    CF (foldN f g n) ∧ fin (foldN f g n) = true ∧ orN (fun i => feq (g i) (foldN f g n)) n = true := by
  obtain ⟨_, ⟨i, hi, _, e⟩, _, _⟩ := S.fold hp cg (fin_not_nan (hf 0 hp)) n (Nat.le_refl _)
  refine ⟨by rw [e]; exact cg i hi, by rw [e]; exact hf i hi, orN_true (i := i) ?_ hi⟩
  show feq (g i) (foldN f g n) = true
  rw [e, feqF (hf i hi) (hf i hi)]
  simp
theorem law_BoxLeast (n : Nat) (g h : Nat → Nat) (a : Int) (hgood : GoodA (.sl 16 [.f, .f]) (.view n 2 (fun i => [.float (g i), .float (h i)]))) (ha : GoodA (.i .i64) (.int .i64 a)) : T_law05_BoxLeast n g h a = true := by
  obtain ⟨hb, cg, ch⟩ := good_list hgood
  have hn : n < 9223372036854775807 := by omega
  by_cases h0 : n = 0
  · subst h0
    unfold T_law05_BoxLeast
    extract_lets x0 x1 x2 x3 x4 x5 x6 x7 x8 x9 x10 x11 x12 x13 x14 x15 x16 x17 x18 x19 x20 x21 x22
    have e17 : x17 = false := (box_none g h).2
    have e18 : x18 = 0 := by
      show (L_law05_BoxLeast_L0 0 g h x3 x2 x1 x0 _).v4 = 0
      rw [(least_loop (j := 0) (by omega) (Nat.le_refl _) g h _ _ _ _ (fun i hi => by omega) (fun i hi => by omega) (.inl rfl)).2]
      rfl
    rw [e17, e18]
    clear_value x22 x15 x16
    simp [ilt]
  have hp : 0 < n := by omega
  obtain ⟨j, hj, hf, he⟩ := first_not (p := fun i => s_vec_Finite_0 (g i) (h i)) n
  obtain ⟨_, b0, b1, b2, b3, b4⟩ := box_sides hn hp g h
  have hh := box_facts hn hp hj g h cg ch hf
  have hl := (least_loop hn hj g h _ _ _ _ hf hh he).2
  unfold T_law05_BoxLeast
  extract_lets x0 x1 x2 x3 x4 x5 x6 x7 x8 x9 x10 x11 x12 x13 x14 x15 x16 x17 x18 x19 x20 x21 x22
  have e0 : x0 = foldN s_num_Most_float64__0 h n := b3
  have e1 : x1 = foldN s_num_Most_float64__0 g n := b2
  have e2 : x2 = foldN s_num_Least_float64__0 h n := b1
  have e3 : x3 = foldN s_num_Least_float64__0 g n := b0
  have e16 : x16 = leastS g h x3 x2 x1 x0 j := by
    show L_law05_BoxLeast_L0 n g h x3 x2 x1 x0 _ = _
    rw [e0, e1, e2, e3]; exact hl
  have e17 : x17 = true := b4
  have e18 : x18 = Int.ofNat j := by show x16.v4 = _; rw [e16]; rfl
  have hlt : ilt (0 : Int) (Int.ofNat n) = true := ilt_true (by simp; omega)
  rw [hlt, e17, e18, ilt_ofNat]
  by_cases hjn : j = n
  · -- every place is finite
    subst hjn
    have ff : ∀ i, i < j → fin (g i) = true := fun i hi => (finite_true (cg i hi) (ch i hi) (hf i hi)).1
    have fh : ∀ i, i < j → fin (h i) = true := fun i hi => (finite_true (cg i hi) (ch i hi) (hf i hi)).2
    have m0 := fold_in sl_most hp ch fh
    have m1 := fold_in sl_most hp cg ff
    have m2 := fold_in sl_least hp ch fh
    have m3 := fold_in sl_least hp cg ff
    have v2 : x16.v2 = true := by rw [e16, e3]; exact m3.2.2
    have v3 : x16.v3 = true := by rw [e16, e1]; exact m1.2.2
    have v0 : x16.v0 = true := by rw [e16, e2]; exact m2.2.2
    have v1 : x16.v1 = true := by rw [e16, e0]; exact m0.2.2
    have k1 : fle (foldN s_num_Least_float64__0 g j) (g 0) = true := least_before hp cg (fin_not_nan (ff 0 hp)) hp (fin_not_nan (ff 0 hp))
    have k2 : fle (g 0) (foldN s_num_Most_float64__0 g j) = true := most_behind hp cg (fin_not_nan (ff 0 hp)) hp (fin_not_nan (ff 0 hp))
    have k3 : fle (foldN s_num_Least_float64__0 h j) (h 0) = true := least_before hp ch (fin_not_nan (fh 0 hp)) hp (fin_not_nan (fh 0 hp))
    have k4 : fle (h 0) (foldN s_num_Most_float64__0 h j) = true := most_behind hp ch (fin_not_nan (fh 0 hp)) hp (fin_not_nan (fh 0 hp))
    rw [fleF m3.2.1 (ff 0 hp)] at k1
    rw [fleF (ff 0 hp) m1.2.1] at k2
    rw [fleF m2.2.1 (fh 0 hp)] at k3
    rw [fleF (fh 0 hp) m0.2.1] at k4
    simp only [decide_eq_true_eq] at k1 k2 k3 k4
    have hc : ieq (s_box_Check_0 x3 x2 x1 x0) 0 = true := by
      rw [e0, e1, e2, e3, check_ok m3.1 m2.1 m1.1 m0.1, m3.2.1, m2.2.1, m1.2.1, m0.2.1]
      simp only [Bool.true_and, Bool.and_eq_true, decide_eq_true_eq]
      omega
    obtain ⟨k, hk, ek⟩ := cut_at (a := a) hp (by omega)
    have e4 : x4 = Int.ofNat k := ek
    have e5 : x5 = k := by show Int.toNat x4 = k; rw [e4]; rfl
    have e6 : x6 = j - k := by show j - x5 = _; rw [e5]
    have hfun : ∀ f : Nat → Nat, (fun j0 => f (Int.toNat x4 + j0)) = fun j0 => f (k + j0) := fun f => by rw [e4]; rfl
    obtain ⟨_, c0, c1, c2, c3, c4⟩ := box_sides (n := j - k) (by omega) (by omega) (fun j0 => g (k + j0)) (fun j0 => h (k + j0))
    have e7 : x7 = foldN s_num_Most_float64__0 (fun j0 => h (k + j0)) (j - k) := by
      show s_box_Of_3 x6 (fun j0 => g (Int.toNat x4 + j0)) (fun j0 => h (Int.toNat x4 + j0)) = _
      rw [hfun, hfun, e6]; exact c3
    have e8 : x8 = foldN s_num_Most_float64__0 (fun j0 => g (k + j0)) (j - k) := by
      show s_box_Of_2 x6 (fun j0 => g (Int.toNat x4 + j0)) (fun j0 => h (Int.toNat x4 + j0)) = _
      rw [hfun, hfun, e6]; exact c2
    have e9 : x9 = foldN s_num_Least_float64__0 (fun j0 => h (k + j0)) (j - k) := by
      show s_box_Of_1 x6 (fun j0 => g (Int.toNat x4 + j0)) (fun j0 => h (Int.toNat x4 + j0)) = _
      rw [hfun, hfun, e6]; exact c1
    have e10 : x10 = foldN s_num_Least_float64__0 (fun j0 => g (k + j0)) (j - k) := by
      show s_box_Of_0 x6 (fun j0 => g (Int.toNat x4 + j0)) (fun j0 => h (Int.toNat x4 + j0)) = _
      rw [hfun, hfun, e6]; exact c0
    have eo : s_box_Of_4 x6 (fun j0 => g (Int.toNat x4 + j0)) (fun j0 => h (Int.toNat x4 + j0)) = true := by
      rw [hfun, hfun, e6]; exact c4
    have hself : decide (j < j) = false := by simp
    rw [hself, v2, v3, v0, v1, hc]
    simp only [Bool.not_true, Bool.or_self, cond_false, beq_self_eq_true, Bool.not_false, cond_true, Bool.false_or]
    by_cases hk0 : k = 0
    · subst hk0
      have e15 : x15 = false := by show s_box_Of_4 x5 g h = _; rw [e5]; exact (box_none g h).2
      have hz : ∀ f : Nat → Nat, (fun j0 => f (0 + j0)) = f := fun f => funext fun i => by rw [Nat.zero_add]
      simp only [hz, Nat.sub_zero] at e7 e8 e9 e10
      have hi : ilt 0 x4 = false := by rw [e4]; rfl
      have hs : s_law05_is_0 x10 x9 x8 x7 x3 x2 x1 x0 = true := same_of (by rw [e10, e3]) (by rw [e9, e2]) (by rw [e8, e1]) (by rw [e7, e0])
      rw [hi, e15, hs]
      refine Eq.trans (congrArg (fun b => bif (!(false == false)) || !b then false else _) eo) ?_
      rfl
    · obtain ⟨_, d0, d1, d2, d3, d4⟩ := box_sides (n := k) (by omega) (by omega) g h
      have e15 : x15 = true := by show s_box_Of_4 x5 g h = _; rw [e5]; exact d4
      have e11 : x11 = foldN s_num_Most_float64__0 h k := by show s_box_Of_3 x5 g h = _; rw [e5]; exact d3
      have e12 : x12 = foldN s_num_Most_float64__0 g k := by show s_box_Of_2 x5 g h = _; rw [e5]; exact d2
      have e13 : x13 = foldN s_num_Least_float64__0 h k := by show s_box_Of_1 x5 g h = _; rw [e5]; exact d1
      have e14 : x14 = foldN s_num_Least_float64__0 g k := by show s_box_Of_0 x5 g h = _; rw [e5]; exact d0
      have hi : ilt 0 x4 = true := by rw [e4]; exact ilt_true (by simp; omega)
      have ng : ∀ i, i < j → nanb (g i) = false := fun i hi => fin_not_nan (ff i hi)
      have nh : ∀ i, i < j → nanb (h i) = false := fun i hi => fin_not_nan (fh i hi)
      have hs : s_law05_is_0 (s_box_Join_0 x14 x13 x12 x11 x10 x9 x8 x7) (s_box_Join_1 x14 x13 x12 x11 x10 x9 x8 x7) (s_box_Join_2 x14 x13 x12 x11 x10 x9 x8 x7) (s_box_Join_3 x14 x13 x12 x11 x10 x9 x8 x7) x3 x2 x1 x0 = true := by
        unfold s_box_Join_0 s_box_Join_1 s_box_Join_2 s_box_Join_3 s_box_least_0 s_box_least_1 s_box_most_0 s_box_most_1
        refine same_of ?_ ?_ ?_ ?_
        · rw [e14, e10, e3]; exact sl_least.pieces (by omega) hk cg ng
        · rw [e13, e9, e2]; exact sl_least.pieces (by omega) hk ch nh
        · rw [e12, e8, e1]; exact sl_most.pieces (by omega) hk cg ng
        · rw [e11, e7, e0]; exact sl_most.pieces (by omega) hk ch nh
      rw [hi, e15, hs]
      refine Eq.trans (congrArg (fun b => bif (!(true == true)) || !b then false else _) eo) ?_
      rfl
  · -- a place that is not finite
    have hjf : s_vec_Finite_0 (g j) (h j) = false := by rcases he with he | he; exact absurd he hjn; exact he
    have hjlt : j < n := by omega
    have e22 : x22 = true := by
      show (!s_vec_Finite_0 (g (Int.toNat x18)) (h (Int.toNat x18))) = true
      rw [e18, toNat_of, hjf]; rfl
    have hd : decide (j < n) = true := by simpa using hjlt
    rw [hd, e22]
    rfl
theorem ob_law_BoxLeast (n : Nat) (g h : Nat → Nat) (a : Int) (hgood : GoodA (.sl 16 [.f, .f]) (.view n 2 (fun i => [.float (g i), .float (h i)]))) (ha : GoodA (.i .i64) (.int .i64 a)) : O_law05_BoxLeast n g h a = true := by
  obtain ⟨hb, cg, ch⟩ := good_list hgood
  have hn : n < 9223372036854775807 := by omega
  by_cases h0 : n = 0
  · subst h0
    unfold O_law05_BoxLeast
    extract_lets x0 x1 x2 x3 x4 x5 x6 x7 x8 x9 x10 x11 x12 x13 x14 x15 x16 x17 x18 x19 x20 x21 x22 x23 x24 x25 x26 x27 x28 x29 x30 x31
    have e4 : x4 = true := by show (allB (fun _ => true) && o_box_Of 0 g h) = true; rw [(box_none g h).1, allB_true]; rfl
    have hl := least_loop (j := 0) (n := 0) (by omega) (Nat.le_refl _) g h x3 x2 x1 x0 (fun i hi => by omega) (fun i hi => by omega) (.inl rfl)
    have e5 : x5 = true := by
      show (x4 && (allB (fun _ => true) && E_law05_BoxLeast_L0 0 g h x3 x2 x1 x0 _)) = true
      rw [e4, hl.1, allB_true]; rfl
    have e27 : x27 = false := (box_none g h).2
    have e28 : x28 = 0 := by
      show (L_law05_BoxLeast_L0 0 g h x3 x2 x1 x0 _).v4 = 0
      rw [hl.2]; rfl
    rw [e4, e5, e27, e28]
    clear_value x22 x14 x13 x23 x25 x26 x24
    simp [ilt]
  have hp : 0 < n := by omega
  obtain ⟨j, hj, hf, he⟩ := first_not (p := fun i => s_vec_Finite_0 (g i) (h i)) n
  obtain ⟨b, b0, b1, b2, b3, b4⟩ := box_sides hn hp g h
  have hh := box_facts hn hp hj g h cg ch hf
  have hl := least_loop hn hj g h _ _ _ _ hf hh he
  unfold O_law05_BoxLeast
  extract_lets x0 x1 x2 x3 x4 x5 x6 x7 x8 x9 x10 x11 x12 x13 x14 x15 x16 x17 x18 x19 x20 x21 x22 x23 x24 x25 x26 x27 x28 x29 x30 x31
  have e0 : x0 = foldN s_num_Most_float64__0 h n := b3
  have e1 : x1 = foldN s_num_Most_float64__0 g n := b2
  have e2 : x2 = foldN s_num_Least_float64__0 h n := b1
  have e3 : x3 = foldN s_num_Least_float64__0 g n := b0
  have e4 : x4 = true := by show (allB (fun _ => true) && o_box_Of n g h) = true; rw [b, allB_true]; rfl
  have e5 : x5 = true := by
    show (x4 && (allB (fun _ => true) && E_law05_BoxLeast_L0 n g h x3 x2 x1 x0 _)) = true
    rw [e4, e0, e1, e2, e3, hl.1, allB_true]; rfl
  have e14 : x14 = true := by
    show (bif x13 then bif x11 then bif x9 then bif x7 then x5 else x5 else bif x7 then x5 else x5 else bif x9 then bif x7 then x5 else x5 else bif x7 then x5 else x5 else bif x11 then bif x9 then bif x7 then x5 else x5 else bif x7 then x5 else x5 else bif x9 then bif x7 then x5 else x5 else bif x7 then x5 else x5) = true
    rw [e5]; simp only [Bool.cond_self]
  obtain ⟨k, hk, ek⟩ := cut_at (a := a) hp (by omega)
  have e16 : x16 = Int.ofNat k := ek
  have e17 : x17 = k := by show Int.toNat x16 = k; rw [e16]; rfl
  have e15 : x15 = true := by show (!ieq (Int.ofNat n) 0) = true; rw [ieq_false (by simp; omega)]; rfl
  have e18 : x18 = true := by show Nat.ble x17 n = true; rw [e17]; exact ble_true (by omega)
  have e19 : x19 = true := by show ile 0 x16 = true; rw [e16]; exact ile_ofNat k
  have e20 : x20 = n - k := by show n - x17 = _; rw [e17]
  have hfun : ∀ f : Nat → Nat, (fun j0 => f (Int.toNat x16 + j0)) = fun j0 => f (k + j0) := fun f => by rw [e16]; rfl
  obtain ⟨c, _⟩ := box_sides (n := n - k) (by omega) (by omega) (fun j0 => g (k + j0)) (fun j0 => h (k + j0))
  have d : o_box_Of k g h = true := by
    by_cases hk0 : k = 0
    · subst hk0; exact (box_none g h).1
    · exact (box_sides (by omega) (by omega) g h).1
  have e21 : x21 = true := by
    show ((allB (fun _ => true) && o_box_Of x20 (fun j0 => g (Int.toNat x16 + j0)) (fun j0 => h (Int.toNat x16 + j0))) && ((x19 && (x18 && Nat.ble n n)) && ((allB (fun _ => true) && o_box_Of x17 g h) && ((x19 && x18) && (x15 && (x15 && x14)))))) = true
    rw [hfun, hfun, e20, c, e17, d, e14, e15, e18, e19, allB_true, ble_true (Nat.le_refl n)]
    rfl
  have e24 : x24 = true := by show (bif x23 then x21 else x21) = true; rw [e21, Bool.cond_self]
  have e26 : x26 = true := by show (bif x25 then x24 else x24) = true; rw [e24, Bool.cond_self]
  rw [e4, e5, e14, e24, e26]
  simp only [Bool.cond_self]
end Go.Proofs.Ytbbopbelaamlaaa
