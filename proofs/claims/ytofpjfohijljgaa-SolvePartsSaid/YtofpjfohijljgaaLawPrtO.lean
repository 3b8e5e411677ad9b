/- The rows of some stills, and the numbers that they had: the program's way and the document's. -/
import Derived.Test.YtofpjfohijljgaaLawPrtQ
set_option linter.unusedVariables false
set_option linter.unusedSimpArgs false
set_option linter.unusedSectionVars false
set_option maxHeartbeats 4000000
set_option maxRecDepth 4000
namespace Go.Proofs.Ytofpjfohijljgaa
open Go.Sim Go.Lst
/-- is a row one of these stills'? -/
noncomputable def sel (q : Nat) (B : Nat → Int) (r : Rw) : Bool := decide (∃ k, k < q ∧ (r.v0 = B k ∨ r.v1 = B k))
noncomputable def isin (q : Nat) (B : Nat → Int) (v : Int) : Bool := decide (∃ k, k < q ∧ ieq v (B k) = true)
theorem isin_or (q : Nat) (B : Nat → Int) (r : Rw) : (isin q B r.v0 || isin q B r.v1) = sel q B r := by
  rw [Bool.eq_iff_iff]
  unfold isin sel
  simp only [Bool.or_eq_true, decide_eq_true_eq, ieq]
  constructor
  · rintro (⟨k, hk, h⟩ | ⟨k, hk, h⟩)
    · exact ⟨k, hk, .inl h⟩
    · exact ⟨k, hk, .inr h⟩
  · rintro ⟨k, hk, h | h⟩
    · exact .inl ⟨k, hk, h⟩
    · exact .inr ⟨k, hk, h⟩
theorem containsP {q : Nat} {B : Nat → Int} {v : Int} (hq : q < 9223372036854775807) : s_slices_Contains___int_int__0 q B v = isin q B v ∧ o_slices_Contains___int_int_ q B v = true := by
  obtain ⟨j, hj, h1, h2, h3⟩ := scan (ok := ok_slices_Index___int_int__L0 q B v (Int.ofNat q)) (go := go_slices_Index___int_int__L0 q B v (Int.ofNat q)) (step := step_slices_Index___int_int__L0 q B v (Int.ofNat q)) V_slices_Index___int_int__L0.mk (fun k => ieq v (B k)) q
    (fun k hk => by
      unfold ok_slices_Index___int_int__L0
      simp only [toNat_of, mrgB_eq, ilt_ofNat, ile_ofNat, Bool.true_and]
      exact ok_dec _ hk) (fun k hk => by
      unfold go_slices_Index___int_int__L0
      simp only [toNat_of, ilt_ofNat]
      exact not_dec _ _ _) (fun k hk => by
      unfold step_slices_Index___int_int__L0
      simp only
      rw [succ_i64 (by omega)])
  have e : (L_slices_Index___int_int__L0 q B v (Int.ofNat q) (V_slices_Index___int_int__L0.mk (0 : Int))).v0 = Int.ofNat j := congrArg V_slices_Index___int_int__L0.v0 h2
  constructor
  · unfold s_slices_Contains___int_int__0 s_slices_Index___int_int__0
    simp only [e, ilt_ofNat, toNat_of, bif_dec]
    rw [h3]
    show ile 0 (bif isin q B v then Int.ofNat j else -1) = isin q B v
    cases isin q B v
    · rfl
    · exact ile_ofNat j
  · unfold o_slices_Contains___int_int_ o_slices_Index___int_int_
    rw [mrgB_self]; exact h1
theorem isR {q n i : Nat} {B : Nat → Int} {l : Nat → Rw} (hq : q < 9223372036854775807) (hi : i < n) :
    (L_ref21_Only_L1 n (fun j => (l j).v0) (fun j => (l j).v1) q B (Int.ofNat i) (V_ref21_Only_L1.mk false (0 : Int))).v0 = sel q B (l i) ∧ E_ref21_Only_L1 n (fun j => (l j).v0) (fun j => (l j).v1) q B (Int.ofNat i) (V_ref21_Only_L1.mk false (0 : Int)) = true := by
  have hr := run_to (ok := ok_ref21_Only_L1 n (fun j => (l j).v0) (fun j => (l j).v1) q B (Int.ofNat i)) (go := go_ref21_Only_L1 n (fun j => (l j).v0) (fun j => (l j).v1) q B (Int.ofNat i)) (step := step_ref21_Only_L1 n (fun j => (l j).v0) (fun j => (l j).v1) q B (Int.ofNat i))
    (fun k => V_ref21_Only_L1.mk (sel k B (l i)) (Int.ofNat k)) q
    (fun k hk => by
      unfold ok_ref21_Only_L1
      simp only [toNat_of, mrgB_eq, ilt_ofNat, ile_ofNat, Bool.true_and, blt_true hi, Bool.and_true]
      by_cases h : k < q
      · simp only [decide_eq_true h, blt_true h, Bool.not_true, cond_false, Bool.cond_self, Bool.and_self]
      · simp only [decide_eq_false h, Bool.not_false, cond_true])
    (fun k hk => by unfold go_ref21_Only_L1; simp only [ilt_ofNat]; simp [hk])
    (fun k hk => by
      unfold step_ref21_Only_L1
      simp only [toNat_of]
      rw [succ_i64 (by omega)]
      congr 1
      rw [Bool.eq_iff_iff]
      unfold sel
      simp only [Bool.or_eq_true, decide_eq_true_eq, ieq]
      constructor
      · rintro ((⟨w, hw, h⟩ | h) | h)
        · exact ⟨w, by omega, h⟩
        · exact ⟨k, by omega, .inl h⟩
        · exact ⟨k, by omega, .inr h⟩
      · rintro ⟨w, hw, h⟩
        by_cases e : w = k
        · subst e
          rcases h with h | h
          · exact .inl (.inr h)
          · exact .inr h
        · exact .inl (.inl ⟨w, by omega, h⟩))
    (by unfold go_ref21_Only_L1; simp only [ilt_ofNat]; simp)
  have e0 : sel 0 B (l i) = false := decide_eq_false fun ⟨w, hw, _⟩ => by omega
  have h1 := hr.1
  have h2 := hr.2
  rw [e0] at h1 h2
  exact ⟨congrArg V_ref21_Only_L1.v0 h2, h1⟩
/-- how many before -/
def cnt (p : Nat → Bool) : Nat → Nat
  | 0 => 0
  | i + 1 => bif p i then cnt p i + 1 else cnt p i
def NL (p : Nat → Bool) (n : Nat) : Nat → Int := itr (fun i f j => bif p i then (bif Nat.blt j (cnt p i) then f j else Int.ofNat i) else f j) n (fun _ => 0)
def NW (p : Nat → Bool) (n : Nat) : Nat → Int := itr (fun i f j => bif p i then (bif Nat.beq j i then Int.ofNat (cnt p i + 1) else f j) else f j) n (fun _ => 0)
def OL (p : Nat → Bool) (l : Nat → Rw) (n : Nat) : Nat → Rw := itr (fun i f j => bif p i then (bif Nat.blt j (cnt p i) then f j else l i) else f j) n (fun _ => ⟨0, 0, 0, 0, 0, 0, 0, 0, 0, 0, 0, 0, 0, 0⟩)
theorem cnt_le (p : Nat → Bool) : ∀ n, cnt p n ≤ n
  | 0 => Nat.le_refl 0
  | n + 1 => by
    have := cnt_le p n
    unfold cnt
    cases p n
    · rw [cond_false]; omega
    · rw [cond_true]; omega
theorem cnt_mono (p : Nat → Bool) {i : Nat} : ∀ n, i ≤ n → cnt p i ≤ cnt p n
  | 0, h => by have : i = 0 := by omega
               subst this; exact Nat.le_refl _
  | n + 1, h => by
    by_cases e : i = n + 1
    · subst e; exact Nat.le_refl _
    · have := cnt_mono p (i := i) n (by omega)
      show _ ≤ (bif p n then cnt p n + 1 else cnt p n)
      cases p n
      · exact this
      · rw [cond_true]; omega
theorem NL_lt {p : Nat → Bool} : ∀ n k, k < cnt p n → ∃ w, w < n ∧ NL p n k = Int.ofNat w ∧ p w = true ∧ cnt p w = k
  | 0, k, h => absurd h (Nat.not_lt_zero k)
  | n + 1, k, h => by
    unfold cnt at h
    show ∃ w, w < n + 1 ∧ (bif p n then (bif Nat.blt k (cnt p n) then NL p n k else Int.ofNat n) else NL p n k) = Int.ofNat w ∧ p w = true ∧ cnt p w = k
    cases hp : p n with
    | false =>
      rw [hp, cond_false] at h
      obtain ⟨w, h1, h2, h3, h4⟩ := NL_lt n k h
      exact ⟨w, by omega, h2, h3, h4⟩
    | true =>
      rw [hp, cond_true] at h
      by_cases hk : k < cnt p n
      · obtain ⟨w, h1, h2, h3, h4⟩ := NL_lt n k hk
        exact ⟨w, by omega, by rw [blt_true hk]; exact h2, h3, h4⟩
      · exact ⟨n, by omega, by rw [blt_false (by omega)]; rfl, hp, by omega⟩
theorem NL_at {p : Nat → Bool} : ∀ n w, w < n → p w = true → cnt p w < cnt p n ∧ NL p n (cnt p w) = Int.ofNat w
  | 0, w, h, _ => absurd h (Nat.not_lt_zero w)
  | n + 1, w, h, hw => by
    show cnt p w < (bif p n then cnt p n + 1 else cnt p n) ∧ (bif p n then (bif Nat.blt (cnt p w) (cnt p n) then NL p n (cnt p w) else Int.ofNat n) else NL p n (cnt p w)) = Int.ofNat w
    by_cases e : w = n
    · subst e
      rw [hw, cond_true, cond_true, blt_false (Nat.le_refl _)]
      exact ⟨by omega, rfl⟩
    · obtain ⟨h1, h2⟩ := NL_at n w (by omega) hw
      cases p n with
      | false => exact ⟨h1, h2⟩
      | true => rw [cond_true, cond_true, blt_true h1]; exact ⟨by omega, h2⟩
theorem NW_at {p : Nat → Bool} : ∀ n j, j < n → NW p n j = bif p j then Int.ofNat (cnt p j + 1) else 0
  | 0, j, h => absurd h (Nat.not_lt_zero j)
  | n + 1, j, h => by
    show (bif p n then (bif Nat.beq j n then Int.ofNat (cnt p n + 1) else NW p n j) else NW p n j) = _
    by_cases e : j = n
    · subst e
      rw [beq_self', cond_true]
      cases hp : p j with
      | true => rfl
      | false =>
        have : ∀ m, m ≤ j → NW p m j = 0 := by
          intro m
          induction m with
          | zero => intro _; rfl
          | succ m ih =>
            intro hm
            show (bif p m then (bif Nat.beq j m then Int.ofNat (cnt p m + 1) else NW p m j) else NW p m j) = 0
            rw [beqn_false (show j ≠ m by omega), cond_false, Bool.cond_self, ih (by omega)]
        exact this j (Nat.le_refl j)
    · rw [beqn_false e, cond_false, Bool.cond_self, NW_at n j (by omega)]
theorem OL_at {p : Nat → Bool} {l : Nat → Rw} : ∀ n k, k < cnt p n → OL p l n k = l (Int.toNat (NL p n k))
  | 0, k, h => absurd h (Nat.not_lt_zero k)
  | n + 1, k, h => by
    unfold cnt at h
    show (bif p n then (bif Nat.blt k (cnt p n) then OL p l n k else l n) else OL p l n k) = l (Int.toNat (bif p n then (bif Nat.blt k (cnt p n) then NL p n k else Int.ofNat n) else NL p n k))
    cases hp : p n with
    | false => rw [hp, cond_false] at h; exact OL_at n k h
    | true =>
      rw [cond_true, cond_true]
      by_cases hk : k < cnt p n
      · rw [blt_true hk]; exact OL_at n k hk
      · rw [blt_false (by omega)]; rfl
/-- what looks at the first n alone -/
theorem cnt_loc {p p' : Nat → Bool} : ∀ n, (∀ i, i < n → p i = p' i) → cnt p n = cnt p' n
  | 0, _ => rfl
  | n + 1, h => by unfold cnt; rw [cnt_loc n fun i hi => h i (by omega), h n (by omega)]
theorem NL_loc {p p' : Nat → Bool} : ∀ n, (∀ i, i < n → p i = p' i) → NL p n = NL p' n
  | 0, _ => rfl
  | n + 1, h => by
    funext j
    show (bif p n then (bif Nat.blt j (cnt p n) then NL p n j else Int.ofNat n) else NL p n j) = (bif p' n then (bif Nat.blt j (cnt p' n) then NL p' n j else Int.ofNat n) else NL p' n j)
    rw [cnt_loc n fun i hi => h i (by omega), NL_loc n fun i hi => h i (by omega), h n (by omega)]
theorem NW_loc {p p' : Nat → Bool} : ∀ n, (∀ i, i < n → p i = p' i) → NW p n = NW p' n
  | 0, _ => rfl
  | n + 1, h => by
    funext j
    show (bif p n then (bif Nat.beq j n then Int.ofNat (cnt p n + 1) else NW p n j) else NW p n j) = (bif p' n then (bif Nat.beq j n then Int.ofNat (cnt p' n + 1) else NW p' n j) else NW p' n j)
    rw [cnt_loc n fun i hi => h i (by omega), NW_loc n fun i hi => h i (by omega), h n (by omega)]
theorem OL_loc {p p' : Nat → Bool} {l l' : Nat → Rw} : ∀ n, (∀ i, i < n → p i = p' i) → (∀ i, i < n → l i = l' i) → OL p l n = OL p' l' n
  | 0, _, _ => rfl
  | n + 1, h, hl => by
    funext j
    show (bif p n then (bif Nat.blt j (cnt p n) then OL p l n j else l n) else OL p l n j) = (bif p' n then (bif Nat.blt j (cnt p' n) then OL p' l' n j else l' n) else OL p' l' n j)
    rw [cnt_loc n fun i hi => h i (by omega), OL_loc n (fun i hi => h i (by omega)) (fun i hi => hl i (by omega)), h n (by omega), hl n (by omega)]
def hang (r : Rw) (x : Int) : Rw := ⟨r.v0, r.v1, r.v2, r.v3, r.v4, r.v5, r.v6, r.v7, r.v8, r.v9, r.v10, r.v11, x, r.v13⟩
theorem bifR (q : Bool) (x y : Rw) : (bif q then x else y) = ⟨bif q then x.v0 else y.v0, bif q then x.v1 else y.v1, bif q then x.v2 else y.v2, bif q then x.v3 else y.v3, bif q then x.v4 else y.v4, bif q then x.v5 else y.v5, bif q then x.v6 else y.v6, bif q then x.v7 else y.v7, bif q then x.v8 else y.v8, bif q then x.v9 else y.v9, bif q then x.v10 else y.v10, bif q then x.v11 else y.v11, bif q then x.v12 else y.v12, bif q then x.v13 else y.v13⟩ := by cases q <;> rfl
/-- the program: numbers in the answer, by what is noted of each row -/
def F2 (w : Nat → Int) (f : Nat → Rw) (n : Nat) : Nat → Rw := itr (fun k f j => hang (f j) (bif ile 0 (f k).v12 then (bif Nat.beq j k then IntKind.wrap .i64 (w (Int.toNat (f k).v12) - 1) else (f j).v12) else (f j).v12)) n f
def of2 (w : Nat → Int) (v : Int) : Int := bif ile 0 v then IntKind.wrap .i64 (w (Int.toNat v) - 1) else v
theorem F2_ge {w : Nat → Int} {f : Nat → Rw} {j : Nat} : ∀ n, n ≤ j → F2 w f n j = f j
  | 0, _ => rfl
  | n + 1, h => by
    show hang (F2 w f n j) (bif ile 0 (F2 w f n n).v12 then (bif Nat.beq j n then IntKind.wrap .i64 (w (Int.toNat (F2 w f n n).v12) - 1) else (F2 w f n j).v12) else (F2 w f n j).v12) = f j
    rw [beqn_false (show j ≠ n by omega), cond_false, Bool.cond_self, F2_ge n (by omega)]; rfl
theorem F2_lt {w : Nat → Int} {f : Nat → Rw} {j : Nat} : ∀ n, j < n → F2 w f n j = hang (f j) (of2 w (f j).v12)
  | 0, h => absurd h (Nat.not_lt_zero j)
  | n + 1, h => by
    show hang (F2 w f n j) (bif ile 0 (F2 w f n n).v12 then (bif Nat.beq j n then IntKind.wrap .i64 (w (Int.toNat (F2 w f n n).v12) - 1) else (F2 w f n j).v12) else (F2 w f n j).v12) = _
    by_cases e : j = n
    · subst e
      rw [beq_self', cond_true, F2_ge j (Nat.le_refl j)]; rfl
    · rw [beqn_false e, cond_false, Bool.cond_self, F2_lt n (by omega)]; rfl
/-- the document: the last place that has the number -/
def last (N : Nat → Int) (v : Int) (n : Nat) : Int := itr (fun k r => bif ieq (N k) v then Int.ofNat k else r) n (-1)
def G4 (c : Nat) (N : Nat → Int) (f : Nat → Int) (n : Nat) : Nat → Int := itr (fun k f j => bif Nat.beq j k then last N (f k) c else f j) n f
theorem G4_ge {c : Nat} {N f : Nat → Int} {j : Nat} : ∀ n, n ≤ j → G4 c N f n j = f j
  | 0, _ => rfl
  | n + 1, h => by
    show (bif Nat.beq j n then last N (G4 c N f n n) c else G4 c N f n j) = f j
    rw [beqn_false (show j ≠ n by omega), cond_false, G4_ge n (by omega)]
theorem G4_lt {c : Nat} {N f : Nat → Int} {j : Nat} : ∀ n, j < n → G4 c N f n j = last N (f j) c
  | 0, h => absurd h (Nat.not_lt_zero j)
  | n + 1, h => by
    show (bif Nat.beq j n then last N (G4 c N f n n) c else G4 c N f n j) = _
    by_cases e : j = n
    · subst e; rw [beq_self', cond_true, G4_ge j (Nat.le_refl j)]
    · rw [beqn_false e, cond_false, G4_lt n (by omega)]
theorem last_no {N : Nat → Int} {v : Int} : ∀ n, (∀ k, k < n → N k ≠ v) → last N v n = -1
  | 0, _ => rfl
  | n + 1, h => by
    show (bif ieq (N n) v then Int.ofNat n else last N v n) = -1
    rw [ieq_false (h n (by omega)), cond_false, last_no n fun k hk => h k (by omega)]
theorem last_at {N : Nat → Int} {v : Int} {q : Nat} (hq : N q = v) : ∀ n, q < n → (∀ k, k < n → N k = v → k = q) → last N v n = Int.ofNat q
  | 0, h, _ => absurd h (Nat.not_lt_zero q)
  | n + 1, h, hu => by
    show (bif ieq (N n) v then Int.ofNat n else last N v n) = Int.ofNat q
    by_cases e : N n = v
    · have := hu n (by omega) e
      subst this
      rw [ieq_true e]; rfl
    · rw [ieq_false e, cond_false]
      have : q ≠ n := fun h' => e (by rw [← h']; exact hq)
      exact last_at hq n (by omega) fun k hk => hu k (by omega)
theorem of_same {p : Nat → Bool} {n : Nat} {v : Int} (hn : n ≤ 1048576) (h0 : -1 ≤ v) (h1 : v < (n : Int)) : of2 (NW p n) v = last (NL p n) v (cnt p n) := by
  unfold of2
  by_cases hv : 0 ≤ v
  · obtain ⟨w, rfl⟩ : ∃ w : Nat, v = Int.ofNat w := ⟨Int.toNat v, by simp; omega⟩
    have hw : w < n := by simpa using h1
    have hc := cnt_le p w
    rw [ile_true hv, cond_true, toNat_of, NW_at n w hw]
    cases hp : p w with
    | true =>
      obtain ⟨a1, a2⟩ := NL_at n w hw hp
      rw [cond_true, last_at a2 _ a1 (fun k hk e => ?_)]
      · have e : Int.ofNat (cnt p w + 1) - 1 = Int.ofNat (cnt p w) := by simp
        rw [e]; exact wrap_i64 (by simp only [Int.ofNat_eq_natCast]; omega) (by simp only [Int.ofNat_eq_natCast]; omega)
      · obtain ⟨w', b1, b2, b3, b4⟩ := NL_lt n k hk
        rw [b2] at e
        have : w' = w := by have h : (w' : Int) = (w : Int) := e; omega
        subst this; exact b4.symm
    | false =>
      rw [cond_false, last_no _ (fun k hk e => ?_)]
      · rfl
      · obtain ⟨w', b1, b2, b3, b4⟩ := NL_lt n k hk
        rw [b2] at e
        have : w' = w := by have h : (w' : Int) = (w : Int) := e; omega
        subst this; rw [hp] at b3; cases b3
  · rw [ile_false (by omega), cond_false, last_no _ (fun k hk e => ?_)]
    · omega
    · obtain ⟨w', b1, b2, b3, b4⟩ := NL_lt n k hk
      rw [b2] at e
      simp at e; omega
end Go.Proofs.Ytofpjfohijljgaa
