/- Rows solved by turns: what a turn of the program keeps and what it looks at. -/
import Derived.Test.YtofpjfohijljgaaLawOnyM
set_option linter.unusedVariables false
set_option linter.unusedSimpArgs false
set_option linter.unusedSectionVars false
set_option maxHeartbeats 4000000
set_option maxRecDepth 4000
namespace Go.Proofs.Ytofpjfohijljgaa
open Go.Sim Go.Lst
noncomputable def may (r : Rw) : Bool := s_rows_fits_0 r.v0 r.v1 r.v2 r.v3 r.v4 r.v5 r.v6 r.v7 r.v8 r.v9 r.v10 r.v11 r.v12 r.v13
noncomputable def rest (a : Sl) : Bool := s_rows_rests_0 a.v0 a.v1 a.v2 a.v3 a.v4
theorem asked_eq (r : Rw) (a b : Sl) : (ieq (s_rows_asked_0 r.v0 r.v1 r.v2 r.v3 r.v4 r.v5 r.v6 r.v7 r.v8 r.v9 r.v10 r.v11 r.v12 r.v13 a.v0 a.v1 a.v2 a.v3 a.v4 b.v0 b.v1 b.v2 b.v3 b.v4) 0) = (may r && rest a && rest b) := by
  unfold s_rows_asked_0
  show ieq (bif (((!(may r)) || (!(rest a))) || (!(rest b))) then (200 : Int) else 0) 0 = _
  cases may r <;> cases rest a <;> cases rest b <;> rfl
theorem okP_eq (r : Rw) (a b : Sl) : okP r a b = (may r && rest a && rest b) := by
  rw [← asked_eq]
  unfold okP s_rows_One_24
  simp only []
  cases h : ieq (s_rows_asked_0 r.v0 r.v1 r.v2 r.v3 r.v4 r.v5 r.v6 r.v7 r.v8 r.v9 r.v10 r.v11 r.v12 r.v13 a.v0 a.v1 a.v2 a.v3 a.v4 b.v0 b.v1 b.v2 b.v3 b.v4) 0
  · rw [Bool.not_false, cond_true]; exact h
  · simp only [Bool.not_true, cond_false, Bool.cond_self]; exact ieq_self 0
theorem okwP_eq (r : Rw) (a b : Sl) : okwP r a b = (may r && rest a && rest b) := by
  rw [← asked_eq]
  unfold okwP s_rows_Warm_10
  cases h : ieq (s_rows_asked_0 r.v0 r.v1 r.v2 r.v3 r.v4 r.v5 r.v6 r.v7 r.v8 r.v9 r.v10 r.v11 r.v12 r.v13 a.v0 a.v1 a.v2 a.v3 a.v4 b.v0 b.v1 b.v2 b.v3 b.v4) 0
  · rw [Bool.not_false, cond_true]; exact h
  · simp only [Bool.not_true, cond_false]; exact ieq_self 0
theorem askedT {r : Rw} {a b : Sl} (h : okP r a b = true) : ieq (s_rows_asked_0 r.v0 r.v1 r.v2 r.v3 r.v4 r.v5 r.v6 r.v7 r.v8 r.v9 r.v10 r.v11 r.v12 r.v13 a.v0 a.v1 a.v2 a.v3 a.v4 b.v0 b.v1 b.v2 b.v3 b.v4) 0 = true := by rw [asked_eq, ← okP_eq]; exact h
theorem askedW {r : Rw} {a b : Sl} (h : okwP r a b = true) : ieq (s_rows_asked_0 r.v0 r.v1 r.v2 r.v3 r.v4 r.v5 r.v6 r.v7 r.v8 r.v9 r.v10 r.v11 r.v12 r.v13 a.v0 a.v1 a.v2 a.v3 a.v4 b.v0 b.v1 b.v2 b.v3 b.v4) 0 = true := by rw [asked_eq, ← okwP_eq]; exact h
theorem oneP_keep {r : Rw} {a b : Sl} (h : okP r a b = true) : (oneP r a b).1 = ⟨r.v0, r.v1, r.v2, r.v3, r.v4, r.v5, r.v6, r.v7, r.v8, r.v9, r.v10, (oneP r a b).1.v11, r.v12, r.v13⟩ := by
  unfold oneP s_rows_One_0 s_rows_One_1 s_rows_One_2 s_rows_One_3 s_rows_One_4 s_rows_One_5 s_rows_One_6 s_rows_One_7 s_rows_One_8 s_rows_One_9 s_rows_One_10 s_rows_One_12 s_rows_One_13
  simp only [askedT h, Bool.not_true, cond_false, Bool.cond_self]
theorem oneP_a {r : Rw} {a b : Sl} (h : okP r a b = true) : (oneP r a b).2.1.v0 = a.v0 ∧ (oneP r a b).2.1.v1 = a.v1 := by
  unfold oneP s_rows_One_14 s_rows_One_15 s_rows_pushed_0 s_rows_pushed_1
  simp only [askedT h, Bool.not_true, cond_false, Bool.cond_self, and_self]
theorem oneP_b {r : Rw} {a b : Sl} (h : okP r a b = true) : (oneP r a b).2.2.v0 = b.v0 ∧ (oneP r a b).2.2.v1 = b.v1 := by
  unfold oneP s_rows_One_19 s_rows_One_20 s_rows_pushed_5 s_rows_pushed_6
  simp only [askedT h, Bool.not_true, cond_false, Bool.cond_self, and_self]
theorem wrmP_a {r : Rw} {a b : Sl} (h : okwP r a b = true) : (wrmP r a b).1.v0 = a.v0 ∧ (wrmP r a b).1.v1 = a.v1 := by
  unfold wrmP s_rows_Warm_0 s_rows_Warm_1 s_rows_pushed_0 s_rows_pushed_1
  simp only [askedW h, Bool.not_true, cond_false, Bool.cond_self, and_self]
theorem wrmP_b {r : Rw} {a b : Sl} (h : okwP r a b = true) : (wrmP r a b).2.v0 = b.v0 ∧ (wrmP r a b).2.v1 = b.v1 := by
  unfold wrmP s_rows_Warm_5 s_rows_Warm_6 s_rows_pushed_5 s_rows_pushed_6
  simp only [askedW h, Bool.not_true, cond_false, Bool.cond_self, and_self]
/-- can a still be moved? -/
noncomputable def mv (a : Sl) : Bool := flt 0 a.v0 || flt 0 a.v1
theorem mv_of {a b : Sl} (h0 : a.v0 = b.v0) (h1 : a.v1 = b.v1) : mv a = mv b := by unfold mv; rw [h0, h1]
theorem nought_of {a : Nat} (h : fle 0 a = true) (h' : flt 0 a = false) : feq a 0 = true := by
  have n0 : nanb 0 = false := by decide
  have na : nanb a = false := by
    cases na : nanb a
    · rfl
    · rw [fle_nan (.inr na)] at h; cases h
  rw [fle_key n0 na] at h
  rw [flt_key n0 na] at h'
  rw [feq_key na n0]
  simp at h h' ⊢
  omega
theorem rest_noughts {a : Sl} (h : rest a = true) (hm : mv a = false) : feq a.v0 0 = true ∧ feq a.v1 0 = true := by
  unfold rest s_rows_rests_0 at h
  unfold mv at hm
  simp only [Bool.and_eq_true, Bool.or_eq_false_iff] at h hm
  exact ⟨nought_of h.1.2 hm.1, nought_of h.2 hm.2⟩
theorem oneP_stay {r : Rw} {a b : Sl} (h : okP r a b = true) : (mv a = false → (oneP r a b).2.1 = a) ∧ (mv b = false → (oneP r a b).2.2 = b) := by
  have h2 := h
  rw [okP_eq] at h2
  simp only [Bool.and_eq_true] at h2
  constructor
  · intro hm
    obtain ⟨h0, h1⟩ := rest_noughts h2.1.2 hm
    unfold oneP s_rows_One_14 s_rows_One_15 s_rows_One_16 s_rows_One_17 s_rows_One_18 s_rows_pushed_0 s_rows_pushed_1 s_rows_pushed_2 s_rows_pushed_3 s_rows_pushed_4
    simp only [askedT h, h0, h1, Bool.not_true, Bool.not_false, cond_false, cond_true, Bool.cond_self]
  · intro hm
    obtain ⟨h0, h1⟩ := rest_noughts h2.2 hm
    unfold oneP s_rows_One_19 s_rows_One_20 s_rows_One_21 s_rows_One_22 s_rows_One_23 s_rows_pushed_5 s_rows_pushed_6 s_rows_pushed_7 s_rows_pushed_8 s_rows_pushed_9
    simp only [askedT h, h0, h1, Bool.not_true, Bool.not_false, cond_false, cond_true, Bool.cond_self]
theorem wrmP_stay {r : Rw} {a b : Sl} (h : okwP r a b = true) : (mv a = false → (wrmP r a b).1 = a) ∧ (mv b = false → (wrmP r a b).2 = b) := by
  have h2 := h
  rw [okwP_eq] at h2
  simp only [Bool.and_eq_true] at h2
  constructor
  · intro hm
    obtain ⟨h0, h1⟩ := rest_noughts h2.1.2 hm
    unfold wrmP s_rows_Warm_0 s_rows_Warm_1 s_rows_Warm_2 s_rows_Warm_3 s_rows_Warm_4 s_rows_pushed_0 s_rows_pushed_1 s_rows_pushed_2 s_rows_pushed_3 s_rows_pushed_4
    simp only [askedW h, h0, h1, Bool.not_true, Bool.not_false, cond_false, cond_true, Bool.cond_self]
  · intro hm
    obtain ⟨h0, h1⟩ := rest_noughts h2.2 hm
    unfold wrmP s_rows_Warm_5 s_rows_Warm_6 s_rows_Warm_7 s_rows_Warm_8 s_rows_Warm_9 s_rows_pushed_5 s_rows_pushed_6 s_rows_pushed_7 s_rows_pushed_8 s_rows_pushed_9
    simp only [askedW h, h0, h1, Bool.not_true, Bool.not_false, cond_false, cond_true, Bool.cond_self]
/-- a row that hangs on another one -/
def hang (r : Rw) (x : Int) : Rw := ⟨r.v0, r.v1, r.v2, r.v3, r.v4, r.v5, r.v6, r.v7, r.v8, r.v9, r.v10, r.v11, x, r.v13⟩
theorem may_hang (r : Rw) (x : Int) (h : ile (-1) r.v12 = ile (-1) x) : may (hang r x) = may r := by
  unfold may s_rows_fits_0 hang
  simp only [h]
theorem okP_hang (r : Rw) (x : Int) (a b : Sl) (h : ile (-1) r.v12 = ile (-1) x) : okP (hang r x) a b = okP r a b := by
  rw [okP_eq, okP_eq, may_hang r x h]
theorem okwP_hang (r : Rw) (x : Int) (a b : Sl) (h : ile (-1) r.v12 = ile (-1) x) : okwP (hang r x) a b = okwP r a b := by
  rw [okwP_eq, okwP_eq, may_hang r x h]
theorem oneP_hang {r : Rw} {x : Int} {a b : Sl} (h : ile (-1) r.v12 = ile (-1) x) (ho : okP r a b = true) : oneP (hang r x) a b = (hang (oneP r a b).1 x, (oneP r a b).2) := by
  have h1 := askedT ho
  have h2 := askedT (r := hang r x) (a := a) (b := b) (by rw [okP_hang r x a b h]; exact ho)
  unfold oneP s_rows_One_0 s_rows_One_1 s_rows_One_2 s_rows_One_3 s_rows_One_4 s_rows_One_5 s_rows_One_6 s_rows_One_7 s_rows_One_8 s_rows_One_9 s_rows_One_10 s_rows_One_11 s_rows_One_12 s_rows_One_13 s_rows_One_14 s_rows_One_15 s_rows_One_16 s_rows_One_17 s_rows_One_18 s_rows_One_19 s_rows_One_20 s_rows_One_21 s_rows_One_22 s_rows_One_23
  simp only [h1, h2, Bool.not_true, cond_false, Bool.cond_self]
  rfl
theorem wrmP_hang {r : Rw} {x : Int} {a b : Sl} (h : ile (-1) r.v12 = ile (-1) x) (ho : okwP r a b = true) : wrmP (hang r x) a b = wrmP r a b := by
  have h1 := askedW ho
  have h2 := askedW (r := hang r x) (a := a) (b := b) (by rw [okwP_hang r x a b h]; exact ho)
  unfold wrmP s_rows_Warm_0 s_rows_Warm_1 s_rows_Warm_2 s_rows_Warm_3 s_rows_Warm_4 s_rows_Warm_5 s_rows_Warm_6 s_rows_Warm_7 s_rows_Warm_8 s_rows_Warm_9
  simp only [h1, h2, Bool.not_true, cond_false]
  rfl
theorem upd_self {T : Type} (f : Nat → T) (i : Nat) (v : T) : upd f i v i = v := by unfold upd; rw [beq_self']; rfl
theorem upd_ne {T : Type} {f : Nat → T} {i j : Nat} {v : T} (h : j ≠ i) : upd f i v j = f j := by unfold upd; rw [beqn_false h]; rfl
theorem toNat_lt {a : Int} {m : Nat} (h0 : 0 ≤ a) (h1 : a < (m : Int)) : Int.toNat a < m := by omega
/-- what a row may say of itself -/
structure RIn (n m : Nat) (r : Rw) : Prop where
  a0 : 0 ≤ r.v0
  a1 : r.v0 < (m : Int)
  b0 : 0 ≤ r.v1
  b1 : r.v1 < (m : Int)
  of : r.v12 < (n : Int)
def inv (n m : Nat) (l : Nat → Rw) : Prop := ∀ i, i < n → RIn n m (l i)
def itr {T : Type} (f : Nat → T → T) : Nat → T → T
  | 0, x => x
  | k + 1, x => f k (itr f k x)
abbrev St2 := (Nat → Rw) × (Nat → Sl)
noncomputable def turn (one : One) (ok : Okk) (i : Nat) (p : St2) : St2 := (turnL one ok p.1 p.2 i, turnS one ok p.1 p.2 i)
noncomputable def round (one : One) (ok : Okk) (n : Nat) (p : St2) : St2 := itr (turn one ok) n p
noncomputable def rounds (one : One) (ok : Okk) (n k : Nat) (p : St2) : St2 := itr (fun _ => round one ok n) k p
noncomputable def warms (wrm : Rw → Sl → Sl → Sl × Sl) (ok : Okk) (l : Nat → Rw) (n : Nat) (s : Nat → Sl) : Nat → Sl := itr (fun i s => warmS wrm ok l s i) n s
/-- a row among others, and by itself -/
def lk (at' : Nat → Nat) (k : Nat) (r q : Rw) : Prop := ∃ x, r = hang q x ∧ (q.v12 < 0 ∧ x = q.v12 ∨ 0 ≤ q.v12 ∧ q.v12 < (k : Int) ∧ x = Int.ofNat (at' (Int.toNat q.v12)))
structure Sub (n k : Nat) (at' : Nat → Nat) (s0 : Nat → Sl) (hl : Nat → Prop) (p q : St2) : Prop where
  row : ∀ i, i < k → lk at' k (p.1 (at' i)) (q.1 i)
  st : ∀ x, hl x → p.2 x = q.2 x
  un : ∀ x, mv (s0 x) = false → p.2 x = s0 x ∧ q.2 x = s0 x
  mm : ∀ x, mv (p.2 x) = mv (s0 x) ∧ mv (q.2 x) = mv (s0 x)
  ha : ∀ i, i < k → hl (Int.toNat (q.1 i).v0) ∧ hl (Int.toNat (q.1 i).v1)
  ot : ∀ j, j < n → (∀ i, i < k → at' i ≠ j) → (hl (Int.toNat (p.1 j).v0) → mv (s0 (Int.toNat (p.1 j).v0)) = false) ∧ (hl (Int.toNat (p.1 j).v1) → mv (s0 (Int.toNat (p.1 j).v1)) = false)
theorem turnL_keep (l : Nat → Rw) (s : Nat → Sl) (i j : Nat) : (turnL oneP okP l s i j).v0 = (l j).v0 ∧ (turnL oneP okP l s i j).v1 = (l j).v1 ∧ (turnL oneP okP l s i j).v12 = (l j).v12 := by
  unfold turnL
  by_cases e : j = i
  · subst e
    cases ho : okP (lim l j) (s (Int.toNat (l j).v0)) (s (Int.toNat (l j).v1)) with
    | false => rw [cond_false, upd_self]; exact ⟨rfl, rfl, rfl⟩
    | true => rw [cond_true, upd_self, oneP_keep ho]; exact ⟨rfl, rfl, rfl⟩
  · rw [upd_ne e, upd_ne e, Bool.cond_self]; exact ⟨rfl, rfl, rfl⟩
theorem turnS_mv (l : Nat → Rw) (s : Nat → Sl) (i x : Nat) : mv (turnS oneP okP l s i x) = mv (s x) ∧ (mv (s x) = false → turnS oneP okP l s i x = s x) ∧ (x ≠ Int.toNat (l i).v0 → x ≠ Int.toNat (l i).v1 → turnS oneP okP l s i x = s x) := by
  unfold turnS
  cases ho : okP (lim l i) (s (Int.toNat (l i).v0)) (s (Int.toNat (l i).v1)) with
  | false => rw [cond_false]; exact ⟨rfl, fun _ => rfl, fun _ _ => rfl⟩
  | true =>
    rw [cond_true]
    have hs := oneP_stay ho
    by_cases e1 : x = Int.toNat (l i).v1
    · subst e1; rw [upd_self]
      exact ⟨mv_of (oneP_b ho).1 (oneP_b ho).2, hs.2, fun _ h => absurd rfl h⟩
    · rw [upd_ne e1]
      by_cases e0 : x = Int.toNat (l i).v0
      · subst e0; rw [upd_self]
        exact ⟨mv_of (oneP_a ho).1 (oneP_a ho).2, hs.1, fun h => absurd rfl h⟩
      · rw [upd_ne e0]; exact ⟨rfl, fun _ => rfl, fun _ _ => rfl⟩
theorem warmS_mv (l : Nat → Rw) (s : Nat → Sl) (i x : Nat) : mv (warmS wrmP okwP l s i x) = mv (s x) ∧ (mv (s x) = false → warmS wrmP okwP l s i x = s x) ∧ (x ≠ Int.toNat (l i).v0 → x ≠ Int.toNat (l i).v1 → warmS wrmP okwP l s i x = s x) := by
  unfold warmS
  cases ho : okwP (l i) (s (Int.toNat (l i).v0)) (s (Int.toNat (l i).v1)) with
  | false => rw [cond_false]; exact ⟨rfl, fun _ => rfl, fun _ _ => rfl⟩
  | true =>
    rw [cond_true]
    have hs := wrmP_stay ho
    by_cases e1 : x = Int.toNat (l i).v1
    · subst e1; rw [upd_self]
      exact ⟨mv_of (wrmP_b ho).1 (wrmP_b ho).2, hs.2, fun _ h => absurd rfl h⟩
    · rw [upd_ne e1]
      by_cases e0 : x = Int.toNat (l i).v0
      · subst e0; rw [upd_self]
        exact ⟨mv_of (wrmP_a ho).1 (wrmP_a ho).2, hs.1, fun h => absurd rfl h⟩
      · rw [upd_ne e0]; exact ⟨rfl, fun _ => rfl, fun _ _ => rfl⟩
theorem lk_ile {at' : Nat → Nat} {k : Nat} {q : Rw} {x : Int} (h : q.v12 < 0 ∧ x = q.v12 ∨ 0 ≤ q.v12 ∧ q.v12 < (k : Int) ∧ x = Int.ofNat (at' (Int.toNat q.v12))) (c : Int) (hc : c ≤ 0) : ile c q.v12 = ile c x := by
  rcases h with ⟨_, h⟩ | ⟨h0, _, h⟩
  · rw [h]
  · rw [ile_true (by omega), ile_true (by rw [h]; simp; omega)]
theorem lim_lk {at' : Nat → Nat} {k : Nat} {l l' : Nat → Rw} {i : Nat} (row : ∀ i, i < k → lk at' k (l (at' i)) (l' i)) (hi : i < k) : lim l (at' i) = hang (lim l' i) (l (at' i)).v12 ∧ lk at' k (lim l (at' i)) (lim l' i) := by
  obtain ⟨x, e, hx⟩ := row i hi
  have e1 : lim l (at' i) = hang (lim l' i) x := by
    have hl := lk_ile hx 0 (by omega)
    unfold lim
    rw [e]
    show (⟨_, _, _, _, _, _, _, _, _, _, _, _, _, _⟩ : Rw) = ⟨_, _, _, _, _, _, _, _, _, _, _, _, _, _⟩
    have hq : (bif ile 0 x then lm l (at' i) else 0) = bif ile 0 (l' i).v12 then lm l' i else 0 := by
      rw [← hl]
      rcases hx with ⟨h0, _⟩ | ⟨h0, h1, h2⟩
      · rw [ile_false h0]; rfl
      · rw [ile_true h0, cond_true, cond_true]
        obtain ⟨x', e', _⟩ := row (Int.toNat (l' i).v12) (by omega)
        unfold lm
        rw [e]
        show (bif !(flt 0 (fmul (l' i).v13 (l (Int.toNat x)).v11)) then 0 else fmul (l' i).v13 (l (Int.toNat x)).v11) = _
        rw [h2, toNat_of, e']; rfl
    congr 1
    · show (bif ile 0 x then fsub 0 (lm l (at' i)) else (l' i).v9) = bif ile 0 (l' i).v12 then fsub 0 (lm l' i) else (l' i).v9
      rw [← hl] at hq ⊢
      cases hc : ile 0 (l' i).v12
      · rfl
      · rw [hc, cond_true, cond_true] at hq
        rw [cond_true, cond_true, hq]
    · show (bif ile 0 x then lm l (at' i) else (l' i).v10) = bif ile 0 (l' i).v12 then lm l' i else (l' i).v10
      rw [← hl] at hq ⊢
      cases hc : ile 0 (l' i).v12
      · rfl
      · rw [hc, cond_true, cond_true] at hq
        rw [cond_true, cond_true, hq]
  refine ⟨by rw [e1, e]; rfl, x, e1, hx⟩
theorem sub_turn {n k : Nat} {at' : Nat → Nat} {s0 : Nat → Sl} {hl : Nat → Prop} {p q : St2} (inj : ∀ i j, i < k → j < k → at' i = at' j → i = j) (h : Sub n k at' s0 hl p q) {i : Nat} (hi : i < k) :
    Sub n k at' s0 hl (turn oneP okP (at' i) p) (turn oneP okP i q) := by
  obtain ⟨l, s⟩ := p
  obtain ⟨l', s'⟩ := q
  obtain ⟨row, st, un, mm, ha, ot⟩ := h
  simp only at row st un mm ha ot
  obtain ⟨x, e, hx⟩ := row i hi
  have e0 : (l (at' i)).v0 = (l' i).v0 := by rw [e]; rfl
  have e1 : (l (at' i)).v1 = (l' i).v1 := by rw [e]; rfl
  have s0' := st _ (ha i hi).1
  have s1' := st _ (ha i hi).2
  obtain ⟨el, elk⟩ := lim_lk row hi
  have e12 : (l (at' i)).v12 = x := by rw [e]; rfl
  have hil : ile (-1) (lim l' i).v12 = ile (-1) x := lk_ile hx (-1) (by omega)
  rw [e12] at el
  have eok : okP (lim l (at' i)) (s (Int.toNat (l (at' i)).v0)) (s (Int.toNat (l (at' i)).v1)) = okP (lim l' i) (s' (Int.toNat (l' i).v0)) (s' (Int.toNat (l' i).v1)) := by
    rw [e0, e1, s0', s1', el, okP_hang _ _ _ _ hil]
  refine ⟨fun j hj => ?_, fun y hy => ?_, fun y hy => ?_, fun y => ?_, fun j hj => ?_, fun j hj hne => ?_⟩
  · show lk at' k (turnL oneP okP l s (at' i) (at' j)) (turnL oneP okP l' s' i j)
    unfold turnL
    rw [eok]
    by_cases ej : j = i
    · subst ej
      cases ho : okP (lim l' j) (s' (Int.toNat (l' j).v0)) (s' (Int.toNat (l' j).v1)) with
      | false => rw [cond_false, cond_false, upd_self, upd_self]; exact elk
      | true =>
        rw [cond_true, cond_true, upd_self, upd_self, e0, e1, s0', s1', el, oneP_hang hil ho]
        refine ⟨x, rfl, ?_⟩
        rw [oneP_keep ho]; exact hx
    · have hne : at' j ≠ at' i := fun h => ej (inj _ _ hj hi h)
      rw [upd_ne hne, upd_ne ej, upd_ne hne, upd_ne ej, Bool.cond_self, Bool.cond_self]; exact row j hj
  · show turnS oneP okP l s (at' i) y = turnS oneP okP l' s' i y
    unfold turnS
    rw [eok]
    cases ho : okP (lim l' i) (s' (Int.toNat (l' i).v0)) (s' (Int.toNat (l' i).v1)) with
    | false => exact st y hy
    | true =>
      rw [cond_true, cond_true, e0, e1, s0', s1', el, oneP_hang hil ho]
      unfold upd
      rw [st y hy]
  · show turnS oneP okP l s (at' i) y = s0 y ∧ turnS oneP okP l' s' i y = s0 y
    have h1 := (turnS_mv l s (at' i) y).2.1 (by rw [(mm y).1]; exact hy)
    have h2 := (turnS_mv l' s' i y).2.1 (by rw [(mm y).2]; exact hy)
    rw [h1, h2]; exact un y hy
  · show mv (turnS oneP okP l s (at' i) y) = _ ∧ mv (turnS oneP okP l' s' i y) = _
    rw [(turnS_mv l s (at' i) y).1, (turnS_mv l' s' i y).1]; exact mm y
  · show hl (Int.toNat (turnL oneP okP l' s' i j).v0) ∧ hl (Int.toNat (turnL oneP okP l' s' i j).v1)
    rw [(turnL_keep l' s' i j).1, (turnL_keep l' s' i j).2.1]; exact ha j hj
  · show (hl (Int.toNat (turnL oneP okP l s (at' i) j).v0) → mv (s0 (Int.toNat (turnL oneP okP l s (at' i) j).v0)) = false) ∧ (hl (Int.toNat (turnL oneP okP l s (at' i) j).v1) → mv (s0 (Int.toNat (turnL oneP okP l s (at' i) j).v1)) = false)
    rw [(turnL_keep l s (at' i) j).1, (turnL_keep l s (at' i) j).2.1]; exact ot j hj hne
theorem sub_other {n k : Nat} {at' : Nat → Nat} {s0 : Nat → Sl} {hl : Nat → Prop} {p q : St2} (h : Sub n k at' s0 hl p q) {i : Nat} (hi : i < n) (hne : ∀ j, j < k → at' j ≠ i) :
    Sub n k at' s0 hl (turn oneP okP i p) q := by
  obtain ⟨l, s⟩ := p
  obtain ⟨l', s'⟩ := q
  obtain ⟨row, st, un, mm, ha, ot⟩ := h
  simp only at row st un mm ha ot
  refine ⟨fun j hj => ?_, fun y hy => ?_, fun y hy => ?_, fun y => ?_, ha, fun j hj hnj => ?_⟩
  · show lk at' k (turnL oneP okP l s i (at' j)) (l' j)
    unfold turnL
    rw [upd_ne (hne j hj), upd_ne (hne j hj), Bool.cond_self]; exact row j hj
  · show turnS oneP okP l s i y = s' y
    have ht := turnS_mv l s i y
    have ho := ot i hi hne
    by_cases hy0 : mv (s0 y) = false
    · rw [ht.2.1 (by rw [(mm y).1]; exact hy0), (un y hy0).1, (un y hy0).2]
    · rw [ht.2.2 (fun e => hy0 (by subst e; exact ho.1 hy)) (fun e => hy0 (by subst e; exact ho.2 hy))]; exact st y hy
  · show turnS oneP okP l s i y = s0 y ∧ s' y = s0 y
    rw [(turnS_mv l s i y).2.1 (by rw [(mm y).1]; exact hy)]; exact un y hy
  · show mv (turnS oneP okP l s i y) = _ ∧ mv (s' y) = _
    rw [(turnS_mv l s i y).1]; exact mm y
  · show (hl (Int.toNat (turnL oneP okP l s i j).v0) → mv (s0 (Int.toNat (turnL oneP okP l s i j).v0)) = false) ∧ (hl (Int.toNat (turnL oneP okP l s i j).v1) → mv (s0 (Int.toNat (turnL oneP okP l s i j).v1)) = false)
    rw [(turnL_keep l s i j).1, (turnL_keep l s i j).2.1]; exact ot j hj hnj
theorem sub_warm {n k : Nat} {at' : Nat → Nat} {s0 : Nat → Sl} {hl : Nat → Prop} {l l' : Nat → Rw} {s s' : Nat → Sl} (h : Sub n k at' s0 hl (l, s) (l', s')) {i : Nat} (hi : i < k) :
    Sub n k at' s0 hl (l, warmS wrmP okwP l s (at' i)) (l', warmS wrmP okwP l' s' i) := by
  obtain ⟨row, st, un, mm, ha, ot⟩ := h
  simp only at row st un mm ha ot
  obtain ⟨x, e, hx⟩ := row i hi
  have e0 : (l (at' i)).v0 = (l' i).v0 := by rw [e]; rfl
  have e1 : (l (at' i)).v1 = (l' i).v1 := by rw [e]; rfl
  have s0' := st _ (ha i hi).1
  have s1' := st _ (ha i hi).2
  have hil : ile (-1) (l' i).v12 = ile (-1) x := lk_ile hx (-1) (by omega)
  have eok : okwP (l (at' i)) (s (Int.toNat (l (at' i)).v0)) (s (Int.toNat (l (at' i)).v1)) = okwP (l' i) (s' (Int.toNat (l' i).v0)) (s' (Int.toNat (l' i).v1)) := by
    rw [e0, e1, s0', s1', e, okwP_hang _ _ _ _ hil]
  refine ⟨row, fun y hy => ?_, fun y hy => ?_, fun y => ?_, ha, ot⟩
  · show warmS wrmP okwP l s (at' i) y = warmS wrmP okwP l' s' i y
    unfold warmS
    rw [eok]
    cases ho : okwP (l' i) (s' (Int.toNat (l' i).v0)) (s' (Int.toNat (l' i).v1)) with
    | false => exact st y hy
    | true =>
      rw [cond_true, cond_true, e0, e1, s0', s1', e, wrmP_hang hil ho]
      unfold upd
      rw [st y hy]
  · show warmS wrmP okwP l s (at' i) y = s0 y ∧ warmS wrmP okwP l' s' i y = s0 y
    have h1 := (warmS_mv l s (at' i) y).2.1 (by rw [(mm y).1]; exact hy)
    have h2 := (warmS_mv l' s' i y).2.1 (by rw [(mm y).2]; exact hy)
    rw [h1, h2]; exact un y hy
  · show mv (warmS wrmP okwP l s (at' i) y) = _ ∧ mv (warmS wrmP okwP l' s' i y) = _
    rw [(warmS_mv l s (at' i) y).1, (warmS_mv l' s' i y).1]; exact mm y
theorem sub_warmo {n k : Nat} {at' : Nat → Nat} {s0 : Nat → Sl} {hl : Nat → Prop} {l l' : Nat → Rw} {s s' : Nat → Sl} (h : Sub n k at' s0 hl (l, s) (l', s')) {i : Nat} (hi : i < n) (hne : ∀ j, j < k → at' j ≠ i) :
    Sub n k at' s0 hl (l, warmS wrmP okwP l s i) (l', s') := by
  obtain ⟨row, st, un, mm, ha, ot⟩ := h
  simp only at row st un mm ha ot
  refine ⟨row, fun y hy => ?_, fun y hy => ?_, fun y => ?_, ha, ot⟩
  · show warmS wrmP okwP l s i y = s' y
    have ht := warmS_mv l s i y
    have ho := ot i hi hne
    by_cases hy0 : mv (s0 y) = false
    · rw [ht.2.1 (by rw [(mm y).1]; exact hy0), (un y hy0).1, (un y hy0).2]
    · rw [ht.2.2 (fun e => hy0 (by subst e; exact ho.1 hy)) (fun e => hy0 (by subst e; exact ho.2 hy))]; exact st y hy
  · show warmS wrmP okwP l s i y = s0 y ∧ s' y = s0 y
    rw [(warmS_mv l s i y).2.1 (by rw [(mm y).1]; exact hy)]; exact un y hy
  · show mv (warmS wrmP okwP l s i y) = _ ∧ mv (s' y) = _
    rw [(warmS_mv l s i y).1]; exact mm y
/-- two runs side by side: one takes a step for each number, the other one for some -/
theorem side {A B : Type} {f : Nat → A → A} {g : Nat → B → B} {I : A → B → Prop} {n k : Nat} {at' : Nat → Nat} (mono : ∀ i j, i < j → j < k → at' i < at' j) (lt : ∀ i, i < k → at' i < n)
    (mine : ∀ i a b, i < k → I a b → I (f (at' i) a) (g i b)) (other : ∀ j a b, j < n → (∀ i, i < k → at' i ≠ j) → I a b → I (f j a) b) {a : A} {b : B} (h : I a b) : I (itr f n a) (itr g k b) := by
  have step : ∀ j, j ≤ n → ∃ c, c ≤ k ∧ (∀ i, i < c → at' i < j) ∧ (∀ i, c ≤ i → i < k → j ≤ at' i) ∧ I (itr f j a) (itr g c b) := by
    intro j
    induction j with
    | zero => exact fun _ => ⟨0, Nat.zero_le _, fun i hi => absurd hi (Nat.not_lt_zero i), fun i _ _ => Nat.zero_le _, h⟩
    | succ j ih =>
      intro hj
      obtain ⟨c, hc, h1, h2, h3⟩ := ih (by omega)
      by_cases hm : c < k ∧ at' c = j
      · obtain ⟨hck, e⟩ := hm
        refine ⟨c + 1, hck, fun i hi => ?_, fun i hi hik => ?_, ?_⟩
        · by_cases hic : i < c
          · have := h1 i hic; omega
          · have : i = c := by omega
            subst this; omega
        · have := mono c i (by omega) hik; omega
        · subst e; exact mine c _ _ hck h3
      · refine ⟨c, hc, fun i hi => by have := h1 i hi; omega, fun i hi hik => ?_, other j _ _ (by omega) (fun i hi e => ?_) h3⟩
        · have h' := h2 i hi hik
          by_cases hic : i = c
          · subst hic
            have : at' i ≠ j := fun e => hm ⟨hik, e⟩
            omega
          · have := mono c i (by omega) hik
            have := h2 c (Nat.le_refl c) (by omega)
            omega
        · by_cases hic : i < c
          · have := h1 i hic; omega
          · by_cases hic' : i = c
            · subst hic'; exact hm ⟨hi, e⟩
            · have := mono c i (by omega) hi
              have := h2 c (Nat.le_refl c) (by omega)
              omega
  obtain ⟨c, hc, h1, h2, h3⟩ := step n (Nat.le_refl n)
  have : c = k := by
    by_cases hck : c < k
    · have := h2 c (Nat.le_refl c) hck
      have := lt c hck
      omega
    · omega
  subst this; exact h3
theorem sub_out {n k R : Nat} {at' : Nat → Nat} {s0 : Nat → Sl} {hl : Nat → Prop} {l l' : Nat → Rw} (mono : ∀ i j, i < j → j < k → at' i < at' j) (lt : ∀ i, i < k → at' i < n)
    (h : Sub n k at' s0 hl (l, s0) (l', s0)) : Sub n k at' s0 hl (rounds oneP okP n R (l, warms wrmP okwP l n s0)) (rounds oneP okP k R (l', warms wrmP okwP l' k s0)) := by
  have inj : ∀ i j, i < k → j < k → at' i = at' j → i = j := fun i j hi hj e => by
    rcases Nat.lt_trichotomy i j with h | h | h
    · have := mono i j h hj; omega
    · exact h
    · have := mono j i h hi; omega
  have h0 : Sub n k at' s0 hl (l, warms wrmP okwP l n s0) (l', warms wrmP okwP l' k s0) :=
    side (I := fun a b => Sub n k at' s0 hl (l, a) (l', b)) (f := fun i s => warmS wrmP okwP l s i) (g := fun i s => warmS wrmP okwP l' s i) mono lt (fun i a b hi h => sub_warm h hi) (fun j a b hj hne h => sub_warmo h hj hne) h
  have hr : ∀ R, Sub n k at' s0 hl (rounds oneP okP n R (l, warms wrmP okwP l n s0)) (rounds oneP okP k R (l', warms wrmP okwP l' k s0)) := by
    intro R
    induction R with
    | zero => exact h0
    | succ R ih =>
      exact side (I := Sub n k at' s0 hl) (f := turn oneP okP) (g := turn oneP okP) mono lt (fun i a b hi h => sub_turn inj h hi) (fun j a b hj hne h => sub_other h hj hne) ih
  exact hr R
theorem round_0 (R : Nat) (l : Nat → Rw) (s : Nat → Sl) : rounds oneP okP 0 R (l, warms wrmP okwP l 0 s) = (l, s) := by
  induction R with
  | zero => rfl
  | succ R ih => exact ih
/-- what no row has stays -/
theorem none_out {n R : Nat} {l : Nat → Rw} {s0 : Nat → Sl} {x : Nat} (h : ∀ j, j < n → x ≠ Int.toNat (l j).v0 ∧ x ≠ Int.toNat (l j).v1) : (rounds oneP okP n R (l, warms wrmP okwP l n s0)).2 x = s0 x := by
  have hs := sub_out (n := n) (k := 0) (R := R) (at' := fun i => i) (s0 := s0) (hl := fun y => y = x) (l := l) (l' := l) (fun i j _ hj => absurd hj (Nat.not_lt_zero j)) (fun i hi => absurd hi (Nat.not_lt_zero i))
    ⟨fun i hi => absurd hi (Nat.not_lt_zero i), fun _ _ => rfl, fun _ _ => ⟨rfl, rfl⟩, fun _ => ⟨rfl, rfl⟩, fun i hi => absurd hi (Nat.not_lt_zero i), fun j hj _ => ⟨fun e => absurd e.symm (h j hj).1, fun e => absurd e.symm (h j hj).2⟩⟩
  have := hs.st x rfl
  rw [round_0] at this
  exact this
theorem lim_in {n m : Nat} {l : Nat → Rw} {i : Nat} (h : RIn n m (l i)) : RIn n m (lim l i) := ⟨h.a0, h.a1, h.b0, h.b1, h.of⟩
theorem turn_in {n m : Nat} {l : Nat → Rw} {s : Nat → Sl} {i : Nat} (h : inv n m l) : inv n m (turnL oneP okP l s i) := by
  intro j hj
  have hk := turnL_keep l s i j
  have hr := h j hj
  exact ⟨by rw [hk.1]; exact hr.a0, by rw [hk.1]; exact hr.a1, by rw [hk.2.1]; exact hr.b0, by rw [hk.2.1]; exact hr.b1, by rw [hk.2.2]; exact hr.of⟩
theorem turns_in {n m : Nat} {p : St2} (h : inv n m p.1) : ∀ k, inv n m (itr (turn oneP okP) k p).1
  | 0 => h
  | k + 1 => turn_in (s := (itr (turn oneP okP) k p).2) (turns_in h k)
theorem rounds_in {n m : Nat} {p : St2} (h : inv n m p.1) : ∀ k, inv n m (rounds oneP okP n k p).1
  | 0 => h
  | k + 1 => turns_in (rounds_in h k) n
end Go.Proofs.Ytofpjfohijljgaa
