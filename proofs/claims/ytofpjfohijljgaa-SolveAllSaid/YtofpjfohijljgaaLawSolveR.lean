/- Rows solved by turns: what a turn keeps, what it looks at; the loops of both as one run of the model. -/
import Derived.Test.YtofpjfohijljgaaLawSolveM
set_option linter.unusedVariables false
set_option linter.unusedSimpArgs false
set_option linter.unusedSectionVars false
set_option maxHeartbeats 4000000
set_option maxRecDepth 4000
namespace Go.Proofs.Ytofpjfohijljgaa
open Go.Sim Go.Lst
noncomputable def may (r : Rw) : Bool := s_ref20_May_0 r.v0 r.v1 r.v2 r.v3 r.v4 r.v5 r.v6 r.v7 r.v8 r.v9 r.v10 r.v11 r.v12 r.v13
noncomputable def rest (a : Sl) : Bool := s_ref20_Rests_0 a.v0 a.v1 a.v2 a.v3 a.v4
theorem all_eq (r : Rw) (a b : Sl) : s_ref20_all_0 r.v0 r.v1 r.v2 r.v3 r.v4 r.v5 r.v6 r.v7 r.v8 r.v9 r.v10 r.v11 r.v12 r.v13 a.v0 a.v1 a.v2 a.v3 a.v4 b.v0 b.v1 b.v2 b.v3 b.v4 = (may r && rest a && rest b) := rfl
theorem okR_eq (r : Rw) (a b : Sl) : okR r a b = (may r && rest a && rest b) := by
 unfold okR s_ref20_One_24
 rw [all_eq]
 simp only []
 generalize (may r && rest a && rest b) = q
 cases q
 ·rfl
 ·simp only [Bool.not_true, cond_false, Bool.cond_self]; exact ieq_self 0
theorem okwR_eq (r : Rw) (a b : Sl) : okwR r a b = (may r && rest a && rest b) := by
 unfold okwR s_ref20_Warm_10
 rw [all_eq]
 generalize (may r && rest a && rest b) = q
 cases q <;> rfl
theorem oneR_keep {r : Rw} {a b : Sl} (h : okR r a b = true) : (oneR r a b).1 = ⟨r.v0, r.v1, r.v2, r.v3, r.v4, r.v5, r.v6, r.v7, r.v8, r.v9, r.v10, (oneR r a b).1.v11, r.v12, r.v13⟩ := by
 rw [okR_eq] at h
 unfold oneR s_ref20_One_0 s_ref20_One_1 s_ref20_One_2 s_ref20_One_3 s_ref20_One_4 s_ref20_One_5 s_ref20_One_6 s_ref20_One_7 s_ref20_One_8 s_ref20_One_9 s_ref20_One_10 s_ref20_One_12 s_ref20_One_13
 simp only [all_eq, h, Bool.not_true, cond_false, Bool.cond_self]
theorem wrmR_a {r : Rw} {a b : Sl} (h : okwR r a b = true) : (wrmR r a b).1.v0 = a.v0 ∧ (wrmR r a b).1.v1 = a.v1 := by
 rw [okwR_eq] at h
 unfold wrmR s_ref20_Warm_0 s_ref20_Warm_1 s_ref20_pushed_0 s_ref20_pushed_1
 simp only [all_eq, h, Bool.not_true, cond_false, and_self]
theorem wrmR_b {r : Rw} {a b : Sl} (h : okwR r a b = true) : (wrmR r a b).2.v0 = b.v0 ∧ (wrmR r a b).2.v1 = b.v1 := by
 rw [okwR_eq] at h
 unfold wrmR s_ref20_Warm_5 s_ref20_Warm_6 s_ref20_pushed_0 s_ref20_pushed_1
 simp only [all_eq, h, Bool.not_true, cond_false, and_self]
theorem rest_of {a b : Sl} (h0 : a.v0 = b.v0) (h1 : a.v1 = b.v1) : rest a = rest b := by
 unfold rest s_ref20_Rests_0; rw [h0, h1]
structure RIn (n m : Nat) (r : Rw) : Prop where
 a0 : 0 ≤ r.v0
 a1 : r.v0 < (m : Int)
 b0 : 0 ≤ r.v1
 b1 : r.v1 < (m : Int)
 of : r.v12 < (n : Int)
 lo : CF r.v9
 hi : CF r.v10
def inv (n m : Nat) (l : Nat → Rw) : Prop := ∀ i, i < n → RIn n m (l i)
def rst (m : Nat) (s : Nat → Sl) : Prop := ∀ k, k < m → rest (s k) = true
theorem upd_self {T : Type} (f : Nat → T) (i : Nat) (v : T) : upd f i v i = v := by unfold upd; rw [beq_self']; rfl
theorem upd_ne {T : Type} {f : Nat → T} {i j : Nat} {v : T} (h : j ≠ i) : upd f i v j = f j := by unfold upd; rw [beqn_false h]; rfl
theorem cf_lm (l : Nat → Rw) (i : Nat) : CF (lm l i) := by
 have h0 : CF 0 := ⟨by decide, fun h => absurd h (by decide)⟩
 unfold lm
 cases flt 0 (fmul (l i).v13 (l (Int.toNat (l i).v12)).v11)
 ·exact h0
 ·exact CF.mul _ _
theorem lim_in {n m : Nat} {l : Nat → Rw} {i : Nat} (h : RIn n m (l i)) : RIn n m (lim l i) := by
 refine ⟨h.a0, h.a1, h.b0, h.b1, h.of, ?_, ?_⟩
 ·unfold lim; cases ile 0 (l i).v12
  ·exact h.lo
  ·exact CF.sub _ _
 ·unfold lim; cases ile 0 (l i).v12
  ·exact h.hi
  ·exact cf_lm l i
theorem turnL_eq {n m : Nat} {l : Nat → Rw} {s : Nat → Sl} {i : Nat} (h : RIn n m (l i)) : turnL oneP okP l s i = turnL oneR okR l s i := by
 have hl := lim_in (l := l) h
 funext j; unfold turnL
 rw [okP_eq _ _ _ hl.lo hl.hi, oneP_eq _ _ _ hl.lo hl.hi]
theorem turnS_eq {n m : Nat} {l : Nat → Rw} {s : Nat → Sl} {i : Nat} (h : RIn n m (l i)) : turnS oneP okP l s i = turnS oneR okR l s i := by
 have hl := lim_in (l := l) h
 funext j; unfold turnS
 rw [okP_eq _ _ _ hl.lo hl.hi, oneP_eq _ _ _ hl.lo hl.hi]
theorem turn_in {n m : Nat} {l : Nat → Rw} {s : Nat → Sl} {i : Nat} (hi : i < n) (h : inv n m l) : inv n m (turnL oneR okR l s i) := by
 intro j hj
 unfold turnL
 have hl := lim_in (l := l) (h i hi)
 by_cases e : j = i
 ·subst e
  cases ho : okR (lim l j) (s (Int.toNat (l j).v0)) (s (Int.toNat (l j).v1)) with
  | false => rw [cond_false, upd_self]; exact hl
  | true =>
   rw [cond_true, upd_self, oneR_keep ho]
   exact ⟨hl.a0, hl.a1, hl.b0, hl.b1, hl.of, hl.lo, hl.hi⟩
 ·rw [upd_ne e, upd_ne e, Bool.cond_self]; exact h j hj
theorem toNat_lt {a : Int} {m : Nat} (h0 : 0 ≤ a) (h1 : a < (m : Int)) : Int.toNat a < m := by omega
theorem lim_same {n m : Nat} {l l' : Nat → Rw} {i : Nat} (hi : i < n) (h : RIn n m (l i)) (e : ∀ j, j < n → l j = l' j) : lim l i = lim l' i := by
 have ei := e i hi
 unfold lim lm
 rw [← ei]
 by_cases hv : 0 ≤ (l i).v12
 ·rw [← e _ (toNat_lt hv h.of)]
 ·rw [ile_false (by omega)]; rfl
theorem turn_loc {n m : Nat} {l l' : Nat → Rw} {s s' : Nat → Sl} {i : Nat} (hi : i < n) (h : inv n m l) (el : ∀ j, j < n → l j = l' j) (es : ∀ k, k < m → s k = s' k) :
  (∀ j, j < n → turnL oneR okR l s i j = turnL oneR okR l' s' i j) ∧ (∀ k, k < m → turnS oneR okR l s i k = turnS oneR okR l' s' i k) := by
 have hr := h i hi
 have e1 := lim_same hi hr el
 have ei := el i hi
 have ea := es _ (toNat_lt hr.a0 hr.a1)
 have eb := es _ (toNat_lt hr.b0 hr.b1)
 constructor
 ·intro j hj
  unfold turnL
  rw [← ei, ← e1, ← ea, ← eb]
  unfold upd
  rw [el j hj]
 ·intro k hk
  unfold turnS
  rw [← ei, ← e1, ← ea, ← eb]
  unfold upd
  rw [es k hk]
def itr {T : Type} (f : Nat → T → T) : Nat → T → T
 | 0, x => x
 | k + 1, x => f k (itr f k x)
abbrev St2 := (Nat → Rw) × (Nat → Sl)
noncomputable def turn (one : One) (ok : Okk) (i : Nat) (p : St2) : St2 := (turnL one ok p.1 p.2 i, turnS one ok p.1 p.2 i)
noncomputable def round (one : One) (ok : Okk) (n : Nat) (p : St2) : St2 := itr (turn one ok) n p
noncomputable def rounds (one : One) (ok : Okk) (n k : Nat) (p : St2) : St2 := itr (fun _ => round one ok n) k p
noncomputable def warms (wrm : Rw → Sl → Sl → Sl × Sl) (ok : Okk) (l : Nat → Rw) (n : Nat) (s : Nat → Sl) : Nat → Sl := itr (fun i s => warmS wrm ok l s i) n s
theorem turn_eq {n m : Nat} {p : St2} {i : Nat} (h : RIn n m (p.1 i)) : turn oneP okP i p = turn oneR okR i p := by
 unfold turn
 rw [turnL_eq h, turnS_eq h]
def agr (n m : Nat) (p q : St2) : Prop := (∀ j, j < n → p.1 j = q.1 j) ∧ (∀ k, k < m → p.2 k = q.2 k)
theorem turns_in {n m : Nat} {p : St2} (h : inv n m p.1) : ∀ k, k ≤ n → inv n m (itr (turn oneR okR) k p).1
 | 0, _ => h
 | k + 1, hk => turn_in (s := (itr (turn oneR okR) k p).2) (by omega) (turns_in h k (by omega))
theorem turns_eq {n m : Nat} {p : St2} (h : inv n m p.1) : ∀ k, k ≤ n → itr (turn oneP okP) k p = itr (turn oneR okR) k p
 | 0, _ => rfl
 | k + 1, hk => by
  have ih := turns_eq h k (by omega)
  have hi := turns_in h k (by omega)
  show turn oneP okP k (itr (turn oneP okP) k p) = turn oneR okR k (itr (turn oneR okR) k p)
  rw [ih]
  exact turn_eq (hi k (by omega))
theorem turns_loc {n m : Nat} {p q : St2} (h : inv n m p.1) (e : agr n m p q) : ∀ k, k ≤ n → agr n m (itr (turn oneR okR) k p) (itr (turn oneR okR) k q)
 | 0, _ => e
 | k + 1, hk => by
  have ih := turns_loc h e k (by omega)
  exact turn_loc (by omega) (turns_in h k (by omega)) ih.1 ih.2
theorem rounds_in {n m : Nat} {p : St2} (h : inv n m p.1) : ∀ k, inv n m (rounds oneR okR n k p).1
 | 0 => h
 | k + 1 => turns_in (rounds_in h k) n (Nat.le_refl n)
theorem rounds_eq {n m : Nat} {p : St2} (h : inv n m p.1) : ∀ k, rounds oneP okP n k p = rounds oneR okR n k p
 | 0 => rfl
 | k + 1 => by
  show round oneP okP n (rounds oneP okP n k p) = round oneR okR n (rounds oneR okR n k p)
  rw [rounds_eq h k]
  exact turns_eq (rounds_in h k) n (Nat.le_refl n)
theorem rounds_loc {n m : Nat} {p q : St2} (h : inv n m p.1) (e : agr n m p q) : ∀ k, agr n m (rounds oneR okR n k p) (rounds oneR okR n k q)
 | 0 => e
 | k + 1 => turns_loc (rounds_in h k) (rounds_loc h e k) n (Nat.le_refl n)
theorem warm_eq {l : Nat → Rw} {s : Nat → Sl} {i : Nat} : warmS wrmP okwP l s i = warmS wrmR okwR l s i := by
 funext j; unfold warmS; rw [okwP_eq, wrmP_eq]
theorem warms_eq {l : Nat → Rw} : ∀ n s, warms wrmP okwP l n s = warms wrmR okwR l n s
 | 0, s => rfl
 | n + 1, s => by
  show warmS wrmP okwP l (warms wrmP okwP l n s) n = warmS wrmR okwR l (warms wrmR okwR l n s) n
  rw [warms_eq n s, warm_eq]
theorem warm_rst {n m : Nat} {l : Nat → Rw} {s : Nat → Sl} {i : Nat} (h : RIn n m (l i)) (hm : may (l i) = true) (hs : rst m s) : rst m (warmS wrmR okwR l s i) ∧ warmS wrmR (fun _ _ _ => true) l s i = warmS wrmR okwR l s i := by
 have ha := hs _ (toNat_lt h.a0 h.a1)
 have hb := hs _ (toNat_lt h.b0 h.b1)
 have ho : okwR (l i) (s (Int.toNat (l i).v0)) (s (Int.toNat (l i).v1)) = true := by rw [okwR_eq, hm, ha, hb]; rfl
 constructor
 ·intro k hk
  unfold warmS
  rw [ho, cond_true]
  by_cases e1 : k = Int.toNat (l i).v1
  ·subst e1; rw [upd_self, rest_of (wrmR_b ho).1 (wrmR_b ho).2]; exact hb
  ·rw [upd_ne e1]
   by_cases e0 : k = Int.toNat (l i).v0
   ·subst e0; rw [upd_self, rest_of (wrmR_a ho).1 (wrmR_a ho).2]; exact ha
   ·rw [upd_ne e0]; exact hs k hk
 ·funext j; unfold warmS; rw [ho]
theorem warms_rst {n m : Nat} {l : Nat → Rw} {s : Nat → Sl} (h : inv n m l) (hm : ∀ i, i < n → may (l i) = true) (hs : rst m s) : ∀ k, k ≤ n → rst m (warms wrmR okwR l k s) ∧ warms wrmR (fun _ _ _ => true) l k s = warms wrmR okwR l k s
 | 0, _ => ⟨hs, rfl⟩
 | k + 1, hk => by
  obtain ⟨h1, h2⟩ := warms_rst h hm hs k (by omega)
  have hw := warm_rst (h k (by omega)) (hm k (by omega)) h1
  refine ⟨hw.1, ?_⟩
  show warmS wrmR (fun _ _ _ => true) l (warms wrmR (fun _ _ _ => true) l k s) k = _
  rw [h2, hw.2]; rfl
theorem warm_loc {n m : Nat} {l l' : Nat → Rw} {s s' : Nat → Sl} {i : Nat} (h : RIn n m (l i)) (el : l i = l' i) (es : ∀ k, k < m → s k = s' k) : ∀ k, k < m → warmS wrmR okwR l s i k = warmS wrmR okwR l' s' i k := by
 intro k hk
 have ea := es _ (toNat_lt h.a0 h.a1)
 have eb := es _ (toNat_lt h.b0 h.b1)
 unfold warmS
 rw [← el, ← ea, ← eb]
 unfold upd
 rw [es k hk]
theorem warms_loc {n m : Nat} {l l' : Nat → Rw} {s s' : Nat → Sl} (h : inv n m l) (el : ∀ j, j < n → l j = l' j) (es : ∀ k, k < m → s k = s' k) : ∀ k, k ≤ n → ∀ x, x < m → warms wrmR okwR l k s x = warms wrmR okwR l' k s' x
 | 0, _ => es
 | k + 1, hk => warm_loc (h k (by omega)) (el k (by omega)) (warms_loc h el es k (by omega))
end Go.Proofs.Ytofpjfohijljgaa
