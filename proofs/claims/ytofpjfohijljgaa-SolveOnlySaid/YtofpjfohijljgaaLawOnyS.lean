/- The rows of some stills, of which no other still that can be moved has any, solved by themselves: the model. -/
import Derived.Test.YtofpjfohijljgaaLawOnyO
set_option linter.unusedVariables false
set_option linter.unusedSimpArgs false
set_option linter.unusedSectionVars false
set_option maxHeartbeats 4000000
set_option maxRecDepth 4000
namespace Go.Proofs.Ytofpjfohijljgaa
open Go.Sim Go.Lst
noncomputable section
/-- the rows of these stills, with numbers of their own; where they were; the other rows -/
def mine (q : Nat) (B : Nat → Int) (l : Nat → Rw) (n : Nat) : Nat → Rw := F2 (NW (pk q B l) n) (OL (pk q B l) l n) (cnt (pk q B l) n)
def np (q : Nat) (B : Nat → Int) (l : Nat → Rw) (i : Nat) : Bool := !(sel q B (l i))
def others (q : Nat) (B : Nat → Int) (l : Nat → Rw) (n : Nat) : Nat → Rw := OL (np q B l) l n
def at' (q : Nat) (B : Nat → Int) (l : Nat → Rw) (n : Nat) (i : Nat) : Nat := Int.toNat (NL (pk q B l) n i)
end
theorem at_spec {q n i : Nat} {B : Nat → Int} {l : Nat → Rw} (hi : i < cnt (pk q B l) n) : at' q B l n i < n ∧ pk q B l (at' q B l n i) = true ∧ cnt (pk q B l) (at' q B l n i) = i ∧ NL (pk q B l) n i = Int.ofNat (at' q B l n i) ∧ mine q B l n i = hang (l (at' q B l n i)) (of2 (NW (pk q B l) n) (l (at' q B l n i)).v12) := by
  obtain ⟨w, h1, h2, h3, h4⟩ := NL_lt n i hi
  have e : at' q B l n i = w := by unfold at'; rw [h2]; rfl
  rw [e]
  refine ⟨h1, h3, h4, h2, ?_⟩
  show F2 _ _ _ i = _
  rw [F2_lt _ hi, OL_at n i hi, h2]; rfl
theorem at_mono {q n i j : Nat} {B : Nat → Int} {l : Nat → Rw} (hij : i < j) (hj : j < cnt (pk q B l) n) : at' q B l n i < at' q B l n j := by
  obtain ⟨a1, _, a3, _⟩ := at_spec (n := n) (show i < cnt (pk q B l) n by omega)
  obtain ⟨b1, _, b3, _⟩ := at_spec (n := n) hj
  by_cases h : at' q B l n i < at' q B l n j
  · exact h
  · have := cnt_mono (pk q B l) (i := at' q B l n j) (at' q B l n i) (by omega)
    omega
theorem at_none {q n j : Nat} {B : Nat → Int} {l : Nat → Rw} (hj : j < n) (h : ∀ i, i < cnt (pk q B l) n → at' q B l n i ≠ j) : pk q B l j = false := by
  cases hp : pk q B l j with
  | false => rfl
  | true =>
    obtain ⟨h1, h2⟩ := NL_at n j hj hp
    exact absurd (show at' q B l n (cnt (pk q B l) j) = j by unfold at'; rw [h2]; rfl) (h _ h1)
/-- the number that a row hangs on, among mine -/
theorem of_mine {q n : Nat} {B : Nat → Int} {l : Nat → Rw} {v : Int} (hn : n ≤ 1048576) (h1 : v < (n : Int)) :
    (v < 0 ∧ of2 (NW (pk q B l) n) v = v) ∨ (0 ≤ v ∧ pk q B l (Int.toNat v) = false ∧ of2 (NW (pk q B l) n) v = -1) ∨
    (0 ≤ v ∧ ∃ k, k < cnt (pk q B l) n ∧ of2 (NW (pk q B l) n) v = Int.ofNat k ∧ v = Int.ofNat (at' q B l n k)) := by
  unfold of2
  by_cases hv : 0 ≤ v
  · obtain ⟨w, rfl⟩ : ∃ w : Nat, v = Int.ofNat w := ⟨Int.toNat v, by simp; omega⟩
    have hw : w < n := by simpa using h1
    have hc := cnt_le (pk q B l) w
    rw [ile_true hv, cond_true, toNat_of, NW_at n w hw]
    cases hp : pk q B l w with
    | false => exact .inr (.inl ⟨hv, rfl, rfl⟩)
    | true =>
      obtain ⟨a1, a2⟩ := NL_at n w hw hp
      refine .inr (.inr ⟨hv, cnt (pk q B l) w, a1, ?_, by unfold at'; rw [a2]; rfl⟩)
      have e : Int.ofNat (cnt (pk q B l) w + 1) - 1 = Int.ofNat (cnt (pk q B l) w) := by simp
      rw [cond_true, e]; exact wrap_i64 (by simp only [Int.ofNat_eq_natCast]; omega) (by simp only [Int.ofNat_eq_natCast]; omega)
  · left; rw [ile_false (by omega)]; exact ⟨by omega, rfl⟩
theorem others_spec {q n i : Nat} {B : Nat → Int} {l : Nat → Rw} (hi : i < cnt (np q B l) n) : ∃ w, w < n ∧ pk q B l w = false ∧ others q B l n i = l w := by
  obtain ⟨w, h1, h2, h3, h4⟩ := NL_lt n i hi
  refine ⟨w, h1, by unfold np at h3; simpa using h3, ?_⟩
  show OL _ _ _ i = _
  rw [OL_at n i hi, h2]; rfl
theorem others_has {q n w : Nat} {B : Nat → Int} {l : Nat → Rw} (hw : w < n) (hp : pk q B l w = false) : ∃ i, i < cnt (np q B l) n ∧ others q B l n i = l w := by
  have h : np q B l w = true := by unfold np; rw [show sel q B (l w) = false from hp]; rfl
  obtain ⟨h1, h2⟩ := NL_at n w hw h
  refine ⟨_, h1, ?_⟩
  show OL _ _ _ _ = _
  rw [OL_at n _ h1, h2]; rfl
theorem ask_mine {q n m : Nat} {B : Nat → Int} {l : Nat → Rw} {s : Nat → Sl} (h : askN n m l s = 0) : askN (cnt (pk q B l) n) m (mine q B l n) s = 0 := by
  obtain ⟨b1, b2, hi, hm, hr⟩ := ask_ok h
  have hc := cnt_le (pk q B l) n
  have key : ∀ i, i < cnt (pk q B l) n → (mine q B l n i).v12 < (cnt (pk q B l) n : Int) ∧ ile (-1) (l (at' q B l n i)).v12 = ile (-1) (mine q B l n i).v12 := fun i hi' => by
    obtain ⟨a1, a2, a3, a4, a5⟩ := at_spec hi'
    rw [a5]
    show of2 (NW (pk q B l) n) (l (at' q B l n i)).v12 < _ ∧ _ = ile (-1) (of2 (NW (pk q B l) n) (l (at' q B l n i)).v12)
    rcases of_mine (q := q) (B := B) (l := l) b1 (hi _ a1).of with ⟨h0, e⟩ | ⟨h0, _, e⟩ | ⟨h0, k, hk, e, _⟩
    · rw [e]; exact ⟨by omega, rfl⟩
    · rw [e, ile_true (by omega)]; exact ⟨by omega, rfl⟩
    · rw [e, ile_true (by omega)]; exact ⟨by have h : (k : Int) < (cnt (pk q B l) n : Int) := by omega
                                             exact h, by rw [ile_true (show (-1 : Int) ≤ Int.ofNat k by simp only [Int.ofNat_eq_natCast]; omega)]⟩
  refine ask_zero (by omega) b2 (fun i hi' => ?_) (fun i hi' => ?_) hr
  · obtain ⟨a1, a2, a3, a4, a5⟩ := at_spec hi'
    have h1 := hi _ a1
    have h2 := (key i hi').1
    rw [a5] at h2 ⊢
    exact ⟨h1.a0, h1.a1, h1.b0, h1.b1, h2⟩
  · obtain ⟨a1, a2, a3, a4, a5⟩ := at_spec hi'
    have h2 := (key i hi').2
    rw [a5] at h2 ⊢
    exact (may_hang (l (at' q B l n i)) (of2 (NW (pk q B l) n) (l (at' q B l n i)).v12) h2).trans (hm _ a1)
theorem ask_others {q n m : Nat} {B : Nat → Int} {l : Nat → Rw} {s : Nat → Sl} (h : askN n m l s = 0) (hv : ∀ w, w < n → pk q B l w = false → (l w).v12 < 0) : askN (cnt (np q B l) n) m (others q B l n) s = 0 := by
  obtain ⟨b1, b2, hi, hm, hr⟩ := ask_ok h
  have hc := cnt_le (np q B l) n
  refine ask_zero (by omega) b2 (fun i hi' => ?_) (fun i hi' => ?_) hr
  · obtain ⟨w, h1, h2, h3⟩ := others_spec hi'
    have := hi w h1
    have := hv w h1 h2
    rw [h3]; exact ⟨(hi w h1).a0, (hi w h1).a1, (hi w h1).b0, (hi w h1).b1, by omega⟩
  · obtain ⟨w, h1, h2, h3⟩ := others_spec hi'
    rw [h3]; exact hm w h1
theorem rounds_keep (n R : Nat) (l : Nat → Rw) (s : Nat → Sl) (j : Nat) : ((rounds oneP okP n R (l, s)).1 j).v12 = (l j).v12 := by
  have h1 : ∀ k (p : St2), ((itr (turn oneP okP) k p).1 j).v12 = (p.1 j).v12 := by
    intro k p
    induction k with
    | zero => rfl
    | succ k ih => exact ((turnL_keep (itr (turn oneP okP) k p).1 (itr (turn oneP okP) k p).2 k j).2.2).trans ih
  induction R with
  | zero => rfl
  | succ R ih => exact (h1 n _).trans ih
theorem hasF_a {n : Nat} {l : Nat → Rw} {i : Nat} (h : i < n) : hasF n l (Int.toNat (l i).v0) = true := decide_eq_true ⟨i, h, .inl rfl⟩
theorem hasF_b {n : Nat} {l : Nat → Rw} {i : Nat} (h : i < n) : hasF n l (Int.toNat (l i).v1) = true := decide_eq_true ⟨i, h, .inr rfl⟩
/-- WHAT IS APART IS SOLVED APART: mine by themselves, and among all -/
theorem only_core {q n m R : Nat} {B : Nat → Int} {l : Nat → Rw} {s : Nat → Sl} (ha : askN n m l s = 0) (hv : ∀ i, i < cnt (pk q B l) n → ¬ ((mine q B l n i).v12 < 0 ∧ 0 ≤ (l (at' q B l n i)).v12))
    (hsep : both (cnt (pk q B l) n) (mine q B l n) (cnt (np q B l) n) (others q B l n) m s = false) :
    ∀ i, i < cnt (pk q B l) n → hang ((outP n l s R).1 (at' q B l n i)) (mine q B l n i).v12 = (outP (cnt (pk q B l) n) (mine q B l n) s R).1 i ∧
      (outP n l s R).2 (Int.toNat (mine q B l n i).v0) = (outP (cnt (pk q B l) n) (mine q B l n) s R).2 (Int.toNat (mine q B l n i).v0) ∧
      (outP n l s R).2 (Int.toNat (mine q B l n i).v1) = (outP (cnt (pk q B l) n) (mine q B l n) s R).2 (Int.toNat (mine q B l n i).v1) := by
  obtain ⟨b1, b2, hi, hm, hr⟩ := ask_ok ha
  have sep : ∀ x, x < m → hasF (cnt (pk q B l) n) (mine q B l n) x = true → ∀ w, w < n → pk q B l w = false → (x = Int.toNat (l w).v0 ∨ x = Int.toNat (l w).v1) → mv (s x) = false := fun x hx h1 w hw hp hx' => by
    cases e : mv (s x) with
    | false => rfl
    | true =>
      obtain ⟨k, hk, he⟩ := others_has hw hp
      have h2 : hasF (cnt (np q B l) n) (others q B l n) x = true := by
        refine decide_eq_true ⟨k, hk, ?_⟩
        rw [he]
        rcases hx' with h | h
        · exact .inl h.symm
        · exact .inr h.symm
      refine absurd ⟨x, hx, ?_⟩ (of_decide_eq_false hsep)
      rw [heldF_eq, heldF_eq, h1, h2, e]; rfl
  have H : Sub n (cnt (pk q B l) n) (at' q B l n) s (fun x => hasF (cnt (pk q B l) n) (mine q B l n) x = true) (l, s) (mine q B l n, s) := by
    refine ⟨fun i hi' => ?_, fun x hx => rfl, fun x hx => ⟨rfl, rfl⟩, fun x => ⟨rfl, rfl⟩, fun i hi' => ⟨hasF_a hi', hasF_b hi'⟩, fun j hj hne => ?_⟩
    · obtain ⟨a1, a2, a3, a4, a5⟩ := at_spec hi'
      refine ⟨(l (at' q B l n i)).v12, by show _ = hang (mine q B l n i) _; rw [a5]; rfl, ?_⟩
      have hv' := hv i hi'
      show (mine q B l n i).v12 < 0 ∧ (l (at' q B l n i)).v12 = (mine q B l n i).v12 ∨ 0 ≤ (mine q B l n i).v12 ∧ (mine q B l n i).v12 < (cnt (pk q B l) n : Int) ∧ (l (at' q B l n i)).v12 = Int.ofNat (at' q B l n (Int.toNat (mine q B l n i).v12))
      rw [a5] at hv' ⊢
      show of2 (NW (pk q B l) n) (l (at' q B l n i)).v12 < 0 ∧ (l (at' q B l n i)).v12 = of2 (NW (pk q B l) n) (l (at' q B l n i)).v12 ∨ 0 ≤ of2 (NW (pk q B l) n) (l (at' q B l n i)).v12 ∧ of2 (NW (pk q B l) n) (l (at' q B l n i)).v12 < (cnt (pk q B l) n : Int) ∧ (l (at' q B l n i)).v12 = Int.ofNat (at' q B l n (Int.toNat (of2 (NW (pk q B l) n) (l (at' q B l n i)).v12)))
      have hv'' : ¬ (of2 (NW (pk q B l) n) (l (at' q B l n i)).v12 < 0 ∧ 0 ≤ (l (at' q B l n i)).v12) := hv'
      rcases of_mine (q := q) (B := B) (l := l) b1 (hi _ a1).of with ⟨h0, e⟩ | ⟨h0, _, e⟩ | ⟨h0, k, hk, e, ev⟩
      · left; rw [e]; exact ⟨h0, rfl⟩
      · rw [e] at hv''; exact absurd ⟨by omega, h0⟩ hv''
      · right
        rw [e, toNat_of]
        exact ⟨by simp, by have h : (k : Int) < (cnt (pk q B l) n : Int) := by omega
                           exact h, ev⟩
    · have hp := at_none hj hne
      have hr' := hi j hj
      exact ⟨fun h => sep _ (toNat_lt hr'.a0 hr'.a1) h j hj hp (.inl rfl), fun h => sep _ (toNat_lt hr'.b0 hr'.b1) h j hj hp (.inr rfl)⟩
  have S := sub_out (R := R) (fun i j h hj => at_mono h hj) (fun i hi' => (at_spec hi').1) H
  intro i hi'
  refine ⟨?_, S.st _ (hasF_a hi'), S.st _ (hasF_b hi')⟩
  obtain ⟨x, e, _⟩ := S.row i hi'
  have e12 : ((outP (cnt (pk q B l) n) (mine q B l n) s R).1 i).v12 = (mine q B l n i).v12 := rounds_keep _ _ _ _ _
  show hang ((rounds oneP okP n R (l, warms wrmP okwP l n s)).1 (at' q B l n i)) (mine q B l n i).v12 = _
  rw [e, ← e12]; rfl
/-- the loop that lays the other rows by: it ends at a row that hangs on one that may be mine -/
theorem loop0 {q n : Nat} {B : Nat → Int} {l : Nat → Rw} {d : Nat} (hn : n ≤ 60) (hd : cnt (pk q B l) n ≤ d) :
    ∃ t, t ≤ n ∧ E_law21_SolveOnly_L0 n (fun j => (l j).v0) (fun j => (l j).v1) (fun j => (l j).v2) (fun j => (l j).v3) (fun j => (l j).v4) (fun j => (l j).v5) (fun j => (l j).v6) (fun j => (l j).v7) (fun j => (l j).v8) (fun j => (l j).v9) (fun j => (l j).v10) (fun j => (l j).v11) (fun j => (l j).v12) (fun j => (l j).v13) (cnt (pk q B l) n) d (NL (pk q B l) n) (V_law21_SolveOnly_L0.mk 0 (0 : Int) (0 : Int) (fun j0 => (0 : Int)) (fun j0 => (0 : Int)) (fun j0 => 0) (fun j0 => 0) (fun j0 => 0) (fun j0 => 0) (fun j0 => 0) (fun j0 => 0) (fun j0 => 0) (fun j0 => 0) (fun j0 => 0) (fun j0 => 0) (fun j0 => (0 : Int)) (fun j0 => 0)) = true ∧
    L_law21_SolveOnly_L0 n (fun j => (l j).v0) (fun j => (l j).v1) (fun j => (l j).v2) (fun j => (l j).v3) (fun j => (l j).v4) (fun j => (l j).v5) (fun j => (l j).v6) (fun j => (l j).v7) (fun j => (l j).v8) (fun j => (l j).v9) (fun j => (l j).v10) (fun j => (l j).v11) (fun j => (l j).v12) (fun j => (l j).v13) (cnt (pk q B l) n) d (NL (pk q B l) n) (V_law21_SolveOnly_L0.mk 0 (0 : Int) (0 : Int) (fun j0 => (0 : Int)) (fun j0 => (0 : Int)) (fun j0 => 0) (fun j0 => 0) (fun j0 => 0) (fun j0 => 0) (fun j0 => 0) (fun j0 => 0) (fun j0 => 0) (fun j0 => 0) (fun j0 => 0) (fun j0 => 0) (fun j0 => (0 : Int)) (fun j0 => 0)) = V_law21_SolveOnly_L0.mk (cnt (np q B l) t) (Int.ofNat (cnt (pk q B l) t)) (Int.ofNat t) (fun j => ((others q B l t) j).v0) (fun j => ((others q B l t) j).v1) (fun j => ((others q B l t) j).v2) (fun j => ((others q B l t) j).v3) (fun j => ((others q B l t) j).v4) (fun j => ((others q B l t) j).v5) (fun j => ((others q B l t) j).v6) (fun j => ((others q B l t) j).v7) (fun j => ((others q B l t) j).v8) (fun j => ((others q B l t) j).v9) (fun j => ((others q B l t) j).v10) (fun j => ((others q B l t) j).v11) (fun j => ((others q B l t) j).v12) (fun j => ((others q B l t) j).v13) ∧
    (∀ w, w < t → pk q B l w = false → (l w).v12 < 0) ∧ (t < n → pk q B l t = false ∧ 0 ≤ (l t).v12) := by
  obtain ⟨j, hj, hall, hend⟩ := first_not (p := fun i => pk q B l i || !(ile 0 (l i).v12)) n
  have hp : ∀ k, k < n → ((ilt (Int.ofNat (cnt (pk q B l) k)) (Int.ofNat (cnt (pk q B l) n))) && (ieq (NL (pk q B l) n (cnt (pk q B l) k)) (Int.ofNat k))) = pk q B l k := fun k hk => by
    rw [ilt_ofNat]
    cases e : pk q B l k with
    | true =>
      obtain ⟨h1, h2⟩ := NL_at n k hk e
      rw [decide_eq_true h1, h2, ieq_self]; rfl
    | false =>
      by_cases h : cnt (pk q B l) k < cnt (pk q B l) n
      · obtain ⟨w, h1, h2, h3, h4⟩ := NL_lt n _ h
        rw [h2, ieq_false (fun e' => ?_), Bool.and_false]
        have : w = k := by have h : (w : Int) = (k : Int) := e'; omega
        subst this; rw [h3] at e; cases e
      · rw [decide_eq_false h]; rfl
  have hr := run_to (ok := ok_law21_SolveOnly_L0 n (fun j => (l j).v0) (fun j => (l j).v1) (fun j => (l j).v2) (fun j => (l j).v3) (fun j => (l j).v4) (fun j => (l j).v5) (fun j => (l j).v6) (fun j => (l j).v7) (fun j => (l j).v8) (fun j => (l j).v9) (fun j => (l j).v10) (fun j => (l j).v11) (fun j => (l j).v12) (fun j => (l j).v13) (cnt (pk q B l) n) d (NL (pk q B l) n)) (go := go_law21_SolveOnly_L0 n (fun j => (l j).v0) (fun j => (l j).v1) (fun j => (l j).v2) (fun j => (l j).v3) (fun j => (l j).v4) (fun j => (l j).v5) (fun j => (l j).v6) (fun j => (l j).v7) (fun j => (l j).v8) (fun j => (l j).v9) (fun j => (l j).v10) (fun j => (l j).v11) (fun j => (l j).v12) (fun j => (l j).v13) (cnt (pk q B l) n) d (NL (pk q B l) n)) (step := step_law21_SolveOnly_L0 n (fun j => (l j).v0) (fun j => (l j).v1) (fun j => (l j).v2) (fun j => (l j).v3) (fun j => (l j).v4) (fun j => (l j).v5) (fun j => (l j).v6) (fun j => (l j).v7) (fun j => (l j).v8) (fun j => (l j).v9) (fun j => (l j).v10) (fun j => (l j).v11) (fun j => (l j).v12) (fun j => (l j).v13) (cnt (pk q B l) n) d (NL (pk q B l) n))
    (fun k => V_law21_SolveOnly_L0.mk (cnt (np q B l) k) (Int.ofNat (cnt (pk q B l) k)) (Int.ofNat k) (fun j => ((others q B l k) j).v0) (fun j => ((others q B l k) j).v1) (fun j => ((others q B l k) j).v2) (fun j => ((others q B l k) j).v3) (fun j => ((others q B l k) j).v4) (fun j => ((others q B l k) j).v5) (fun j => ((others q B l k) j).v6) (fun j => ((others q B l k) j).v7) (fun j => ((others q B l k) j).v8) (fun j => ((others q B l k) j).v9) (fun j => ((others q B l k) j).v10) (fun j => ((others q B l k) j).v11) (fun j => ((others q B l k) j).v12) (fun j => ((others q B l k) j).v13)) j
    (fun k hk => by
      have hc := cnt_le (np q B l) k
      have hx : (bif ilt (Int.ofNat (cnt (pk q B l) k)) (Int.ofNat (cnt (pk q B l) n)) then (Nat.blt (cnt (pk q B l) k) d && Nat.blt (cnt (pk q B l) k) (cnt (pk q B l) n)) else true) = true := by
        rw [ilt_ofNat]
        by_cases h : cnt (pk q B l) k < cnt (pk q B l) n
        · rw [decide_eq_true h, blt_true h, blt_true (show cnt (pk q B l) k < d by omega)]; rfl
        · rw [decide_eq_false h]; rfl
      unfold ok_law21_SolveOnly_L0
      simp only [toNat_of, mrgB_eq, ile_ofNat, Bool.true_and, hx, ble_true (Nat.le_refl (cnt (np q B l) k)), ble_true (show (cnt (np q B l) k + 1) * 112 ≤ 140737488355328 by omega)]
      by_cases h : k < n
      · simp only [ilt_ofNat, decide_eq_true h, blt_true h, Bool.not_true, cond_false, Bool.and_self, Bool.cond_self]
      · simp only [ilt_ofNat, decide_eq_false h, Bool.not_false, cond_true, cond_false])
    (fun k hk => by
      have hg := hall k hk
      unfold go_law21_SolveOnly_L0
      simp only [toNat_of, hp k (by omega)]
      simp only [ilt_ofNat, decide_eq_true (show k < n by omega), Bool.not_true, cond_false]
      cases hq : pk q B l k with
      | true => rfl
      | false => rw [hq] at hg; simp at hg; rw [hg]; rfl)
    (fun k hk => by
      have e : others q B l (k + 1) = fun j => (⟨bif np q B l k then (bif Nat.blt j (cnt (np q B l) k) then (others q B l k j).v0 else (l k).v0) else (others q B l k j).v0, bif np q B l k then (bif Nat.blt j (cnt (np q B l) k) then (others q B l k j).v1 else (l k).v1) else (others q B l k j).v1, bif np q B l k then (bif Nat.blt j (cnt (np q B l) k) then (others q B l k j).v2 else (l k).v2) else (others q B l k j).v2, bif np q B l k then (bif Nat.blt j (cnt (np q B l) k) then (others q B l k j).v3 else (l k).v3) else (others q B l k j).v3, bif np q B l k then (bif Nat.blt j (cnt (np q B l) k) then (others q B l k j).v4 else (l k).v4) else (others q B l k j).v4, bif np q B l k then (bif Nat.blt j (cnt (np q B l) k) then (others q B l k j).v5 else (l k).v5) else (others q B l k j).v5, bif np q B l k then (bif Nat.blt j (cnt (np q B l) k) then (others q B l k j).v6 else (l k).v6) else (others q B l k j).v6, bif np q B l k then (bif Nat.blt j (cnt (np q B l) k) then (others q B l k j).v7 else (l k).v7) else (others q B l k j).v7, bif np q B l k then (bif Nat.blt j (cnt (np q B l) k) then (others q B l k j).v8 else (l k).v8) else (others q B l k j).v8, bif np q B l k then (bif Nat.blt j (cnt (np q B l) k) then (others q B l k j).v9 else (l k).v9) else (others q B l k j).v9, bif np q B l k then (bif Nat.blt j (cnt (np q B l) k) then (others q B l k j).v10 else (l k).v10) else (others q B l k j).v10, bif np q B l k then (bif Nat.blt j (cnt (np q B l) k) then (others q B l k j).v11 else (l k).v11) else (others q B l k j).v11, bif np q B l k then (bif Nat.blt j (cnt (np q B l) k) then (others q B l k j).v12 else (l k).v12) else (others q B l k j).v12, bif np q B l k then (bif Nat.blt j (cnt (np q B l) k) then (others q B l k j).v13 else (l k).v13) else (others q B l k j).v13⟩ : Rw) := funext fun j => bif2R _ _ _ _
      have ec : cnt (np q B l) (k + 1) = bif pk q B l k then cnt (np q B l) k else cnt (np q B l) k + 1 := by
        show (bif !(pk q B l k) then cnt (np q B l) k + 1 else cnt (np q B l) k) = _
        cases pk q B l k <;> rfl
      have ec' : Int.ofNat (cnt (pk q B l) (k + 1)) = bif pk q B l k then IntKind.i64.wrap (Int.ofNat (cnt (pk q B l) k) + 1) else Int.ofNat (cnt (pk q B l) k) := by
        have := cnt_le (pk q B l) k
        rw [succ_i64 (by omega)]
        show Int.ofNat (bif pk q B l k then cnt (pk q B l) k + 1 else cnt (pk q B l) k) = _
        cases pk q B l k <;> rfl
      unfold step_law21_SolveOnly_L0
      simp only [toNat_of, hp k (by omega), csame_eq]
      rw [show IntKind.i64.wrap (Int.ofNat k + 1) = Int.ofNat (k + 1) from succ_i64 (by omega), e, ec, ec']
      unfold np
      show _ = V_law21_SolveOnly_L0.mk _ _ _ (fun j => bif !(pk q B l k) then (bif Nat.blt j (cnt (np q B l) k) then (others q B l k j).v0 else (l k).v0) else (others q B l k j).v0) (fun j => bif !(pk q B l k) then (bif Nat.blt j (cnt (np q B l) k) then (others q B l k j).v1 else (l k).v1) else (others q B l k j).v1) (fun j => bif !(pk q B l k) then (bif Nat.blt j (cnt (np q B l) k) then (others q B l k j).v2 else (l k).v2) else (others q B l k j).v2) (fun j => bif !(pk q B l k) then (bif Nat.blt j (cnt (np q B l) k) then (others q B l k j).v3 else (l k).v3) else (others q B l k j).v3) (fun j => bif !(pk q B l k) then (bif Nat.blt j (cnt (np q B l) k) then (others q B l k j).v4 else (l k).v4) else (others q B l k j).v4) (fun j => bif !(pk q B l k) then (bif Nat.blt j (cnt (np q B l) k) then (others q B l k j).v5 else (l k).v5) else (others q B l k j).v5) (fun j => bif !(pk q B l k) then (bif Nat.blt j (cnt (np q B l) k) then (others q B l k j).v6 else (l k).v6) else (others q B l k j).v6) (fun j => bif !(pk q B l k) then (bif Nat.blt j (cnt (np q B l) k) then (others q B l k j).v7 else (l k).v7) else (others q B l k j).v7) (fun j => bif !(pk q B l k) then (bif Nat.blt j (cnt (np q B l) k) then (others q B l k j).v8 else (l k).v8) else (others q B l k j).v8) (fun j => bif !(pk q B l k) then (bif Nat.blt j (cnt (np q B l) k) then (others q B l k j).v9 else (l k).v9) else (others q B l k j).v9) (fun j => bif !(pk q B l k) then (bif Nat.blt j (cnt (np q B l) k) then (others q B l k j).v10 else (l k).v10) else (others q B l k j).v10) (fun j => bif !(pk q B l k) then (bif Nat.blt j (cnt (np q B l) k) then (others q B l k j).v11 else (l k).v11) else (others q B l k j).v11) (fun j => bif !(pk q B l k) then (bif Nat.blt j (cnt (np q B l) k) then (others q B l k j).v12 else (l k).v12) else (others q B l k j).v12) (fun j => bif !(pk q B l k) then (bif Nat.blt j (cnt (np q B l) k) then (others q B l k j).v13 else (l k).v13) else (others q B l k j).v13)
      cases pk q B l k <;> rfl)
    (by
      unfold go_law21_SolveOnly_L0
      simp only [toNat_of]
      by_cases h : j < n
      · simp only [hp j h]
        simp only [ilt_ofNat, decide_eq_true h, Bool.not_true, cond_false]
        rcases hend with h' | h'
        · omega
        · simp only [Bool.or_eq_false_iff, Bool.not_eq_false'] at h'
          rw [h'.1, h'.2]; rfl
      · simp only [ilt_ofNat, decide_eq_false h, Bool.not_false, cond_true, cond_false])
  refine ⟨j, hj, hr.1, hr.2, fun w hw hp' => ?_, fun h => ?_⟩
  · have := hall w hw
    rw [hp'] at this
    simp only [Bool.false_or, Bool.not_eq_true', ile, decide_eq_false_iff_not] at this
    omega
  · rcases hend with h' | h'
    · omega
    · simp only [Bool.or_eq_false_iff, Bool.not_eq_false', ile, decide_eq_true_eq] at h'
      exact h'
end Go.Proofs.Ytofpjfohijljgaa
