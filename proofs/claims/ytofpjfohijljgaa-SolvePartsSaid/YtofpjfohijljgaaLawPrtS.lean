/- Rows and stills: lists lent, kept and spoiled. -/
import Derived.Test.YtofpjfohijljgaaLawPrtK
set_option linter.unusedVariables false
set_option linter.unusedSimpArgs false
set_option linter.unusedSectionVars false
set_option maxHeartbeats 4000000
set_option maxRecDepth 4000
namespace Go.Proofs.Ytofpjfohijljgaa
open Go.Sim Go.Lst

def lentR (n : Nat) (l : Nat → Rw) (j : Nat) : Rw := ⟨bif Nat.blt j n then (l j).v0 else 0, bif Nat.blt j n then (l j).v1 else 0, bif Nat.blt j n then (l j).v2 else 0, bif Nat.blt j n then (l j).v3 else 0, bif Nat.blt j n then (l j).v4 else 0, bif Nat.blt j n then (l j).v5 else 0, bif Nat.blt j n then (l j).v6 else 0, bif Nat.blt j n then (l j).v7 else 0, bif Nat.blt j n then (l j).v8 else 0, bif Nat.blt j n then (l j).v9 else 0, bif Nat.blt j n then (l j).v10 else 0, bif Nat.blt j n then (l j).v11 else 0, bif Nat.blt j n then (l j).v12 else 77, bif Nat.blt j n then (l j).v13 else 0⟩
def lentS (n : Nat) (s : Nat → Sl) (j : Nat) : Sl := ⟨bif Nat.blt j n then (s j).v0 else 0, bif Nat.blt j n then (s j).v1 else 0, bif Nat.blt j n then (s j).v2 else 0, bif Nat.blt j n then (s j).v3 else 0, bif Nat.blt j n then (s j).v4 else 4635118810238550016⟩
theorem lentR_lt (n : Nat) (l : Nat → Rw) (j : Nat) (h : j < n) : lentR n l j = l j := by
  unfold lentR; rw [blt_true h]; rfl
theorem lentS_lt (n : Nat) (s : Nat → Sl) (j : Nat) (h : j < n) : lentS n s j = s j := by
  unfold lentS; rw [blt_true h]; rfl
theorem ask_loc {n m : Nat} {l l' : Nat → Rw} {s s' : Nat → Sl} (el : ∀ j, j < n → l j = l' j) (es : ∀ k, k < m → s k = s' k) : askN n m l s = askN n m l' s' := by
  have h1 : badL n m l = badL n m l' := decide_eq_decide.2 ⟨fun ⟨i, hi, h⟩ => ⟨i, hi, by rw [← el i hi]; exact h⟩, fun ⟨i, hi, h⟩ => ⟨i, hi, by rw [el i hi]; exact h⟩⟩
  have h2 : badS m s = badS m s' := decide_eq_decide.2 ⟨fun ⟨i, hi, h⟩ => ⟨i, hi, by rw [← es i hi]; exact h⟩, fun ⟨i, hi, h⟩ => ⟨i, hi, by rw [es i hi]; exact h⟩⟩
  unfold askN; rw [h1, h2]
theorem onE_loc {n q : Nat} {l l' : Nat → Rw} (el : ∀ j, j < n → l j = l' j) : onE n q l = onE n q l' := by
  have h1 : badL n 1024 l = badL n 1024 l' := decide_eq_decide.2 ⟨fun ⟨i, hi, h⟩ => ⟨i, hi, by rw [← el i hi]; exact h⟩, fun ⟨i, hi, h⟩ => ⟨i, hi, by rw [el i hi]; exact h⟩⟩
  unfold onE; rw [h1]
theorem hasF_loc {n k : Nat} {l l' : Nat → Rw} (el : ∀ j, j < n → l j = l' j) : hasF n l k = hasF n l' k :=
  decide_eq_decide.2 ⟨fun ⟨i, hi, h⟩ => ⟨i, hi, by rw [← el i hi]; exact h⟩, fun ⟨i, hi, h⟩ => ⟨i, hi, by rw [el i hi]; exact h⟩⟩
theorem both_loc {n n' m : Nat} {l l' b : Nat → Rw} {s s' : Nat → Sl} (el : ∀ j, j < n → l j = l' j) (es : ∀ k, k < m → s k = s' k) : both n l n' b m s = both n l' n' b m s' := by
  have e : ∀ k, k < m → (heldF l s n k && heldF b s n' k) = (heldF l' s' n k && heldF b s' n' k) := fun k hk => by
    rw [heldF_eq, heldF_eq, heldF_eq, heldF_eq, hasF_loc el, es k hk]
  exact decide_eq_decide.2 ⟨fun ⟨i, hi, h⟩ => ⟨i, hi, by rw [← e i hi]; exact h⟩, fun ⟨i, hi, h⟩ => ⟨i, hi, by rw [e i hi]; exact h⟩⟩
theorem keptP {n m : Nat} {a : Nat → Rw} {s : Nat → Sl} (hn : n < 9223372036854775807) (hm : m < 9223372036854775807) :
    s_law21_kept_0 n (n + 1) n (fun j => (a j).v0) (fun j => (a j).v1) (fun j => (a j).v2) (fun j => (a j).v3) (fun j => (a j).v4) (fun j => (a j).v5) (fun j => (a j).v6) (fun j => (a j).v7) (fun j => (a j).v8) (fun j => (a j).v9) (fun j => (a j).v10) (fun j => (a j).v11) (fun j => (a j).v12) (fun j => (a j).v13) m (m + 1) m (fun j => (s j).v0) (fun j => (s j).v1) (fun j => (s j).v2) (fun j => (s j).v3) (fun j => (s j).v4) (n + 1) (fun j => ((lentR n a) j).v0) (fun j => ((lentR n a) j).v1) (fun j => ((lentR n a) j).v2) (fun j => ((lentR n a) j).v3) (fun j => ((lentR n a) j).v4) (fun j => ((lentR n a) j).v5) (fun j => ((lentR n a) j).v6) (fun j => ((lentR n a) j).v7) (fun j => ((lentR n a) j).v8) (fun j => ((lentR n a) j).v9) (fun j => ((lentR n a) j).v10) (fun j => ((lentR n a) j).v11) (fun j => ((lentR n a) j).v12) (fun j => ((lentR n a) j).v13) (m + 1) (fun j => ((lentS m s) j).v0) (fun j => ((lentS m s) j).v1) (fun j => ((lentS m s) j).v2) (fun j => ((lentS m s) j).v3) (fun j => ((lentS m s) j).v4) = true ∧ o_law21_kept n (n + 1) n (fun j => (a j).v0) (fun j => (a j).v1) (fun j => (a j).v2) (fun j => (a j).v3) (fun j => (a j).v4) (fun j => (a j).v5) (fun j => (a j).v6) (fun j => (a j).v7) (fun j => (a j).v8) (fun j => (a j).v9) (fun j => (a j).v10) (fun j => (a j).v11) (fun j => (a j).v12) (fun j => (a j).v13) m (m + 1) m (fun j => (s j).v0) (fun j => (s j).v1) (fun j => (s j).v2) (fun j => (s j).v3) (fun j => (s j).v4) (n + 1) (fun j => ((lentR n a) j).v0) (fun j => ((lentR n a) j).v1) (fun j => ((lentR n a) j).v2) (fun j => ((lentR n a) j).v3) (fun j => ((lentR n a) j).v4) (fun j => ((lentR n a) j).v5) (fun j => ((lentR n a) j).v6) (fun j => ((lentR n a) j).v7) (fun j => ((lentR n a) j).v8) (fun j => ((lentR n a) j).v9) (fun j => ((lentR n a) j).v10) (fun j => ((lentR n a) j).v11) (fun j => ((lentR n a) j).v12) (fun j => ((lentR n a) j).v13) (m + 1) (fun j => ((lentS m s) j).v0) (fun j => ((lentS m s) j).v1) (fun j => ((lentS m s) j).v2) (fun j => ((lentS m s) j).v3) (fun j => ((lentS m s) j).v4) = true := by
  obtain ⟨r1, r2⟩ := rows_same (l := lentR n a) (l' := a) hn (lentR_lt n a)
  obtain ⟨t1, t2⟩ := stills_same (l := lentS m s) (l' := s) hm (lentS_lt m s)
  have e1 : (lentR n a n).v12 = 77 := by
    show (bif Nat.blt n n then (a n).v12 else 77) = 77
    rw [blt_false (Nat.le_refl n)]; rfl
  have e2 : (lentS m s m).v4 = 4635118810238550016 := by
    show (bif Nat.blt m m then (s m).v4 else 4635118810238550016) = 4635118810238550016
    rw [blt_false (Nat.le_refl m)]; rfl
  have e3 : feq 4635118810238550016 4635118810238550016 = true := by rw [feq_self]; decide
  constructor
  · unfold s_law21_kept_0
    rw [r1, t1]
    show ((true && true && ieq (lentR n a n).v12 77) && feq (lentS m s m).v4 4635118810238550016) = true
    rw [e1, e2, e3, ieq_self]; rfl
  · unfold o_law21_kept
    simp only [succ_i64 hn, succ_i64 hm, toNat_of, ile_ofNat, r1, r2, t1, t2, e1, mrgB_eq, Bool.true_and, Bool.and_true, ieq_self, ble_true (Nat.le_succ n), ble_true (Nat.le_succ m), ble_true (Nat.le_refl (n + 1)), ble_true (Nat.le_refl (m + 1)), blt_true (Nat.lt_succ_self n), blt_true (Nat.lt_succ_self m), Bool.true_or, Bool.and_self, Bool.cond_self]
theorem spoil_step (c d : Nat) (x : V_law21_spoil_L0) : (step_law21_spoil_L0 c d x).v0 = IntKind.i64.wrap (x.v0 + 1) := rfl
theorem spoil_go (c d : Nat) (x : V_law21_spoil_L0) : go_law21_spoil_L0 c d x = (bif (!(ilt x.v0 (Int.ofNat c))) then false else true) := rfl
theorem spoil_ok (c d : Nat) (x : V_law21_spoil_L0) : ok_law21_spoil_L0 c d x = mrgB (!(ilt x.v0 (Int.ofNat c))) true ((Nat.blt (Int.toNat x.v0) d) && ((ile (0 : Int) x.v0) && (Nat.blt (Int.toNat x.v0) c))) := rfl
theorem spoilP {c d e : Nat} {f : Nat → Rw} (hc : c ≤ 1048576) (hd : c ≤ d) : o_law21_spoil c e d (fun j => (f j).v0) (fun j => (f j).v1) (fun j => (f j).v2) (fun j => (f j).v3) (fun j => (f j).v4) (fun j => (f j).v5) (fun j => (f j).v6) (fun j => (f j).v7) (fun j => (f j).v8) (fun j => (f j).v9) (fun j => (f j).v10) (fun j => (f j).v11) (fun j => (f j).v12) (fun j => (f j).v13) = true := by
  have hv : ∀ k x, k ≤ c → x.v0 = 0 → (itr (fun _ y => step_law21_spoil_L0 c d y) k x).v0 = Int.ofNat k := by
    intro k x hk hx
    induction k with
    | zero => exact hx
    | succ k ih =>
      show (step_law21_spoil_L0 c d (itr (fun _ y => step_law21_spoil_L0 c d y) k x)).v0 = _
      rw [spoil_step, ih (by omega), succ_i64 (by omega)]
  have hr : E_law21_spoil_L0 c d (V_law21_spoil_L0.mk (0 : Int) (fun j => (f j).v0) (fun j => (f j).v1) (fun j => (f j).v2) (fun j => (f j).v3) (fun j => (f j).v4) (fun j => (f j).v5) (fun j => (f j).v6) (fun j => (f j).v7) (fun j => (f j).v8) (fun j => (f j).v9) (fun j => (f j).v10) (fun j => (f j).v11) (fun j => (f j).v12) (fun j => (f j).v13)) = true :=
    (run_to (ok := ok_law21_spoil_L0 c d) (go := go_law21_spoil_L0 c d) (step := step_law21_spoil_L0 c d) (fun k => itr (fun _ y => step_law21_spoil_L0 c d y) k (V_law21_spoil_L0.mk (0 : Int) (fun j => (f j).v0) (fun j => (f j).v1) (fun j => (f j).v2) (fun j => (f j).v3) (fun j => (f j).v4) (fun j => (f j).v5) (fun j => (f j).v6) (fun j => (f j).v7) (fun j => (f j).v8) (fun j => (f j).v9) (fun j => (f j).v10) (fun j => (f j).v11) (fun j => (f j).v12) (fun j => (f j).v13))) c
      (fun k hk => by
        rw [spoil_ok, hv k _ hk rfl, mrgB_eq, ilt_ofNat, ile_ofNat, toNat_of]
        by_cases h : k < c
        · rw [decide_eq_true h, blt_true h, blt_true (show k < d by omega)]; rfl
        · rw [decide_eq_false h]; rfl)
      (fun k hk => by rw [spoil_go, hv k _ (by omega) rfl, ilt_ofNat, decide_eq_true hk]; rfl)
      (fun k hk => rfl)
      (by rw [spoil_go, hv c _ (Nat.le_refl c) rfl, ilt_ofNat]; simp)).1
  unfold o_law21_spoil
  simp only [hr, mrgB_self, ble_true hd, ble_true (Nat.le_refl _), ble_true (show (c + 1) * 112 ≤ 140737488355328 by omega), ble_true (show (c + 1 + 1) * 112 ≤ 140737488355328 by omega), ble_true (show (c + 1 + 1 + 1) * 112 ≤ 140737488355328 by omega), ble_true (show (c + 1 + 1 + 1 + 1) * 112 ≤ 140737488355328 by omega), blt_true (show 0 < c + 1 + 1 + 1 + 1 by omega), Bool.and_self, mrgB_self]
def W99 (f : Nat → Int) (n : Nat) : Nat → Int := itr (fun i h j => bif Nat.beq j i then 99 else h j) n f
theorem W99_ge {f : Nat → Int} {j : Nat} : ∀ n, n ≤ j → W99 f n j = f j
  | 0, _ => rfl
  | n + 1, h => by
    show (bif Nat.beq j n then 99 else W99 f n j) = f j
    rw [beqn_false (show j ≠ n by omega), cond_false, W99_ge n (by omega)]
theorem loopQ {N c d : Nat} {f g : Nat → Int} (hN : N ≤ 1048576) (hc : N ≤ c) (hd : N ≤ d) (e : ∀ k, k < N → f k = g k) :
    E_law21_SolveParts_L0 N N c d g (V_law21_SolveParts_L0.mk 0 f) = true ∧ (L_law21_SolveParts_L0 N N c d g (V_law21_SolveParts_L0.mk 0 f)).v0 = Int.ofNat N := by
  have hr := run_to (ok := ok_law21_SolveParts_L0 N N c d g) (go := go_law21_SolveParts_L0 N N c d g) (step := step_law21_SolveParts_L0 N N c d g)
    (fun k => V_law21_SolveParts_L0.mk (Int.ofNat k) (W99 f k)) N
    (fun k hk => by
      unfold ok_law21_SolveParts_L0
      simp only [toNat_of, mrgB_eq, ilt_ofNat, ile_ofNat, Bool.true_and]
      by_cases h : k < N
      · simp only [decide_eq_true h, blt_true h, blt_true (show k < c by omega), blt_true (show k < d by omega), Bool.not_true, cond_false, Bool.and_self, Bool.cond_self]
      · simp only [decide_eq_false h, Bool.not_false, cond_true, cond_false])
    (fun k hk => by
      unfold go_law21_SolveParts_L0
      simp only [toNat_of, ilt_ofNat, W99_ge k (Nat.le_refl k), e k hk, ieq_self, decide_eq_true hk]
      rfl)
    (fun k hk => by unfold step_law21_SolveParts_L0; simp only [toNat_of]; rw [succ_i64 (by omega)]; rfl)
    (by unfold go_law21_SolveParts_L0; simp only [ilt_ofNat]; simp)
  exact ⟨hr.1, congrArg V_law21_SolveParts_L0.v0 hr.2⟩
noncomputable def onN (n q : Nat) (B : Nat → Int) (l : Nat → Rw) : Nat := bif ieq (onE n q l) 0 then cnt (pk q B l) n else 0
theorem lentP {n q : Nat} {B : Nat → Int} {a : Nat → Rw} (hn : n < 9223372036854775807) :
    s_solve_Only_4 n (fun j => ((lentR n a) j).v0) (fun j => ((lentR n a) j).v1) (fun j => ((lentR n a) j).v2) (fun j => ((lentR n a) j).v3) (fun j => ((lentR n a) j).v4) (fun j => ((lentR n a) j).v5) (fun j => ((lentR n a) j).v6) (fun j => ((lentR n a) j).v7) (fun j => ((lentR n a) j).v8) (fun j => ((lentR n a) j).v9) (fun j => ((lentR n a) j).v10) (fun j => ((lentR n a) j).v11) (fun j => ((lentR n a) j).v12) (fun j => ((lentR n a) j).v13) q B = onE n q a ∧ o_solve_Only n (fun j => ((lentR n a) j).v0) (fun j => ((lentR n a) j).v1) (fun j => ((lentR n a) j).v2) (fun j => ((lentR n a) j).v3) (fun j => ((lentR n a) j).v4) (fun j => ((lentR n a) j).v5) (fun j => ((lentR n a) j).v6) (fun j => ((lentR n a) j).v7) (fun j => ((lentR n a) j).v8) (fun j => ((lentR n a) j).v9) (fun j => ((lentR n a) j).v10) (fun j => ((lentR n a) j).v11) (fun j => ((lentR n a) j).v12) (fun j => ((lentR n a) j).v13) q B = true ∧ s_solve_Only_0 n (fun j => ((lentR n a) j).v0) (fun j => ((lentR n a) j).v1) (fun j => ((lentR n a) j).v2) (fun j => ((lentR n a) j).v3) (fun j => ((lentR n a) j).v4) (fun j => ((lentR n a) j).v5) (fun j => ((lentR n a) j).v6) (fun j => ((lentR n a) j).v7) (fun j => ((lentR n a) j).v8) (fun j => ((lentR n a) j).v9) (fun j => ((lentR n a) j).v10) (fun j => ((lentR n a) j).v11) (fun j => ((lentR n a) j).v12) (fun j => ((lentR n a) j).v13) q B = onN n q B a ∧ s_solve_Only_2 n (fun j => ((lentR n a) j).v0) (fun j => ((lentR n a) j).v1) (fun j => ((lentR n a) j).v2) (fun j => ((lentR n a) j).v3) (fun j => ((lentR n a) j).v4) (fun j => ((lentR n a) j).v5) (fun j => ((lentR n a) j).v6) (fun j => ((lentR n a) j).v7) (fun j => ((lentR n a) j).v8) (fun j => ((lentR n a) j).v9) (fun j => ((lentR n a) j).v10) (fun j => ((lentR n a) j).v11) (fun j => ((lentR n a) j).v12) (fun j => ((lentR n a) j).v13) q B = onN n q B a ∧
    (onE n q a = 0 → s_solve_Only_5 n (fun j => ((lentR n a) j).v0) (fun j => ((lentR n a) j).v1) (fun j => ((lentR n a) j).v2) (fun j => ((lentR n a) j).v3) (fun j => ((lentR n a) j).v4) (fun j => ((lentR n a) j).v5) (fun j => ((lentR n a) j).v6) (fun j => ((lentR n a) j).v7) (fun j => ((lentR n a) j).v8) (fun j => ((lentR n a) j).v9) (fun j => ((lentR n a) j).v10) (fun j => ((lentR n a) j).v11) (fun j => ((lentR n a) j).v12) (fun j => ((lentR n a) j).v13) q B = cnt (pk q B a) n ∧ s_solve_Only_20 n (fun j => ((lentR n a) j).v0) (fun j => ((lentR n a) j).v1) (fun j => ((lentR n a) j).v2) (fun j => ((lentR n a) j).v3) (fun j => ((lentR n a) j).v4) (fun j => ((lentR n a) j).v5) (fun j => ((lentR n a) j).v6) (fun j => ((lentR n a) j).v7) (fun j => ((lentR n a) j).v8) (fun j => ((lentR n a) j).v9) (fun j => ((lentR n a) j).v10) (fun j => ((lentR n a) j).v11) (fun j => ((lentR n a) j).v12) (fun j => ((lentR n a) j).v13) q B = cnt (pk q B a) n ∧ s_solve_Only_21 n (fun j => ((lentR n a) j).v0) (fun j => ((lentR n a) j).v1) (fun j => ((lentR n a) j).v2) (fun j => ((lentR n a) j).v3) (fun j => ((lentR n a) j).v4) (fun j => ((lentR n a) j).v5) (fun j => ((lentR n a) j).v6) (fun j => ((lentR n a) j).v7) (fun j => ((lentR n a) j).v8) (fun j => ((lentR n a) j).v9) (fun j => ((lentR n a) j).v10) (fun j => ((lentR n a) j).v11) (fun j => ((lentR n a) j).v12) (fun j => ((lentR n a) j).v13) q B = NL (pk q B a) n ∧ onPl n (lentR n a) q B = F2 (NW (pk q B a) n) (OL (pk q B a) a n) (cnt (pk q B a) n)) := by
  have h := onlyP (q := q) (l := lentR n a) (B := B) hn
  have ep : ∀ i, i < n → pk q B (lentR n a) i = pk q B a i := fun i hi => by show sel q B (lentR n a i) = sel q B (a i); rw [lentR_lt n a i hi]
  rw [onE_loc (lentR_lt n a), cnt_loc n ep, NL_loc n ep, NW_loc n ep, OL_loc n ep (lentR_lt n a)] at h
  exact h
theorem onN_le {n q : Nat} {B : Nat → Int} {a : Nat → Rw} : onN n q B a ≤ 1048576 := by
  unfold onN
  by_cases h : onE n q a = 0
  · rw [h, ieq_self, cond_true]
    have := cnt_le (pk q B a) n
    have := (one_ok h).1
    omega
  · rw [ieq0 h, cond_false]; omega
/-- what both ways say of the rows of some stills -/
theorem only_all {n q : Nat} {B : Nat → Int} {a : Nat → Rw} (hn : n < 9223372036854775807) :
    onN n q B a ≤ s_solve_Only_5 n (fun j => ((lentR n a) j).v0) (fun j => ((lentR n a) j).v1) (fun j => ((lentR n a) j).v2) (fun j => ((lentR n a) j).v3) (fun j => ((lentR n a) j).v4) (fun j => ((lentR n a) j).v5) (fun j => ((lentR n a) j).v6) (fun j => ((lentR n a) j).v7) (fun j => ((lentR n a) j).v8) (fun j => ((lentR n a) j).v9) (fun j => ((lentR n a) j).v10) (fun j => ((lentR n a) j).v11) (fun j => ((lentR n a) j).v12) (fun j => ((lentR n a) j).v13) q B ∧ onN n q B a ≤ s_solve_Only_20 n (fun j => ((lentR n a) j).v0) (fun j => ((lentR n a) j).v1) (fun j => ((lentR n a) j).v2) (fun j => ((lentR n a) j).v3) (fun j => ((lentR n a) j).v4) (fun j => ((lentR n a) j).v5) (fun j => ((lentR n a) j).v6) (fun j => ((lentR n a) j).v7) (fun j => ((lentR n a) j).v8) (fun j => ((lentR n a) j).v9) (fun j => ((lentR n a) j).v10) (fun j => ((lentR n a) j).v11) (fun j => ((lentR n a) j).v12) (fun j => ((lentR n a) j).v13) q B ∧ onN n q B a ≤ s_ref21_Only_5 n (fun j => (a j).v0) (fun j => (a j).v1) (fun j => (a j).v2) (fun j => (a j).v3) (fun j => (a j).v4) (fun j => (a j).v5) (fun j => (a j).v6) (fun j => (a j).v7) (fun j => (a j).v8) (fun j => (a j).v9) (fun j => (a j).v10) (fun j => (a j).v11) (fun j => (a j).v12) (fun j => (a j).v13) q B ∧ onN n q B a ≤ s_ref21_Only_20 n (fun j => (a j).v0) (fun j => (a j).v1) (fun j => (a j).v2) (fun j => (a j).v3) (fun j => (a j).v4) (fun j => (a j).v5) (fun j => (a j).v6) (fun j => (a j).v7) (fun j => (a j).v8) (fun j => (a j).v9) (fun j => (a j).v10) (fun j => (a j).v11) (fun j => (a j).v12) (fun j => (a j).v13) q B ∧
    (∀ k, k < onN n q B a → s_solve_Only_21 n (fun j => ((lentR n a) j).v0) (fun j => ((lentR n a) j).v1) (fun j => ((lentR n a) j).v2) (fun j => ((lentR n a) j).v3) (fun j => ((lentR n a) j).v4) (fun j => ((lentR n a) j).v5) (fun j => ((lentR n a) j).v6) (fun j => ((lentR n a) j).v7) (fun j => ((lentR n a) j).v8) (fun j => ((lentR n a) j).v9) (fun j => ((lentR n a) j).v10) (fun j => ((lentR n a) j).v11) (fun j => ((lentR n a) j).v12) (fun j => ((lentR n a) j).v13) q B k = s_ref21_Only_21 n (fun j => (a j).v0) (fun j => (a j).v1) (fun j => (a j).v2) (fun j => (a j).v3) (fun j => (a j).v4) (fun j => (a j).v5) (fun j => (a j).v6) (fun j => (a j).v7) (fun j => (a j).v8) (fun j => (a j).v9) (fun j => (a j).v10) (fun j => (a j).v11) (fun j => (a j).v12) (fun j => (a j).v13) q B k) ∧ (∀ k, k < onN n q B a → onPl n (lentR n a) q B k = onRl n a q B k) := by
  by_cases h : onE n q a = 0
  · obtain ⟨_, _, _, _, hp⟩ := lentP (q := q) (B := B) (a := a) hn
    obtain ⟨_, _, _, _, hr⟩ := onlyR (q := q) (B := B) (l := a) hn
    obtain ⟨p1, p2, p3, p4⟩ := hp h
    obtain ⟨r1, r2, r3, r4⟩ := hr h
    have e : onN n q B a = cnt (pk q B a) n := by unfold onN; rw [h, ieq_self]; rfl
    rw [p1, p2, p3, p4, r1, r2, r3, r4, e]
    exact ⟨Nat.le_refl _, Nat.le_refl _, Nat.le_refl _, Nat.le_refl _, fun _ _ => rfl, only_same h⟩
  · have e : onN n q B a = 0 := by unfold onN; rw [ieq0 h]; rfl
    rw [e]
    exact ⟨Nat.zero_le _, Nat.zero_le _, Nat.zero_le _, Nat.zero_le _, fun k hk => absurd hk (Nat.not_lt_zero k), fun k hk => absurd hk (Nat.not_lt_zero k)⟩
end Go.Proofs.Ytofpjfohijljgaa
