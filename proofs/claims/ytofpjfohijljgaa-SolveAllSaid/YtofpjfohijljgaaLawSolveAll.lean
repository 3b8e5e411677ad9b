/- Of any rows, stills and rounds: what they come to, and how far they are off, or the error; all stays. For all lists (in the ranges that the Go text goes through). -/
import Derived.Test.YtofpjfohijljgaaLawSolveT
set_option linter.unusedVariables false
set_option linter.unusedSimpArgs false
set_option linter.unusedSectionVars false
set_option maxHeartbeats 400000
set_option maxRecDepth 4000
namespace Go.Proofs.Ytofpjfohijljgaa
open Go.Sim Go.Lst
def lentR (n : Nat) (l : Nat → Rw) (j : Nat) : Rw := ⟨bif Nat.blt j n then (l j).v0 else 0, bif Nat.blt j n then (l j).v1 else 0, bif Nat.blt j n then (l j).v2 else 0, bif Nat.blt j n then (l j).v3 else 0, bif Nat.blt j n then (l j).v4 else 0, bif Nat.blt j n then (l j).v5 else 0, bif Nat.blt j n then (l j).v6 else 0, bif Nat.blt j n then (l j).v7 else 0, bif Nat.blt j n then (l j).v8 else 0, bif Nat.blt j n then (l j).v9 else 0, bif Nat.blt j n then (l j).v10 else 0, bif Nat.blt j n then (l j).v11 else 0, bif Nat.blt j n then (l j).v12 else 77, bif Nat.blt j n then (l j).v13 else 0⟩
def lentS (n : Nat) (s : Nat → Sl) (j : Nat) : Sl := ⟨bif Nat.blt j n then (s j).v0 else 0, bif Nat.blt j n then (s j).v1 else 0, bif Nat.blt j n then (s j).v2 else 0, bif Nat.blt j n then (s j).v3 else 0, bif Nat.blt j n then (s j).v4 else 4635118810238550016⟩
noncomputable section
def smR (n : Nat) (l : Nat → Rw) (n' : Nat) (l' : Nat → Rw) : Bool := s_ref21_SameRows_0 n (fun j => (l j).v0) (fun j => (l j).v1) (fun j => (l j).v2) (fun j => (l j).v3) (fun j => (l j).v4) (fun j => (l j).v5) (fun j => (l j).v6) (fun j => (l j).v7) (fun j => (l j).v8) (fun j => (l j).v9) (fun j => (l j).v10) (fun j => (l j).v11) (fun j => (l j).v12) (fun j => (l j).v13) n' (fun j => (l' j).v0) (fun j => (l' j).v1) (fun j => (l' j).v2) (fun j => (l' j).v3) (fun j => (l' j).v4) (fun j => (l' j).v5) (fun j => (l' j).v6) (fun j => (l' j).v7) (fun j => (l' j).v8) (fun j => (l' j).v9) (fun j => (l' j).v10) (fun j => (l' j).v11) (fun j => (l' j).v12) (fun j => (l' j).v13)
def smO (n : Nat) (l : Nat → Rw) (n' : Nat) (l' : Nat → Rw) : Bool := o_ref21_SameRows n (fun j => (l j).v0) (fun j => (l j).v1) (fun j => (l j).v2) (fun j => (l j).v3) (fun j => (l j).v4) (fun j => (l j).v5) (fun j => (l j).v6) (fun j => (l j).v7) (fun j => (l j).v8) (fun j => (l j).v9) (fun j => (l j).v10) (fun j => (l j).v11) (fun j => (l j).v12) (fun j => (l j).v13) n' (fun j => (l' j).v0) (fun j => (l' j).v1) (fun j => (l' j).v2) (fun j => (l' j).v3) (fun j => (l' j).v4) (fun j => (l' j).v5) (fun j => (l' j).v6) (fun j => (l' j).v7) (fun j => (l' j).v8) (fun j => (l' j).v9) (fun j => (l' j).v10) (fun j => (l' j).v11) (fun j => (l' j).v12) (fun j => (l' j).v13)
def stR (n : Nat) (l : Nat → Sl) (n' : Nat) (l' : Nat → Sl) : Bool := s_ref21_SameStills_0 n (fun j => (l j).v0) (fun j => (l j).v1) (fun j => (l j).v2) (fun j => (l j).v3) (fun j => (l j).v4) n' (fun j => (l' j).v0) (fun j => (l' j).v1) (fun j => (l' j).v2) (fun j => (l' j).v3) (fun j => (l' j).v4)
def stO (n : Nat) (l : Nat → Sl) (n' : Nat) (l' : Nat → Sl) : Bool := o_ref21_SameStills n (fun j => (l j).v0) (fun j => (l j).v1) (fun j => (l j).v2) (fun j => (l j).v3) (fun j => (l j).v4) n' (fun j => (l' j).v0) (fun j => (l' j).v1) (fun j => (l' j).v2) (fun j => (l' j).v3) (fun j => (l' j).v4)
end
theorem lentR_lt (n : Nat) (l : Nat → Rw) (j : Nat) (h : j < n) : lentR n l j = l j := by
  unfold lentR; rw [blt_true h]; rfl
theorem lentS_lt (n : Nat) (s : Nat → Sl) (j : Nat) (h : j < n) : lentS n s j = s j := by
  unfold lentS; rw [blt_true h]; rfl
theorem keptP {n m : Nat} {a : Nat → Rw} {s : Nat → Sl} (hn : n < 9223372036854775807) (hm : m < 9223372036854775807) :
    s_law21_kept_0 n (n + 1) n (fun j => (a j).v0) (fun j => (a j).v1) (fun j => (a j).v2) (fun j => (a j).v3) (fun j => (a j).v4) (fun j => (a j).v5) (fun j => (a j).v6) (fun j => (a j).v7) (fun j => (a j).v8) (fun j => (a j).v9) (fun j => (a j).v10) (fun j => (a j).v11) (fun j => (a j).v12) (fun j => (a j).v13) m (m + 1) m (fun j => (s j).v0) (fun j => (s j).v1) (fun j => (s j).v2) (fun j => (s j).v3) (fun j => (s j).v4) (n + 1) (fun j => ((lentR n a) j).v0) (fun j => ((lentR n a) j).v1) (fun j => ((lentR n a) j).v2) (fun j => ((lentR n a) j).v3) (fun j => ((lentR n a) j).v4) (fun j => ((lentR n a) j).v5) (fun j => ((lentR n a) j).v6) (fun j => ((lentR n a) j).v7) (fun j => ((lentR n a) j).v8) (fun j => ((lentR n a) j).v9) (fun j => ((lentR n a) j).v10) (fun j => ((lentR n a) j).v11) (fun j => ((lentR n a) j).v12) (fun j => ((lentR n a) j).v13) (m + 1) (fun j => ((lentS m s) j).v0) (fun j => ((lentS m s) j).v1) (fun j => ((lentS m s) j).v2) (fun j => ((lentS m s) j).v3) (fun j => ((lentS m s) j).v4) = true ∧ o_law21_kept n (n + 1) n (fun j => (a j).v0) (fun j => (a j).v1) (fun j => (a j).v2) (fun j => (a j).v3) (fun j => (a j).v4) (fun j => (a j).v5) (fun j => (a j).v6) (fun j => (a j).v7) (fun j => (a j).v8) (fun j => (a j).v9) (fun j => (a j).v10) (fun j => (a j).v11) (fun j => (a j).v12) (fun j => (a j).v13) m (m + 1) m (fun j => (s j).v0) (fun j => (s j).v1) (fun j => (s j).v2) (fun j => (s j).v3) (fun j => (s j).v4) (n + 1) (fun j => ((lentR n a) j).v0) (fun j => ((lentR n a) j).v1) (fun j => ((lentR n a) j).v2) (fun j => ((lentR n a) j).v3) (fun j => ((lentR n a) j).v4) (fun j => ((lentR n a) j).v5) (fun j => ((lentR n a) j).v6) (fun j => ((lentR n a) j).v7) (fun j => ((lentR n a) j).v8) (fun j => ((lentR n a) j).v9) (fun j => ((lentR n a) j).v10) (fun j => ((lentR n a) j).v11) (fun j => ((lentR n a) j).v12) (fun j => ((lentR n a) j).v13) (m + 1) (fun j => ((lentS m s) j).v0) (fun j => ((lentS m s) j).v1) (fun j => ((lentS m s) j).v2) (fun j => ((lentS m s) j).v3) (fun j => ((lentS m s) j).v4) = true := by
  obtain ⟨r1, r2⟩ := rows_same (l := lentR n a) (l' := a) hn (lentR_lt n a)
  obtain ⟨t1, t2⟩ := stills_same (l := lentS m s) (l' := s) hm (lentS_lt m s)
  have e1 : (lentR n a n).v12 = 77 := by
    show (bif Nat.blt n n then (a n).v12 else 77) = 77
    rw [blt_false (Nat.le_refl n)]; rfl
  have e2 : (lentS m s m).v4 = 4635118810238550016 := by
    show (bif Nat.blt m m then (s m).v4 else 4635118810238550016) = 4635118810238550016
    rw [blt_false (Nat.le_refl m)]; rfl
  have e3 : feq 4635118810238550016 4635118810238550016 = true := by rw [feq_self]; decide
  constructor
  · unfold s_law21_kept_0
    rw [r1, t1]
    show ((true && true && ieq (lentR n a n).v12 77) && feq (lentS m s m).v4 4635118810238550016) = true
    rw [e1, e2, e3, ieq_self]; rfl
  · unfold o_law21_kept
    simp only [succ_i64 hn, succ_i64 hm, toNat_of, ile_ofNat, r1, r2, t1, t2, e1, mrgB_eq, Bool.true_and, Bool.and_true, ieq_self, ble_true (Nat.le_succ n), ble_true (Nat.le_succ m), ble_true (Nat.le_refl (n + 1)), ble_true (Nat.le_refl (m + 1)), blt_true (Nat.lt_succ_self n), blt_true (Nat.lt_succ_self m), Bool.true_or, Bool.and_self, Bool.cond_self]
theorem spoil0 {c d : Nat} (hc : c ≤ 1048576) (hd : c ≤ d) (x : V_law21_spoil_L0) (hx : x.v0 = 0) : E_law21_spoil_L0 c d x = true := by
  have hv : ∀ k, k ≤ c → (itr (fun _ y => step_law21_spoil_L0 c d y) k x).v0 = Int.ofNat k := by
    intro k hk
    induction k with
    | zero => exact hx
    | succ k ih =>
      show IntKind.i64.wrap ((itr (fun _ y => step_law21_spoil_L0 c d y) k x).v0 + 1) = _
      rw [ih (by omega), succ_i64 (by omega)]
  exact (run_to (ok := ok_law21_spoil_L0 c d) (go := go_law21_spoil_L0 c d) (step := step_law21_spoil_L0 c d) (fun k => itr (fun _ y => step_law21_spoil_L0 c d y) k x) c
    (fun k hk => by
      show mrgB (!(ilt (itr (fun _ y => step_law21_spoil_L0 c d y) k x).v0 (Int.ofNat c))) true ((Nat.blt (Int.toNat (itr (fun _ y => step_law21_spoil_L0 c d y) k x).v0) d) && ((ile (0 : Int) (itr (fun _ y => step_law21_spoil_L0 c d y) k x).v0) && (Nat.blt (Int.toNat (itr (fun _ y => step_law21_spoil_L0 c d y) k x).v0) c))) = true
      rw [hv k hk, mrgB_eq, ilt_ofNat, ile_ofNat, toNat_of]
      by_cases h : k < c
      · rw [decide_eq_true h, blt_true h, blt_true (show k < d by omega)]; rfl
      · rw [decide_eq_false h]; rfl)
    (fun k hk => by
      show (bif (!(ilt (itr (fun _ y => step_law21_spoil_L0 c d y) k x).v0 (Int.ofNat c))) then false else true) = true
      rw [hv k (by omega), ilt_ofNat, decide_eq_true hk]; rfl)
    (fun k hk => rfl)
    (by
      show (bif (!(ilt (itr (fun _ y => step_law21_spoil_L0 c d y) c x).v0 (Int.ofNat c))) then false else true) = false
      rw [hv c (Nat.le_refl c), ilt_ofNat]; simp)).1
theorem spoil1 {c d : Nat} (hc : c ≤ 1048576) (hd : c ≤ d) (x : V_law21_spoil_L1) (hx : x.v0 = 0) : E_law21_spoil_L1 c d x = true := by
  have hv : ∀ k, k ≤ c → (itr (fun _ y => step_law21_spoil_L1 c d y) k x).v0 = Int.ofNat k := by
    intro k hk
    induction k with
    | zero => exact hx
    | succ k ih =>
      show IntKind.i64.wrap ((itr (fun _ y => step_law21_spoil_L1 c d y) k x).v0 + 1) = _
      rw [ih (by omega), succ_i64 (by omega)]
  exact (run_to (ok := ok_law21_spoil_L1 c d) (go := go_law21_spoil_L1 c d) (step := step_law21_spoil_L1 c d) (fun k => itr (fun _ y => step_law21_spoil_L1 c d y) k x) c
    (fun k hk => by
      show mrgB (!(ilt (itr (fun _ y => step_law21_spoil_L1 c d y) k x).v0 (Int.ofNat c))) true ((Nat.blt (Int.toNat (itr (fun _ y => step_law21_spoil_L1 c d y) k x).v0) d) && ((ile (0 : Int) (itr (fun _ y => step_law21_spoil_L1 c d y) k x).v0) && (Nat.blt (Int.toNat (itr (fun _ y => step_law21_spoil_L1 c d y) k x).v0) c))) = true
      rw [hv k hk, mrgB_eq, ilt_ofNat, ile_ofNat, toNat_of]
      by_cases h : k < c
      · rw [decide_eq_true h, blt_true h, blt_true (show k < d by omega)]; rfl
      · rw [decide_eq_false h]; rfl)
    (fun k hk => by
      show (bif (!(ilt (itr (fun _ y => step_law21_spoil_L1 c d y) k x).v0 (Int.ofNat c))) then false else true) = true
      rw [hv k (by omega), ilt_ofNat, decide_eq_true hk]; rfl)
    (fun k hk => rfl)
    (by
      show (bif (!(ilt (itr (fun _ y => step_law21_spoil_L1 c d y) c x).v0 (Int.ofNat c))) then false else true) = false
      rw [hv c (Nat.le_refl c), ilt_ofNat]; simp)).1
theorem mrgB_both {g x y : Bool} (hx : x = true) (hy : y = true) : mrgB g x y = true := by rw [hx, hy]; exact mrgB_self _ _
theorem spoilP {c d c' d' e e' : Nat} {f : Nat → Rw} {g : Nat → Sl} (hc : c ≤ 1048576) (hd : c ≤ d) (hc' : c' ≤ 1024) (hd' : c' ≤ d') : o_law21_spoil c e c' e' d (fun j => (f j).v0) (fun j => (f j).v1) (fun j => (f j).v2) (fun j => (f j).v3) (fun j => (f j).v4) (fun j => (f j).v5) (fun j => (f j).v6) (fun j => (f j).v7) (fun j => (f j).v8) (fun j => (f j).v9) (fun j => (f j).v10) (fun j => (f j).v11) (fun j => (f j).v12) (fun j => (f j).v13) d' (fun j => (g j).v0) (fun j => (g j).v1) (fun j => (g j).v2) (fun j => (g j).v3) (fun j => (g j).v4) = true := by
  have h0 : E_law21_spoil_L0 c d (V_law21_spoil_L0.mk (0 : Int) (fun j => (f j).v0) (fun j => (f j).v1) (fun j => (f j).v2) (fun j => (f j).v3) (fun j => (f j).v4) (fun j => (f j).v5) (fun j => (f j).v6) (fun j => (f j).v7) (fun j => (f j).v8) (fun j => (f j).v9) (fun j => (f j).v10) (fun j => (f j).v11) (fun j => (f j).v12) (fun j => (f j).v13)) = true := spoil0 hc hd _ rfl
  have h1 : E_law21_spoil_L1 c' d' (V_law21_spoil_L1.mk (0 : Int) (fun j => (g j).v0) (fun j => (g j).v1) (fun j => (g j).v2) (fun j => (g j).v3) (fun j => (g j).v4)) = true := spoil1 (by omega) hd' _ rfl
  unfold o_law21_spoil
  simp only [h0, h1, ble_true hd, ble_true hd', ble_true (Nat.le_refl _), ble_true (show (c + 1) * 112 ≤ 140737488355328 by omega), ble_true (show (c + 1 + 1) * 112 ≤ 140737488355328 by omega), ble_true (show (c + 1 + 1 + 1) * 112 ≤ 140737488355328 by omega), ble_true (show (c + 1 + 1 + 1 + 1) * 112 ≤ 140737488355328 by omega), ble_true (show (c' + 1) * 40 ≤ 140737488355328 by omega), ble_true (show (c' + 1 + 1) * 40 ≤ 140737488355328 by omega), ble_true (show (c' + 1 + 1 + 1) * 40 ≤ 140737488355328 by omega), ble_true (show (c' + 1 + 1 + 1 + 1) * 40 ≤ 140737488355328 by omega), blt_true (show 0 < c + 1 + 1 + 1 + 1 by omega), Bool.and_self, mrgB_self]
theorem same_all {n m : Nat} {a : Nat → Rw} {s : Nat → Sl} {z : Int} (hn : n < 9223372036854775807) (hm : m < 9223372036854775807) (c : ∀ i, i < n → CF (a i).v9 ∧ CF (a i).v10) (cs : ∀ k, k < m → CF (s k).v0 ∧ CF (s k).v1) :
    ∃ e k k' x y, TellP n (lentR n a) m (lentS m s) z e k k' x y ∧ TellR n a m s z e k k' x y ∧ k ≤ 1048576 ∧ k' ≤ 1024 := by
  have c' : ∀ i, i < n → CF (lentR n a i).v9 ∧ CF (lentR n a i).v10 := fun i hi => by rw [lentR_lt n a i hi]; exact c i hi
  have ea : askN n m (lentR n a) (lentS m s) = askN n m a s := ask_loc (lentR_lt n a) (lentS_lt m s)
  rcases tellP (l := lentR n a) (s := lentS m s) (z := z) hn hm c' with ⟨e, h, t⟩ | ⟨h, z0, z1, t⟩
  · rw [ea] at h
    rcases tellR (l := a) (s := s) (z := z) hn hm c cs with ⟨e', h', t'⟩ | ⟨h', z0, z1, _⟩
    · have : e' = e := by
        rcases h with ⟨h1, h2⟩ | ⟨h1, h2, h3⟩
        · rcases h' with ⟨g1, g2⟩ | ⟨g1, g2, g3⟩
          · rw [h1, g1]
          · exact absurd g2 h2
        · rcases h' with ⟨g1, g2⟩ | ⟨g1, g2, g3⟩
          · exact absurd h2 g2
          · rw [h1, g1]
      subst this
      exact ⟨e', 0, 0, a, s, t a s, t' a s, Nat.zero_le _, Nat.zero_le _⟩
    · rcases h with ⟨h1, h2⟩ | ⟨h1, h2, h3⟩
      · exact absurd h' h2
      · omega
  · rw [ea] at h
    rcases tellR (l := a) (s := s) (z := z) hn hm c cs with ⟨e', h', t'⟩ | ⟨h', _, _, t'⟩
    · rcases h' with ⟨g1, g2⟩ | ⟨g1, g2, g3⟩
      · exact absurd h g2
      · omega
    · obtain ⟨b1, b2, hi, _, _⟩ := ask_ok h' c
      have hl := out_loc (R := Int.toNat z) (s' := lentS m s) hi (fun j hj => (lentR_lt n a j hj).symm) (fun k hk => (lentS_lt m s k hk).symm)
      exact ⟨0, n, m, _, _, ⟨t.err, t.nr, t.ns, t.nr5, t.ns20, fun j hj => (t.rows j hj).trans (hl.1 j hj).symm, fun j hj => (t.stills j hj).trans (hl.2 j hj).symm, t.ob⟩, t', b1, b2⟩
theorem shapeA {aw lg big : Bool} (h1 : aw = true) (h2 : big = true) : (bif (!aw) then false else (bif lg then aw else big)) = true := by
  subst h1 h2
  cases lg <;> rfl
theorem parts {n m : Nat} {a : Nat → Rw} {s : Nat → Sl} {z : Int} (hn : n < 9223372036854775807) (hm : m < 9223372036854775807) (c : ∀ i, i < n → CF (a i).v9 ∧ CF (a i).v10) (cs : ∀ k, k < m → CF (s k).v0 ∧ CF (s k).v1) :
    smR (al0 n (lentR n a) m (lentS m s) z) (rlP n (lentR n a) m (lentS m s) z) (be0 n a m s z) (rlR n a m s z) = true ∧ smO (al0 n (lentR n a) m (lentS m s) z) (rlP n (lentR n a) m (lentS m s) z) (be0 n a m s z) (rlR n a m s z) = true ∧ stR (al2 n (lentR n a) m (lentS m s) z) (slP n (lentR n a) m (lentS m s) z) (be2 n a m s z) (slR n a m s z) = true ∧ stO (al2 n (lentR n a) m (lentS m s) z) (slP n (lentR n a) m (lentS m s) z) (be2 n a m s z) (slR n a m s z) = true ∧
    ieq (al4 n (lentR n a) m (lentS m s) z) (be4 n a m s z) = true ∧ alO n (lentR n a) m (lentS m s) z = true ∧ beO n a m s z = true ∧ Nat.ble (al0 n (lentR n a) m (lentS m s) z) (al5 n (lentR n a) m (lentS m s) z) = true ∧ Nat.ble (be0 n a m s z) (be5 n a m s z) = true ∧ Nat.ble (al2 n (lentR n a) m (lentS m s) z) (al20 n (lentR n a) m (lentS m s) z) = true ∧ Nat.ble (be2 n a m s z) (be20 n a m s z) = true ∧ al0 n (lentR n a) m (lentS m s) z ≤ 1048576 ∧ al2 n (lentR n a) m (lentS m s) z ≤ 1024 := by
  obtain ⟨e, k, k', x, y, t, u, h1, h2⟩ := same_all (z := z) hn hm c cs
  have r := rows_same (l := rlP n (lentR n a) m (lentS m s) z) (l' := rlR n a m s z) (show k < 9223372036854775807 by omega) (fun j hj => (t.rows j hj).trans (u.rows j hj).symm)
  have q := stills_same (l := slP n (lentR n a) m (lentS m s) z) (l' := slR n a m s z) (show k' < 9223372036854775807 by omega) (fun j hj => (t.stills j hj).trans (u.stills j hj).symm)
  rw [t.nr, u.nr, t.ns, u.ns, t.err, u.err, t.ob, u.ob]
  exact ⟨r.1, r.2, q.1, q.2, ieq_self _, rfl, rfl, ble_true t.nr5, ble_true u.nr5, ble_true t.ns20, ble_true u.ns20, h1, h2⟩
theorem lefts {n m : Nat} {a : Nat → Rw} {s : Nat → Sl} (hn : n < 9223372036854775807) (hm : m < 9223372036854775807) (c : ∀ i, i < n → CF (a i).v9 ∧ CF (a i).v10) (cs : ∀ k, k < m → CF (s k).v0 ∧ CF (s k).v1) :
    s_ref02_Is_0 (s_solve_Left_0 n (fun j => ((lentR n a) j).v0) (fun j => ((lentR n a) j).v1) (fun j => ((lentR n a) j).v2) (fun j => ((lentR n a) j).v3) (fun j => ((lentR n a) j).v4) (fun j => ((lentR n a) j).v5) (fun j => ((lentR n a) j).v6) (fun j => ((lentR n a) j).v7) (fun j => ((lentR n a) j).v8) (fun j => ((lentR n a) j).v9) (fun j => ((lentR n a) j).v10) (fun j => ((lentR n a) j).v11) (fun j => ((lentR n a) j).v12) (fun j => ((lentR n a) j).v13) m (fun j => ((lentS m s) j).v0) (fun j => ((lentS m s) j).v1) (fun j => ((lentS m s) j).v2) (fun j => ((lentS m s) j).v3) (fun j => ((lentS m s) j).v4)) (s_ref21_Left_0 n (fun j => (a j).v0) (fun j => (a j).v1) (fun j => (a j).v2) (fun j => (a j).v3) (fun j => (a j).v4) (fun j => (a j).v5) (fun j => (a j).v6) (fun j => (a j).v7) (fun j => (a j).v8) (fun j => (a j).v9) (fun j => (a j).v10) (fun j => (a j).v11) (fun j => (a j).v12) (fun j => (a j).v13) m (fun j => (s j).v0) (fun j => (s j).v1) (fun j => (s j).v2) (fun j => (s j).v3) (fun j => (s j).v4)) = true ∧ ieq (s_solve_Left_1 n (fun j => ((lentR n a) j).v0) (fun j => ((lentR n a) j).v1) (fun j => ((lentR n a) j).v2) (fun j => ((lentR n a) j).v3) (fun j => ((lentR n a) j).v4) (fun j => ((lentR n a) j).v5) (fun j => ((lentR n a) j).v6) (fun j => ((lentR n a) j).v7) (fun j => ((lentR n a) j).v8) (fun j => ((lentR n a) j).v9) (fun j => ((lentR n a) j).v10) (fun j => ((lentR n a) j).v11) (fun j => ((lentR n a) j).v12) (fun j => ((lentR n a) j).v13) m (fun j => ((lentS m s) j).v0) (fun j => ((lentS m s) j).v1) (fun j => ((lentS m s) j).v2) (fun j => ((lentS m s) j).v3) (fun j => ((lentS m s) j).v4)) (s_ref21_Left_1 n (fun j => (a j).v0) (fun j => (a j).v1) (fun j => (a j).v2) (fun j => (a j).v3) (fun j => (a j).v4) (fun j => (a j).v5) (fun j => (a j).v6) (fun j => (a j).v7) (fun j => (a j).v8) (fun j => (a j).v9) (fun j => (a j).v10) (fun j => (a j).v11) (fun j => (a j).v12) (fun j => (a j).v13) m (fun j => (s j).v0) (fun j => (s j).v1) (fun j => (s j).v2) (fun j => (s j).v3) (fun j => (s j).v4)) = true ∧ o_solve_Left n (fun j => ((lentR n a) j).v0) (fun j => ((lentR n a) j).v1) (fun j => ((lentR n a) j).v2) (fun j => ((lentR n a) j).v3) (fun j => ((lentR n a) j).v4) (fun j => ((lentR n a) j).v5) (fun j => ((lentR n a) j).v6) (fun j => ((lentR n a) j).v7) (fun j => ((lentR n a) j).v8) (fun j => ((lentR n a) j).v9) (fun j => ((lentR n a) j).v10) (fun j => ((lentR n a) j).v11) (fun j => ((lentR n a) j).v12) (fun j => ((lentR n a) j).v13) m (fun j => ((lentS m s) j).v0) (fun j => ((lentS m s) j).v1) (fun j => ((lentS m s) j).v2) (fun j => ((lentS m s) j).v3) (fun j => ((lentS m s) j).v4) = true ∧ o_ref21_Left n (fun j => (a j).v0) (fun j => (a j).v1) (fun j => (a j).v2) (fun j => (a j).v3) (fun j => (a j).v4) (fun j => (a j).v5) (fun j => (a j).v6) (fun j => (a j).v7) (fun j => (a j).v8) (fun j => (a j).v9) (fun j => (a j).v10) (fun j => (a j).v11) (fun j => (a j).v12) (fun j => (a j).v13) m (fun j => (s j).v0) (fun j => (s j).v1) (fun j => (s j).v2) (fun j => (s j).v3) (fun j => (s j).v4) = true := by
  obtain ⟨p1, p2, p3⟩ := leftP_tell (l := lentR n a) (s := lentS m s) hn hm (fun i hi => by rw [lentR_lt n a i hi]; exact c i hi)
  obtain ⟨r1, r2, r3⟩ := leftR_tell (l := a) (s := s) hn hm c cs
  have ea : askN n m (lentR n a) (lentS m s) = askN n m a s := ask_loc (lentR_lt n a) (lentS_lt m s)
  rw [p1, p2, p3, r1, r2, r3, ea]
  refine ⟨?_, ieq_self _, rfl, rfl⟩
  by_cases h : askN n m a s = 0
  · obtain ⟨_, _, hi, _⟩ := ask_ok h c
    rw [lft_loc (s' := lentS m s) hi (fun j hj => (lentR_lt n a j hj).symm) (fun k hk => (lentS_lt m s k hk).symm) n (Nat.le_refl n)]
    exact is_same _
  · rw [ieq0 h]; exact is_same _
theorem law' (n : Nat) (a : Nat → Rw) (m : Nat) (s : Nat → Sl) (z : Int) (hn : n * 112 ≤ 140737488351232) (hm : m * 40 ≤ 140737488351232) (c : ∀ i, i < n → CF (a i).v9 ∧ CF (a i).v10) (cs : ∀ k, k < m → CF (s k).v0 ∧ CF (s k).v1) : T_law21_SolveAll n (fun j => (a j).v0) (fun j => (a j).v1) (fun j => (a j).v2) (fun j => (a j).v3) (fun j => (a j).v4) (fun j => (a j).v5) (fun j => (a j).v6) (fun j => (a j).v7) (fun j => (a j).v8) (fun j => (a j).v9) (fun j => (a j).v10) (fun j => (a j).v11) (fun j => (a j).v12) (fun j => (a j).v13) m (fun j => (s j).v0) (fun j => (s j).v1) (fun j => (s j).v2) (fun j => (s j).v3) (fun j => (s j).v4) z = true := by
  have hn' : n < 9223372036854775807 := by omega
  have hm' : m < 9223372036854775807 := by omega
  obtain ⟨t1, t2, t3, t4, t5, t6, t7, t8, t9, t10, t11, t12, t13⟩ := parts (z := z) hn' hm' c cs
  obtain ⟨f1, f2, f3, f4⟩ := lefts hn' hm' c cs
  obtain ⟨k1, k2⟩ := keptP (a := a) (s := s) hn' hm'
  unfold T_law21_SolveAll
  extract_lets x0 x1 x2 x3 x4 x5 x6 x7 x8 x9 x10 x11 x12 x13 x14 x15 x16 x17 x18 x19 x20 x21 x22
  exact shapeA rfl (and_of (and_of (and_of (and_of rfl (and_of (and_of (and_of (and_of t1 t3) t5) f1) f2)) k1) t1) t3)
theorem ob' (n : Nat) (a : Nat → Rw) (m : Nat) (s : Nat → Sl) (z : Int) (hn : n * 112 ≤ 140737488351232) (hm : m * 40 ≤ 140737488351232) (c : ∀ i, i < n → CF (a i).v9 ∧ CF (a i).v10) (cs : ∀ k, k < m → CF (s k).v0 ∧ CF (s k).v1) : O_law21_SolveAll n (fun j => (a j).v0) (fun j => (a j).v1) (fun j => (a j).v2) (fun j => (a j).v3) (fun j => (a j).v4) (fun j => (a j).v5) (fun j => (a j).v6) (fun j => (a j).v7) (fun j => (a j).v8) (fun j => (a j).v9) (fun j => (a j).v10) (fun j => (a j).v11) (fun j => (a j).v12) (fun j => (a j).v13) m (fun j => (s j).v0) (fun j => (s j).v1) (fun j => (s j).v2) (fun j => (s j).v3) (fun j => (s j).v4) z = true := by
  have aT : (allB fun _ => true) = true := allB_true
  have hn' : n < 9223372036854775807 := by omega
  have hm' : m < 9223372036854775807 := by omega
  obtain ⟨t1, t2, t3, t4, t5, t6, t7, t8, t9, t10, t11, t12, t13⟩ := parts (z := z) hn' hm' c cs
  obtain ⟨f1, f2, f3, f4⟩ := lefts hn' hm' c cs
  obtain ⟨k1, k2⟩ := keptP (a := a) (s := s) hn' hm'
  unfold O_law21_SolveAll
  extract_lets x0 x1 x2 x3 x4 x5 x6 x7 x8 x9 x10 x11 x12 x13 x14 x15 x16 x17 x18 x19 x20 x21 x22 x23 x24 x25 x26 x27 x28 x29 x30 x31 x32 x33 x34 x35 x36 x37 x38 x39 x40 x41 x42 x43 x44 x45 x46 x47 x48 x49 x50 x51 x52 x53 x54 x55 x56 x57 x58 x59 x60 x61 x62 x63 x64 x65 x66 x67 x68 x69 x70 x71 x72 x73 x74 x75 x76 x77 x78 x79 x80 x81 x82 x83 x84 x85 x86 x87 x88
  have e0 : x0 = true := ble_true (Nat.le_succ n)
  have e1 : x1 = true := ble_true (Nat.le_succ m)
  have o0 : (x0 || x0) = true := by rw [e0]; rfl
  have o1 : (x1 || x1) = true := by rw [e1]; rfl
  have e25 : x25 = true := and_of (ble_true (Nat.le_succ n)) (ble_true (Nat.le_succ m))
  have e26 : x26 = true := and_of e25 (and_of (and_of aT aT) t6)
  have e58 : x58 = true := and_of (and_of t8 t9) (and_of (and_of aT aT) t2)
  have e59 : x59 = true := and_of e58 (and_of (and_of (and_of aT aT) f4) (and_of (and_of e25 (and_of (and_of aT aT) f3)) (and_of (and_of (and_of aT aT) t7) (and_of e26 (and_of (and_of aT (and_of o1 (and_of (and_of (ble_true (Nat.le_refl m)) (ble_true (show (m + 1) * 40 ≤ 140737488355328 by omega))) (ble_true (show m * 40 ≤ 140737488355328 by omega))))) (and_of (and_of aT (and_of o0 (and_of (and_of (ble_true (Nat.le_refl n)) (ble_true (show (n + 1) * 112 ≤ 140737488355328 by omega))) (ble_true (show n * 112 ≤ 140737488355328 by omega))))) (and_of aT aT)))))))
  have e73 : x73 = true := and_of (and_of t10 t11) (and_of (and_of aT aT) t4)
  have e75 : x75 = true := mrgB_both (and_of e73 e59) e59
  have e77 : x77 = true := mrgB_both e75 e75
  have e79 : x79 = true := mrgB_both e77 e77
  have osp : o_law21_spoil (al0 n (lentR n a) m (lentS m s) z) (s_solve_All_1 n (fun j => ((lentR n a) j).v0) (fun j => ((lentR n a) j).v1) (fun j => ((lentR n a) j).v2) (fun j => ((lentR n a) j).v3) (fun j => ((lentR n a) j).v4) (fun j => ((lentR n a) j).v5) (fun j => ((lentR n a) j).v6) (fun j => ((lentR n a) j).v7) (fun j => ((lentR n a) j).v8) (fun j => ((lentR n a) j).v9) (fun j => ((lentR n a) j).v10) (fun j => ((lentR n a) j).v11) (fun j => ((lentR n a) j).v12) (fun j => ((lentR n a) j).v13) m (fun j => ((lentS m s) j).v0) (fun j => ((lentS m s) j).v1) (fun j => ((lentS m s) j).v2) (fun j => ((lentS m s) j).v3) (fun j => ((lentS m s) j).v4) z) (al2 n (lentR n a) m (lentS m s) z) (s_solve_All_3 n (fun j => ((lentR n a) j).v0) (fun j => ((lentR n a) j).v1) (fun j => ((lentR n a) j).v2) (fun j => ((lentR n a) j).v3) (fun j => ((lentR n a) j).v4) (fun j => ((lentR n a) j).v5) (fun j => ((lentR n a) j).v6) (fun j => ((lentR n a) j).v7) (fun j => ((lentR n a) j).v8) (fun j => ((lentR n a) j).v9) (fun j => ((lentR n a) j).v10) (fun j => ((lentR n a) j).v11) (fun j => ((lentR n a) j).v12) (fun j => ((lentR n a) j).v13) m (fun j => ((lentS m s) j).v0) (fun j => ((lentS m s) j).v1) (fun j => ((lentS m s) j).v2) (fun j => ((lentS m s) j).v3) (fun j => ((lentS m s) j).v4) z) (al5 n (lentR n a) m (lentS m s) z) (fun j => ((rlP n (lentR n a) m (lentS m s) z) j).v0) (fun j => ((rlP n (lentR n a) m (lentS m s) z) j).v1) (fun j => ((rlP n (lentR n a) m (lentS m s) z) j).v2) (fun j => ((rlP n (lentR n a) m (lentS m s) z) j).v3) (fun j => ((rlP n (lentR n a) m (lentS m s) z) j).v4) (fun j => ((rlP n (lentR n a) m (lentS m s) z) j).v5) (fun j => ((rlP n (lentR n a) m (lentS m s) z) j).v6) (fun j => ((rlP n (lentR n a) m (lentS m s) z) j).v7) (fun j => ((rlP n (lentR n a) m (lentS m s) z) j).v8) (fun j => ((rlP n (lentR n a) m (lentS m s) z) j).v9) (fun j => ((rlP n (lentR n a) m (lentS m s) z) j).v10) (fun j => ((rlP n (lentR n a) m (lentS m s) z) j).v11) (fun j => ((rlP n (lentR n a) m (lentS m s) z) j).v12) (fun j => ((rlP n (lentR n a) m (lentS m s) z) j).v13) (al20 n (lentR n a) m (lentS m s) z) (fun j => ((slP n (lentR n a) m (lentS m s) z) j).v0) (fun j => ((slP n (lentR n a) m (lentS m s) z) j).v1) (fun j => ((slP n (lentR n a) m (lentS m s) z) j).v2) (fun j => ((slP n (lentR n a) m (lentS m s) z) j).v3) (fun j => ((slP n (lentR n a) m (lentS m s) z) j).v4) = true := spoilP t12 (Nat.le_of_ble_eq_true t8) t13 (Nat.le_of_ble_eq_true t10)
  have e81 : x81 = true := and_of e26 (and_of (and_of (and_of aT aT) (and_of (and_of aT aT) osp)) (mrgB_both e79 e79))
  have e82 : x82 = true := mrgB_both e81 e81
  have e86 : x86 = true := mrgB_both (and_of (and_of (and_of aT aT) (and_of (and_of (and_of (and_of aT aT) aT) aT) k2)) e82) e82
  have e88 : x88 = true := mrgB_both (and_of e58 e86) e86
  exact mrgB_both rfl (mrgB_both (and_of aT aT) (mrgB_both (and_of e73 e88) e88))
theorem law_SolveAll (n : Nat) (a0 a1 : Nat → Int) (a2 a3 a4 a5 a6 a7 a8 a9 a10 a11 : Nat → Nat) (a12 : Nat → Int) (a13 : Nat → Nat) (m : Nat) (s0 s1 s2 s3 s4 : Nat → Nat) (z : Int) (hA : GoodA (.sl 112 [.i .i64, .i .i64, .f, .f, .f, .f, .f, .f, .f, .f, .f, .f, .i .i64, .f]) (.view n 14 (fun i => [.int .i64 (a0 i), .int .i64 (a1 i), .float (a2 i), .float (a3 i), .float (a4 i), .float (a5 i), .float (a6 i), .float (a7 i), .float (a8 i), .float (a9 i), .float (a10 i), .float (a11 i), .int .i64 (a12 i), .float (a13 i)]))) (hC : GoodA (.sl 40 [.f, .f, .f, .f, .f]) (.view m 5 (fun i => [.float (s0 i), .float (s1 i), .float (s2 i), .float (s3 i), .float (s4 i)]))) (hD : GoodA (.i .i64) (.int .i64 z)) : T_law21_SolveAll n a0 a1 a2 a3 a4 a5 a6 a7 a8 a9 a10 a11 a12 a13 m s0 s1 s2 s3 s4 z = true := law' n (fun j => ⟨a0 j, a1 j, a2 j, a3 j, a4 j, a5 j, a6 j, a7 j, a8 j, a9 j, a10 j, a11 j, a12 j, a13 j⟩) m (fun j => ⟨s0 j, s1 j, s2 j, s3 j, s4 j⟩) z (by have := hA.1; rw [reach_val] at this; exact this) (by have := hC.1; rw [reach_val] at this; exact this) (fun i hi => ⟨(hA.2 i hi).2.2.2.2.2.2.2.2.2.1, (hA.2 i hi).2.2.2.2.2.2.2.2.2.2.1⟩) (fun k hk => ⟨(hC.2 k hk).1, (hC.2 k hk).2.1⟩)
theorem ob_law_SolveAll (n : Nat) (a0 a1 : Nat → Int) (a2 a3 a4 a5 a6 a7 a8 a9 a10 a11 : Nat → Nat) (a12 : Nat → Int) (a13 : Nat → Nat) (m : Nat) (s0 s1 s2 s3 s4 : Nat → Nat) (z : Int) (hA : GoodA (.sl 112 [.i .i64, .i .i64, .f, .f, .f, .f, .f, .f, .f, .f, .f, .f, .i .i64, .f]) (.view n 14 (fun i => [.int .i64 (a0 i), .int .i64 (a1 i), .float (a2 i), .float (a3 i), .float (a4 i), .float (a5 i), .float (a6 i), .float (a7 i), .float (a8 i), .float (a9 i), .float (a10 i), .float (a11 i), .int .i64 (a12 i), .float (a13 i)]))) (hC : GoodA (.sl 40 [.f, .f, .f, .f, .f]) (.view m 5 (fun i => [.float (s0 i), .float (s1 i), .float (s2 i), .float (s3 i), .float (s4 i)]))) (hD : GoodA (.i .i64) (.int .i64 z)) : O_law21_SolveAll n a0 a1 a2 a3 a4 a5 a6 a7 a8 a9 a10 a11 a12 a13 m s0 s1 s2 s3 s4 z = true := ob' n (fun j => ⟨a0 j, a1 j, a2 j, a3 j, a4 j, a5 j, a6 j, a7 j, a8 j, a9 j, a10 j, a11 j, a12 j, a13 j⟩) m (fun j => ⟨s0 j, s1 j, s2 j, s3 j, s4 j⟩) z (by have := hA.1; rw [reach_val] at this; exact this) (by have := hC.1; rw [reach_val] at this; exact this) (fun i hi => ⟨(hA.2 i hi).2.2.2.2.2.2.2.2.2.1, (hA.2 i hi).2.2.2.2.2.2.2.2.2.2.1⟩) (fun k hk => ⟨(hC.2 k hk).1, (hC.2 k hk).2.1⟩)
end Go.Proofs.Ytofpjfohijljgaa
