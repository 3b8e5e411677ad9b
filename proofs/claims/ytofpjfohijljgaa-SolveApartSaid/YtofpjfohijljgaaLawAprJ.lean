/- Rows solved by turns: two lists one behind the other; what is apart is solved apart. -/
import Derived.Test.YtofpjfohijljgaaLawAprT
set_option linter.unusedVariables false
set_option linter.unusedSimpArgs false
set_option linter.unusedSectionVars false
set_option maxHeartbeats 4000000
set_option maxRecDepth 4000
namespace Go.Proofs.Ytofpjfohijljgaa
open Go.Sim Go.Lst
/-- a row in the second of two lists -/
def sh (na : Nat) (r : Rw) : Rw := hang r (bif ile 0 r.v12 then IntKind.wrap .i64 (r.v12 + Int.ofNat na) else r.v12)
def Jk (na : Nat) (a b : Nat → Rw) (k : Nat) : Nat → Rw := itr (fun i L j => bif Nat.blt j (na + i) then L j else sh na (b i)) k a
theorem bifR (q : Bool) (x y : Rw) : (bif q then x else y) = ⟨bif q then x.v0 else y.v0, bif q then x.v1 else y.v1, bif q then x.v2 else y.v2, bif q then x.v3 else y.v3, bif q then x.v4 else y.v4, bif q then x.v5 else y.v5, bif q then x.v6 else y.v6, bif q then x.v7 else y.v7, bif q then x.v8 else y.v8, bif q then x.v9 else y.v9, bif q then x.v10 else y.v10, bif q then x.v11 else y.v11, bif q then x.v12 else y.v12, bif q then x.v13 else y.v13⟩ := by cases q <;> rfl
theorem Jk_lt {na : Nat} {a b : Nat → Rw} {j : Nat} (h : j < na) : ∀ k, Jk na a b k j = a j
  | 0 => rfl
  | k + 1 => by
    show (bif Nat.blt j (na + k) then Jk na a b k j else sh na (b k)) = a j
    rw [blt_true (by omega), cond_true, Jk_lt h k]
theorem Jk_ge {na : Nat} {a b : Nat → Rw} {i : Nat} : ∀ k, i < k → Jk na a b k (na + i) = sh na (b i)
  | 0, h => absurd h (Nat.not_lt_zero i)
  | k + 1, h => by
    show (bif Nat.blt (na + i) (na + k) then Jk na a b k (na + i) else sh na (b k)) = sh na (b i)
    by_cases hik : i < k
    · rw [blt_true (by omega), cond_true, Jk_ge k hik]
    · have : i = k := by omega
      subst this
      rw [blt_false (by omega), cond_false]
noncomputable def joinL (na : Nat) (a : Nat → Rw) (nb : Nat) (b : Nat → Rw) (j : Nat) : Rw := ⟨s_law21_joined_3 na (fun j => (a j).v0) (fun j => (a j).v1) (fun j => (a j).v2) (fun j => (a j).v3) (fun j => (a j).v4) (fun j => (a j).v5) (fun j => (a j).v6) (fun j => (a j).v7) (fun j => (a j).v8) (fun j => (a j).v9) (fun j => (a j).v10) (fun j => (a j).v11) (fun j => (a j).v12) (fun j => (a j).v13) nb (fun j => (b j).v0) (fun j => (b j).v1) (fun j => (b j).v2) (fun j => (b j).v3) (fun j => (b j).v4) (fun j => (b j).v5) (fun j => (b j).v6) (fun j => (b j).v7) (fun j => (b j).v8) (fun j => (b j).v9) (fun j => (b j).v10) (fun j => (b j).v11) (fun j => (b j).v12) (fun j => (b j).v13) j, s_law21_joined_4 na (fun j => (a j).v0) (fun j => (a j).v1) (fun j => (a j).v2) (fun j => (a j).v3) (fun j => (a j).v4) (fun j => (a j).v5) (fun j => (a j).v6) (fun j => (a j).v7) (fun j => (a j).v8) (fun j => (a j).v9) (fun j => (a j).v10) (fun j => (a j).v11) (fun j => (a j).v12) (fun j => (a j).v13) nb (fun j => (b j).v0) (fun j => (b j).v1) (fun j => (b j).v2) (fun j => (b j).v3) (fun j => (b j).v4) (fun j => (b j).v5) (fun j => (b j).v6) (fun j => (b j).v7) (fun j => (b j).v8) (fun j => (b j).v9) (fun j => (b j).v10) (fun j => (b j).v11) (fun j => (b j).v12) (fun j => (b j).v13) j, s_law21_joined_5 na (fun j => (a j).v0) (fun j => (a j).v1) (fun j => (a j).v2) (fun j => (a j).v3) (fun j => (a j).v4) (fun j => (a j).v5) (fun j => (a j).v6) (fun j => (a j).v7) (fun j => (a j).v8) (fun j => (a j).v9) (fun j => (a j).v10) (fun j => (a j).v11) (fun j => (a j).v12) (fun j => (a j).v13) nb (fun j => (b j).v0) (fun j => (b j).v1) (fun j => (b j).v2) (fun j => (b j).v3) (fun j => (b j).v4) (fun j => (b j).v5) (fun j => (b j).v6) (fun j => (b j).v7) (fun j => (b j).v8) (fun j => (b j).v9) (fun j => (b j).v10) (fun j => (b j).v11) (fun j => (b j).v12) (fun j => (b j).v13) j, s_law21_joined_6 na (fun j => (a j).v0) (fun j => (a j).v1) (fun j => (a j).v2) (fun j => (a j).v3) (fun j => (a j).v4) (fun j => (a j).v5) (fun j => (a j).v6) (fun j => (a j).v7) (fun j => (a j).v8) (fun j => (a j).v9) (fun j => (a j).v10) (fun j => (a j).v11) (fun j => (a j).v12) (fun j => (a j).v13) nb (fun j => (b j).v0) (fun j => (b j).v1) (fun j => (b j).v2) (fun j => (b j).v3) (fun j => (b j).v4) (fun j => (b j).v5) (fun j => (b j).v6) (fun j => (b j).v7) (fun j => (b j).v8) (fun j => (b j).v9) (fun j => (b j).v10) (fun j => (b j).v11) (fun j => (b j).v12) (fun j => (b j).v13) j, s_law21_joined_7 na (fun j => (a j).v0) (fun j => (a j).v1) (fun j => (a j).v2) (fun j => (a j).v3) (fun j => (a j).v4) (fun j => (a j).v5) (fun j => (a j).v6) (fun j => (a j).v7) (fun j => (a j).v8) (fun j => (a j).v9) (fun j => (a j).v10) (fun j => (a j).v11) (fun j => (a j).v12) (fun j => (a j).v13) nb (fun j => (b j).v0) (fun j => (b j).v1) (fun j => (b j).v2) (fun j => (b j).v3) (fun j => (b j).v4) (fun j => (b j).v5) (fun j => (b j).v6) (fun j => (b j).v7) (fun j => (b j).v8) (fun j => (b j).v9) (fun j => (b j).v10) (fun j => (b j).v11) (fun j => (b j).v12) (fun j => (b j).v13) j, s_law21_joined_8 na (fun j => (a j).v0) (fun j => (a j).v1) (fun j => (a j).v2) (fun j => (a j).v3) (fun j => (a j).v4) (fun j => (a j).v5) (fun j => (a j).v6) (fun j => (a j).v7) (fun j => (a j).v8) (fun j => (a j).v9) (fun j => (a j).v10) (fun j => (a j).v11) (fun j => (a j).v12) (fun j => (a j).v13) nb (fun j => (b j).v0) (fun j => (b j).v1) (fun j => (b j).v2) (fun j => (b j).v3) (fun j => (b j).v4) (fun j => (b j).v5) (fun j => (b j).v6) (fun j => (b j).v7) (fun j => (b j).v8) (fun j => (b j).v9) (fun j => (b j).v10) (fun j => (b j).v11) (fun j => (b j).v12) (fun j => (b j).v13) j, s_law21_joined_9 na (fun j => (a j).v0) (fun j => (a j).v1) (fun j => (a j).v2) (fun j => (a j).v3) (fun j => (a j).v4) (fun j => (a j).v5) (fun j => (a j).v6) (fun j => (a j).v7) (fun j => (a j).v8) (fun j => (a j).v9) (fun j => (a j).v10) (fun j => (a j).v11) (fun j => (a j).v12) (fun j => (a j).v13) nb (fun j => (b j).v0) (fun j => (b j).v1) (fun j => (b j).v2) (fun j => (b j).v3) (fun j => (b j).v4) (fun j => (b j).v5) (fun j => (b j).v6) (fun j => (b j).v7) (fun j => (b j).v8) (fun j => (b j).v9) (fun j => (b j).v10) (fun j => (b j).v11) (fun j => (b j).v12) (fun j => (b j).v13) j, s_law21_joined_10 na (fun j => (a j).v0) (fun j => (a j).v1) (fun j => (a j).v2) (fun j => (a j).v3) (fun j => (a j).v4) (fun j => (a j).v5) (fun j => (a j).v6) (fun j => (a j).v7) (fun j => (a j).v8) (fun j => (a j).v9) (fun j => (a j).v10) (fun j => (a j).v11) (fun j => (a j).v12) (fun j => (a j).v13) nb (fun j => (b j).v0) (fun j => (b j).v1) (fun j => (b j).v2) (fun j => (b j).v3) (fun j => (b j).v4) (fun j => (b j).v5) (fun j => (b j).v6) (fun j => (b j).v7) (fun j => (b j).v8) (fun j => (b j).v9) (fun j => (b j).v10) (fun j => (b j).v11) (fun j => (b j).v12) (fun j => (b j).v13) j, s_law21_joined_11 na (fun j => (a j).v0) (fun j => (a j).v1) (fun j => (a j).v2) (fun j => (a j).v3) (fun j => (a j).v4) (fun j => (a j).v5) (fun j => (a j).v6) (fun j => (a j).v7) (fun j => (a j).v8) (fun j => (a j).v9) (fun j => (a j).v10) (fun j => (a j).v11) (fun j => (a j).v12) (fun j => (a j).v13) nb (fun j => (b j).v0) (fun j => (b j).v1) (fun j => (b j).v2) (fun j => (b j).v3) (fun j => (b j).v4) (fun j => (b j).v5) (fun j => (b j).v6) (fun j => (b j).v7) (fun j => (b j).v8) (fun j => (b j).v9) (fun j => (b j).v10) (fun j => (b j).v11) (fun j => (b j).v12) (fun j => (b j).v13) j, s_law21_joined_12 na (fun j => (a j).v0) (fun j => (a j).v1) (fun j => (a j).v2) (fun j => (a j).v3) (fun j => (a j).v4) (fun j => (a j).v5) (fun j => (a j).v6) (fun j => (a j).v7) (fun j => (a j).v8) (fun j => (a j).v9) (fun j => (a j).v10) (fun j => (a j).v11) (fun j => (a j).v12) (fun j => (a j).v13) nb (fun j => (b j).v0) (fun j => (b j).v1) (fun j => (b j).v2) (fun j => (b j).v3) (fun j => (b j).v4) (fun j => (b j).v5) (fun j => (b j).v6) (fun j => (b j).v7) (fun j => (b j).v8) (fun j => (b j).v9) (fun j => (b j).v10) (fun j => (b j).v11) (fun j => (b j).v12) (fun j => (b j).v13) j, s_law21_joined_13 na (fun j => (a j).v0) (fun j => (a j).v1) (fun j => (a j).v2) (fun j => (a j).v3) (fun j => (a j).v4) (fun j => (a j).v5) (fun j => (a j).v6) (fun j => (a j).v7) (fun j => (a j).v8) (fun j => (a j).v9) (fun j => (a j).v10) (fun j => (a j).v11) (fun j => (a j).v12) (fun j => (a j).v13) nb (fun j => (b j).v0) (fun j => (b j).v1) (fun j => (b j).v2) (fun j => (b j).v3) (fun j => (b j).v4) (fun j => (b j).v5) (fun j => (b j).v6) (fun j => (b j).v7) (fun j => (b j).v8) (fun j => (b j).v9) (fun j => (b j).v10) (fun j => (b j).v11) (fun j => (b j).v12) (fun j => (b j).v13) j, s_law21_joined_14 na (fun j => (a j).v0) (fun j => (a j).v1) (fun j => (a j).v2) (fun j => (a j).v3) (fun j => (a j).v4) (fun j => (a j).v5) (fun j => (a j).v6) (fun j => (a j).v7) (fun j => (a j).v8) (fun j => (a j).v9) (fun j => (a j).v10) (fun j => (a j).v11) (fun j => (a j).v12) (fun j => (a j).v13) nb (fun j => (b j).v0) (fun j => (b j).v1) (fun j => (b j).v2) (fun j => (b j).v3) (fun j => (b j).v4) (fun j => (b j).v5) (fun j => (b j).v6) (fun j => (b j).v7) (fun j => (b j).v8) (fun j => (b j).v9) (fun j => (b j).v10) (fun j => (b j).v11) (fun j => (b j).v12) (fun j => (b j).v13) j, s_law21_joined_15 na (fun j => (a j).v0) (fun j => (a j).v1) (fun j => (a j).v2) (fun j => (a j).v3) (fun j => (a j).v4) (fun j => (a j).v5) (fun j => (a j).v6) (fun j => (a j).v7) (fun j => (a j).v8) (fun j => (a j).v9) (fun j => (a j).v10) (fun j => (a j).v11) (fun j => (a j).v12) (fun j => (a j).v13) nb (fun j => (b j).v0) (fun j => (b j).v1) (fun j => (b j).v2) (fun j => (b j).v3) (fun j => (b j).v4) (fun j => (b j).v5) (fun j => (b j).v6) (fun j => (b j).v7) (fun j => (b j).v8) (fun j => (b j).v9) (fun j => (b j).v10) (fun j => (b j).v11) (fun j => (b j).v12) (fun j => (b j).v13) j, s_law21_joined_16 na (fun j => (a j).v0) (fun j => (a j).v1) (fun j => (a j).v2) (fun j => (a j).v3) (fun j => (a j).v4) (fun j => (a j).v5) (fun j => (a j).v6) (fun j => (a j).v7) (fun j => (a j).v8) (fun j => (a j).v9) (fun j => (a j).v10) (fun j => (a j).v11) (fun j => (a j).v12) (fun j => (a j).v13) nb (fun j => (b j).v0) (fun j => (b j).v1) (fun j => (b j).v2) (fun j => (b j).v3) (fun j => (b j).v4) (fun j => (b j).v5) (fun j => (b j).v6) (fun j => (b j).v7) (fun j => (b j).v8) (fun j => (b j).v9) (fun j => (b j).v10) (fun j => (b j).v11) (fun j => (b j).v12) (fun j => (b j).v13) j⟩
noncomputable def joinN (na : Nat) (a : Nat → Rw) (nb : Nat) (b : Nat → Rw) : Nat := s_law21_joined_0 na (fun j => (a j).v0) (fun j => (a j).v1) (fun j => (a j).v2) (fun j => (a j).v3) (fun j => (a j).v4) (fun j => (a j).v5) (fun j => (a j).v6) (fun j => (a j).v7) (fun j => (a j).v8) (fun j => (a j).v9) (fun j => (a j).v10) (fun j => (a j).v11) (fun j => (a j).v12) (fun j => (a j).v13) nb (fun j => (b j).v0) (fun j => (b j).v1) (fun j => (b j).v2) (fun j => (b j).v3) (fun j => (b j).v4) (fun j => (b j).v5) (fun j => (b j).v6) (fun j => (b j).v7) (fun j => (b j).v8) (fun j => (b j).v9) (fun j => (b j).v10) (fun j => (b j).v11) (fun j => (b j).v12) (fun j => (b j).v13)
noncomputable def joinC (na : Nat) (a : Nat → Rw) (nb : Nat) (b : Nat → Rw) : Nat := s_law21_joined_2 na (fun j => (a j).v0) (fun j => (a j).v1) (fun j => (a j).v2) (fun j => (a j).v3) (fun j => (a j).v4) (fun j => (a j).v5) (fun j => (a j).v6) (fun j => (a j).v7) (fun j => (a j).v8) (fun j => (a j).v9) (fun j => (a j).v10) (fun j => (a j).v11) (fun j => (a j).v12) (fun j => (a j).v13) nb (fun j => (b j).v0) (fun j => (b j).v1) (fun j => (b j).v2) (fun j => (b j).v3) (fun j => (b j).v4) (fun j => (b j).v5) (fun j => (b j).v6) (fun j => (b j).v7) (fun j => (b j).v8) (fun j => (b j).v9) (fun j => (b j).v10) (fun j => (b j).v11) (fun j => (b j).v12) (fun j => (b j).v13)
noncomputable def joinO (na : Nat) (a : Nat → Rw) (nb : Nat) (b : Nat → Rw) : Bool := o_law21_joined na (fun j => (a j).v0) (fun j => (a j).v1) (fun j => (a j).v2) (fun j => (a j).v3) (fun j => (a j).v4) (fun j => (a j).v5) (fun j => (a j).v6) (fun j => (a j).v7) (fun j => (a j).v8) (fun j => (a j).v9) (fun j => (a j).v10) (fun j => (a j).v11) (fun j => (a j).v12) (fun j => (a j).v13) nb (fun j => (b j).v0) (fun j => (b j).v1) (fun j => (b j).v2) (fun j => (b j).v3) (fun j => (b j).v4) (fun j => (b j).v5) (fun j => (b j).v6) (fun j => (b j).v7) (fun j => (b j).v8) (fun j => (b j).v9) (fun j => (b j).v10) (fun j => (b j).v11) (fun j => (b j).v12) (fun j => (b j).v13)
theorem joinP {na nb : Nat} {a b : Nat → Rw} (hna : na ≤ 60) (hnb : nb ≤ 60) : joinN na a nb b = na + nb ∧ joinC na a nb b = na + nb ∧ joinL na a nb b = Jk na a b nb ∧ joinO na a nb b = true := by
  have hr := run_to (ok := ok_law21_joined_L0 na nb (fun j => (b j).v0) (fun j => (b j).v1) (fun j => (b j).v2) (fun j => (b j).v3) (fun j => (b j).v4) (fun j => (b j).v5) (fun j => (b j).v6) (fun j => (b j).v7) (fun j => (b j).v8) (fun j => (b j).v9) (fun j => (b j).v10) (fun j => (b j).v11) (fun j => (b j).v12) (fun j => (b j).v13)) (go := go_law21_joined_L0 na nb (fun j => (b j).v0) (fun j => (b j).v1) (fun j => (b j).v2) (fun j => (b j).v3) (fun j => (b j).v4) (fun j => (b j).v5) (fun j => (b j).v6) (fun j => (b j).v7) (fun j => (b j).v8) (fun j => (b j).v9) (fun j => (b j).v10) (fun j => (b j).v11) (fun j => (b j).v12) (fun j => (b j).v13)) (step := step_law21_joined_L0 na nb (fun j => (b j).v0) (fun j => (b j).v1) (fun j => (b j).v2) (fun j => (b j).v3) (fun j => (b j).v4) (fun j => (b j).v5) (fun j => (b j).v6) (fun j => (b j).v7) (fun j => (b j).v8) (fun j => (b j).v9) (fun j => (b j).v10) (fun j => (b j).v11) (fun j => (b j).v12) (fun j => (b j).v13))
    (fun k => V_law21_joined_L0.mk (na + k) (Int.ofNat k) (fun j => ((Jk na a b k) j).v0) (fun j => ((Jk na a b k) j).v1) (fun j => ((Jk na a b k) j).v2) (fun j => ((Jk na a b k) j).v3) (fun j => ((Jk na a b k) j).v4) (fun j => ((Jk na a b k) j).v5) (fun j => ((Jk na a b k) j).v6) (fun j => ((Jk na a b k) j).v7) (fun j => ((Jk na a b k) j).v8) (fun j => ((Jk na a b k) j).v9) (fun j => ((Jk na a b k) j).v10) (fun j => ((Jk na a b k) j).v11) (fun j => ((Jk na a b k) j).v12) (fun j => ((Jk na a b k) j).v13)) nb
    (fun k hk => by
      unfold ok_law21_joined_L0
      simp only [toNat_of, mrgB_eq, ilt_ofNat, ile_ofNat, Bool.true_and, Bool.cond_self]
      by_cases hk : k < nb
      · rw [decide_eq_true hk, blt_true hk, ble_true (Nat.le_refl (na + k)), ble_true (show (na + k + 1) * 112 ≤ 140737488355328 by omega)]; rfl
      · rw [decide_eq_false hk]; rfl)
    (fun k hk => by unfold go_law21_joined_L0; simp only [ilt_ofNat]; simp [hk])
    (fun k hk => by
      have e : Jk na a b (k + 1) = fun j => (⟨bif Nat.blt j (na + k) then (Jk na a b k j).v0 else (sh na (b k)).v0, bif Nat.blt j (na + k) then (Jk na a b k j).v1 else (sh na (b k)).v1, bif Nat.blt j (na + k) then (Jk na a b k j).v2 else (sh na (b k)).v2, bif Nat.blt j (na + k) then (Jk na a b k j).v3 else (sh na (b k)).v3, bif Nat.blt j (na + k) then (Jk na a b k j).v4 else (sh na (b k)).v4, bif Nat.blt j (na + k) then (Jk na a b k j).v5 else (sh na (b k)).v5, bif Nat.blt j (na + k) then (Jk na a b k j).v6 else (sh na (b k)).v6, bif Nat.blt j (na + k) then (Jk na a b k j).v7 else (sh na (b k)).v7, bif Nat.blt j (na + k) then (Jk na a b k j).v8 else (sh na (b k)).v8, bif Nat.blt j (na + k) then (Jk na a b k j).v9 else (sh na (b k)).v9, bif Nat.blt j (na + k) then (Jk na a b k j).v10 else (sh na (b k)).v10, bif Nat.blt j (na + k) then (Jk na a b k j).v11 else (sh na (b k)).v11, bif Nat.blt j (na + k) then (Jk na a b k j).v12 else (sh na (b k)).v12, bif Nat.blt j (na + k) then (Jk na a b k j).v13 else (sh na (b k)).v13⟩ : Rw) := funext fun j => bifR _ _ _
      unfold step_law21_joined_L0
      simp only [toNat_of]
      rw [succ_i64 (by omega), e]; rfl)
    (by unfold go_law21_joined_L0; simp only [ilt_ofNat]; simp)
  have g : ∀ X : V_law21_joined_L0, X = V_law21_joined_L0.mk (na + nb) (Int.ofNat nb) (fun j => ((Jk na a b nb) j).v0) (fun j => ((Jk na a b nb) j).v1) (fun j => ((Jk na a b nb) j).v2) (fun j => ((Jk na a b nb) j).v3) (fun j => ((Jk na a b nb) j).v4) (fun j => ((Jk na a b nb) j).v5) (fun j => ((Jk na a b nb) j).v6) (fun j => ((Jk na a b nb) j).v7) (fun j => ((Jk na a b nb) j).v8) (fun j => ((Jk na a b nb) j).v9) (fun j => ((Jk na a b nb) j).v10) (fun j => ((Jk na a b nb) j).v11) (fun j => ((Jk na a b nb) j).v12) (fun j => ((Jk na a b nb) j).v13) → X.v0 = na + nb ∧ (fun j => (⟨X.v2 j, X.v3 j, X.v4 j, X.v5 j, X.v6 j, X.v7 j, X.v8 j, X.v9 j, X.v10 j, X.v11 j, X.v12 j, X.v13 j, X.v14 j, X.v15 j⟩ : Rw)) = Jk na a b nb := by
    rintro _ rfl; exact ⟨rfl, rfl⟩
  obtain ⟨g1, g2⟩ := g _ hr.2
  refine ⟨g1, g1, g2, ?_⟩
  show ((Nat.ble (na * 112) 140737488355328) && _) = true
  rw [ble_true (show na * 112 ≤ 140737488355328 by omega)]
  exact hr.1
theorem hasP {n m k : Nat} {l : Nat → Rw} (hn : n ≤ 60) (h : inv n m l) : s_law21_has_0 n (fun j => (l j).v0) (fun j => (l j).v1) (fun j => (l j).v2) (fun j => (l j).v3) (fun j => (l j).v4) (fun j => (l j).v5) (fun j => (l j).v6) (fun j => (l j).v7) (fun j => (l j).v8) (fun j => (l j).v9) (fun j => (l j).v10) (fun j => (l j).v11) (fun j => (l j).v12) (fun j => (l j).v13) (Int.ofNat k) = hasF n l k ∧ o_law21_has n (fun j => (l j).v0) (fun j => (l j).v1) (fun j => (l j).v2) (fun j => (l j).v3) (fun j => (l j).v4) (fun j => (l j).v5) (fun j => (l j).v6) (fun j => (l j).v7) (fun j => (l j).v8) (fun j => (l j).v9) (fun j => (l j).v10) (fun j => (l j).v11) (fun j => (l j).v12) (fun j => (l j).v13) (Int.ofNat k) = true := by
  obtain ⟨j, hj, h1, h2, h3⟩ := scan (ok := ok_law21_has_L0 n (fun j => (l j).v0) (fun j => (l j).v1) (Int.ofNat k)) (go := go_law21_has_L0 n (fun j => (l j).v0) (fun j => (l j).v1) (Int.ofNat k)) (step := step_law21_has_L0 n (fun j => (l j).v0) (fun j => (l j).v1) (Int.ofNat k)) V_law21_has_L0.mk (fun i => ieq (l i).v0 (Int.ofNat k) || ieq (l i).v1 (Int.ofNat k)) n
    (fun k hk => by
      unfold ok_law21_has_L0
      simp only [toNat_of, mrgB_eq, ilt_ofNat, ile_ofNat, Bool.true_and, Bool.and_self, Bool.cond_self]
      exact ok_dec _ hk) (fun k hk => by
      unfold go_law21_has_L0
      simp only [toNat_of, ilt_ofNat]
      exact not_dec _ _ _) (fun k hk => by
      unfold step_law21_has_L0
      simp only
      rw [succ_i64 (by omega)])
  have e : (L_law21_has_L0 n (fun j => (l j).v0) (fun j => (l j).v1) (Int.ofNat k) (V_law21_has_L0.mk (0 : Int))).v0 = Int.ofNat j := congrArg V_law21_has_L0.v0 h2
  constructor
  · unfold s_law21_has_0
    simp only [e, ilt_ofNat, toNat_of, bif_dec, Bool.and_true]
    rw [h3]
    apply decide_eq_decide.2
    constructor
    · rintro ⟨i, hi, h'⟩
      refine ⟨i, hi, ?_⟩
      simp only [Bool.or_eq_true, ieq, decide_eq_true_eq] at h'
      rcases h' with h' | h'
      · left; rw [h']; rfl
      · right; rw [h']; rfl
    · rintro ⟨i, hi, h'⟩
      refine ⟨i, hi, ?_⟩
      have hr := h i hi
      have a0 := hr.a0
      have b0 := hr.b0
      simp only [Bool.or_eq_true, ieq, decide_eq_true_eq, Int.ofNat_eq_natCast]
      omega
  · unfold o_law21_has
    simp only [mrgB_self]
    exact h1
theorem wrap_sh {na nb : Nat} {x : Int} (hna : na ≤ 60) (hnb : nb ≤ 60) (h0 : 0 ≤ x) (h1 : x < (nb : Int)) : IntKind.wrap .i64 (x + Int.ofNat na) = Int.ofNat (na + Int.toNat x) := by
  have : x + Int.ofNat na = Int.ofNat (na + Int.toNat x) := by simp; omega
  rw [this]; exact wrap_i64 (by simp; omega) (by simp; omega)
theorem lk_sh {na nb : Nat} {r : Rw} (hna : na ≤ 60) (hnb : nb ≤ 60) (h : r.v12 < (nb : Int)) : lk (fun i => na + i) nb (sh na r) r := by
  refine ⟨_, rfl, ?_⟩
  by_cases h0 : 0 ≤ r.v12
  · exact .inr ⟨h0, h, by rw [ile_true h0, cond_true, wrap_sh hna hnb h0 h]⟩
  · exact .inl ⟨by omega, by rw [ile_false (by omega), cond_false]⟩
theorem lk_id {n : Nat} {r : Rw} (h : r.v12 < (n : Int)) : lk (fun i => i) n r r := by
  refine ⟨r.v12, rfl, ?_⟩
  by_cases h0 : 0 ≤ r.v12
  · exact .inr ⟨h0, h, by simp; omega⟩
  · exact .inl ⟨by omega, rfl⟩
theorem id_lk {n : Nat} {r q : Rw} (h : lk (fun i => i) n r q) : r = q := by
  obtain ⟨x, e, hx⟩ := h
  have : x = q.v12 := by
    rcases hx with ⟨_, hx⟩ | ⟨h0, _, hx⟩
    · exact hx
    · rw [hx]; simp; omega
  rw [e, this]; rfl
theorem sh_lk {na nb : Nat} {r q : Rw} (hna : na ≤ 60) (hnb : nb ≤ 60) (h : lk (fun i => na + i) nb r q) : r = sh na q := by
  obtain ⟨x, e, hx⟩ := h
  rw [e]; unfold sh
  rcases hx with ⟨h0, hx⟩ | ⟨h0, h1, hx⟩
  · rw [ile_false h0, cond_false, hx]
  · rw [ile_true h0, cond_true, wrap_sh hna hnb h0 h1, hx]
theorem sh_in {na nb m : Nat} {r : Rw} (hna : na ≤ 60) (hnb : nb ≤ 60) (h : RIn nb m r) : RIn (na + nb) m (sh na r) := by
  refine ⟨h.a0, h.a1, h.b0, h.b1, ?_⟩
  show (bif ile 0 r.v12 then IntKind.wrap .i64 (r.v12 + Int.ofNat na) else r.v12) < _
  have := h.of
  by_cases h0 : 0 ≤ r.v12
  · rw [ile_true h0, cond_true, wrap_sh hna hnb h0 h.of]; simp; omega
  · rw [ile_false (by omega), cond_false]; omega
theorem sh_may {na nb : Nat} {r : Rw} (hna : na ≤ 60) (hnb : nb ≤ 60) (h : r.v12 < (nb : Int)) : may (sh na r) = may r := by
  obtain ⟨x, e, hx⟩ := lk_sh (na := na) (nb := nb) hna hnb h
  rw [e]; exact may_hang r x (lk_ile hx (-1) (by omega))
theorem cases_J (na nb : Nat) {P : Nat → Prop} (h1 : ∀ j, j < na → P j) (h2 : ∀ i, i < nb → P (na + i)) : ∀ j, j < na + nb → P j := fun j hj => by
  by_cases h : j < na
  · exact h1 j h
  · have := h2 (j - na) (by omega)
    rwa [show na + (j - na) = j by omega] at this
theorem ask_join {na nb m : Nat} {a b : Nat → Rw} {s : Nat → Sl} (hna : na ≤ 60) (hnb : nb ≤ 60) (ha : askN na m a s = 0) (hb : askN nb m b s = 0) : askN (na + nb) m (Jk na a b nb) s = 0 := by
  obtain ⟨_, hm, ia, ma, hs⟩ := ask_ok ha
  obtain ⟨_, _, ib, mb, _⟩ := ask_ok hb
  refine ask_zero (by omega) hm (cases_J na nb (fun j hj => ?_) (fun i hi => ?_)) (cases_J na nb (fun j hj => ?_) (fun i hi => ?_)) hs
  · rw [Jk_lt hj]; have := ia j hj; exact ⟨this.a0, this.a1, this.b0, this.b1, by have := this.of; omega⟩
  · rw [Jk_ge nb hi]; exact sh_in hna hnb (ib i hi)
  · rw [Jk_lt hj]; exact ma j hj
  · rw [Jk_ge nb hi, sh_may hna hnb (ib i hi).of]; exact mb i hi
theorem hasF_a {n : Nat} {l : Nat → Rw} {i : Nat} (h : i < n) : hasF n l (Int.toNat (l i).v0) = true := decide_eq_true ⟨i, h, .inl rfl⟩
theorem hasF_b {n : Nat} {l : Nat → Rw} {i : Nat} (h : i < n) : hasF n l (Int.toNat (l i).v1) = true := decide_eq_true ⟨i, h, .inr rfl⟩
theorem apart_core {na nb m R : Nat} {a b : Nat → Rw} {s : Nat → Sl} (hna : na ≤ 60) (hnb : nb ≤ 60) (ha : askN na m a s = 0) (hb : askN nb m b s = 0) (hsep : both na a nb b m s = false) :
    (∀ j, j < na + nb → (outP (na + nb) (Jk na a b nb) s R).1 j = Jk na (outP na a s R).1 (outP nb b s R).1 nb j) ∧
    (∀ k, k < m → (outP (na + nb) (Jk na a b nb) s R).2 k = bif mv (s k) && hasF na a k then (outP na a s R).2 k else bif mv (s k) && hasF nb b k then (outP nb b s R).2 k else s k) := by
  obtain ⟨_, hm, ia, ma, hs⟩ := ask_ok ha
  obtain ⟨_, _, ib, mb, _⟩ := ask_ok hb
  have sep : ∀ x, x < m → hasF na a x = true → hasF nb b x = true → mv (s x) = false := fun x hx h1 h2 => by
    cases e : mv (s x) with
    | false => rfl
    | true =>
      refine absurd ⟨x, hx, ?_⟩ (of_decide_eq_false hsep)
      rw [heldF_eq, heldF_eq, h1, h2, e]; rfl
  have HA : Sub (na + nb) na (fun i => i) s (fun x => hasF na a x = true) (Jk na a b nb, s) (a, s) := by
    refine ⟨fun i hi => ?_, fun x hx => rfl, fun x hx => ⟨rfl, rfl⟩, fun x => ⟨rfl, rfl⟩, fun i hi => ⟨hasF_a hi, hasF_b hi⟩, cases_J na nb (fun j hj hne => absurd rfl (hne j hj)) (fun i hi hne => ?_)⟩
    · show lk _ na (Jk na a b nb i) (a i)
      rw [Jk_lt hi]; exact lk_id (ia i hi).of
    · show (hasF na a (Int.toNat (Jk na a b nb (na + i)).v0) = true → mv (s (Int.toNat (Jk na a b nb (na + i)).v0)) = false) ∧ (hasF na a (Int.toNat (Jk na a b nb (na + i)).v1) = true → mv (s (Int.toNat (Jk na a b nb (na + i)).v1)) = false)
      rw [Jk_ge nb hi]
      have hr := ib i hi
      exact ⟨fun h => sep _ (toNat_lt hr.a0 hr.a1) h (hasF_a hi), fun h => sep _ (toNat_lt hr.b0 hr.b1) h (hasF_b hi)⟩
  have HB : Sub (na + nb) nb (fun i => na + i) s (fun x => hasF nb b x = true) (Jk na a b nb, s) (b, s) := by
    refine ⟨fun i hi => ?_, fun x hx => rfl, fun x hx => ⟨rfl, rfl⟩, fun x => ⟨rfl, rfl⟩, fun i hi => ⟨hasF_a hi, hasF_b hi⟩, cases_J na nb (fun j hj hne => ?_) (fun i hi hne => absurd rfl (hne i hi))⟩
    · show lk _ nb (Jk na a b nb (na + i)) (b i)
      rw [Jk_ge nb hi]; exact lk_sh hna hnb (ib i hi).of
    · show (hasF nb b (Int.toNat (Jk na a b nb j).v0) = true → mv (s (Int.toNat (Jk na a b nb j).v0)) = false) ∧ (hasF nb b (Int.toNat (Jk na a b nb j).v1) = true → mv (s (Int.toNat (Jk na a b nb j).v1)) = false)
      rw [Jk_lt hj]
      have hr := ia j hj
      exact ⟨fun h => sep _ (toNat_lt hr.a0 hr.a1) (hasF_a hj) h, fun h => sep _ (toNat_lt hr.b0 hr.b1) (hasF_b hj) h⟩
  have SA := sub_out (R := R) (fun i j h _ => h) (fun i hi => by omega) HA
  have SB := sub_out (R := R) (fun i j h _ => by omega) (fun i hi => by omega) HB
  constructor
  · refine cases_J na nb (fun j hj => ?_) (fun i hi => ?_)
    · rw [Jk_lt hj]; exact id_lk (SA.row j hj)
    · rw [Jk_ge nb hi]; exact sh_lk hna hnb (SB.row i hi)
  · intro k hk
    cases hmv : mv (s k) with
    | false => rw [Bool.false_and, Bool.false_and, cond_false, cond_false]; exact (SA.un k hmv).1
    | true =>
      cases h1 : hasF na a k with
      | true => exact SA.st k h1
      | false =>
        cases h2 : hasF nb b k with
        | true => exact SB.st k h2
        | false =>
          refine none_out (n := na + nb) (l := Jk na a b nb) (s0 := s) (x := k) (cases_J na nb (fun j hj => ?_) (fun i hi => ?_))
          · rw [Jk_lt hj]
            exact ⟨fun e => (of_decide_eq_false h1) ⟨j, hj, .inl e.symm⟩, fun e => (of_decide_eq_false h1) ⟨j, hj, .inr e.symm⟩⟩
          · rw [Jk_ge nb hi]
            exact ⟨fun e => (of_decide_eq_false h2) ⟨i, hi, .inl e.symm⟩, fun e => (of_decide_eq_false h2) ⟨i, hi, .inr e.symm⟩⟩
end Go.Proofs.Ytofpjfohijljgaa
