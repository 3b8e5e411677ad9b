/- Solved apart: the law of the values. -/
import Derived.Test.YtofpjfohijljgaaLawAprJ
set_option linter.unusedVariables false
set_option linter.unusedSimpArgs false
set_option linter.unusedSectionVars false
set_option maxHeartbeats 4000000
set_option maxRecDepth 4000
namespace Go.Proofs.Ytofpjfohijljgaa
open Go.Sim Go.Lst
noncomputable section
def al0 (n : Nat) (l : Nat → Rw) (m : Nat) (s : Nat → Sl) (z : Int) : Nat := s_solve_All_0 n (fun j => (l j).v0) (fun j => (l j).v1) (fun j => (l j).v2) (fun j => (l j).v3) (fun j => (l j).v4) (fun j => (l j).v5) (fun j => (l j).v6) (fun j => (l j).v7) (fun j => (l j).v8) (fun j => (l j).v9) (fun j => (l j).v10) (fun j => (l j).v11) (fun j => (l j).v12) (fun j => (l j).v13) m (fun j => (s j).v0) (fun j => (s j).v1) (fun j => (s j).v2) (fun j => (s j).v3) (fun j => (s j).v4) z
def al2 (n : Nat) (l : Nat → Rw) (m : Nat) (s : Nat → Sl) (z : Int) : Nat := s_solve_All_2 n (fun j => (l j).v0) (fun j => (l j).v1) (fun j => (l j).v2) (fun j => (l j).v3) (fun j => (l j).v4) (fun j => (l j).v5) (fun j => (l j).v6) (fun j => (l j).v7) (fun j => (l j).v8) (fun j => (l j).v9) (fun j => (l j).v10) (fun j => (l j).v11) (fun j => (l j).v12) (fun j => (l j).v13) m (fun j => (s j).v0) (fun j => (s j).v1) (fun j => (s j).v2) (fun j => (s j).v3) (fun j => (s j).v4) z
def al4 (n : Nat) (l : Nat → Rw) (m : Nat) (s : Nat → Sl) (z : Int) : Int := s_solve_All_4 n (fun j => (l j).v0) (fun j => (l j).v1) (fun j => (l j).v2) (fun j => (l j).v3) (fun j => (l j).v4) (fun j => (l j).v5) (fun j => (l j).v6) (fun j => (l j).v7) (fun j => (l j).v8) (fun j => (l j).v9) (fun j => (l j).v10) (fun j => (l j).v11) (fun j => (l j).v12) (fun j => (l j).v13) m (fun j => (s j).v0) (fun j => (s j).v1) (fun j => (s j).v2) (fun j => (s j).v3) (fun j => (s j).v4) z
def al5 (n : Nat) (l : Nat → Rw) (m : Nat) (s : Nat → Sl) (z : Int) : Nat := s_solve_All_5 n (fun j => (l j).v0) (fun j => (l j).v1) (fun j => (l j).v2) (fun j => (l j).v3) (fun j => (l j).v4) (fun j => (l j).v5) (fun j => (l j).v6) (fun j => (l j).v7) (fun j => (l j).v8) (fun j => (l j).v9) (fun j => (l j).v10) (fun j => (l j).v11) (fun j => (l j).v12) (fun j => (l j).v13) m (fun j => (s j).v0) (fun j => (s j).v1) (fun j => (s j).v2) (fun j => (s j).v3) (fun j => (s j).v4) z
def al20 (n : Nat) (l : Nat → Rw) (m : Nat) (s : Nat → Sl) (z : Int) : Nat := s_solve_All_20 n (fun j => (l j).v0) (fun j => (l j).v1) (fun j => (l j).v2) (fun j => (l j).v3) (fun j => (l j).v4) (fun j => (l j).v5) (fun j => (l j).v6) (fun j => (l j).v7) (fun j => (l j).v8) (fun j => (l j).v9) (fun j => (l j).v10) (fun j => (l j).v11) (fun j => (l j).v12) (fun j => (l j).v13) m (fun j => (s j).v0) (fun j => (s j).v1) (fun j => (s j).v2) (fun j => (s j).v3) (fun j => (s j).v4) z
def alO (n : Nat) (l : Nat → Rw) (m : Nat) (s : Nat → Sl) (z : Int) : Bool := o_solve_All n (fun j => (l j).v0) (fun j => (l j).v1) (fun j => (l j).v2) (fun j => (l j).v3) (fun j => (l j).v4) (fun j => (l j).v5) (fun j => (l j).v6) (fun j => (l j).v7) (fun j => (l j).v8) (fun j => (l j).v9) (fun j => (l j).v10) (fun j => (l j).v11) (fun j => (l j).v12) (fun j => (l j).v13) m (fun j => (s j).v0) (fun j => (s j).v1) (fun j => (s j).v2) (fun j => (s j).v3) (fun j => (s j).v4) z
def smR (n : Nat) (l : Nat → Rw) (n' : Nat) (l' : Nat → Rw) : Bool := s_ref21_SameRows_0 n (fun j => (l j).v0) (fun j => (l j).v1) (fun j => (l j).v2) (fun j => (l j).v3) (fun j => (l j).v4) (fun j => (l j).v5) (fun j => (l j).v6) (fun j => (l j).v7) (fun j => (l j).v8) (fun j => (l j).v9) (fun j => (l j).v10) (fun j => (l j).v11) (fun j => (l j).v12) (fun j => (l j).v13) n' (fun j => (l' j).v0) (fun j => (l' j).v1) (fun j => (l' j).v2) (fun j => (l' j).v3) (fun j => (l' j).v4) (fun j => (l' j).v5) (fun j => (l' j).v6) (fun j => (l' j).v7) (fun j => (l' j).v8) (fun j => (l' j).v9) (fun j => (l' j).v10) (fun j => (l' j).v11) (fun j => (l' j).v12) (fun j => (l' j).v13)
def smO (n : Nat) (l : Nat → Rw) (n' : Nat) (l' : Nat → Rw) : Bool := o_ref21_SameRows n (fun j => (l j).v0) (fun j => (l j).v1) (fun j => (l j).v2) (fun j => (l j).v3) (fun j => (l j).v4) (fun j => (l j).v5) (fun j => (l j).v6) (fun j => (l j).v7) (fun j => (l j).v8) (fun j => (l j).v9) (fun j => (l j).v10) (fun j => (l j).v11) (fun j => (l j).v12) (fun j => (l j).v13) n' (fun j => (l' j).v0) (fun j => (l' j).v1) (fun j => (l' j).v2) (fun j => (l' j).v3) (fun j => (l' j).v4) (fun j => (l' j).v5) (fun j => (l' j).v6) (fun j => (l' j).v7) (fun j => (l' j).v8) (fun j => (l' j).v9) (fun j => (l' j).v10) (fun j => (l' j).v11) (fun j => (l' j).v12) (fun j => (l' j).v13)
def lpE (na : Nat) (a : Nat → Rw) (nb : Nat) (b : Nat → Rw) (m : Nat) (s : Nat → Sl) (n1 n2 n3 c1 : Nat) (S : Nat → Sl) (c2 : Nat) (T : Nat → Sl) (c3 : Nat) (U : Nat → Sl) : Bool := E_law21_SolveApart_L0 na (fun j => (a j).v0) (fun j => (a j).v1) (fun j => (a j).v2) (fun j => (a j).v3) (fun j => (a j).v4) (fun j => (a j).v5) (fun j => (a j).v6) (fun j => (a j).v7) (fun j => (a j).v8) (fun j => (a j).v9) (fun j => (a j).v10) (fun j => (a j).v11) (fun j => (a j).v12) (fun j => (a j).v13) nb (fun j => (b j).v0) (fun j => (b j).v1) (fun j => (b j).v2) (fun j => (b j).v3) (fun j => (b j).v4) (fun j => (b j).v5) (fun j => (b j).v6) (fun j => (b j).v7) (fun j => (b j).v8) (fun j => (b j).v9) (fun j => (b j).v10) (fun j => (b j).v11) (fun j => (b j).v12) (fun j => (b j).v13) m (fun j => (s j).v0) (fun j => (s j).v1) (fun j => (s j).v2) (fun j => (s j).v3) (fun j => (s j).v4) n1 n2 n3 c1 (fun j => (S j).v0) (fun j => (S j).v1) (fun j => (S j).v2) (fun j => (S j).v3) (fun j => (S j).v4) c2 (fun j => (T j).v0) (fun j => (T j).v1) (fun j => (T j).v2) (fun j => (T j).v3) (fun j => (T j).v4) c3 (fun j => (U j).v0) (fun j => (U j).v1) (fun j => (U j).v2) (fun j => (U j).v3) (fun j => (U j).v4) (V_law21_SolveApart_L0.mk 0)
def lpV (na : Nat) (a : Nat → Rw) (nb : Nat) (b : Nat → Rw) (m : Nat) (s : Nat → Sl) (n1 n2 n3 c1 : Nat) (S : Nat → Sl) (c2 : Nat) (T : Nat → Sl) (c3 : Nat) (U : Nat → Sl) : Int := (L_law21_SolveApart_L0 na (fun j => (a j).v0) (fun j => (a j).v1) (fun j => (a j).v2) (fun j => (a j).v3) (fun j => (a j).v4) (fun j => (a j).v5) (fun j => (a j).v6) (fun j => (a j).v7) (fun j => (a j).v8) (fun j => (a j).v9) (fun j => (a j).v10) (fun j => (a j).v11) (fun j => (a j).v12) (fun j => (a j).v13) nb (fun j => (b j).v0) (fun j => (b j).v1) (fun j => (b j).v2) (fun j => (b j).v3) (fun j => (b j).v4) (fun j => (b j).v5) (fun j => (b j).v6) (fun j => (b j).v7) (fun j => (b j).v8) (fun j => (b j).v9) (fun j => (b j).v10) (fun j => (b j).v11) (fun j => (b j).v12) (fun j => (b j).v13) m (fun j => (s j).v0) (fun j => (s j).v1) (fun j => (s j).v2) (fun j => (s j).v3) (fun j => (s j).v4) n1 n2 n3 c1 (fun j => (S j).v0) (fun j => (S j).v1) (fun j => (S j).v2) (fun j => (S j).v3) (fun j => (S j).v4) c2 (fun j => (T j).v0) (fun j => (T j).v1) (fun j => (T j).v2) (fun j => (T j).v3) (fun j => (T j).v4) c3 (fun j => (U j).v0) (fun j => (U j).v1) (fun j => (U j).v2) (fun j => (U j).v3) (fun j => (U j).v4) (V_law21_SolveApart_L0.mk 0)).v0
end
theorem key_same (p q : Bool) {S T U s : Sl} (h : S = bif p then T else bif q then U else s) : s_ref21_SameStill_0 S.v0 S.v1 S.v2 S.v3 S.v4 (bif p then T.v0 else (bif q then U.v0 else s.v0)) (bif p then T.v1 else (bif q then U.v1 else s.v1)) (bif p then T.v2 else (bif q then U.v2 else s.v2)) (bif p then T.v3 else (bif q then U.v3 else s.v3)) (bif p then T.v4 else (bif q then U.v4 else s.v4)) = true := by
  rw [h]; cases p <;> cases q <;> exact still_same _
theorem loopP {na nb m c1 c2 c3 : Nat} {a b : Nat → Rw} {s S T U : Nat → Sl} (hna : na ≤ 60) (hnb : nb ≤ 60) (hm : m ≤ 60) (ia : inv na m a) (ib : inv nb m b) (h1 : m ≤ c1) (h2 : m ≤ c2) (h3 : m ≤ c3)
    (hS : ∀ k, k < m → S k = bif mv (s k) && hasF na a k then T k else bif mv (s k) && hasF nb b k then U k else s k) :
    lpE na a nb b m s m m m c1 S c2 T c3 U = true ∧ lpV na a nb b m s m m m c1 S c2 T c3 U = Int.ofNat m := by
  have hr := run_to (ok := ok_law21_SolveApart_L0 na (fun j => (a j).v0) (fun j => (a j).v1) (fun j => (a j).v2) (fun j => (a j).v3) (fun j => (a j).v4) (fun j => (a j).v5) (fun j => (a j).v6) (fun j => (a j).v7) (fun j => (a j).v8) (fun j => (a j).v9) (fun j => (a j).v10) (fun j => (a j).v11) (fun j => (a j).v12) (fun j => (a j).v13) nb (fun j => (b j).v0) (fun j => (b j).v1) (fun j => (b j).v2) (fun j => (b j).v3) (fun j => (b j).v4) (fun j => (b j).v5) (fun j => (b j).v6) (fun j => (b j).v7) (fun j => (b j).v8) (fun j => (b j).v9) (fun j => (b j).v10) (fun j => (b j).v11) (fun j => (b j).v12) (fun j => (b j).v13) m (fun j => (s j).v0) (fun j => (s j).v1) (fun j => (s j).v2) (fun j => (s j).v3) (fun j => (s j).v4) m m m c1 (fun j => (S j).v0) (fun j => (S j).v1) (fun j => (S j).v2) (fun j => (S j).v3) (fun j => (S j).v4) c2 (fun j => (T j).v0) (fun j => (T j).v1) (fun j => (T j).v2) (fun j => (T j).v3) (fun j => (T j).v4) c3 (fun j => (U j).v0) (fun j => (U j).v1) (fun j => (U j).v2) (fun j => (U j).v3) (fun j => (U j).v4)) (go := go_law21_SolveApart_L0 na (fun j => (a j).v0) (fun j => (a j).v1) (fun j => (a j).v2) (fun j => (a j).v3) (fun j => (a j).v4) (fun j => (a j).v5) (fun j => (a j).v6) (fun j => (a j).v7) (fun j => (a j).v8) (fun j => (a j).v9) (fun j => (a j).v10) (fun j => (a j).v11) (fun j => (a j).v12) (fun j => (a j).v13) nb (fun j => (b j).v0) (fun j => (b j).v1) (fun j => (b j).v2) (fun j => (b j).v3) (fun j => (b j).v4) (fun j => (b j).v5) (fun j => (b j).v6) (fun j => (b j).v7) (fun j => (b j).v8) (fun j => (b j).v9) (fun j => (b j).v10) (fun j => (b j).v11) (fun j => (b j).v12) (fun j => (b j).v13) m (fun j => (s j).v0) (fun j => (s j).v1) (fun j => (s j).v2) (fun j => (s j).v3) (fun j => (s j).v4) m m m c1 (fun j => (S j).v0) (fun j => (S j).v1) (fun j => (S j).v2) (fun j => (S j).v3) (fun j => (S j).v4) c2 (fun j => (T j).v0) (fun j => (T j).v1) (fun j => (T j).v2) (fun j => (T j).v3) (fun j => (T j).v4) c3 (fun j => (U j).v0) (fun j => (U j).v1) (fun j => (U j).v2) (fun j => (U j).v3) (fun j => (U j).v4)) (step := step_law21_SolveApart_L0 na (fun j => (a j).v0) (fun j => (a j).v1) (fun j => (a j).v2) (fun j => (a j).v3) (fun j => (a j).v4) (fun j => (a j).v5) (fun j => (a j).v6) (fun j => (a j).v7) (fun j => (a j).v8) (fun j => (a j).v9) (fun j => (a j).v10) (fun j => (a j).v11) (fun j => (a j).v12) (fun j => (a j).v13) nb (fun j => (b j).v0) (fun j => (b j).v1) (fun j => (b j).v2) (fun j => (b j).v3) (fun j => (b j).v4) (fun j => (b j).v5) (fun j => (b j).v6) (fun j => (b j).v7) (fun j => (b j).v8) (fun j => (b j).v9) (fun j => (b j).v10) (fun j => (b j).v11) (fun j => (b j).v12) (fun j => (b j).v13) m (fun j => (s j).v0) (fun j => (s j).v1) (fun j => (s j).v2) (fun j => (s j).v3) (fun j => (s j).v4) m m m c1 (fun j => (S j).v0) (fun j => (S j).v1) (fun j => (S j).v2) (fun j => (S j).v3) (fun j => (S j).v4) c2 (fun j => (T j).v0) (fun j => (T j).v1) (fun j => (T j).v2) (fun j => (T j).v3) (fun j => (T j).v4) c3 (fun j => (U j).v0) (fun j => (U j).v1) (fun j => (U j).v2) (fun j => (U j).v3) (fun j => (U j).v4))
    (fun k => V_law21_SolveApart_L0.mk (Int.ofNat k)) m
    (fun k hk => by
      unfold ok_law21_SolveApart_L0
      simp only [toNat_of, mrgB_eq, ilt_ofNat, ile_ofNat, Bool.true_and, allB_true, (hasP (k := k) hna ia).2, (hasP (k := k) hnb ib).2]
      by_cases h : k < m
      · simp only [decide_eq_true h, blt_true h, blt_true (show k < c1 by omega), blt_true (show k < c2 by omega), blt_true (show k < c3 by omega), Bool.not_true, cond_false, Bool.cond_self, Bool.and_self, Bool.true_and]
      · simp only [decide_eq_false h, Bool.not_false, cond_true, cond_false])
    (fun k hk => by
      have hh := hS k hk
      rw [← (hasP (k := k) hna ia).1, ← (hasP (k := k) hnb ib).1] at hh
      have hs := key_same _ _ hh
      unfold go_law21_SolveApart_L0
      show (bif (bif (!(ilt (Int.ofNat k) (Int.ofNat m))) then false else (!(s_ref21_SameStill_0 (S k).v0 (S k).v1 (S k).v2 (S k).v3 (S k).v4 (bif mv (s k) && s_law21_has_0 na (fun j => (a j).v0) (fun j => (a j).v1) (fun j => (a j).v2) (fun j => (a j).v3) (fun j => (a j).v4) (fun j => (a j).v5) (fun j => (a j).v6) (fun j => (a j).v7) (fun j => (a j).v8) (fun j => (a j).v9) (fun j => (a j).v10) (fun j => (a j).v11) (fun j => (a j).v12) (fun j => (a j).v13) (Int.ofNat k) then (T k).v0 else (bif mv (s k) && s_law21_has_0 nb (fun j => (b j).v0) (fun j => (b j).v1) (fun j => (b j).v2) (fun j => (b j).v3) (fun j => (b j).v4) (fun j => (b j).v5) (fun j => (b j).v6) (fun j => (b j).v7) (fun j => (b j).v8) (fun j => (b j).v9) (fun j => (b j).v10) (fun j => (b j).v11) (fun j => (b j).v12) (fun j => (b j).v13) (Int.ofNat k) then (U k).v0 else (s k).v0)) (bif mv (s k) && s_law21_has_0 na (fun j => (a j).v0) (fun j => (a j).v1) (fun j => (a j).v2) (fun j => (a j).v3) (fun j => (a j).v4) (fun j => (a j).v5) (fun j => (a j).v6) (fun j => (a j).v7) (fun j => (a j).v8) (fun j => (a j).v9) (fun j => (a j).v10) (fun j => (a j).v11) (fun j => (a j).v12) (fun j => (a j).v13) (Int.ofNat k) then (T k).v1 else (bif mv (s k) && s_law21_has_0 nb (fun j => (b j).v0) (fun j => (b j).v1) (fun j => (b j).v2) (fun j => (b j).v3) (fun j => (b j).v4) (fun j => (b j).v5) (fun j => (b j).v6) (fun j => (b j).v7) (fun j => (b j).v8) (fun j => (b j).v9) (fun j => (b j).v10) (fun j => (b j).v11) (fun j => (b j).v12) (fun j => (b j).v13) (Int.ofNat k) then (U k).v1 else (s k).v1)) (bif mv (s k) && s_law21_has_0 na (fun j => (a j).v0) (fun j => (a j).v1) (fun j => (a j).v2) (fun j => (a j).v3) (fun j => (a j).v4) (fun j => (a j).v5) (fun j => (a j).v6) (fun j => (a j).v7) (fun j => (a j).v8) (fun j => (a j).v9) (fun j => (a j).v10) (fun j => (a j).v11) (fun j => (a j).v12) (fun j => (a j).v13) (Int.ofNat k) then (T k).v2 else (bif mv (s k) && s_law21_has_0 nb (fun j => (b j).v0) (fun j => (b j).v1) (fun j => (b j).v2) (fun j => (b j).v3) (fun j => (b j).v4) (fun j => (b j).v5) (fun j => (b j).v6) (fun j => (b j).v7) (fun j => (b j).v8) (fun j => (b j).v9) (fun j => (b j).v10) (fun j => (b j).v11) (fun j => (b j).v12) (fun j => (b j).v13) (Int.ofNat k) then (U k).v2 else (s k).v2)) (bif mv (s k) && s_law21_has_0 na (fun j => (a j).v0) (fun j => (a j).v1) (fun j => (a j).v2) (fun j => (a j).v3) (fun j => (a j).v4) (fun j => (a j).v5) (fun j => (a j).v6) (fun j => (a j).v7) (fun j => (a j).v8) (fun j => (a j).v9) (fun j => (a j).v10) (fun j => (a j).v11) (fun j => (a j).v12) (fun j => (a j).v13) (Int.ofNat k) then (T k).v3 else (bif mv (s k) && s_law21_has_0 nb (fun j => (b j).v0) (fun j => (b j).v1) (fun j => (b j).v2) (fun j => (b j).v3) (fun j => (b j).v4) (fun j => (b j).v5) (fun j => (b j).v6) (fun j => (b j).v7) (fun j => (b j).v8) (fun j => (b j).v9) (fun j => (b j).v10) (fun j => (b j).v11) (fun j => (b j).v12) (fun j => (b j).v13) (Int.ofNat k) then (U k).v3 else (s k).v3)) (bif mv (s k) && s_law21_has_0 na (fun j => (a j).v0) (fun j => (a j).v1) (fun j => (a j).v2) (fun j => (a j).v3) (fun j => (a j).v4) (fun j => (a j).v5) (fun j => (a j).v6) (fun j => (a j).v7) (fun j => (a j).v8) (fun j => (a j).v9) (fun j => (a j).v10) (fun j => (a j).v11) (fun j => (a j).v12) (fun j => (a j).v13) (Int.ofNat k) then (T k).v4 else (bif mv (s k) && s_law21_has_0 nb (fun j => (b j).v0) (fun j => (b j).v1) (fun j => (b j).v2) (fun j => (b j).v3) (fun j => (b j).v4) (fun j => (b j).v5) (fun j => (b j).v6) (fun j => (b j).v7) (fun j => (b j).v8) (fun j => (b j).v9) (fun j => (b j).v10) (fun j => (b j).v11) (fun j => (b j).v12) (fun j => (b j).v13) (Int.ofNat k) then (U k).v4 else (s k).v4))))) then false else (bif (!(ilt (Int.ofNat k) (Int.ofNat m))) then false else true)) = true
      rw [hs, ilt_ofNat, decide_eq_true hk]; rfl)
    (fun k hk => by unfold step_law21_SolveApart_L0; simp only; rw [succ_i64 (by omega)])
    (by
      unfold go_law21_SolveApart_L0
      simp only [ilt_ofNat]
      simp)
  exact ⟨hr.1, congrArg V_law21_SolveApart_L0.v0 hr.2⟩
theorem shape {aw lg c1 c2 c3 x y c4 sr : Bool} (h1 : aw = true) (h2 : lg = false → c1 = false) (h3 : lg = false → (!(x && y)) = true) (h4 : lg = false → c2 = false → c3 = false ∧ (x = true → c4 = false ∧ sr = true)) :
    (bif (!aw) then false else (bif lg then aw else (bif c1 then false else (bif c2 then (aw && (!(x && y))) else (bif c3 then false else (bif (!x) then aw else (bif c4 then false else (aw && sr)))))))) = true := by
  subst h1
  cases lg
  · rw [h2 rfl]
    cases c2
    · obtain ⟨h5, h6⟩ := h4 rfl rfl
      rw [h5]
      cases x
      · rfl
      · rw [(h6 rfl).1, (h6 rfl).2]; rfl
    · rw [h3 rfl]; rfl
  · rfl
theorem shapeO {aw lg c1 c2 c3 x c4 o1 o2 o3 o4 big : Bool} (h1 : aw = true) (h2 : lg = false → o1 = true) (h3 : lg = false → o2 = true) (h4 : lg = false → c2 = false → o3 = true ∧ c3 = false ∧ (x = true → o4 = true ∧ c4 = false ∧ big = true)) :
    (mrgB (!aw) true (mrgB lg true (mrgB c1 o1 (mrgB c2 (mrgB aw (mrgB x o2 o2) o2) (mrgB c3 o3 (mrgB (!x) o3 (mrgB c4 o4 (mrgB aw big o4)))))))) = true := by
  subst h1
  simp only [mrgB_eq]
  cases lg
  · rw [h2 rfl, h3 rfl]
    cases c2
    · obtain ⟨h5, h6, h7⟩ := h4 rfl rfl
      rw [h5, h6]
      cases x
      · cases c1 <;> rfl
      · rw [(h7 rfl).1, (h7 rfl).2.1, (h7 rfl).2.2]; cases c1 <;> rfl
    · cases c1 <;> cases x <;> rfl
  · rfl
theorem ap_ok {n n' m : Nat} {l l' : Nat → Rw} {s : Nat → Sl} (hn : n ≤ 60) (hn' : n' ≤ 60) (hm : m ≤ 60) :
    ieq (apE n l n' l' m s) 0 = (ieq (askN n m l s) 0 && ieq (askN n' m l' s) 0) ∧ apI n l n' l' m s = ((ieq (askN n m l s) 0 && ieq (askN n' m l' s) 0) && !(both n l n' l' m s)) := by
  obtain ⟨h1, h2, _⟩ := apartP (l := l) (l' := l') (s := s) (show n < 9223372036854775807 by omega) (show n' < 9223372036854775807 by omega) (show m < 9223372036854775807 by omega)
  rw [h1, h2]
  by_cases e1 : askN n m l s = 0
  · by_cases e2 : askN n' m l' s = 0
    · rw [e1, e2, ieq_self]; exact ⟨ieq_self 0, rfl⟩
    · rw [e1, ieq0 e2, ieq_self]; exact ⟨ieq0 e2, rfl⟩
  · rw [ieq0 e1]; exact ⟨ieq0 e1, rfl⟩
structure TellQ (n : Nat) (l : Nat → Rw) (m : Nat) (s : Nat → Sl) (z : Int) (x : Nat → Rw) (y : Nat → Sl) : Prop where
  err : al4 n l m s z = 0
  nr : al0 n l m s z = n
  ns : al2 n l m s z = m
  nr5 : n ≤ al5 n l m s z
  ns20 : m ≤ al20 n l m s z
  rows : rlP n l m s z = x
  stills : slP n l m s z = y
  ob : alO n l m s z = true
theorem tellQ {n m : Nat} {l : Nat → Rw} {s : Nat → Sl} {z : Int} {x : Nat → Rw} {y : Nat → Sl} (h : TellP n l m s z 0 n m x y) : TellQ n l m s z x y := ⟨h.err, h.nr, h.ns, h.nr5, h.ns20, h.rows, h.stills, h.ob⟩
/-- what the parts say where both lists may be -/
theorem parts {na nb m : Nat} {a b : Nat → Rw} {s : Nat → Sl} {z : Int} (hna : na ≤ 60) (hnb : nb ≤ 60) (hm : m ≤ 60) (ea : askN na m a s = 0) (eb : askN nb m b s = 0) (z0 : 0 ≤ z) (z1 : z ≤ 64) :
    TellQ na a m s z (outP na a s (Int.toNat z)).1 (outP na a s (Int.toNat z)).2 ∧ TellQ nb b m s z (outP nb b s (Int.toNat z)).1 (outP nb b s (Int.toNat z)).2 ∧
    TellQ (na + nb) (joinL na a nb b) m s z (outP (na + nb) (Jk na a b nb) s (Int.toNat z)).1 (outP (na + nb) (Jk na a b nb) s (Int.toNat z)).2 := by
  refine ⟨tellQ (tellP ea z0 z1), tellQ (tellP eb z0 z1), ?_⟩
  obtain ⟨_, _, j3, _⟩ := joinP (a := a) (b := b) hna hnb
  rw [j3]
  exact tellQ (tellP (ask_join hna hnb ea eb) z0 z1)
theorem small {na nb m : Nat} (h : (((ilt (60 : Int) (Int.ofNat na)) || (ilt (60 : Int) (Int.ofNat nb))) || (ilt (60 : Int) (Int.ofNat m))) = false) : na ≤ 60 ∧ nb ≤ 60 ∧ m ≤ 60 := by
  unfold ilt at h; simp at h; omega
theorem law' (na : Nat) (a : Nat → Rw) (nb : Nat) (b : Nat → Rw) (m : Nat) (s : Nat → Sl) (z : Int) : T_law21_SolveApart na (fun j => (a j).v0) (fun j => (a j).v1) (fun j => (a j).v2) (fun j => (a j).v3) (fun j => (a j).v4) (fun j => (a j).v5) (fun j => (a j).v6) (fun j => (a j).v7) (fun j => (a j).v8) (fun j => (a j).v9) (fun j => (a j).v10) (fun j => (a j).v11) (fun j => (a j).v12) (fun j => (a j).v13) nb (fun j => (b j).v0) (fun j => (b j).v1) (fun j => (b j).v2) (fun j => (b j).v3) (fun j => (b j).v4) (fun j => (b j).v5) (fun j => (b j).v6) (fun j => (b j).v7) (fun j => (b j).v8) (fun j => (b j).v9) (fun j => (b j).v10) (fun j => (b j).v11) (fun j => (b j).v12) (fun j => (b j).v13) m (fun j => (s j).v0) (fun j => (s j).v1) (fun j => (s j).v2) (fun j => (s j).v3) (fun j => (s j).v4) z = true := by
  unfold T_law21_SolveApart
  extract_lets x0 x1 x2 x3 x4 x5 x6 x7 x8 x9 x10 x11 x12 x13 x14 x15 x16 x17 x18 x19 x20 x21 x22 x23 x24 x25 x26 x27 x28 x29 x30 x31 x32 x33 x34 x35 x36 x37 x38 x39 x40 x41 x42 x43 x44 x45 x46 x47 x48 x49 x50 x51 x52 x53 x54 x55 x56 x57 x58 x59 x60 x61 x62 x63 x64 x65 x66 x67 x68 x69 x70 x71 x72 x73 x74 x75
  refine shape rfl (fun hl => ?_) (fun hl => ?_) (fun hl hc => ?_)
  · show ((!((ieq (apE na a nb b m s) 0) == (ieq (apE nb b na a m s) 0))) || (!((apI na a nb b m s) == (apI nb b na a m s)))) = false
    obtain ⟨hna, hnb, hm⟩ := small hl
    have hA := ap_ok (l := a) (l' := b) (s := s) hna hnb hm
    have hB := ap_ok (l := b) (l' := a) (s := s) hnb hna hm
    rw [hA.1, hB.1, hA.2, hB.2, both_comm nb b na a, Bool.and_comm (ieq (askN nb m b s) 0)]
    simp
  · show (!((apI na a nb b m s) && (!(ieq (apE na a nb b m s) 0)))) = true
    obtain ⟨hna, hnb, hm⟩ := small hl
    have hA := ap_ok (l := a) (l' := b) (s := s) hna hnb hm
    have hB := ap_ok (l := b) (l' := a) (s := s) hnb hna hm
    rw [hA.1, hA.2]
    cases (ieq (askN na m a s) 0 && ieq (askN nb m b s) 0) <;> simp
  · -- both may be
    obtain ⟨hna, hnb, hm⟩ := small hl
    have hA := ap_ok (l := a) (l' := b) (s := s) hna hnb hm
    have hB := ap_ok (l := b) (l' := a) (s := s) hnb hna hm
    have hc' : ((!(ieq (apE na a nb b m s) 0) || (ilt z (0 : Int))) || (ilt (64 : Int) z)) = false := hc
    rw [hA.1] at hc'
    simp only [Bool.or_eq_false_iff, Bool.not_eq_false', Bool.and_eq_true, ilt, ieq, decide_eq_true_eq, decide_eq_false_iff_not] at hc'
    obtain ⟨⟨⟨ea, eb⟩, hz0⟩, hz1⟩ := hc'
    obtain ⟨_, _, ia, _⟩ := ask_ok ea
    obtain ⟨_, _, ib, _⟩ := ask_ok eb
    obtain ⟨TA, TB, TJ⟩ := parts (z := z) hna hnb hm ea eb (by omega) (by omega)
    obtain ⟨jN, jC, jL, jO⟩ := joinP (a := a) (b := b) hna hnb
    obtain ⟨kN, kC, kL, kO⟩ := joinP (a := (outP na a s (Int.toNat z)).1) (b := (outP nb b s (Int.toNat z)).1) hna hnb
    have hc3 : ((((((!(ieq (al4 (joinN na a nb b) (joinL na a nb b) m s z) (0 : Int))) || (!(ieq (al4 na a m s z) (0 : Int)))) || (!(ieq (al4 nb b m s z) (0 : Int)))) || (!(ieq (Int.ofNat (al2 (joinN na a nb b) (joinL na a nb b) m s z)) (Int.ofNat m)))) || (!(ieq (Int.ofNat (al2 na a m s z)) (Int.ofNat m)))) || (!(ieq (Int.ofNat (al2 nb b m s z)) (Int.ofNat m)))) = false := by
      rw [jN, TJ.err, TA.err, TB.err, TJ.ns, TA.ns, TB.ns, ieq_self, ieq_self]; rfl
    have core : apI na a nb b m s = true → lpE na a nb b m s (al2 (joinN na a nb b) (joinL na a nb b) m s z) (al2 na a m s z) (al2 nb b m s z) (al20 (joinN na a nb b) (joinL na a nb b) m s z) (slP (joinN na a nb b) (joinL na a nb b) m s z) (al20 na a m s z) (slP na a m s z) (al20 nb b m s z) (slP nb b m s z) = true ∧ lpV na a nb b m s (al2 (joinN na a nb b) (joinL na a nb b) m s z) (al2 na a m s z) (al2 nb b m s z) (al20 (joinN na a nb b) (joinL na a nb b) m s z) (slP (joinN na a nb b) (joinL na a nb b) m s z) (al20 na a m s z) (slP na a m s z) (al20 nb b m s z) (slP nb b m s z) = Int.ofNat m ∧ smR (al0 (joinN na a nb b) (joinL na a nb b) m s z) (rlP (joinN na a nb b) (joinL na a nb b) m s z) (joinN (al0 na a m s z) (rlP na a m s z) (al0 nb b m s z) (rlP nb b m s z)) (joinL (al0 na a m s z) (rlP na a m s z) (al0 nb b m s z) (rlP nb b m s z)) = true ∧ smO (al0 (joinN na a nb b) (joinL na a nb b) m s z) (rlP (joinN na a nb b) (joinL na a nb b) m s z) (joinN (al0 na a m s z) (rlP na a m s z) (al0 nb b m s z) (rlP nb b m s z)) (joinL (al0 na a m s z) (rlP na a m s z) (al0 nb b m s z) (rlP nb b m s z)) = true := by
      intro hx
      rw [hA.2] at hx
      simp only [Bool.and_eq_true, Bool.not_eq_true'] at hx
      obtain ⟨c1, c2⟩ := apart_core (R := Int.toNat z) hna hnb ea eb hx.2
      have n1 := TJ.ns20
      have n2 := TA.ns20
      have n3 := TB.ns20
      rw [jN, TJ.ns, TA.ns, TB.ns, TJ.stills, TA.stills, TB.stills, TJ.rows, TA.rows, TB.rows, TJ.nr, TA.nr, TB.nr, kN, kL]
      have hl := loopP hna hnb hm ia ib n1 n2 n3 c2
      have hr := rows_same (show na + nb < 9223372036854775807 by omega) c1
      exact ⟨hl.1, hl.2, hr.1, hr.2⟩
    refine ⟨hc3, fun hx => ?_⟩
    obtain ⟨k1, k2, k3, k4⟩ := core hx
    refine ⟨?_, k3⟩
    have e63 : x63 = Int.ofNat m := k2
    rw [e63, ilt_ofNat, show decide (m < m) = false by simp]; rfl
end Go.Proofs.Ytofpjfohijljgaa
