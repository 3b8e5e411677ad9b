/- Two lists of rows that have no still together that can be moved, solved one behind the other, are what each comes to by itself; what no row has stays, and what can't be moved. For all rows, stills and rounds (the lists at most 60 long; of longer ones the statement says nothing). -/
import Derived.Test.YtofpjfohijljgaaLawAprV
set_option linter.unusedVariables false
set_option linter.unusedSimpArgs false
set_option linter.unusedSectionVars false
set_option maxHeartbeats 4000000
set_option maxRecDepth 4000
namespace Go.Proofs.Ytofpjfohijljgaa
open Go.Sim Go.Lst
theorem ob' (na : Nat) (a : Nat → Rw) (nb : Nat) (b : Nat → Rw) (m : Nat) (s : Nat → Sl) (z : Int) : O_law21_SolveApart na (fun j => (a j).v0) (fun j => (a j).v1) (fun j => (a j).v2) (fun j => (a j).v3) (fun j => (a j).v4) (fun j => (a j).v5) (fun j => (a j).v6) (fun j => (a j).v7) (fun j => (a j).v8) (fun j => (a j).v9) (fun j => (a j).v10) (fun j => (a j).v11) (fun j => (a j).v12) (fun j => (a j).v13) nb (fun j => (b j).v0) (fun j => (b j).v1) (fun j => (b j).v2) (fun j => (b j).v3) (fun j => (b j).v4) (fun j => (b j).v5) (fun j => (b j).v6) (fun j => (b j).v7) (fun j => (b j).v8) (fun j => (b j).v9) (fun j => (b j).v10) (fun j => (b j).v11) (fun j => (b j).v12) (fun j => (b j).v13) m (fun j => (s j).v0) (fun j => (s j).v1) (fun j => (s j).v2) (fun j => (s j).v3) (fun j => (s j).v4) z = true := by
  have aT : (allB fun _ => true) = true := allB_true
  unfold O_law21_SolveApart
  extract_lets x0 x1 x2 x3 x4 x5 x6 x7 x8 x9 x10 x11 x12 x13 x14 x15 x16 x17 x18 x19 x20 x21 x22 x23 x24 x25 x26 x27 x28 x29 x30 x31 x32 x33 x34 x35 x36 x37 x38 x39 x40 x41 x42 x43 x44 x45 x46 x47 x48 x49 x50 x51 x52 x53 x54 x55 x56 x57 x58 x59 x60 x61 x62 x63 x64 x65 x66 x67 x68 x69 x70 x71 x72 x73 x74 x75 x76 x77 x78 x79 x80 x81 x82 x83 x84 x85 x86 x87 x88 x89 x90 x91 x92 x93 x94 x95 x96 x97 x98 x99
  have e36 : x36 = true := and_of (and_of aT aT) aT
  have e44 : na ≤ 60 → nb ≤ 60 → m ≤ 60 → x37 = true ∧ x44 = true ∧ x40 = true := fun hna hnb hm => by
    have o1 := (apartP (l := a) (l' := b) (s := s) (show na < 9223372036854775807 by omega) (show nb < 9223372036854775807 by omega) (show m < 9223372036854775807 by omega)).2.2
    have o2 := (apartP (l := b) (l' := a) (s := s) (show nb < 9223372036854775807 by omega) (show na < 9223372036854775807 by omega) (show m < 9223372036854775807 by omega)).2.2
    have e37 : x37 = true := and_of (and_of e36 o2) (and_of e36 o1)
    have e40 : x40 = true := by show mrgB x39 x37 x37 = true; rw [mrgB_self, e37]
    have e42 : x42 = true := by show mrgB x41 x40 x40 = true; rw [mrgB_self, e40]
    exact ⟨e37, by show mrgB x43 x42 x42 = true; rw [mrgB_self, e42], e40⟩
  refine shapeO rfl (fun hl => ?_) (fun hl => ?_) (fun hl hc => ?_)
  · obtain ⟨hna, hnb, hm⟩ := small hl
    exact (e44 hna hnb hm).2.2
  · obtain ⟨hna, hnb, hm⟩ := small hl
    exact (e44 hna hnb hm).2.1
  · -- both may be
    obtain ⟨hna, hnb, hm⟩ := small hl
    have hA := ap_ok (l := a) (l' := b) (s := s) hna hnb hm
    have hB := ap_ok (l := b) (l' := a) (s := s) hnb hna hm
    have hc' : ((!(ieq (apE na a nb b m s) 0) || (ilt z (0 : Int))) || (ilt (64 : Int) z)) = false := hc
    rw [hA.1] at hc'
    simp only [Bool.or_eq_false_iff, Bool.not_eq_false', Bool.and_eq_true, ilt, ieq, decide_eq_true_eq, decide_eq_false_iff_not] at hc'
    obtain ⟨⟨⟨ea, eb⟩, hz0⟩, hz1⟩ := hc'
    obtain ⟨_, _, ia, _⟩ := ask_ok ea
    obtain ⟨_, _, ib, _⟩ := ask_ok eb
    obtain ⟨TA, TB, TJ⟩ := parts (z := z) hna hnb hm ea eb (by omega) (by omega)
    obtain ⟨jN, jC, jL, jO⟩ := joinP (a := a) (b := b) hna hnb
    obtain ⟨kN, kC, kL, kO⟩ := joinP (a := (outP na a s (Int.toNat z)).1) (b := (outP nb b s (Int.toNat z)).1) hna hnb
    have hc3 : ((((((!(ieq (al4 (joinN na a nb b) (joinL na a nb b) m s z) (0 : Int))) || (!(ieq (al4 na a m s z) (0 : Int)))) || (!(ieq (al4 nb b m s z) (0 : Int)))) || (!(ieq (Int.ofNat (al2 (joinN na a nb b) (joinL na a nb b) m s z)) (Int.ofNat m)))) || (!(ieq (Int.ofNat (al2 na a m s z)) (Int.ofNat m)))) || (!(ieq (Int.ofNat (al2 nb b m s z)) (Int.ofNat m)))) = false := by
      rw [jN, TJ.err, TA.err, TB.err, TJ.ns, TA.ns, TB.ns, ieq_self, ieq_self]; rfl
    have core : apI na a nb b m s = true → lpE na a nb b m s (al2 (joinN na a nb b) (joinL na a nb b) m s z) (al2 na a m s z) (al2 nb b m s z) (al20 (joinN na a nb b) (joinL na a nb b) m s z) (slP (joinN na a nb b) (joinL na a nb b) m s z) (al20 na a m s z) (slP na a m s z) (al20 nb b m s z) (slP nb b m s z) = true ∧ lpV na a nb b m s (al2 (joinN na a nb b) (joinL na a nb b) m s z) (al2 na a m s z) (al2 nb b m s z) (al20 (joinN na a nb b) (joinL na a nb b) m s z) (slP (joinN na a nb b) (joinL na a nb b) m s z) (al20 na a m s z) (slP na a m s z) (al20 nb b m s z) (slP nb b m s z) = Int.ofNat m ∧ smR (al0 (joinN na a nb b) (joinL na a nb b) m s z) (rlP (joinN na a nb b) (joinL na a nb b) m s z) (joinN (al0 na a m s z) (rlP na a m s z) (al0 nb b m s z) (rlP nb b m s z)) (joinL (al0 na a m s z) (rlP na a m s z) (al0 nb b m s z) (rlP nb b m s z)) = true ∧ smO (al0 (joinN na a nb b) (joinL na a nb b) m s z) (rlP (joinN na a nb b) (joinL na a nb b) m s z) (joinN (al0 na a m s z) (rlP na a m s z) (al0 nb b m s z) (rlP nb b m s z)) (joinL (al0 na a m s z) (rlP na a m s z) (al0 nb b m s z) (rlP nb b m s z)) = true := by
      intro hx
      rw [hA.2] at hx
      simp only [Bool.and_eq_true, Bool.not_eq_true'] at hx
      obtain ⟨c1, c2⟩ := apart_core (R := Int.toNat z) hna hnb ea eb hx.2
      have n1 := TJ.ns20
      have n2 := TA.ns20
      have n3 := TB.ns20
      rw [jN, TJ.ns, TA.ns, TB.ns, TJ.stills, TA.stills, TB.stills, TJ.rows, TA.rows, TB.rows, TJ.nr, TA.nr, TB.nr, kN, kL]
      have hl := loopP hna hnb hm ia ib n1 n2 n3 c2
      have hr := rows_same (show na + nb < 9223372036854775807 by omega) c1
      exact ⟨hl.1, hl.2, hr.1, hr.2⟩
    have b26 : (Nat.ble x26 (s_law21_joined_2 na (fun j => (a j).v0) (fun j => (a j).v1) (fun j => (a j).v2) (fun j => (a j).v3) (fun j => (a j).v4) (fun j => (a j).v5) (fun j => (a j).v6) (fun j => (a j).v7) (fun j => (a j).v8) (fun j => (a j).v9) (fun j => (a j).v10) (fun j => (a j).v11) (fun j => (a j).v12) (fun j => (a j).v13) nb (fun j => (b j).v0) (fun j => (b j).v1) (fun j => (b j).v2) (fun j => (b j).v3) (fun j => (b j).v4) (fun j => (b j).v5) (fun j => (b j).v6) (fun j => (b j).v7) (fun j => (b j).v8) (fun j => (b j).v9) (fun j => (b j).v10) (fun j => (b j).v11) (fun j => (b j).v12) (fun j => (b j).v13))) = true := by
      show Nat.ble (joinN na a nb b) (joinC na a nb b) = true
      rw [jN, jC]; exact ble_true (Nat.le_refl _)
    have oJ : alO (joinN na a nb b) (joinL na a nb b) m s z = true := by rw [jN]; exact TJ.ob
    have e45 : x45 = true := and_of (and_of (and_of aT aT) TB.ob) (and_of (and_of (and_of aT aT) TA.ob) (and_of (and_of b26 (and_of (and_of aT aT) oJ)) (and_of (and_of (and_of aT aT) jO) (e44 hna hnb hm).2.1)))
    have e47 : x47 = true := by show mrgB x46 x45 x45 = true; rw [mrgB_self, e45]
    have e49 : x49 = true := by show mrgB x48 x47 x47 = true; rw [mrgB_self, e47]
    have e51 : x51 = true := by show mrgB x50 x49 x49 = true; rw [mrgB_self, e49]
    have e53 : x53 = true := by show mrgB x52 x51 x51 = true; rw [mrgB_self, e51]
    have e55 : x55 = true := by show mrgB x54 x53 x53 = true; rw [mrgB_self, e53]
    refine ⟨e55, hc3, fun hx => ?_⟩
    obtain ⟨k1, k2, k3, k4⟩ := core hx
    have e56 : x56 = true := by
      refine and_of e55 (and_of ?_ k1)
      rw [e36, aT]; rfl
    refine ⟨e56, ?_, ?_⟩
    · have e89 : x89 = Int.ofNat m := k2
      rw [e89, ilt_ofNat, show decide (m < m) = false by simp]; rfl
    · have b88 : Nat.ble x88 (al5 (joinN na a nb b) (joinL na a nb b) m s z) = true := by
        show Nat.ble (al0 (joinN na a nb b) (joinL na a nb b) m s z) (al5 (joinN na a nb b) (joinL na a nb b) m s z) = true
        rw [jN, TJ.nr]; exact ble_true TJ.nr5
      have b87 : Nat.ble x87 (joinC (al0 na a m s z) (rlP na a m s z) (al0 nb b m s z) (rlP nb b m s z)) = true := by
        show Nat.ble (joinN (al0 na a m s z) (rlP na a m s z) (al0 nb b m s z) (rlP nb b m s z)) (joinC (al0 na a m s z) (rlP na a m s z) (al0 nb b m s z) (rlP nb b m s z)) = true
        rw [TA.rows, TB.rows, TA.nr, TB.nr, kN, kC]; exact ble_true (Nat.le_refl _)
      have oX : joinO (al0 na a m s z) (rlP na a m s z) (al0 nb b m s z) (rlP nb b m s z) = true := by
        rw [TA.rows, TB.rows, TA.nr, TB.nr]; exact kO
      have b86 : Nat.ble x86 (al5 na a m s z) = true := by
        show Nat.ble (al0 na a m s z) (al5 na a m s z) = true
        rw [TA.nr]; exact ble_true TA.nr5
      have b71 : Nat.ble x71 (al5 nb b m s z) = true := by
        show Nat.ble (al0 nb b m s z) (al5 nb b m s z) = true
        rw [TB.nr]; exact ble_true TB.nr5
      exact and_of (and_of (and_of b88 b87) (and_of (and_of aT aT) k4)) (and_of (and_of (and_of b86 b71) (and_of (and_of aT aT) oX)) e56)
theorem law_SolveApart (n : Nat) (a0 a1 : Nat → Int) (a2 a3 a4 a5 a6 a7 a8 a9 a10 a11 : Nat → Nat) (a12 : Nat → Int) (a13 : Nat → Nat) (p : Nat) (b0 b1 : Nat → Int) (b2 b3 b4 b5 b6 b7 b8 b9 b10 b11 : Nat → Nat) (b12 : Nat → Int) (b13 : Nat → Nat) (m : Nat) (s0 s1 s2 s3 s4 : Nat → Nat) (z : Int) (hA : GoodA (.sl 112 [.i .i64, .i .i64, .f, .f, .f, .f, .f, .f, .f, .f, .f, .f, .i .i64, .f]) (.view n 14 (fun i => [.int .i64 (a0 i), .int .i64 (a1 i), .float (a2 i), .float (a3 i), .float (a4 i), .float (a5 i), .float (a6 i), .float (a7 i), .float (a8 i), .float (a9 i), .float (a10 i), .float (a11 i), .int .i64 (a12 i), .float (a13 i)]))) (hB : GoodA (.sl 112 [.i .i64, .i .i64, .f, .f, .f, .f, .f, .f, .f, .f, .f, .f, .i .i64, .f]) (.view p 14 (fun i => [.int .i64 (b0 i), .int .i64 (b1 i), .float (b2 i), .float (b3 i), .float (b4 i), .float (b5 i), .float (b6 i), .float (b7 i), .float (b8 i), .float (b9 i), .float (b10 i), .float (b11 i), .int .i64 (b12 i), .float (b13 i)]))) (hC : GoodA (.sl 40 [.f, .f, .f, .f, .f]) (.view m 5 (fun i => [.float (s0 i), .float (s1 i), .float (s2 i), .float (s3 i), .float (s4 i)]))) (hD : GoodA (.i .i64) (.int .i64 z)) : T_law21_SolveApart n a0 a1 a2 a3 a4 a5 a6 a7 a8 a9 a10 a11 a12 a13 p b0 b1 b2 b3 b4 b5 b6 b7 b8 b9 b10 b11 b12 b13 m s0 s1 s2 s3 s4 z = true := law' n (fun j => ⟨a0 j, a1 j, a2 j, a3 j, a4 j, a5 j, a6 j, a7 j, a8 j, a9 j, a10 j, a11 j, a12 j, a13 j⟩) p (fun j => ⟨b0 j, b1 j, b2 j, b3 j, b4 j, b5 j, b6 j, b7 j, b8 j, b9 j, b10 j, b11 j, b12 j, b13 j⟩) m (fun j => ⟨s0 j, s1 j, s2 j, s3 j, s4 j⟩) z
theorem ob_law_SolveApart (n : Nat) (a0 a1 : Nat → Int) (a2 a3 a4 a5 a6 a7 a8 a9 a10 a11 : Nat → Nat) (a12 : Nat → Int) (a13 : Nat → Nat) (p : Nat) (b0 b1 : Nat → Int) (b2 b3 b4 b5 b6 b7 b8 b9 b10 b11 : Nat → Nat) (b12 : Nat → Int) (b13 : Nat → Nat) (m : Nat) (s0 s1 s2 s3 s4 : Nat → Nat) (z : Int) (hA : GoodA (.sl 112 [.i .i64, .i .i64, .f, .f, .f, .f, .f, .f, .f, .f, .f, .f, .i .i64, .f]) (.view n 14 (fun i => [.int .i64 (a0 i), .int .i64 (a1 i), .float (a2 i), .float (a3 i), .float (a4 i), .float (a5 i), .float (a6 i), .float (a7 i), .float (a8 i), .float (a9 i), .float (a10 i), .float (a11 i), .int .i64 (a12 i), .float (a13 i)]))) (hB : GoodA (.sl 112 [.i .i64, .i .i64, .f, .f, .f, .f, .f, .f, .f, .f, .f, .f, .i .i64, .f]) (.view p 14 (fun i => [.int .i64 (b0 i), .int .i64 (b1 i), .float (b2 i), .float (b3 i), .float (b4 i), .float (b5 i), .float (b6 i), .float (b7 i), .float (b8 i), .float (b9 i), .float (b10 i), .float (b11 i), .int .i64 (b12 i), .float (b13 i)]))) (hC : GoodA (.sl 40 [.f, .f, .f, .f, .f]) (.view m 5 (fun i => [.float (s0 i), .float (s1 i), .float (s2 i), .float (s3 i), .float (s4 i)]))) (hD : GoodA (.i .i64) (.int .i64 z)) : O_law21_SolveApart n a0 a1 a2 a3 a4 a5 a6 a7 a8 a9 a10 a11 a12 a13 p b0 b1 b2 b3 b4 b5 b6 b7 b8 b9 b10 b11 b12 b13 m s0 s1 s2 s3 s4 z = true := ob' n (fun j => ⟨a0 j, a1 j, a2 j, a3 j, a4 j, a5 j, a6 j, a7 j, a8 j, a9 j, a10 j, a11 j, a12 j, a13 j⟩) p (fun j => ⟨b0 j, b1 j, b2 j, b3 j, b4 j, b5 j, b6 j, b7 j, b8 j, b9 j, b10 j, b11 j, b12 j, b13 j⟩) m (fun j => ⟨s0 j, s1 j, s2 j, s3 j, s4 j⟩) z
end Go.Proofs.Ytofpjfohijljgaa
