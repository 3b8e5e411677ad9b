/- The rows of some stills, of which no other still that can be moved has any, solved by themselves, come to what they come to among all. For all rows, stills, numbers and rounds (the lists at most 60 long; of longer ones the statement says nothing). -/
import Derived.Test.YtofpjfohijljgaaLawOnyV
set_option linter.unusedVariables false
set_option linter.unusedSimpArgs false
set_option linter.unusedSectionVars false
set_option maxHeartbeats 400000
set_option maxRecDepth 4000
namespace Go.Proofs.Ytofpjfohijljgaa
open Go.Sim Go.Lst

theorem shapeT {aw lg c1 z1 z2 c2 c3 c4 c5 ap c6 x : Bool} (h1 : aw = true) (h2 : lg = false → (c1 = true → z1 = true ∧ z2 = true) ∧ (c1 = false → c2 = false → c3 = false → c4 = false → c5 = false ∧ (ap = true → c6 = false))) :
    (bif (!aw) then false else (bif lg then aw else (bif c1 then ((aw && z1) && z2) else (bif c2 then aw else (bif c3 then aw else (bif c4 then aw else (bif c5 then false else (bif (!ap) then aw else (bif c6 then x else aw))))))))) = true := by
  subst h1
  cases lg
  · obtain ⟨h3, h4⟩ := h2 rfl
    cases c1
    · cases c2
      · cases c3
        · cases c4
          · obtain ⟨h5, h6⟩ := h4 rfl rfl rfl rfl
            rw [h5]
            cases ap
            · rfl
            · rw [h6 rfl]; rfl
          · rfl
        · rfl
      · rfl
    · rw [(h3 rfl).1, (h3 rfl).2]; rfl
  · rfl
theorem shapeU {aw lg c1 z c2 c3 c4 c5 ap c6 o1 o2 o3 o4 o5 o6 : Bool} (h1 : aw = true) (h2 : lg = false → o1 = true ∧ (c1 = false → o2 = true ∧ o3 = true ∧ o4 = true ∧ (c2 = false → c3 = false → c4 = false → o5 = true ∧ (ap = true → o6 = true)))) :
    (mrgB (!aw) true (mrgB lg true (mrgB c1 (mrgB z o1 o1) (mrgB c2 o2 (mrgB c3 o3 (mrgB c4 o4 (mrgB c5 o5 (mrgB (!ap) o5 (mrgB c6 o6 o6))))))))) = true := by
  subst h1
  simp only [mrgB_eq]
  cases lg
  · obtain ⟨h3, h4⟩ := h2 rfl
    rw [h3]
    cases c1
    · obtain ⟨h5, h6, h7, h8⟩ := h4 rfl
      rw [h5, h6, h7]
      cases c2
      · cases c3
        · cases c4
          · obtain ⟨h9, ha⟩ := h8 rfl rfl rfl
            rw [h9]
            cases ap
            · cases c5 <;> rfl
            · rw [ha rfl]; cases c5 <;> cases c6 <;> rfl
          · rfl
        · rfl
      · rfl
    · cases z <;> rfl
  · rfl
theorem small {n m : Nat} {z : Int} (h : ((((ilt (60 : Int) (Int.ofNat n)) || (ilt (60 : Int) (Int.ofNat m))) || (ilt z (0 : Int))) || (ilt (64 : Int) z)) = false) : n ≤ 60 ∧ m ≤ 60 ∧ 0 ≤ z ∧ z ≤ 64 := by
  unfold ilt at h; simp at h; omega
/-- what the parts say where the numbers may be -/
theorem parts {n m q : Nat} {l : Nat → Rw} {s : Nat → Sl} {B : Nat → Int} {z : Int} (hn : n ≤ 60) (hm : m ≤ 60) (z0 : 0 ≤ z) (z1 : z ≤ 64) (h : onE n q l = 0) :
    L0E n l (oy n l q B 2) (oy n l q B 20) (oyN n l q B) = true ∧ L1E n l (oy n l q B 0) (oy n l q B 2) (oy n l q B 5) (onPl n l q B) (oy n l q B 20) (oyN n l q B) = true ∧ (oy n l q B 0) ≤ (oy n l q B 5) ∧
    (askN n m l s = 0 → C3 n l (oy n l q B 2) (oyN n l q B) (L0V n l (oy n l q B 2) (oy n l q B 20) (oyN n l q B)) = false → C4 l (oy n l q B 0) (onPl n l q B) (oyN n l q B) (L1V n l (oy n l q B 0) (oy n l q B 2) (oy n l q B 5) (onPl n l q B) (oy n l q B 20) (oyN n l q B)) = false →
      (!(ieq (apE (oy n l q B 0) (onPl n l q B) (rsN (L0V n l (oy n l q B 2) (oy n l q B 20) (oyN n l q B))) (rsL (L0V n l (oy n l q B 2) (oy n l q B 20) (oyN n l q B))) m s) 0)) = false ∧ (!(ieq (al4 (oy n l q B 0) (onPl n l q B) m s z) 0)) = false ∧ alO (oy n l q B 0) (onPl n l q B) m s z = true ∧ apO (oy n l q B 0) (onPl n l q B) (rsN (L0V n l (oy n l q B 2) (oy n l q B 20) (oyN n l q B))) (rsL (L0V n l (oy n l q B 2) (oy n l q B 20) (oyN n l q B))) m s = true ∧
      (apI (oy n l q B 0) (onPl n l q B) (rsN (L0V n l (oy n l q B 2) (oy n l q B 20) (oyN n l q B))) (rsL (L0V n l (oy n l q B 2) (oy n l q B 20) (oyN n l q B))) m s = true → L2E (oy n l q B 0) (oy n l q B 2) (al0 n l m s z) (al2 n l m s z) (al0 (oy n l q B 0) (onPl n l q B) m s z) (al2 (oy n l q B 0) (onPl n l q B) m s z) (oy n l q B 5) (onPl n l q B) (oy n l q B 20) (oyN n l q B) (al5 n l m s z) (rlP n l m s z) (al20 n l m s z) (slP n l m s z) (al5 (oy n l q B 0) (onPl n l q B) m s z) (rlP (oy n l q B 0) (onPl n l q B) m s z) (al20 (oy n l q B 0) (onPl n l q B) m s z) (slP (oy n l q B 0) (onPl n l q B) m s z) = true ∧ L2V (oy n l q B 0) (oy n l q B 2) (al0 n l m s z) (al2 n l m s z) (al0 (oy n l q B 0) (onPl n l q B) m s z) (al2 (oy n l q B 0) (onPl n l q B) m s z) (oy n l q B 5) (onPl n l q B) (oy n l q B 20) (oyN n l q B) (al5 n l m s z) (rlP n l m s z) (al20 n l m s z) (slP n l m s z) (al5 (oy n l q B 0) (onPl n l q B) m s z) (rlP (oy n l q B 0) (onPl n l q B) m s z) (al20 (oy n l q B 0) (onPl n l q B) m s z) (slP (oy n l q B 0) (onPl n l q B) m s z) = Int.ofNat (oy n l q B 0))) := by
  obtain ⟨p1, p2, p3, p4, p5⟩ := onlyP (q := q) (l := l) (B := B) (show n < 9223372036854775807 by omega)
  obtain ⟨p6, p7, p8, p9⟩ := p5 h
  rw [h, ieq_self, cond_true] at p3 p4
  have e0 : (oy n l q B 0) = cnt (pk q B l) n := p3
  have e2 : (oy n l q B 2) = cnt (pk q B l) n := p4
  have e5 : (oy n l q B 5) = cnt (pk q B l) n := p6
  have e20 : (oy n l q B 20) = cnt (pk q B l) n := p7
  have eN : (oyN n l q B) = NL (pk q B l) n := p8
  have eM : (onPl n l q B) = mine q B l n := p9
  have hc := cnt_le (pk q B l) n
  have hN : ∀ k, k < cnt (pk q B l) n → ∃ w, w < n ∧ NL (pk q B l) n k = Int.ofNat w := fun k hk => by
    obtain ⟨a1, _, _, a4, _⟩ := at_spec hk
    exact ⟨_, a1, a4⟩
  obtain ⟨t, hj, f1, f2, f3, f4⟩ := loop0 (q := q) (B := B) (l := l) (d := cnt (pk q B l) n) hn (Nat.le_refl _)
  have l1 := loop1 (n := n) (l := l) (M := mine q B l n) (k0 := cnt (pk q B l) n) (by omega) (Nat.le_refl _) (Nat.le_refl _) (Nat.le_refl _) hN
  rw [e0, e2, e5, e20, eN, eM]
  refine ⟨f1, l1.1, Nat.le_refl _, fun ha h3 h4 => ?_⟩
  have f2' : L0V n l (cnt (pk q B l) n) (cnt (pk q B l) n) (NL (pk q B l) n) = V_law21_SolveOnly_L0.mk (cnt (np q B l) t) (Int.ofNat (cnt (pk q B l) t)) (Int.ofNat t) (fun j => ((others q B l t) j).v0) (fun j => ((others q B l t) j).v1) (fun j => ((others q B l t) j).v2) (fun j => ((others q B l t) j).v3) (fun j => ((others q B l t) j).v4) (fun j => ((others q B l t) j).v5) (fun j => ((others q B l t) j).v6) (fun j => ((others q B l t) j).v7) (fun j => ((others q B l t) j).v8) (fun j => ((others q B l t) j).v9) (fun j => ((others q B l t) j).v10) (fun j => ((others q B l t) j).v11) (fun j => ((others q B l t) j).v12) (fun j => ((others q B l t) j).v13) := f2
  rw [f2'] at h3 ⊢
  have hjn : t = n := by
    by_cases hlt : t < n
    · obtain ⟨g1, g2⟩ := f4 hlt
      have h3' : (bif (!(ilt (Int.ofNat t) (Int.ofNat n))) then false else (bif ((ilt (Int.ofNat (cnt (pk q B l) t)) (Int.ofNat (cnt (pk q B l) n))) && (ieq (NL (pk q B l) n (cnt (pk q B l) t)) (Int.ofNat t))) then false else (ile (0 : Int) (l t).v12))) = false := h3
      have hz : ((ilt (Int.ofNat (cnt (pk q B l) t)) (Int.ofNat (cnt (pk q B l) n))) && (ieq (NL (pk q B l) n (cnt (pk q B l) t)) (Int.ofNat t))) = false := by
        rw [ilt_ofNat]
        by_cases hlt' : cnt (pk q B l) t < cnt (pk q B l) n
        · obtain ⟨w, b1, b2, b3, b4⟩ := NL_lt n _ hlt'
          rw [b2, ieq_false (fun e' => ?_), Bool.and_false]
          have : w = t := by have h : (w : Int) = (t : Int) := e'; omega
          subst this; rw [b3] at g1; cases g1
        · rw [decide_eq_false hlt']; rfl
      rw [ilt_ofNat, decide_eq_true hlt, hz, ile_true g2] at h3'
      cases h3'
    · omega
  subst hjn
  have hv : ∀ i, i < cnt (pk q B l) t → ¬ ((mine q B l t i).v12 < 0 ∧ 0 ≤ (l (at' q B l t i)).v12) := fun i hi hh => by
    rw [l1.2] at h4
    refine (of_decide_eq_false h4) ⟨i, hi, ?_⟩
    rw [ilt_true hh.1]
    exact ile_true hh.2
  have a1 := ask_mine (q := q) (B := B) ha
  have a2 := ask_others (q := q) (B := B) ha f3
  have tM := tellP (s := s) (z := z) a1 z0 z1
  have tL := tellP (s := s) (z := z) ha z0 z1
  obtain ⟨b1, b2, b3⟩ := apartP (l := mine q B l t) (l' := others q B l t) (s := s) (n := cnt (pk q B l) t) (n' := cnt (np q B l) t) (m := m) (by omega) (by have := cnt_le (np q B l) t; omega) (by omega)
  show (!(ieq (apE (cnt (pk q B l) t) (mine q B l t) (cnt (np q B l) t) (others q B l t) m s) 0)) = false ∧ _ ∧ _ ∧ apO (cnt (pk q B l) t) (mine q B l t) (cnt (np q B l) t) (others q B l t) m s = true ∧ (apI (cnt (pk q B l) t) (mine q B l t) (cnt (np q B l) t) (others q B l t) m s = true → _)
  rw [b1, b2, b3, a1, a2]
  refine ⟨rfl, ?_, tM.ob, rfl, fun hb => ?_⟩
  · have := tM.err
    rw [show al4 (cnt (pk q B l) t) (mine q B l t) m s z = 0 from this]; rfl
  · have hsep : both (cnt (pk q B l) t) (mine q B l t) (cnt (np q B l) t) (others q B l t) m s = false := by
      rw [ieq_self] at hb; simpa using hb
    have core := only_core (R := Int.toNat z) ha hv hsep
    obtain ⟨_, _, im, _⟩ := ask_ok a1
    rw [tL.rows, tL.stills, tM.rows, tM.stills]
    exact loop2 (by omega) (Nat.le_refl _) (Nat.le_of_eq tM.nr.symm) (Nat.le_refl _) (Nat.le_refl _) tM.nr5 (Nat.le_of_eq tL.nr.symm) tL.nr5 (Nat.le_of_eq tL.ns.symm) (Nat.le_of_eq tM.ns.symm) tL.ns20 tM.ns20 hN im (fun k hk => (core k hk).1) (fun k hk => ⟨(core k hk).2.1.symm, (core k hk).2.2.symm⟩)
theorem onZ {n q : Nat} {l : Nat → Rw} {B : Nat → Int} (hn : n ≤ 60) : oyE n l q B = onE n q l ∧ oyO n l q B = true ∧ (onE n q l ≠ 0 → (oy n l q B 0) = 0 ∧ (oy n l q B 2) = 0) := by
  obtain ⟨p1, p2, p3, p4, p5⟩ := onlyP (q := q) (l := l) (B := B) (show n < 9223372036854775807 by omega)
  refine ⟨p1, p2, fun h => ?_⟩
  rw [ieq0 h] at p3 p4
  exact ⟨p3, p4⟩
theorem or_no {a b : Bool} (ha : a = false) (hb : b = false) : (a || b) = false := by rw [ha, hb]; rfl
theorem law' (n : Nat) (l : Nat → Rw) (m : Nat) (s : Nat → Sl) (q : Nat) (B : Nat → Int) (z : Int) : T_law21_SolveOnly n (fun j => (l j).v0) (fun j => (l j).v1) (fun j => (l j).v2) (fun j => (l j).v3) (fun j => (l j).v4) (fun j => (l j).v5) (fun j => (l j).v6) (fun j => (l j).v7) (fun j => (l j).v8) (fun j => (l j).v9) (fun j => (l j).v10) (fun j => (l j).v11) (fun j => (l j).v12) (fun j => (l j).v13) m (fun j => (s j).v0) (fun j => (s j).v1) (fun j => (s j).v2) (fun j => (s j).v3) (fun j => (s j).v4) q B z = true := by
  unfold T_law21_SolveOnly
  extract_lets x0 x1 x2 x3 x4 x5 x6 x7 x8 x9 x10 x11 x12 x13 x14 x15 x16 x17 x18 x19 x20 x21 x22 x23 x24 x25 x26 x27 x28 x29 x30 x31 x32 x33 x34 x35 x36 x37 x38 x39 x40 x41 x42 x43 x44 x45 x46 x47 x48 x49 x50 x51 x52 x53 x54 x55 x56 x57 x58 x59 x60 x61 x62 x63 x64 x65 x66 x67 x68 x69 x70 x71 x72 x73 x74 x75 x76 x77 x78 x79 x80 x81 x82 x83 x84
  refine shapeT rfl (fun hl => ?_)
  obtain ⟨hn, hm, z0, z1⟩ := small hl
  obtain ⟨o1, _, o3⟩ := onZ (q := q) (l := l) (B := B) hn
  refine ⟨fun hc1 => ?_, fun hc1 hc2 hc3 hc4 => ?_⟩
  · have h' : (!(ieq (oyE n l q B) 0)) = true := hc1
    rw [o1] at h'
    have hne : onE n q l ≠ 0 := by simpa [ieq] using h'
    obtain ⟨e0, e2⟩ := o3 hne
    constructor
    · show ieq (Int.ofNat (oy n l q B 0)) 0 = true
      rw [e0]; rfl
    · show ieq (Int.ofNat (oy n l q B 2)) 0 = true
      rw [e2]; rfl
  · skip
    have g1 : onE n q l = 0 := by
      have h' : (!(ieq (oyE n l q B) 0)) = false := hc1
      rw [o1] at h'
      simpa [ieq] using h'
    obtain ⟨w1, w2, w3, w4⟩ := parts (s := s) (B := B) (z := z) hn hm z0 z1 g1
    have ha : askN n m l s = 0 := by
      have h' : (!(ieq (al4 n l m s z) 0)) = false := hc2
      rw [(all4 hn hm z0 z1).1] at h'
      simpa [ieq] using h'
    obtain ⟨v1, v2, _, _, v5⟩ := w4 ha hc3 hc4
    refine ⟨?_, fun hap => ?_⟩
    · exact or_no v1 v2
    · have e56 : x56 = Int.ofNat (oy n l q B 0) := (v5 hap).2
      show (bif (!(ilt x56 (Int.ofNat (oy n l q B 0)))) then false else _) = false
      rw [e56, ilt_ofNat, show decide ((oy n l q B 0) < (oy n l q B 0)) = false by simp]; rfl
theorem ob' (n : Nat) (l : Nat → Rw) (m : Nat) (s : Nat → Sl) (q : Nat) (B : Nat → Int) (z : Int) : O_law21_SolveOnly n (fun j => (l j).v0) (fun j => (l j).v1) (fun j => (l j).v2) (fun j => (l j).v3) (fun j => (l j).v4) (fun j => (l j).v5) (fun j => (l j).v6) (fun j => (l j).v7) (fun j => (l j).v8) (fun j => (l j).v9) (fun j => (l j).v10) (fun j => (l j).v11) (fun j => (l j).v12) (fun j => (l j).v13) m (fun j => (s j).v0) (fun j => (s j).v1) (fun j => (s j).v2) (fun j => (s j).v3) (fun j => (s j).v4) q B z = true := by
  have aT : (allB fun _ => true) = true := allB_true
  unfold O_law21_SolveOnly
  extract_lets x0 x1 x2 x3 x4 x5 x6 x7 x8 x9 x10 x11 x12 x13 x14 x15 x16 x17 x18 x19 x20 x21 x22 x23 x24 x25 x26 x27 x28 x29 x30 x31 x32 x33 x34 x35 x36 x37 x38 x39 x40 x41 x42 x43 x44 x45 x46 x47 x48 x49 x50 x51 x52 x53 x54 x55 x56 x57 x58 x59 x60 x61 x62 x63 x64 x65 x66 x67 x68 x69 x70 x71 x72 x73 x74 x75 x76 x77 x78 x79 x80 x81 x82 x83 x84 x85 x86 x87 x88 x89 x90 x91 x92 x93 x94 x95 x96 x97 x98 x99 x100 x101 x102
  have e64 : x64 = true := and_of (and_of aT aT) aT
  have e65 : x65 = true := and_of (and_of (and_of (and_of e64 aT) aT) aT) aT
  have e68 : x68 = true := eqT_self _
  refine shapeU rfl (fun hl => ?_)
  obtain ⟨hn, hm, z0, z1⟩ := small hl
  obtain ⟨o1, o2, o3⟩ := onZ (q := q) (l := l) (B := B) hn
  have e69 : x69 = true := and_of (and_of aT aT) o2
  refine ⟨by show mrgB _ x69 x69 = true; rw [mrgB_self, e69], fun hc1 => ?_⟩
  have g1 : onE n q l = 0 := by
      have h' : (!(ieq (oyE n l q B) 0)) = false := hc1
      rw [o1] at h'
      simpa [ieq] using h'
  obtain ⟨w1, w2, w3, w4⟩ := parts (s := s) (B := B) (z := z) hn hm z0 z1 g1
  have e70 : x70 = true := and_of (and_of (and_of aT aT) (all4 hn hm z0 z1).2) e69
  have e71 : x71 = true := and_of e70 (and_of (and_of (and_of e65 (eqT_self _)) (eqT_self _)) w1)
  have e72 : x72 = true := and_of e71 (and_of (and_of (and_of e65 e68) e68) w2)
  refine ⟨e70, e71, e72, fun hc2 hc3 hc4 => ?_⟩
  have ha : askN n m l s = 0 := by
    have h' : (!(ieq (al4 n l m s z) 0)) = false := hc2
    rw [(all4 hn hm z0 z1).1] at h'
    simpa [ieq] using h'
  obtain ⟨v1, v2, v3, v4, v5⟩ := w4 ha hc3 hc4
  have e87 : x87 = true := ble_true w3
  have e88 : x88 = true := and_of (and_of e87 (and_of (and_of aT aT) v3)) (and_of (and_of (and_of e87 (ble_true (Nat.le_refl _))) (and_of e64 v4)) e72)
  have e90 : x90 = true := by show mrgB x89 x88 x88 = true; rw [mrgB_self, e88]
  exact ⟨e90, fun hap => and_of e90 (and_of e65 (v5 hap).1)⟩
theorem law_SolveOnly (n : Nat) (a0 a1 : Nat → Int) (a2 a3 a4 a5 a6 a7 a8 a9 a10 a11 : Nat → Nat) (a12 : Nat → Int) (a13 : Nat → Nat) (m : Nat) (s0 s1 s2 s3 s4 : Nat → Nat) (q : Nat) (B : Nat → Int) (z : Int) (hA : GoodA (.sl 112 [.i .i64, .i .i64, .f, .f, .f, .f, .f, .f, .f, .f, .f, .f, .i .i64, .f]) (.view n 14 (fun i => [.int .i64 (a0 i), .int .i64 (a1 i), .float (a2 i), .float (a3 i), .float (a4 i), .float (a5 i), .float (a6 i), .float (a7 i), .float (a8 i), .float (a9 i), .float (a10 i), .float (a11 i), .int .i64 (a12 i), .float (a13 i)]))) (hC : GoodA (.sl 40 [.f, .f, .f, .f, .f]) (.view m 5 (fun i => [.float (s0 i), .float (s1 i), .float (s2 i), .float (s3 i), .float (s4 i)]))) (hB : GoodA (.sl 8 [.i .i64]) (.view q 1 (fun i => [.int .i64 (B i)]))) (hD : GoodA (.i .i64) (.int .i64 z)) : T_law21_SolveOnly n a0 a1 a2 a3 a4 a5 a6 a7 a8 a9 a10 a11 a12 a13 m s0 s1 s2 s3 s4 q B z = true := law' n (fun j => ⟨a0 j, a1 j, a2 j, a3 j, a4 j, a5 j, a6 j, a7 j, a8 j, a9 j, a10 j, a11 j, a12 j, a13 j⟩) m (fun j => ⟨s0 j, s1 j, s2 j, s3 j, s4 j⟩) q B z
theorem ob_law_SolveOnly (n : Nat) (a0 a1 : Nat → Int) (a2 a3 a4 a5 a6 a7 a8 a9 a10 a11 : Nat → Nat) (a12 : Nat → Int) (a13 : Nat → Nat) (m : Nat) (s0 s1 s2 s3 s4 : Nat → Nat) (q : Nat) (B : Nat → Int) (z : Int) (hA : GoodA (.sl 112 [.i .i64, .i .i64, .f, .f, .f, .f, .f, .f, .f, .f, .f, .f, .i .i64, .f]) (.view n 14 (fun i => [.int .i64 (a0 i), .int .i64 (a1 i), .float (a2 i), .float (a3 i), .float (a4 i), .float (a5 i), .float (a6 i), .float (a7 i), .float (a8 i), .float (a9 i), .float (a10 i), .float (a11 i), .int .i64 (a12 i), .float (a13 i)]))) (hC : GoodA (.sl 40 [.f, .f, .f, .f, .f]) (.view m 5 (fun i => [.float (s0 i), .float (s1 i), .float (s2 i), .float (s3 i), .float (s4 i)]))) (hB : GoodA (.sl 8 [.i .i64]) (.view q 1 (fun i => [.int .i64 (B i)]))) (hD : GoodA (.i .i64) (.int .i64 z)) : O_law21_SolveOnly n a0 a1 a2 a3 a4 a5 a6 a7 a8 a9 a10 a11 a12 a13 m s0 s1 s2 s3 s4 q B z = true := ob' n (fun j => ⟨a0 j, a1 j, a2 j, a3 j, a4 j, a5 j, a6 j, a7 j, a8 j, a9 j, a10 j, a11 j, a12 j, a13 j⟩) m (fun j => ⟨s0 j, s1 j, s2 j, s3 j, s4 j⟩) q B z
end Go.Proofs.Ytofpjfohijljgaa
