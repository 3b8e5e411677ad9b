/- One row alone: the loops of one round, and the law. -/
import Derived.Test.YtofpjfohijljgaaLawOneA
set_option linter.unusedVariables false
set_option linter.unusedSimpArgs false
set_option maxRecDepth 100000
set_option maxHeartbeats 4000000
namespace Go.Proofs.Ytofpjfohijljgaa
open Go.Sim Go.Lst
theorem loop0 {X : Type} {ok go : X → Bool} {step : X → X} {x : X} (h0 : ok x = true) (g0 : go x = false) : endsL ok go step x = true ∧ lastL ok go step x = x := by
  have he : endsL ok go step x = true := endsL_step h0 fun e => by rw [g0] at e; cases e
  exact ⟨he, lastL_stop he g0⟩
theorem loop1 {X : Type} {ok go : X → Bool} {step : X → X} {x y : X} (h0 : ok x = true) (g0 : go x = true) (r : endsL ok go step (step x) = true ∧ lastL ok go step (step x) = y) : endsL ok go step x = true ∧ lastL ok go step x = y := by
  have he : endsL ok go step x = true := endsL_step h0 fun _ => r.1
  exact ⟨he, by rw [lastL_go he g0]; exact r.2⟩
theorem indexV {s0 s1 s2 s3 s4 : Nat → Nat} (h0 : s_solve_asked_1_0 (s0 0) (s1 0) (s2 0) (s3 0) (s4 0) = false) (h1 : s_solve_asked_1_0 (s0 1) (s1 1) (s2 1) (s3 1) (s4 1) = false) : o_slices_ContainsFunc___api_Still_api_Still__v1 2 s0 s1 s2 s3 s4 = true ∧ s_slices_ContainsFunc___api_Still_api_Still__v1_0 2 s0 s1 s2 s3 s4 = false := by
  have hL : E_slices_IndexFunc___api_Still_api_Still__v1_L0 2 s0 s1 s2 s3 s4 (Int.ofNat 2) (V_slices_IndexFunc___api_Still_api_Still__v1_L0.mk (0 : Int)) = true ∧ L_slices_IndexFunc___api_Still_api_Still__v1_L0 2 s0 s1 s2 s3 s4 (Int.ofNat 2) (V_slices_IndexFunc___api_Still_api_Still__v1_L0.mk (0 : Int)) = step_slices_IndexFunc___api_Still_api_Still__v1_L0 2 s0 s1 s2 s3 s4 (Int.ofNat 2) (step_slices_IndexFunc___api_Still_api_Still__v1_L0 2 s0 s1 s2 s3 s4 (Int.ofNat 2) (V_slices_IndexFunc___api_Still_api_Still__v1_L0.mk (0 : Int))) := by
    refine loop1 (mrg_t rfl (mrg_t rfl rfl)) ?_ (loop1 (mrg_t rfl (mrg_t rfl rfl)) ?_ (loop0 rfl rfl))
    · show (bif (s_solve_asked_1_0 (s0 0) (s1 0) (s2 0) (s3 0) (s4 0)) then false else true) = true
      rw [h0]; rfl
    · show (bif (s_solve_asked_1_0 (s0 1) (s1 1) (s2 1) (s3 1) (s4 1)) then false else true) = true
      rw [h1]; rfl
  constructor
  · unfold o_slices_ContainsFunc___api_Still_api_Still__v1 o_slices_IndexFunc___api_Still_api_Still__v1
    rw [hL.1]; exact mrg_t rfl rfl
  · unfold s_slices_ContainsFunc___api_Still_api_Still__v1_0 s_slices_IndexFunc___api_Still_api_Still__v1_0
    rw [hL.2]; rfl
theorem askedV {f0 f1 : Nat → Int} {f2 f3 f4 f5 f6 f7 f8 f9 f10 f11 : Nat → Nat} {f12 : Nat → Int} {f13 : Nat → Nat} {s0 s1 s2 s3 s4 : Nat → Nat} (hc : s_rows_Check_0 (f0 0) (f1 0) (f2 0) (f3 0) (f4 0) (f5 0) (f6 0) (f7 0) (f8 0) (f9 0) (f10 0) (f11 0) (f12 0) (f13 0) 1 2 = 0) (h0 : s_solve_asked_1_0 (s0 0) (s1 0) (s2 0) (s3 0) (s4 0) = false) (h1 : s_solve_asked_1_0 (s0 1) (s1 1) (s2 1) (s3 1) (s4 1) = false) : o_solve_asked_v1 1 f0 f1 f2 f3 f4 f5 f6 f7 f8 f9 f10 f11 f12 f13 2 s0 s1 s2 s3 s4 = true ∧ s_solve_asked_v1_0 1 f0 f1 f2 f3 f4 f5 f6 f7 f8 f9 f10 f11 f12 f13 2 s0 s1 s2 s3 s4 = 0 := by
  obtain ⟨hi, hj⟩ := indexV h0 h1
  have hL : E_solve_asked_v1_L0 1 f0 f1 f2 f3 f4 f5 f6 f7 f8 f9 f10 f11 f12 f13 2 (Int.ofNat 1) (V_solve_asked_v1_L0.mk (0 : Int)) = true ∧ L_solve_asked_v1_L0 1 f0 f1 f2 f3 f4 f5 f6 f7 f8 f9 f10 f11 f12 f13 2 (Int.ofNat 1) (V_solve_asked_v1_L0.mk (0 : Int)) = step_solve_asked_v1_L0 1 f0 f1 f2 f3 f4 f5 f6 f7 f8 f9 f10 f11 f12 f13 2 (Int.ofNat 1) (V_solve_asked_v1_L0.mk (0 : Int)) := by
    refine loop1 (mrg_t rfl (mrg_t rfl rfl)) ?_ (loop0 rfl rfl)
    show (bif (!(ieq (s_rows_Check_0 (f0 0) (f1 0) (f2 0) (f3 0) (f4 0) (f5 0) (f6 0) (f7 0) (f8 0) (f9 0) (f10 0) (f11 0) (f12 0) (f13 0) 1 2) 0)) then false else true) = true
    rw [hc]; rfl
  constructor
  · unfold o_solve_asked_v1
    rw [hL.1, hL.2, hi]
    exact mrg_t rfl (mrg_t rfl (mrg_t rfl rfl))
  · unfold s_solve_asked_v1_0
    rw [hL.2, hj]; rfl
theorem same1 (a : Nat) : s_ref01_Same_0 a a = true := by
  unfold s_ref01_Same_0
  rw [ieq_self]; cases nanb a <;> rfl
theorem is1 (a : Nat) : s_ref02_Is_0 a a = true := ieq_self _
theorem sameRow1 (r2 r3 r4 r5 r6 r7 : Nat) : s_ref21_SameRow_0 0 1 r2 r3 r4 r5 r6 r7 0 0 9218868437227405312 0 (-1) 0 0 1 r2 r3 r4 r5 r6 r7 0 0 9218868437227405312 0 (-1) 0 = true := by
  unfold s_ref21_SameRow_0 s_ref02_Same_0
  have hs : ∀ k : Nat → Nat, s_ref01_SameAll_0 k k = true := by
    intro k; unfold s_ref01_SameAll_0; simp only [same1, Bool.not_true, Bool.or_self, cond_false]
  rw [hs, is1, is1, is1, is1]; rfl
theorem sameRows1 (r2 r3 r4 r5 r6 r7 : Nat) : o_ref21_SameRows 1 (fun j0 => (0 : Int)) (fun j0 => (1 : Int)) (fun j0 => r2) (fun j0 => r3) (fun j0 => r4) (fun j0 => r5) (fun j0 => r6) (fun j0 => r7) (fun j0 => 0) (fun j0 => 0) (fun j0 => 9218868437227405312) (fun j0 => 0) (fun j0 => (-1 : Int)) (fun j0 => 0) (fun j0 => (0 : Int)) (fun j0 => (1 : Int)) (fun j0 => r2) (fun j0 => r3) (fun j0 => r4) (fun j0 => r5) (fun j0 => r6) (fun j0 => r7) (fun j0 => 0) (fun j0 => 0) (fun j0 => 9218868437227405312) (fun j0 => 0) (fun j0 => (-1 : Int)) (fun j0 => 0) = true ∧ s_ref21_SameRows_0 1 (fun j0 => (0 : Int)) (fun j0 => (1 : Int)) (fun j0 => r2) (fun j0 => r3) (fun j0 => r4) (fun j0 => r5) (fun j0 => r6) (fun j0 => r7) (fun j0 => 0) (fun j0 => 0) (fun j0 => 9218868437227405312) (fun j0 => 0) (fun j0 => (-1 : Int)) (fun j0 => 0) (fun j0 => (0 : Int)) (fun j0 => (1 : Int)) (fun j0 => r2) (fun j0 => r3) (fun j0 => r4) (fun j0 => r5) (fun j0 => r6) (fun j0 => r7) (fun j0 => 0) (fun j0 => 0) (fun j0 => 9218868437227405312) (fun j0 => 0) (fun j0 => (-1 : Int)) (fun j0 => 0) = true := by
  have hL : E_ref21_SameRows_L0 1 (fun j0 => (0 : Int)) (fun j0 => (1 : Int)) (fun j0 => r2) (fun j0 => r3) (fun j0 => r4) (fun j0 => r5) (fun j0 => r6) (fun j0 => r7) (fun j0 => 0) (fun j0 => 0) (fun j0 => 9218868437227405312) (fun j0 => 0) (fun j0 => (-1 : Int)) (fun j0 => 0) (fun j0 => (0 : Int)) (fun j0 => (1 : Int)) (fun j0 => r2) (fun j0 => r3) (fun j0 => r4) (fun j0 => r5) (fun j0 => r6) (fun j0 => r7) (fun j0 => 0) (fun j0 => 0) (fun j0 => 9218868437227405312) (fun j0 => 0) (fun j0 => (-1 : Int)) (fun j0 => 0) (V_ref21_SameRows_L0.mk (0 : Int)) = true ∧ L_ref21_SameRows_L0 1 (fun j0 => (0 : Int)) (fun j0 => (1 : Int)) (fun j0 => r2) (fun j0 => r3) (fun j0 => r4) (fun j0 => r5) (fun j0 => r6) (fun j0 => r7) (fun j0 => 0) (fun j0 => 0) (fun j0 => 9218868437227405312) (fun j0 => 0) (fun j0 => (-1 : Int)) (fun j0 => 0) (fun j0 => (0 : Int)) (fun j0 => (1 : Int)) (fun j0 => r2) (fun j0 => r3) (fun j0 => r4) (fun j0 => r5) (fun j0 => r6) (fun j0 => r7) (fun j0 => 0) (fun j0 => 0) (fun j0 => 9218868437227405312) (fun j0 => 0) (fun j0 => (-1 : Int)) (fun j0 => 0) (V_ref21_SameRows_L0.mk (0 : Int)) = step_ref21_SameRows_L0 1 (fun j0 => (0 : Int)) (fun j0 => (1 : Int)) (fun j0 => r2) (fun j0 => r3) (fun j0 => r4) (fun j0 => r5) (fun j0 => r6) (fun j0 => r7) (fun j0 => 0) (fun j0 => 0) (fun j0 => 9218868437227405312) (fun j0 => 0) (fun j0 => (-1 : Int)) (fun j0 => 0) (fun j0 => (0 : Int)) (fun j0 => (1 : Int)) (fun j0 => r2) (fun j0 => r3) (fun j0 => r4) (fun j0 => r5) (fun j0 => r6) (fun j0 => r7) (fun j0 => 0) (fun j0 => 0) (fun j0 => 9218868437227405312) (fun j0 => 0) (fun j0 => (-1 : Int)) (fun j0 => 0) (V_ref21_SameRows_L0.mk (0 : Int)) := by
    refine loop1 (mrg_t rfl (mrg_t rfl rfl)) ?_ (loop0 rfl rfl)
    show (bif (!(s_ref21_SameRow_0 0 1 r2 r3 r4 r5 r6 r7 0 0 9218868437227405312 0 (-1) 0 0 1 r2 r3 r4 r5 r6 r7 0 0 9218868437227405312 0 (-1) 0)) then false else true) = true
    rw [sameRow1]; rfl
  constructor
  · unfold o_ref21_SameRows
    rw [hL.1, hL.2]; exact mrg_t rfl (mrg_t rfl rfl)
  · unfold s_ref21_SameRows_0
    rw [hL.2]; rfl
theorem leftV {f0 f1 : Nat → Int} {f2 f3 f4 f5 f6 f7 f8 f9 f10 f11 : Nat → Nat} {f12 : Nat → Int} {f13 : Nat → Nat} {s0 s1 s2 s3 s4 : Nat → Nat} {r2 r3 r4 r5 r6 r7 a0 a1 a2 a3 a4 b0 b1 b2 b3 b4 : Nat} {P c1 c2 c3 c4 c5 c6 : Nat} (h : Mild r2 r3 r4 r5 r6 r7 a0 a1 a2 a3 a4 b0 b1 b2 b3 b4) (fP : fin P = true) (cP : CF P) (e0 : f0 0 = 0) (e1 : f1 0 = 1) (e2 : f2 0 = r2) (e3 : f3 0 = r3) (e4 : f4 0 = r4) (e5 : f5 0 = r5) (e6 : f6 0 = r6) (e7 : f7 0 = r7) (e8 : f8 0 = 0) (e9 : f9 0 = 0) (e10 : f10 0 = 9218868437227405312) (e11 : f11 0 = P) (e12 : f12 0 = -1) (e13 : f13 0 = 0) (g0 : s0 0 = a0) (g1 : s1 0 = a1) (g2 : s2 0 = c1) (g3 : s3 0 = c2) (g4 : s4 0 = c3) (t0 : s0 1 = b0) (t1 : s1 1 = b1) (t2 : s2 1 = c4) (t3 : s3 1 = c5) (t4 : s4 1 = c6) : o_solve_Left 1 f0 f1 f2 f3 f4 f5 f6 f7 f8 f9 f10 f11 f12 f13 2 s0 s1 s2 s3 s4 = true ∧ s_solve_Left_1 1 f0 f1 f2 f3 f4 f5 f6 f7 f8 f9 f10 f11 f12 f13 2 s0 s1 s2 s3 s4 = 0 ∧ s_solve_Left_0 1 f0 f1 f2 f3 f4 f5 f6 f7 f8 f9 f10 f11 f12 f13 2 s0 s1 s2 s3 s4 = (bif ((!(flt 0 (s_rows_Weight_0 0 1 r2 r3 r4 r5 r6 r7 0 0 9218868437227405312 P (-1) 0 a0 a1 c1 c2 c3 b0 b1 c4 c5 c6))) || (((flt (fsub 0 (s_rows_Speed_0 0 1 r2 r3 r4 r5 r6 r7 0 0 9218868437227405312 P (-1) 0 a0 a1 c1 c2 c3 b0 b1 c4 c5 c6)) 0) && (fle P 0)) || ((flt 0 (fsub 0 (s_rows_Speed_0 0 1 r2 r3 r4 r5 r6 r7 0 0 9218868437227405312 P (-1) 0 a0 a1 c1 c2 c3 b0 b1 c4 c5 c6))) && (fle 9218868437227405312 P)))) then 0 else (s_num_Most_float64__0 0 (fabs (fsub 0 (s_rows_Speed_0 0 1 r2 r3 r4 r5 r6 r7 0 0 9218868437227405312 P (-1) 0 a0 a1 c1 c2 c3 b0 b1 c4 c5 c6))))) := by
  have hc : s_rows_Check_0 (f0 0) (f1 0) (f2 0) (f3 0) (f4 0) (f5 0) (f6 0) (f7 0) (f8 0) (f9 0) (f10 0) (f11 0) (f12 0) (f13 0) 1 2 = 0 := by rw [e0, e1, e2, e3, e4, e5, e6, e7, e8, e9, e10, e11, e12, e13]; exact check1 h fP cP
  obtain ⟨hi, hj⟩ := askedV (s0 := s0) (s1 := s1) (s2 := s2) (s3 := s3) (s4 := s4) hc (by rw [g0, g1, g2, g3, g4]; exact mayA h) (by rw [t0, t1, t2, t3, t4]; exact mayB h)
  have hL : E_solve_Left_L0 2 s0 s1 s2 s3 s4 1 f0 f1 f2 f3 f4 f5 f6 f7 f8 f9 f10 f11 f12 f13 (Int.ofNat 1) (V_solve_Left_L0.mk 0 (0 : Int)) = true ∧ L_solve_Left_L0 2 s0 s1 s2 s3 s4 1 f0 f1 f2 f3 f4 f5 f6 f7 f8 f9 f10 f11 f12 f13 (Int.ofNat 1) (V_solve_Left_L0.mk 0 (0 : Int)) = step_solve_Left_L0 2 s0 s1 s2 s3 s4 1 f0 f1 f2 f3 f4 f5 f6 f7 f8 f9 f10 f11 f12 f13 (Int.ofNat 1) (V_solve_Left_L0.mk 0 (0 : Int)) := by
    have h4 : (((ile (0 : Int) (f1 0)) && (Nat.blt (Int.toNat (f1 0)) 2)) && (((ile (0 : Int) (f0 0)) && (Nat.blt (Int.toNat (f0 0)) 2)) && ((ile (0 : Int) 0) && (Nat.blt (Int.toNat 0) 1)))) = true := by
      rw [e0, e1]; rfl
    have h29 : ∀ {q : Bool}, _ := fun {q} => mrg_t (q := q) h4 h4
    refine loop1 ?_ rfl (loop0 ((mrgB_eq _ _ _).trans rfl) rfl)
    exact mrg_t rfl (mrg_t (mrg_t h4 (mrg_t h29 (mrg_t h29 h29))) (mrg_t h4 (mrg_t h29 (mrg_t h29 h29))))
  refine ⟨?_, ?_, ?_⟩
  · unfold o_solve_Left
    rw [hi, hj, hL.1]; rfl
  · unfold s_solve_Left_1
    rw [hj]; rfl
  · unfold s_solve_Left_0
    rw [hj, hL.2]
    unfold step_solve_Left_L0
    simp only [show Int.toNat 0 = 0 from rfl, show Int.toNat 1 = 1 from rfl, e0, e1, e2, e3, e4, e5, e6, e7, e8, e9, e10, e11, e12, e13, g0, g1, g2, g3, g4, t0, t1, t2, t3, t4, ieq_self, Bool.not_true, cond_false]
def two (x y u v : Nat) : Nat → Nat := fun j0 => (bif (Nat.beq j0 1) then y else (bif (Nat.beq j0 0) then x else (bif (Nat.beq j0 0) then u else v)))
theorem two0 (x y u v : Nat) : two x y u v 0 = x := rfl
theorem two1 (x y u v : Nat) : two x y u v 1 = y := rfl
noncomputable def X0 (r2 r3 r4 r5 r6 r7 a0 a1 a2 a3 a4 b0 b1 b2 b3 b4 : Nat) : V_solve_All_L0 := V_solve_All_L0.mk (0 : Int) 1 (fun j0 => (0 : Int)) (fun j0 => (1 : Int)) (fun j0 => r2) (fun j0 => r3) (fun j0 => r4) (fun j0 => r5) (fun j0 => r6) (fun j0 => r7) (fun j0 => 0) (fun j0 => 0) (fun j0 => 9218868437227405312) (fun j0 => 0) (fun j0 => (-1 : Int)) (fun j0 => 0) 2 (fun j0 => (bif (ieq (s_rows_Warm_10 0 1 r2 r3 r4 r5 r6 r7 0 0 9218868437227405312 0 (-1) 0 a0 a1 a2 a3 a4 b0 b1 b2 b3 b4) 0) then (bif (Nat.beq j0 1) then (s_rows_Warm_5 0 1 r2 r3 r4 r5 r6 r7 0 0 9218868437227405312 0 (-1) 0 a0 a1 a2 a3 a4 b0 b1 b2 b3 b4) else (bif (Nat.beq j0 0) then (s_rows_Warm_0 0 1 r2 r3 r4 r5 r6 r7 0 0 9218868437227405312 0 (-1) 0 a0 a1 a2 a3 a4 b0 b1 b2 b3 b4) else (bif (Nat.beq j0 0) then a0 else b0))) else (bif (Nat.beq j0 0) then a0 else b0))) (fun j0 => (bif (ieq (s_rows_Warm_10 0 1 r2 r3 r4 r5 r6 r7 0 0 9218868437227405312 0 (-1) 0 a0 a1 a2 a3 a4 b0 b1 b2 b3 b4) 0) then (bif (Nat.beq j0 1) then (s_rows_Warm_6 0 1 r2 r3 r4 r5 r6 r7 0 0 9218868437227405312 0 (-1) 0 a0 a1 a2 a3 a4 b0 b1 b2 b3 b4) else (bif (Nat.beq j0 0) then (s_rows_Warm_1 0 1 r2 r3 r4 r5 r6 r7 0 0 9218868437227405312 0 (-1) 0 a0 a1 a2 a3 a4 b0 b1 b2 b3 b4) else (bif (Nat.beq j0 0) then a1 else b1))) else (bif (Nat.beq j0 0) then a1 else b1))) (fun j0 => (bif (ieq (s_rows_Warm_10 0 1 r2 r3 r4 r5 r6 r7 0 0 9218868437227405312 0 (-1) 0 a0 a1 a2 a3 a4 b0 b1 b2 b3 b4) 0) then (bif (Nat.beq j0 1) then (s_rows_Warm_7 0 1 r2 r3 r4 r5 r6 r7 0 0 9218868437227405312 0 (-1) 0 a0 a1 a2 a3 a4 b0 b1 b2 b3 b4) else (bif (Nat.beq j0 0) then (s_rows_Warm_2 0 1 r2 r3 r4 r5 r6 r7 0 0 9218868437227405312 0 (-1) 0 a0 a1 a2 a3 a4 b0 b1 b2 b3 b4) else (bif (Nat.beq j0 0) then a2 else b2))) else (bif (Nat.beq j0 0) then a2 else b2))) (fun j0 => (bif (ieq (s_rows_Warm_10 0 1 r2 r3 r4 r5 r6 r7 0 0 9218868437227405312 0 (-1) 0 a0 a1 a2 a3 a4 b0 b1 b2 b3 b4) 0) then (bif (Nat.beq j0 1) then (s_rows_Warm_8 0 1 r2 r3 r4 r5 r6 r7 0 0 9218868437227405312 0 (-1) 0 a0 a1 a2 a3 a4 b0 b1 b2 b3 b4) else (bif (Nat.beq j0 0) then (s_rows_Warm_3 0 1 r2 r3 r4 r5 r6 r7 0 0 9218868437227405312 0 (-1) 0 a0 a1 a2 a3 a4 b0 b1 b2 b3 b4) else (bif (Nat.beq j0 0) then a3 else b3))) else (bif (Nat.beq j0 0) then a3 else b3))) (fun j0 => (bif (ieq (s_rows_Warm_10 0 1 r2 r3 r4 r5 r6 r7 0 0 9218868437227405312 0 (-1) 0 a0 a1 a2 a3 a4 b0 b1 b2 b3 b4) 0) then (bif (Nat.beq j0 1) then (s_rows_Warm_9 0 1 r2 r3 r4 r5 r6 r7 0 0 9218868437227405312 0 (-1) 0 a0 a1 a2 a3 a4 b0 b1 b2 b3 b4) else (bif (Nat.beq j0 0) then (s_rows_Warm_4 0 1 r2 r3 r4 r5 r6 r7 0 0 9218868437227405312 0 (-1) 0 a0 a1 a2 a3 a4 b0 b1 b2 b3 b4) else (bif (Nat.beq j0 0) then a4 else b4))) else (bif (Nat.beq j0 0) then a4 else b4)))
noncomputable def X1 (r2 r3 r4 r5 r6 r7 a0 a1 a2 a3 a4 b0 b1 b2 b3 b4 : Nat) : V_solve_All_L0 := V_solve_All_L0.mk (0 : Int) 1 (fun j0 => (0 : Int)) (fun j0 => (1 : Int)) (fun j0 => r2) (fun j0 => r3) (fun j0 => r4) (fun j0 => r5) (fun j0 => r6) (fun j0 => r7) (fun j0 => 0) (fun j0 => 0) (fun j0 => 9218868437227405312) (fun j0 => 0) (fun j0 => (-1 : Int)) (fun j0 => 0) 2 (two a0 b0 a0 b0) (two a1 b1 a1 b1) (two (wy a0 0 r2 a2) (wy b0 0 r4 b2) a2 b2) (two (wy a0 0 r3 a3) (wy b0 0 r5 b3) a3 b3) (two (tn a1 0 r6 a4) (tn b1 0 r7 b4) a4 b4)
theorem x0_eq {r2 r3 r4 r5 r6 r7 a0 a1 a2 a3 a4 b0 b1 b2 b3 b4 : Nat} (h : Mild r2 r3 r4 r5 r6 r7 a0 a1 a2 a3 a4 b0 b1 b2 b3 b4) : X0 r2 r3 r4 r5 r6 r7 a0 a1 a2 a3 a4 b0 b1 b2 b3 b4 = X1 r2 r3 r4 r5 r6 r7 a0 a1 a2 a3 a4 b0 b1 b2 b3 b4 := by
  unfold X0 X1
  rw [wrm_10 h, wrm_0 h, wrm_1 h, wrm_2 h, wrm_3 h, wrm_4 h, wrm_5 h, wrm_6 h, wrm_7 h, wrm_8 h, wrm_9 h]
  rfl
theorem askedAll {r2 r3 r4 r5 r6 r7 a0 a1 a2 a3 a4 b0 b1 b2 b3 b4 : Nat} (h : Mild r2 r3 r4 r5 r6 r7 a0 a1 a2 a3 a4 b0 b1 b2 b3 b4) : s_solve_asked_0 (fun j0 => (0 : Int)) (fun j0 => (1 : Int)) (fun j0 => r2) (fun j0 => r3) (fun j0 => r4) (fun j0 => r5) (fun j0 => r6) (fun j0 => r7) (fun j0 => 0) (fun j0 => 0) (fun j0 => 9218868437227405312) (fun j0 => 0) (fun j0 => (-1 : Int)) (fun j0 => 0) (fun j0 => (bif (Nat.beq j0 0) then a0 else b0)) (fun j0 => (bif (Nat.beq j0 0) then a1 else b1)) (fun j0 => (bif (Nat.beq j0 0) then a2 else b2)) (fun j0 => (bif (Nat.beq j0 0) then a3 else b3)) (fun j0 => (bif (Nat.beq j0 0) then a4 else b4)) = 0 := by
  show (bif (!(ieq (s_rows_Check_0 0 1 r2 r3 r4 r5 r6 r7 0 0 9218868437227405312 0 (-1) 0 1 2) 0)) then (s_rows_Check_0 0 1 r2 r3 r4 r5 r6 r7 0 0 9218868437227405312 0 (-1) 0 1 2) else (bif (!(ile 0 (bif (s_solve_asked_1_0 a0 a1 a2 a3 a4 || s_solve_asked_1_0 b0 b1 b2 b3 b4) then (bif s_solve_asked_1_0 a0 a1 a2 a3 a4 then (0 : Int) else 1) else (-1)))) then (0 : Int) else 200)) = 0
  rw [check1 h (by decide) cf0, mayA h, mayB h]; rfl
theorem all0 {r2 r3 r4 r5 r6 r7 a0 a1 a2 a3 a4 b0 b1 b2 b3 b4 : Nat} (h : Mild r2 r3 r4 r5 r6 r7 a0 a1 a2 a3 a4 b0 b1 b2 b3 b4) : E_solve_All_L0 0 (X0 r2 r3 r4 r5 r6 r7 a0 a1 a2 a3 a4 b0 b1 b2 b3 b4) = true ∧ L_solve_All_L0 0 (X0 r2 r3 r4 r5 r6 r7 a0 a1 a2 a3 a4 b0 b1 b2 b3 b4) = X1 r2 r3 r4 r5 r6 r7 a0 a1 a2 a3 a4 b0 b1 b2 b3 b4 := by
  rw [x0_eq h]
  exact loop0 ((mrgB_eq _ _ _).trans rfl) rfl
theorem all1 {r2 r3 r4 r5 r6 r7 a0 a1 a2 a3 a4 b0 b1 b2 b3 b4 : Nat} (h : Mild r2 r3 r4 r5 r6 r7 a0 a1 a2 a3 a4 b0 b1 b2 b3 b4) : E_solve_All_L0 1 (X0 r2 r3 r4 r5 r6 r7 a0 a1 a2 a3 a4 b0 b1 b2 b3 b4) = true ∧ L_solve_All_L0 1 (X0 r2 r3 r4 r5 r6 r7 a0 a1 a2 a3 a4 b0 b1 b2 b3 b4) = step_solve_All_L0 1 (X1 r2 r3 r4 r5 r6 r7 a0 a1 a2 a3 a4 b0 b1 b2 b3 b4) := by
  rw [x0_eq h]
  refine loop1 ?_ rfl (loop0 ((mrgB_eq _ _ _).trans rfl) rfl)
  unfold ok_solve_All_L0
  dsimp only
  refine mrg_t rfl (and_of (and_of allB_true allB_true) (and_of (and_of allB_true allB_true) ?_))
  repeat' (first | rfl | exact (mrgB_eq _ _ _).trans rfl | refine and_of ?_ ?_ | refine mrg_t ?_ ?_)
theorem o_all0 {r2 r3 r4 r5 r6 r7 a0 a1 a2 a3 a4 b0 b1 b2 b3 b4 : Nat} (h : Mild r2 r3 r4 r5 r6 r7 a0 a1 a2 a3 a4 b0 b1 b2 b3 b4) : o_solve_All (fun j0 => (0 : Int)) (fun j0 => (1 : Int)) (fun j0 => r2) (fun j0 => r3) (fun j0 => r4) (fun j0 => r5) (fun j0 => r6) (fun j0 => r7) (fun j0 => 0) (fun j0 => 0) (fun j0 => 9218868437227405312) (fun j0 => 0) (fun j0 => (-1 : Int)) (fun j0 => 0) (fun j0 => (bif (Nat.beq j0 0) then a0 else b0)) (fun j0 => (bif (Nat.beq j0 0) then a1 else b1)) (fun j0 => (bif (Nat.beq j0 0) then a2 else b2)) (fun j0 => (bif (Nat.beq j0 0) then a3 else b3)) (fun j0 => (bif (Nat.beq j0 0) then a4 else b4)) 0 = true := by
  have hE := (all0 h).1
  unfold o_solve_All
  refine mrg_t rfl (mrg_t rfl (and_of ?_ ?_))
  · exact mrg_t rfl rfl
  · exact hE
theorem o_all1 {r2 r3 r4 r5 r6 r7 a0 a1 a2 a3 a4 b0 b1 b2 b3 b4 : Nat} (h : Mild r2 r3 r4 r5 r6 r7 a0 a1 a2 a3 a4 b0 b1 b2 b3 b4) : o_solve_All (fun j0 => (0 : Int)) (fun j0 => (1 : Int)) (fun j0 => r2) (fun j0 => r3) (fun j0 => r4) (fun j0 => r5) (fun j0 => r6) (fun j0 => r7) (fun j0 => 0) (fun j0 => 0) (fun j0 => 9218868437227405312) (fun j0 => 0) (fun j0 => (-1 : Int)) (fun j0 => 0) (fun j0 => (bif (Nat.beq j0 0) then a0 else b0)) (fun j0 => (bif (Nat.beq j0 0) then a1 else b1)) (fun j0 => (bif (Nat.beq j0 0) then a2 else b2)) (fun j0 => (bif (Nat.beq j0 0) then a3 else b3)) (fun j0 => (bif (Nat.beq j0 0) then a4 else b4)) 1 = true := by
  have hE := (all1 h).1
  unfold o_solve_All
  refine mrg_t rfl (mrg_t rfl (and_of ?_ ?_))
  · exact mrg_t rfl rfl
  · exact hE
end Go.Proofs.Ytofpjfohijljgaa
