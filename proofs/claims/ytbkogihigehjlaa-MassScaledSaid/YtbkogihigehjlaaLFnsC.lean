/- The contracts of the functions that these laws reach, loops too, printed by a program of this work: each says what the Go function gives, up to which NaN. -/
import Derived.Test.YtbkogihigehjlaaLFnsCA
set_option linter.unusedVariables false
set_option linter.unusedSimpArgs false
set_option maxRecDepth 100000
set_option maxHeartbeats 4000000
noncomputable section
namespace Go.Proofs.Ytbkogihigehjlaa
open Go.Lst
open Go.Sim (fadd fsub fmul fdiv fneg feq flt fle fsqrt cn nanb fabs fcps fsame feq_self cps_cn fabs_cn)
-- tumble/mass.checked
theorem ann_mass_checked : FnOk Try.prog false 0 Try.f40 Ann.no := (fnNo _)
def s_mass_checked_0 (e g z j : Nat) : Nat := (bif (!(ieq (s_mass_Check_0 e g z j) (0 : Int))) then 0 else e)
def s_mass_checked_1 (e g z j : Nat) : Nat := (bif (!(ieq (s_mass_Check_0 e g z j) (0 : Int))) then 0 else g)
def s_mass_checked_2 (e g z j : Nat) : Nat := (bif (!(ieq (s_mass_Check_0 e g z j) (0 : Int))) then 0 else z)
def s_mass_checked_3 (e g z j : Nat) : Nat := (bif (!(ieq (s_mass_Check_0 e g z j) (0 : Int))) then 0 else j)
def s_mass_checked_4 (e g z j : Nat) : Int := (bif (!(ieq (s_mass_Check_0 e g z j) (0 : Int))) then (s_mass_Check_0 e g z j) else (0 : Int))
theorem e_mass_checked (e g z j : Nat) : outB (evFnM Try.prog false menv83 [] [] 96 Ann.no Try.f40 [AV.agg [AV.float e, AV.float g, AV.float z, AV.float j]] []) = some (true, AV.tup [AV.agg [AV.float (s_mass_checked_0 e g z j), AV.float (s_mass_checked_1 e g z j), AV.float (s_mass_checked_2 e g z j), AV.float (s_mass_checked_3 e g z j)], AV.int .i64 (s_mass_checked_4 e g z j)]) := by kernel_rfl
def S_mass_checked : List AV → Option (Ob × AV)
  | [AV.agg [AV.float e, AV.float g, AV.float z, AV.float j]] => some (Ob.tt, AV.tup [AV.agg [AV.float (s_mass_checked_0 e g z j), AV.float (s_mass_checked_1 e g z j), AV.float (s_mass_checked_2 e g z j), AV.float (s_mass_checked_3 e g z j)], AV.int .i64 (s_mass_checked_4 e g z j)])
  | _ => none
theorem t_mass_checked : SOkM Try.prog false (40, fun args => match S_mass_checked args with | some (o, v) => some (o, v, []) | none => none) := SOkM.flat (N := 96) menv83_ok Try.func40 ann_mass_checked Try.call40 fun args o v h ho => by
  unfold S_mass_checked at h
  split at h
  · rename_i e g z j
    cases h
    have ho2 := ho
    have this := show outB (evFnM Try.prog false menv83 [] [] 96 Ann.no Try.f40 [AV.agg [AV.float e, AV.float g, AV.float z, AV.float j]] []) = _ from e_mass_checked e g z j
    exact ⟨this, rfl⟩
  · cases h
def c_mass_checked : SFM := fun args => match S_mass_checked args with | some (o, v) => some (o, v, []) | none => none
theorem c_mass_checked_ok : SOkM Try.prog false (40, c_mass_checked) := t_mass_checked
def mss80 : List (FuncId × SFM) := (40, c_mass_checked) :: mss79
def menv84 : EnvM := mkEnvM mxs mss80 mws5
theorem mss80_ok : All (SOkM Try.prog false) mss80 := All.cons c_mass_checked_ok mss79_ok
theorem menv84_ok : menv84.Ok Try.prog false := mkEnvM_ok mxs_ok mss80_ok mws5_ok
-- tumble/mass.Of
theorem ann_mass_Of : FnOk Try.prog false 0 Try.f23 Ann.no := (fnNo _)
def s_mass_Of_0 (e : Int) (g l : Nat) (p q : Nat → Nat) (j : Nat) : Nat := (bif (!(ieq (s_shape_Check_0 e g l p q) (0 : Int))) then 0 else (bif ((!(s_num_Within_float64__0 j 4787326403894837248)) || (flt j 0)) then 0 else (bif (!(ieq (bif (ieq e (1 : Int)) then (0 : Int) else (bif (ieq e (2 : Int)) then (0 : Int) else (s_mass_polygon_4 e g l p q j))) (0 : Int))) then 0 else (s_mass_checked_0 (bif (ieq e (1 : Int)) then (s_mass_circle_0 e g l p q j) else (bif (ieq e (2 : Int)) then (s_mass_capsule_0 e g l p q j) else (s_mass_polygon_0 e g l p q j))) (bif (ieq e (1 : Int)) then (s_mass_circle_1 e g l p q j) else (bif (ieq e (2 : Int)) then (s_mass_capsule_1 e g l p q j) else (s_mass_polygon_1 e g l p q j))) (bif (ieq e (1 : Int)) then (s_mass_circle_2 e g l p q j) else (bif (ieq e (2 : Int)) then (s_mass_capsule_2 e g l p q j) else (s_mass_polygon_2 e g l p q j))) (bif (ieq e (1 : Int)) then (s_mass_circle_3 e g l p q j) else (bif (ieq e (2 : Int)) then (s_mass_capsule_3 e g l p q j) else (s_mass_polygon_3 e g l p q j)))))))
def s_mass_Of_1 (e : Int) (g l : Nat) (p q : Nat → Nat) (j : Nat) : Nat := (bif (!(ieq (s_shape_Check_0 e g l p q) (0 : Int))) then 0 else (bif ((!(s_num_Within_float64__0 j 4787326403894837248)) || (flt j 0)) then 0 else (bif (!(ieq (bif (ieq e (1 : Int)) then (0 : Int) else (bif (ieq e (2 : Int)) then (0 : Int) else (s_mass_polygon_4 e g l p q j))) (0 : Int))) then 0 else (s_mass_checked_1 (bif (ieq e (1 : Int)) then (s_mass_circle_0 e g l p q j) else (bif (ieq e (2 : Int)) then (s_mass_capsule_0 e g l p q j) else (s_mass_polygon_0 e g l p q j))) (bif (ieq e (1 : Int)) then (s_mass_circle_1 e g l p q j) else (bif (ieq e (2 : Int)) then (s_mass_capsule_1 e g l p q j) else (s_mass_polygon_1 e g l p q j))) (bif (ieq e (1 : Int)) then (s_mass_circle_2 e g l p q j) else (bif (ieq e (2 : Int)) then (s_mass_capsule_2 e g l p q j) else (s_mass_polygon_2 e g l p q j))) (bif (ieq e (1 : Int)) then (s_mass_circle_3 e g l p q j) else (bif (ieq e (2 : Int)) then (s_mass_capsule_3 e g l p q j) else (s_mass_polygon_3 e g l p q j)))))))
def s_mass_Of_2 (e : Int) (g l : Nat) (p q : Nat → Nat) (j : Nat) : Nat := (bif (!(ieq (s_shape_Check_0 e g l p q) (0 : Int))) then 0 else (bif ((!(s_num_Within_float64__0 j 4787326403894837248)) || (flt j 0)) then 0 else (bif (!(ieq (bif (ieq e (1 : Int)) then (0 : Int) else (bif (ieq e (2 : Int)) then (0 : Int) else (s_mass_polygon_4 e g l p q j))) (0 : Int))) then 0 else (s_mass_checked_2 (bif (ieq e (1 : Int)) then (s_mass_circle_0 e g l p q j) else (bif (ieq e (2 : Int)) then (s_mass_capsule_0 e g l p q j) else (s_mass_polygon_0 e g l p q j))) (bif (ieq e (1 : Int)) then (s_mass_circle_1 e g l p q j) else (bif (ieq e (2 : Int)) then (s_mass_capsule_1 e g l p q j) else (s_mass_polygon_1 e g l p q j))) (bif (ieq e (1 : Int)) then (s_mass_circle_2 e g l p q j) else (bif (ieq e (2 : Int)) then (s_mass_capsule_2 e g l p q j) else (s_mass_polygon_2 e g l p q j))) (bif (ieq e (1 : Int)) then (s_mass_circle_3 e g l p q j) else (bif (ieq e (2 : Int)) then (s_mass_capsule_3 e g l p q j) else (s_mass_polygon_3 e g l p q j)))))))
def s_mass_Of_3 (e : Int) (g l : Nat) (p q : Nat → Nat) (j : Nat) : Nat := (bif (!(ieq (s_shape_Check_0 e g l p q) (0 : Int))) then 0 else (bif ((!(s_num_Within_float64__0 j 4787326403894837248)) || (flt j 0)) then 0 else (bif (!(ieq (bif (ieq e (1 : Int)) then (0 : Int) else (bif (ieq e (2 : Int)) then (0 : Int) else (s_mass_polygon_4 e g l p q j))) (0 : Int))) then 0 else (s_mass_checked_3 (bif (ieq e (1 : Int)) then (s_mass_circle_0 e g l p q j) else (bif (ieq e (2 : Int)) then (s_mass_capsule_0 e g l p q j) else (s_mass_polygon_0 e g l p q j))) (bif (ieq e (1 : Int)) then (s_mass_circle_1 e g l p q j) else (bif (ieq e (2 : Int)) then (s_mass_capsule_1 e g l p q j) else (s_mass_polygon_1 e g l p q j))) (bif (ieq e (1 : Int)) then (s_mass_circle_2 e g l p q j) else (bif (ieq e (2 : Int)) then (s_mass_capsule_2 e g l p q j) else (s_mass_polygon_2 e g l p q j))) (bif (ieq e (1 : Int)) then (s_mass_circle_3 e g l p q j) else (bif (ieq e (2 : Int)) then (s_mass_capsule_3 e g l p q j) else (s_mass_polygon_3 e g l p q j)))))))
def s_mass_Of_4 (e : Int) (g l : Nat) (p q : Nat → Nat) (j : Nat) : Int := let x0 := bif (ieq e (1 : Int)) then (0 : Int) else (bif (ieq e (2 : Int)) then (0 : Int) else (s_mass_polygon_4 e g l p q j)); let x1 := s_shape_Check_0 e g l p q; (bif (!(ieq x1 (0 : Int))) then x1 else (bif ((!(s_num_Within_float64__0 j 4787326403894837248)) || (flt j 0)) then (5 : Int) else (bif (!(ieq x0 (0 : Int))) then x0 else (s_mass_checked_4 (bif (ieq e (1 : Int)) then (s_mass_circle_0 e g l p q j) else (bif (ieq e (2 : Int)) then (s_mass_capsule_0 e g l p q j) else (s_mass_polygon_0 e g l p q j))) (bif (ieq e (1 : Int)) then (s_mass_circle_1 e g l p q j) else (bif (ieq e (2 : Int)) then (s_mass_capsule_1 e g l p q j) else (s_mass_polygon_1 e g l p q j))) (bif (ieq e (1 : Int)) then (s_mass_circle_2 e g l p q j) else (bif (ieq e (2 : Int)) then (s_mass_capsule_2 e g l p q j) else (s_mass_polygon_2 e g l p q j))) (bif (ieq e (1 : Int)) then (s_mass_circle_3 e g l p q j) else (bif (ieq e (2 : Int)) then (s_mass_capsule_3 e g l p q j) else (s_mass_polygon_3 e g l p q j)))))))
def q_mass_Of (e : Int) (g l : Nat) (p q : Nat → Nat) (j : Nat) : Bool := (let x0 := (allB fun _ => true) && (o_shape_Check e g l p q); let x1 := !(s_num_Within_float64__0 j 4787326403894837248); let x2 := mrgB x1 x0 x0; let x3 := mrgB (ieq e (1 : Int)) (((allB fun _ => true) && (Nat.blt 0 l)) && x2) (mrgB (ieq e (2 : Int)) (((allB fun _ => true) && ((Nat.blt 1 l) && (Nat.blt 0 l))) && x2) (((allB fun _ => true) && (o_mass_polygon e g l p q j)) && x2)); (mrgB (!(ieq (s_shape_Check_0 e g l p q) (0 : Int))) x0 (mrgB (x1 || (flt j 0)) x2 (mrgB (!(ieq (bif (ieq e (1 : Int)) then (0 : Int) else (bif (ieq e (2 : Int)) then (0 : Int) else (s_mass_polygon_4 e g l p q j))) (0 : Int))) x3 x3))))
theorem e_mass_Of (e : Int) (g l : Nat) (p q : Nat → Nat) (j : Nat) : outB (evFnM Try.prog false menv84 [] [] 96 Ann.no Try.f23 [AV.agg [AV.int .u8 e, AV.float g, AV.view l 2 (fun i0 => [AV.float (p i0), AV.float (q i0)])], AV.float j] []) = some (q_mass_Of e g l p q j, AV.tup [AV.agg [AV.float (s_mass_Of_0 e g l p q j), AV.float (s_mass_Of_1 e g l p q j), AV.float (s_mass_Of_2 e g l p q j), AV.float (s_mass_Of_3 e g l p q j)], AV.int .i64 (s_mass_Of_4 e g l p q j)]) := by kernel_rfl
def o_mass_Of (e : Int) (g l : Nat) (p q : Nat → Nat) (j : Nat) : Bool := let x0 := o_shape_Check e g l p q; let x1 := !(s_num_Within_float64__0 j 4787326403894837248); let x2 := mrgB x1 x0 x0; let x3 := mrgB (ieq e (1 : Int)) ((Nat.blt 0 l) && x2) (mrgB (ieq e (2 : Int)) (((Nat.blt 1 l) && (Nat.blt 0 l)) && x2) ((o_mass_polygon e g l p q j) && x2)); (mrgB (!(ieq (s_shape_Check_0 e g l p q) (0 : Int))) x0 (mrgB (x1 || (flt j 0)) x2 (mrgB (!(ieq (bif (ieq e (1 : Int)) then (0 : Int) else (bif (ieq e (2 : Int)) then (0 : Int) else (s_mass_polygon_4 e g l p q j))) (0 : Int))) x3 x3)))
def S_mass_Of : List AV → Option (Ob × AV)
  | [AV.agg [AV.int .u8 e, AV.float g, AV.view l 2 G], AV.float j] => some (Ob.both (Ob.bit (allB fun i => isNrm [Ck.f, Ck.f] (G i))) (Ob.bit (o_mass_Of e g l (fL G 0) (fL G 1) j)), AV.tup [AV.agg [AV.float (s_mass_Of_0 e g l (fL G 0) (fL G 1) j), AV.float (s_mass_Of_1 e g l (fL G 0) (fL G 1) j), AV.float (s_mass_Of_2 e g l (fL G 0) (fL G 1) j), AV.float (s_mass_Of_3 e g l (fL G 0) (fL G 1) j)], AV.int .i64 (s_mass_Of_4 e g l (fL G 0) (fL G 1) j)])
  | _ => none
theorem ob_mass_Of (e : Int) (g l : Nat) (p q : Nat → Nat) (j : Nat) (ho : o_mass_Of e g l p q j = true) : q_mass_Of e g l p q j = true := by
  unfold q_mass_Of
  unfold o_mass_Of at ho
  simp only [allB_true, eqT_self, mrgB_self, Bool.true_and, Bool.and_true] at ho ⊢
  exact ho
theorem t_mass_Of : SOkM Try.prog false (23, fun args => match S_mass_Of args with | some (o, v) => some (o, v, []) | none => none) := SOkM.flat (N := 96) menv84_ok Try.func23 ann_mass_Of Try.call23 fun args o v h ho => by
  unfold S_mass_Of at h
  split at h
  · rename_i e g l G j
    cases h
    rw [Ob.both_ok, Bool.and_eq_true] at ho
    obtain ⟨hn, ho2⟩ := ho
    have n0 := hn
    simp only [Ob.ok] at n0
    replace n0 := nrm_fun n0
    have this := show outB (evFnM Try.prog false menv84 [] [] 96 Ann.no Try.f23 [AV.agg [AV.int .u8 e, AV.float g, AV.view l 2 (fun i => mkN [Ck.f, Ck.f] (G i) 0)], AV.float j] []) = _ from e_mass_Of e g l (fL G 0) (fL G 1) j
    rw [(ob_mass_Of e g l (fL G 0) (fL G 1) j ho2)] at this
    rw [n0] at this
    exact ⟨this, rfl⟩
  · cases h
def c_mass_Of : SFM := fun args => match S_mass_Of args with | some (o, v) => some (o, v, []) | none => none
theorem c_mass_Of_ok : SOkM Try.prog false (23, c_mass_Of) := t_mass_Of
def mss81 : List (FuncId × SFM) := (23, c_mass_Of) :: mss80
def menv85 : EnvM := mkEnvM mxs mss81 mws5
theorem mss81_ok : All (SOkM Try.prog false) mss81 := All.cons c_mass_Of_ok mss80_ok
theorem menv85_ok : menv85.Ok Try.prog false := mkEnvM_ok mxs_ok mss81_ok mws5_ok
-- tumble/tumblelaw08.MassScaled
def mss82 : List (FuncId × SFM) := (66, (inlSM Try.prog false menv85 [8, 12, 44] [] 96 .no Try.f66)) :: mss81
def menv86 : EnvM := mkEnvM mxs mss82 mws5
theorem mss82_ok : All (SOkM Try.prog false) mss82 := All.cons (SOkM.inl menv85_ok Try.func66 (fnNo _) Try.call66) mss81_ok
theorem menv86_ok : menv86.Ok Try.prog false := mkEnvM_ok mxs_ok mss82_ok mws5_ok
def mss83 : List (FuncId × SFM) := (31, (inlSM Try.prog false menv86 [] [] 96 .no Try.f31)) :: mss82
def menv87 : EnvM := mkEnvM mxs mss83 mws5
theorem mss83_ok : All (SOkM Try.prog false) mss83 := All.cons (SOkM.inl menv86_ok Try.func31 (fnNo _) Try.call31) mss82_ok
theorem menv87_ok : menv87.Ok Try.prog false := mkEnvM_ok mxs_ok mss83_ok mws5_ok
-- a loop of tumble/tumblelaw08.MassScaled
structure V_law08_MassScaled_L0 where
  v0 : Int
  v1 : Nat
  v2 : (Nat → Nat)
  v3 : (Nat → Nat)
def tpl_law08_MassScaled_L0 : List AV := (AV.top :: AV.nul :: AV.top :: AV.top :: AV.nul :: AV.top :: AV.top :: AV.top :: AV.top :: AV.nul :: AV.nul :: AV.nul :: AV.nul :: AV.nul :: tpA 143 ([]))
def cts_law08_MassScaled_L0 : List CT := [CT.keep, CT.flat [AV.nul, AV.nul, AV.lst 2 0 2 0 0], CT.keep]
def phs_law08_MassScaled_L0 : List Src := [⟨none, 0, 26, [AV.float 0, AV.float 0]⟩]
def T_law08_MassScaled_L0 (u : Nat) (t : Bool) (m B : Nat) (K : Int) (I E : Nat) (F D : Nat → Nat) (J : Nat) (x : V_law08_MassScaled_L0) (F0 F1 : Nat → List AV) : List AV × Heap := ((AV.top :: AV.float u :: AV.top :: AV.top :: AV.ptr (some ⟨0, 0, .lit 0⟩) :: AV.top :: AV.top :: AV.top :: AV.top :: AV.bool t :: AV.float m :: AV.float B :: AV.ptr (some ⟨1, 0, .lit 0⟩) :: AV.int .i64 x.v0 :: tpA 143 ([])), [⟨.flat [AV.int .u8 K, AV.float I, AV.view E 2 F0], 47, 0⟩, ⟨.flat [AV.int .u8 K, AV.float J, AV.lst 2 0 2 x.v1 x.v1], 47, 0⟩, ⟨.sym x.v1 2 F1, 26, 0⟩])
def sh_law08_MassScaled_L0 (u : Nat) (t : Bool) (m B : Nat) (K : Int) (I E : Nat) (F D : Nat → Nat) (J : Nat) (x : V_law08_MassScaled_L0) : List AV × Heap := T_law08_MassScaled_L0 u t m B K I E F D J x (fun j0 => [AV.float (F j0), AV.float (D j0)]) (fun j0 => [AV.float (x.v2 j0), AV.float (x.v3 j0)])
def step_law08_MassScaled_L0 (m E : Nat) (F D : Nat → Nat) (x : V_law08_MassScaled_L0) : V_law08_MassScaled_L0 := V_law08_MassScaled_L0.mk (IntKind.wrap .i64 (x.v0 + (1 : Int))) (x.v1 + 1) (fun j0 => (bif (Nat.blt j0 x.v1) then (x.v2 j0) else (s_vec_Scale_0 (F (Int.toNat x.v0)) (D (Int.toNat x.v0)) m))) (fun j0 => (bif (Nat.blt j0 x.v1) then (x.v3 j0) else (s_vec_Scale_1 (F (Int.toNat x.v0)) (D (Int.toNat x.v0)) m)))
def go_law08_MassScaled_L0 (m E : Nat) (F D : Nat → Nat) (x : V_law08_MassScaled_L0) : Bool := (bif (bif (!(ilt x.v0 (Int.ofNat E))) then false else (((!(feq (fabs (F (Int.toNat x.v0))) 0)) && (flt (fabs (F (Int.toNat x.v0))) 4336966441157787648)) || ((!(feq (fabs (D (Int.toNat x.v0))) 0)) && (flt (fabs (D (Int.toNat x.v0))) 4336966441157787648)))) then false else (bif (!(ilt x.v0 (Int.ofNat E))) then false else true))
def ok_law08_MassScaled_L0 (m E : Nat) (F D : Nat → Nat) (x : V_law08_MassScaled_L0) : Bool := let x0 := (ile (0 : Int) x.v0) && (Nat.blt (Int.toNat x.v0) E); let x1 := x0 && x0; let x2 := fabs (F (Int.toNat x.v0)); let x3 := !(feq x2 0); let x4 := mrgB x3 x1 x1; let x5 := fabs (D (Int.toNat x.v0)); let x6 := !(feq x5 0); let x7 := x3 && (flt x2 4336966441157787648); let x8 := mrgB x7 x4 (mrgB x6 x4 x4); let x9 := !(ilt x.v0 (Int.ofNat E)); (mrgB (bif x9 then false else (x7 || (x6 && (flt x5 4336966441157787648)))) x8 (mrgB x9 true (((Nat.ble x.v1 x.v1) && (Nat.ble ((x.v1 + 1) * 16) 140737488355328)) && (x0 && x8))))
def L_law08_MassScaled_L0 (m E : Nat) (F D : Nat → Nat) (x : V_law08_MassScaled_L0) : V_law08_MassScaled_L0 := lastL (ok_law08_MassScaled_L0 m E F D) (go_law08_MassScaled_L0 m E F D) (step_law08_MassScaled_L0 m E F D) x
def E_law08_MassScaled_L0 (m E : Nat) (F D : Nat → Nat) (x : V_law08_MassScaled_L0) : Bool := endsL (ok_law08_MassScaled_L0 m E F D) (go_law08_MassScaled_L0 m E F D) (step_law08_MassScaled_L0 m E F D) x
theorem all_law08_MassScaled_L0 (u : Nat) (t : Bool) (m B : Nat) (K : Int) (I E : Nat) (F D : Nat → Nat) (J : Nat) (x : V_law08_MassScaled_L0) : rnd Try.prog false menv87 [] [] 96 Ann.no (subC [1, 1, 1, 1, 1, 1, 1, 0, 1, 0, 0] (codeOf Try.f8)) 0 [⟨some 0, 0, 0, []⟩, ⟨some 1, 0, 0, []⟩, ⟨some 2, 0, 0, []⟩] tpl_law08_MassScaled_L0 cts_law08_MassScaled_L0 (true :: false :: true :: true :: false :: true :: true :: true :: true :: false :: false :: false :: false :: tpB 144 ([])) [false, true] (sh_law08_MassScaled_L0 u t m B K I E F D J x) = (true, true, go_law08_MassScaled_L0 m E F D x, ok_law08_MassScaled_L0 m E F D x, true, sh_law08_MassScaled_L0 u t m B K I E F D J (step_law08_MassScaled_L0 m E F D x), true) := by kernel_rfl
def fam_law08_MassScaled_L0 (u : Nat) (t : Bool) (m B : Nat) (K : Int) (I E : Nat) (F D : Nat → Nat) (J : Nat) : Fam Try.prog false menv87 [] [] 96 0 Ann.no (subC [1, 1, 1, 1, 1, 1, 1, 0, 1, 0, 0] (codeOf Try.f8)) V_law08_MassScaled_L0 where
  sh := sh_law08_MassScaled_L0 u t m B K I E F D J
  ok := ok_law08_MassScaled_L0 m E F D
  go := go_law08_MassScaled_L0 m E F D
  step := step_law08_MassScaled_L0 m E F D
  chg := (true :: false :: true :: true :: false :: true :: true :: true :: true :: false :: false :: false :: false :: tpB 144 ([]))
  chgH := [false, true]
  tpl := tpl_law08_MassScaled_L0
  cts := cts_law08_MassScaled_L0
  keep := 0
  srcs := [⟨some 0, 0, 0, []⟩, ⟨some 1, 0, 0, []⟩, ⟨some 2, 0, 0, []⟩]
  ann := (annNo (subC [1, 1, 1, 1, 1, 1, 1, 0, 1, 0, 0] (codeOf Try.f8)))
  le := by kernel_rfl
  kept := by kernel_rfl
  keptB := by kernel_rfl
  all := all_law08_MassScaled_L0 u t m B K I E F D J
  len := fun x => by kernel_rfl
  head := fun x y => by kernel_rfl
  con := fun x y => by kernel_rfl
  conH := fun x y => by kernel_rfl
def F_law08_MassScaled_L0 : St → Option Ch := fun s => cond (Nat.beq s.tm.length 157 && Nat.beq s.H.length 2) (tkTops 1 (alL tpl_law08_MassScaled_L0 s.tm) fun t0 => tkCons t0 fun g t1 => tkF g fun s0 => tkTops 2 t1 fun t2 => tkCons t2 fun j t3 => tkPtr 0 0 0 j <| tkTops 4 t3 fun t4 => tkCons t4 fun Q t5 => tkB Q fun s1 => tkCons t5 fun Y t6 => tkF Y fun s2 => tkCons t6 fun R t7 => tkF R fun s3 => tkCons t7 fun P t8 => tkPtr 1 0 0 P <| tkCons t8 fun S t9 => tkI .i64 S fun s4 => tkTops 143 t9 fun t10 => tkNil t10 <| tkCons (alH cts_law08_MassScaled_L0 (s.H ++ List.map phan phs_law08_MassScaled_L0)) fun b11 t11 => tkFlat 47 0 b11 fun m11 => tkCons m11 fun T t12 => tkI .u8 T fun s5 => tkCons t12 fun W t13 => tkF W fun s6 => tkCons t13 fun ah t14 => tkView 2 ah fun s7 f0 => tkNil t14 <| tkCons t11 fun b15 t15 => tkFlat 47 0 b15 fun m15 => tkCons m15 fun U t16 => tkI .u8 U fun s10 => tkCons t16 fun Z t17 => tkF Z fun s11 => tkCons t17 fun ai t18 => tkLst 2 0 2 ai fun s12 s13 => tkNil t18 <| tkCons t15 fun b19 t19 => tkSym 26 0 2 b19 fun s14 f1 => tkNil t19 <| Fam.out (fam_law08_MassScaled_L0 s0 s1 s2 s3 s5 s6 s7 (fL f0 0) (fL f0 1) s11) s (((((allB fun i => isNrm [Ck.f, Ck.f] (f0 i)) && (allB fun i => isNrm [Ck.f, Ck.f] (f1 i))) && (eqT s10 s5)) && (eqT s13 s12)) && (eqT s14 s12)) (V_law08_MassScaled_L0.mk s4 s12 (fL f1 0) (fL f1 1))) none
theorem F_law08_MassScaled_L0_ok : ∀ s ch, F_law08_MassScaled_L0 s = some ch → AllI s ch ∧ LoopSpec Try.prog false 0 (subC [1, 1, 1, 1, 1, 1, 1, 0, 1, 0, 0] (codeOf Try.f8)) s (sel ch) := by
  intro s ch h
  unfold F_law08_MassScaled_L0 at h
  obtain ⟨hl, h0⟩ := cond_some h rfl
  clear h
  obtain ⟨hl, hb⟩ := and_beq2 hl
  obtain ⟨t0, e0, h1⟩ := tkTops_some h0
  obtain ⟨g, t1, rfl, h2⟩ := tkCons_some h1
  obtain ⟨s0, rfl, h3⟩ := tkF_some h2
  obtain ⟨t2, rfl, h4⟩ := tkTops_some h3
  obtain ⟨j, t3, rfl, h5⟩ := tkCons_some h4
  obtain ⟨rfl, h6⟩ := tkPtr_some h5
  obtain ⟨t4, rfl, h7⟩ := tkTops_some h6
  obtain ⟨Q, t5, rfl, h8⟩ := tkCons_some h7
  obtain ⟨s1, rfl, h9⟩ := tkB_some h8
  obtain ⟨Y, t6, rfl, h10⟩ := tkCons_some h9
  obtain ⟨s2, rfl, h11⟩ := tkF_some h10
  obtain ⟨R, t7, rfl, h12⟩ := tkCons_some h11
  obtain ⟨s3, rfl, h13⟩ := tkF_some h12
  obtain ⟨P, t8, rfl, h14⟩ := tkCons_some h13
  obtain ⟨rfl, h15⟩ := tkPtr_some h14
  obtain ⟨S, t9, rfl, h16⟩ := tkCons_some h15
  obtain ⟨s4, rfl, h17⟩ := tkI_some h16
  obtain ⟨t10, rfl, h18⟩ := tkTops_some h17
  obtain ⟨rfl, h19⟩ := tkNil_some h18
  obtain ⟨b11, t11, eH, h20⟩ := tkCons_some h19
  obtain ⟨m11, rfl, h21⟩ := tkFlat_some h20
  obtain ⟨T, t12, rfl, h22⟩ := tkCons_some h21
  obtain ⟨s5, rfl, h23⟩ := tkI_some h22
  obtain ⟨W, t13, rfl, h24⟩ := tkCons_some h23
  obtain ⟨s6, rfl, h25⟩ := tkF_some h24
  obtain ⟨ah, t14, rfl, h26⟩ := tkCons_some h25
  obtain ⟨s7, f0, rfl, h27⟩ := tkView_some h26
  obtain ⟨rfl, h28⟩ := tkNil_some h27
  obtain ⟨b15, t15, rfl, h29⟩ := tkCons_some h28
  obtain ⟨m15, rfl, h30⟩ := tkFlat_some h29
  obtain ⟨U, t16, rfl, h31⟩ := tkCons_some h30
  obtain ⟨s10, rfl, h32⟩ := tkI_some h31
  obtain ⟨Z, t17, rfl, h33⟩ := tkCons_some h32
  obtain ⟨s11, rfl, h34⟩ := tkF_some h33
  obtain ⟨ai, t18, rfl, h35⟩ := tkCons_some h34
  obtain ⟨s12, s13, rfl, h36⟩ := tkLst_some h35
  obtain ⟨rfl, h37⟩ := tkNil_some h36
  obtain ⟨b19, t19, rfl, h38⟩ := tkCons_some h37
  obtain ⟨s14, f1, rfl, h39⟩ := tkSym_some h38
  obtain ⟨rfl, h40⟩ := tkNil_some h39
  refine Fam.spec menv87_ok (fam_law08_MassScaled_L0 s0 s1 s2 s3 s5 s6 s7 (fL f0 0) (fL f0 1) s11) (phs := phs_law08_MassScaled_L0) (hl.trans (by kernel_rfl)) (hb.trans (by kernel_rfl)) ?_ ?_ h40
  · rw [← hdr_alH cts_law08_MassScaled_L0 (s.H ++ List.map phan phs_law08_MassScaled_L0), eH]; kernel_rfl
  · intro hq
    simp only [Bool.and_eq_true] at hq
    obtain ⟨⟨⟨⟨hq0, hq1⟩, hq2⟩, hq3⟩, hq4⟩ := hq
    have n0 := nrm_fun hq0
    have n1 := nrm_fun hq1
    have hx := eqT_eq hq2; subst s10
    have hx := eqT_eq hq3; subst s13
    have hx := eqT_eq hq4; subst s14
    show sh_law08_MassScaled_L0 s0 s1 s2 s3 s5 s6 s7 (fL f0 0) (fL f0 1) s11 (V_law08_MassScaled_L0.mk s4 s12 (fL f1 0) (fL f1 1)) = (alL tpl_law08_MassScaled_L0 s.tm, alH cts_law08_MassScaled_L0 (s.H ++ List.map phan phs_law08_MassScaled_L0))
    rw [e0, eH]
    refine Eq.trans (show sh_law08_MassScaled_L0 s0 s1 s2 s3 s5 s6 s7 (fL f0 0) (fL f0 1) s11 (V_law08_MassScaled_L0.mk s4 s12 (fL f1 0) (fL f1 1)) = T_law08_MassScaled_L0 s0 s1 s2 s3 s5 s6 s7 (fL f0 0) (fL f0 1) s11 (V_law08_MassScaled_L0.mk s4 s12 (fL f1 0) (fL f1 1)) (fun i => mkN [Ck.f, Ck.f] (f0 i) 0) (fun i => mkN [Ck.f, Ck.f] (f1 i) 0) by kernel_rfl) ?_
    rw [n0, n1]
    kernel_rfl
theorem ann_law08_MassScaled : FnOk Try.prog false 0 Try.f8 (Ann.two Ann.no (Ann.two Ann.no (Ann.two Ann.no (Ann.two Ann.no (Ann.two Ann.no (Ann.two Ann.no (Ann.two Ann.no (Ann.two (Ann.two Ann.no (Ann.one (Ann.loop F_law08_MassScaled_L0))) Ann.no)))))))) := (fnOk_of (c := codeOf Try.f8) (by kernel_rfl) (annSeq (a := (subC [0] (codeOf Try.f8))) (b := (subC [1] (codeOf Try.f8))) (by kernel_rfl) (annNo (subC [0] (codeOf Try.f8))) (annSeq (a := (subC [1, 0] (codeOf Try.f8))) (b := (subC [1, 1] (codeOf Try.f8))) (by kernel_rfl) (annNo (subC [1, 0] (codeOf Try.f8))) (annSeq (a := (subC [1, 1, 0] (codeOf Try.f8))) (b := (subC [1, 1, 1] (codeOf Try.f8))) (by kernel_rfl) (annNo (subC [1, 1, 0] (codeOf Try.f8))) (annSeq (a := (subC [1, 1, 1, 0] (codeOf Try.f8))) (b := (subC [1, 1, 1, 1] (codeOf Try.f8))) (by kernel_rfl) (annNo (subC [1, 1, 1, 0] (codeOf Try.f8))) (annSeq (a := (subC [1, 1, 1, 1, 0] (codeOf Try.f8))) (b := (subC [1, 1, 1, 1, 1] (codeOf Try.f8))) (by kernel_rfl) (annNo (subC [1, 1, 1, 1, 0] (codeOf Try.f8))) (annSeq (a := (subC [1, 1, 1, 1, 1, 0] (codeOf Try.f8))) (b := (subC [1, 1, 1, 1, 1, 1] (codeOf Try.f8))) (by kernel_rfl) (annNo (subC [1, 1, 1, 1, 1, 0] (codeOf Try.f8))) (annSeq (a := (subC [1, 1, 1, 1, 1, 1, 0] (codeOf Try.f8))) (b := (subC [1, 1, 1, 1, 1, 1, 1] (codeOf Try.f8))) (by kernel_rfl) (annNo (subC [1, 1, 1, 1, 1, 1, 0] (codeOf Try.f8))) (annSeq (a := (subC [1, 1, 1, 1, 1, 1, 1, 0] (codeOf Try.f8))) (b := (subC [1, 1, 1, 1, 1, 1, 1, 1] (codeOf Try.f8))) (by kernel_rfl) (annSeq (a := (subC [1, 1, 1, 1, 1, 1, 1, 0, 0] (codeOf Try.f8))) (b := (subC [1, 1, 1, 1, 1, 1, 1, 0, 1] (codeOf Try.f8))) (by kernel_rfl) (annNo (subC [1, 1, 1, 1, 1, 1, 1, 0, 0] (codeOf Try.f8))) (annBlock (a := (subC [1, 1, 1, 1, 1, 1, 1, 0, 1, 0] (codeOf Try.f8))) (i := 0) (by kernel_rfl) (annLoop (a := (subC [1, 1, 1, 1, 1, 1, 1, 0, 1, 0, 0] (codeOf Try.f8))) (by kernel_rfl) F_law08_MassScaled_L0_ok))) (annNo (subC [1, 1, 1, 1, 1, 1, 1, 1] (codeOf Try.f8))))))))))))
def T_law08_MassScaled (n : Int) (r M : Nat) (a0_2_0 a0_2_1 : Nat → Nat) (O : Nat) (p V : Int) : Bool := let x0 := IntKind.wrap .i64 ((IntKind.wrap .i64 ((Int.tmod p (21 : Int)) + (0 : Int))) + (0 : Int)); let x1 := ilt x0 (-1022 : Int); let x2 := bif (ilt x0 (-1075 : Int)) then 0 else (bif (ilt (1023 : Int) x0) then 9218868437227405312 else (fmul (bif x1 then 4368491638549381120 else 4607182418800017408) (cn (Int.toNat (IntKind.wrap .u64 ((((0 : Int) % (18446744073709551616 : Int)).toNat ||| ((IntKind.wrap .u64 ((IntKind.wrap .u64 (IntKind.wrap .i64 ((bif x1 then (IntKind.wrap .i64 (x0 + (53 : Int))) else x0) + (1023 : Int)))) * (4503599627370496 : Int))) % (18446744073709551616 : Int)).toNat : Nat) : Int)))))); let x3 := s_mass_Of_3 n r M a0_2_0 a0_2_1 O; let x4 := s_mass_Of_2 n r M a0_2_0 a0_2_1 O; let x5 := IntKind.wrap .i64 ((IntKind.wrap .i64 ((Int.tmod V (21 : Int)) + (0 : Int))) + (0 : Int)); let x6 := ilt x5 (-1022 : Int); let x7 := bif (ilt x5 (-1075 : Int)) then 0 else (bif (ilt (1023 : Int) x5) then 9218868437227405312 else (fmul (bif x6 then 4368491638549381120 else 4607182418800017408) (cn (Int.toNat (IntKind.wrap .u64 ((((0 : Int) % (18446744073709551616 : Int)).toNat ||| ((IntKind.wrap .u64 ((IntKind.wrap .u64 (IntKind.wrap .i64 ((bif x6 then (IntKind.wrap .i64 (x5 + (53 : Int))) else x5) + (1023 : Int)))) * (4503599627370496 : Int))) % (18446744073709551616 : Int)).toNat : Nat) : Int)))))); let x8 := fmul O x7; let x9 : V_law08_MassScaled_L0 := (L_law08_MassScaled_L0 x2 M a0_2_0 a0_2_1 (V_law08_MassScaled_L0.mk (0 : Int) 0 (fun j0 => 0) (fun j0 => 0))); let x10 : (Nat → Nat) := (x9.v3); let x11 : (Nat → Nat) := (x9.v2); let x12 := x9.v1; let x13 := fmul r x2; let x14 := x9.v0; let x15 := Int.toNat x14; let x16 := fabs (a0_2_1 x15); let x17 := fabs (a0_2_0 x15); (bif (!(s_law08_alive_0)) then false else (bif (!(ieq (s_shape_Check_0 n r M a0_2_0 a0_2_1) (0 : Int))) then (s_law08_alive_0) else (bif (bif (!(ilt x14 (Int.ofNat M))) then false else (((!(feq x17 0)) && (flt x17 4336966441157787648)) || ((!(feq x16 0)) && (flt x16 4336966441157787648)))) then (s_law08_alive_0) else (bif (((!(ieq (s_mass_Of_4 n r M a0_2_0 a0_2_1 O) (0 : Int))) || (!(ieq (s_mass_Of_4 n x13 x12 x11 x10 x8) (0 : Int)))) || ((!(feq O 0)) && (flt O 4336966441157787648))) then (s_law08_alive_0) else ((((s_law08_alive_0) && (feq (s_mass_Of_0 n x13 x12 x11 x10 x8) (fmul (fmul (fmul (s_mass_Of_0 n r M a0_2_0 a0_2_1 O) x7) x2) x2))) && (feq (s_mass_Of_1 n x13 x12 x11 x10 x8) (fmul (fmul (fmul (fmul (fmul (s_mass_Of_1 n r M a0_2_0 a0_2_1 O) x7) x2) x2) x2) x2))) && ((feq (s_mass_Of_2 n x13 x12 x11 x10 x8) (s_vec_Scale_0 x4 x3 x2)) && ((feq (s_mass_Of_3 n x13 x12 x11 x10 x8) (s_vec_Scale_1 x4 x3 x2)) && true)))))))
def O_law08_MassScaled (n : Int) (r M : Nat) (a0_2_0 a0_2_1 : Nat → Nat) (O : Nat) (p V : Int) : Bool := let x0 := IntKind.wrap .i64 ((IntKind.wrap .i64 ((Int.tmod p (21 : Int)) + (0 : Int))) + (0 : Int)); let x1 := ilt x0 (-1022 : Int); let x2 := IntKind.wrap .u64 ((((0 : Int) % (18446744073709551616 : Int)).toNat ||| ((IntKind.wrap .u64 ((IntKind.wrap .u64 (IntKind.wrap .i64 ((bif x1 then (IntKind.wrap .i64 (x0 + (53 : Int))) else x0) + (1023 : Int)))) * (4503599627370496 : Int))) % (18446744073709551616 : Int)).toNat : Nat) : Int); let x3 := ilt (1023 : Int) x0; let x4 := ilt x0 (-1075 : Int); let x5 := bif x4 then 0 else (bif x3 then 9218868437227405312 else (fmul (bif x1 then 4368491638549381120 else 4607182418800017408) (cn (Int.toNat x2)))); let x6 := (allB fun _ => true) && (o_shape_Check n r M a0_2_0 a0_2_1); let x7 := IntKind.wrap .i64 ((IntKind.wrap .i64 ((Int.tmod V (21 : Int)) + (0 : Int))) + (0 : Int)); let x8 := ilt x7 (-1022 : Int); let x9 := IntKind.wrap .u64 ((((0 : Int) % (18446744073709551616 : Int)).toNat ||| ((IntKind.wrap .u64 ((IntKind.wrap .u64 (IntKind.wrap .i64 ((bif x8 then (IntKind.wrap .i64 (x7 + (53 : Int))) else x7) + (1023 : Int)))) * (4503599627370496 : Int))) % (18446744073709551616 : Int)).toNat : Nat) : Int); let x10 := ilt (1023 : Int) x7; let x11 := ilt x7 (-1075 : Int); let x12 := ((mrgB x11 true (mrgB x10 true ((u64ok x9) && true))) && ((mrgB x4 true (mrgB x3 true ((u64ok x2) && true))) && x6)) && ((((((allB fun _ => true) && (allB fun _ => true)) && (eqT n n)) && (eqT 0 0)) && (eqT 0 0)) && (E_law08_MassScaled_L0 x5 M a0_2_0 a0_2_1 (V_law08_MassScaled_L0.mk (0 : Int) 0 (fun j0 => 0) (fun j0 => 0)))); let x13 := bif x11 then 0 else (bif x10 then 9218868437227405312 else (fmul (bif x8 then 4368491638549381120 else 4607182418800017408) (cn (Int.toNat x9)))); let x14 := fmul O x13; let x15 : V_law08_MassScaled_L0 := (L_law08_MassScaled_L0 x5 M a0_2_0 a0_2_1 (V_law08_MassScaled_L0.mk (0 : Int) 0 (fun j0 => 0) (fun j0 => 0))); let x16 : (Nat → Nat) := (x15.v3); let x17 : (Nat → Nat) := (x15.v2); let x18 := x15.v1; let x19 := fmul r x5; let x20 := ((Nat.ble x18 x18) && ((allB fun _ => true) && (o_mass_Of n x19 x18 x17 x16 x14))) && (((allB fun _ => true) && (o_mass_Of n r M a0_2_0 a0_2_1 O)) && x12); let x21 := !(ieq (s_mass_Of_4 n r M a0_2_0 a0_2_1 O) (0 : Int)); let x22 := mrgB x21 x20 x20; let x23 := !(feq O 0); let x24 := x21 || (!(ieq (s_mass_Of_4 n x19 x18 x17 x16 x14) (0 : Int))); let x25 := mrgB x24 x22 (mrgB x23 x22 x22); let x26 := mrgB (s_law08_alive_0) x25 x25; let x27 := (s_law08_alive_0) && (feq (s_mass_Of_0 n x19 x18 x17 x16 x14) (fmul (fmul (fmul (s_mass_Of_0 n r M a0_2_0 a0_2_1 O) x13) x5) x5)); let x28 := mrgB x27 x26 x26; let x29 := x15.v0; let x30 := Int.toNat x29; let x31 := fabs (a0_2_1 x30); let x32 := fabs (a0_2_0 x30); (mrgB (!(s_law08_alive_0)) true (mrgB (!(ieq (s_shape_Check_0 n r M a0_2_0 a0_2_1) (0 : Int))) x6 (mrgB (bif (!(ilt x29 (Int.ofNat M))) then false else (((!(feq x32 0)) && (flt x32 4336966441157787648)) || ((!(feq x31 0)) && (flt x31 4336966441157787648)))) x12 (mrgB (x24 || (x23 && (flt O 4336966441157787648))) x25 (mrgB (x27 && (feq (s_mass_Of_1 n x19 x18 x17 x16 x14) (fmul (fmul (fmul (fmul (fmul (s_mass_Of_1 n r M a0_2_0 a0_2_1 O) x13) x5) x5) x5) x5))) x28 x28)))))
theorem tree_law08_MassScaled (n : Int) (r M : Nat) (a0_2_0 a0_2_1 : Nat → Nat) (O : Nat) (p V : Int) : outB (evFnM Try.prog false menv87 [] [] 96 (Ann.two Ann.no (Ann.two Ann.no (Ann.two Ann.no (Ann.two Ann.no (Ann.two Ann.no (Ann.two Ann.no (Ann.two Ann.no (Ann.two (Ann.two Ann.no (Ann.one (Ann.loop F_law08_MassScaled_L0))) Ann.no)))))))) Try.f8 [AV.agg [.int .u8 n, .float r, .view M 2 (fun i0 => [AV.float (a0_2_0 i0), AV.float (a0_2_1 i0)])], AV.float O, AV.int .i64 p, AV.int .i64 V] []) = some (O_law08_MassScaled n r M a0_2_0 a0_2_1 O p V, AV.bool (T_law08_MassScaled n r M a0_2_0 a0_2_1 O p V)) := by kernel_rfl

end Go.Proofs.Ytbkogihigehjlaa
end
