/- The contracts of the functions that these laws reach, loops too, printed by a program of this work: each says what the Go function gives, up to which NaN. -/
import Derived.Test.YtofpjfohijljgaaLFnsNB
set_option linter.unusedVariables false
set_option linter.unusedSimpArgs false
set_option maxRecDepth 100000
set_option maxHeartbeats 4000000
noncomputable section
namespace Go.Proofs.Ytofpjfohijljgaa
open Go.Lst
open Go.Sim (fadd fsub fmul fdiv fneg feq flt fle fsqrt cn nanb fabs fcps fsame feq_self cps_cn fabs_cn)
-- tumble/tumbleref02.Bits
theorem ann_ref02_Bits : FnOk Try.prog false 0 Try.f49 Ann.no := (fnNo _)
def s_ref02_Bits_0 (l : Nat) : Int := (bif (!(feq l l)) then (9221120237041090561 : Int) else (Int.ofNat l))
theorem e_ref02_Bits (l : Nat) : outB (evFnM Try.prog false menv77 [] [] 96 Ann.no Try.f49 [AV.float l] []) = some ((mrgB (!(feq l l)) true (!(nanb l))), AV.int .u64 (s_ref02_Bits_0 l)) := by kernel_rfl
def S_ref02_Bits : List AV → Option (Ob × AV)
  | [AV.float l] => some (Ob.tt, AV.int .u64 (s_ref02_Bits_0 l))
  | _ => none
theorem ob_ref02_Bits (l : Nat) : (mrgB (!(feq l l)) true (!(nanb l))) = true := by show ((mrgB (!(feq l l)) true (!(nanb l)))) = true; (try simp only [feq_self]) <;> (generalize (nanb l) = q0; cases q0 <;> rfl)
theorem t_ref02_Bits : SOkM Try.prog false (49, fun args => match S_ref02_Bits args with | some (o, v) => some (o, v, []) | none => none) := SOkM.flat (N := 96) menv77_ok Try.func49 ann_ref02_Bits Try.call49 fun args o v h ho => by
  unfold S_ref02_Bits at h
  split at h
  · rename_i l
    cases h
    have ho2 := ho
    have this := show outB (evFnM Try.prog false menv77 [] [] 96 Ann.no Try.f49 [AV.float l] []) = _ from e_ref02_Bits l
    rw [(ob_ref02_Bits l)] at this
    exact ⟨this, rfl⟩
  · cases h
def c_ref02_Bits : SFM := fun args => match S_ref02_Bits args with | some (o, v) => some (o, v, []) | none => none
theorem c_ref02_Bits_ok : SOkM Try.prog false (49, c_ref02_Bits) := t_ref02_Bits
def mss77 : List (FuncId × SFM) := (49, c_ref02_Bits) :: mss76
def menv78 : EnvM := mkEnvM mxs mss77 mws2
theorem mss77_ok : All (SOkM Try.prog false) mss77 := All.cons c_ref02_Bits_ok mss76_ok
theorem menv78_ok : menv78.Ok Try.prog false := mkEnvM_ok mxs_ok mss77_ok mws2_ok
-- tumble/tumbleref02.Is
theorem ann_ref02_Is : FnOk Try.prog false 0 Try.f18 Ann.no := (fnNo _)
def s_ref02_Is_0 (l j : Nat) : Bool := (ieq (s_ref02_Bits_0 l) (s_ref02_Bits_0 j))
theorem e_ref02_Is (l j : Nat) : outB (evFnM Try.prog false menv78 [] [] 96 Ann.no Try.f18 [AV.float l, AV.float j] []) = some (true, AV.bool (s_ref02_Is_0 l j)) := by kernel_rfl
def S_ref02_Is : List AV → Option (Ob × AV)
  | [AV.float l, AV.float j] => some (Ob.tt, AV.bool (s_ref02_Is_0 l j))
  | _ => none
theorem t_ref02_Is : SOkM Try.prog false (18, fun args => match S_ref02_Is args with | some (o, v) => some (o, v, []) | none => none) := SOkM.flat (N := 96) menv78_ok Try.func18 ann_ref02_Is Try.call18 fun args o v h ho => by
  unfold S_ref02_Is at h
  split at h
  · rename_i l j
    cases h
    have ho2 := ho
    have this := show outB (evFnM Try.prog false menv78 [] [] 96 Ann.no Try.f18 [AV.float l, AV.float j] []) = _ from e_ref02_Is l j
    exact ⟨this, rfl⟩
  · cases h
def c_ref02_Is : SFM := fun args => match S_ref02_Is args with | some (o, v) => some (o, v, []) | none => none
theorem c_ref02_Is_ok : SOkM Try.prog false (18, c_ref02_Is) := t_ref02_Is
def mss78 : List (FuncId × SFM) := (18, c_ref02_Is) :: mss77
def menv79 : EnvM := mkEnvM mxs mss78 mws2
theorem mss78_ok : All (SOkM Try.prog false) mss78 := All.cons c_ref02_Is_ok mss77_ok
theorem menv79_ok : menv79.Ok Try.prog false := mkEnvM_ok mxs_ok mss78_ok mws2_ok
-- tumble/tumbleref02.Same
theorem ann_ref02_Same : FnOk Try.prog false 0 Try.f56 Ann.no := (fnNo _)
def s_ref02_Same_0 (l j e L : Nat) : Bool := ((s_ref02_Is_0 l e) && (s_ref02_Is_0 j L))
theorem e_ref02_Same (l j e L : Nat) : outB (evFnM Try.prog false menv79 [] [] 96 Ann.no Try.f56 [AV.agg [AV.float l, AV.float j], AV.agg [AV.float e, AV.float L]] []) = some (true, AV.bool (s_ref02_Same_0 l j e L)) := by kernel_rfl
def S_ref02_Same : List AV → Option (Ob × AV)
  | [AV.agg [AV.float l, AV.float j], AV.agg [AV.float e, AV.float L]] => some (Ob.tt, AV.bool (s_ref02_Same_0 l j e L))
  | _ => none
theorem t_ref02_Same : SOkM Try.prog false (56, fun args => match S_ref02_Same args with | some (o, v) => some (o, v, []) | none => none) := SOkM.flat (N := 96) menv79_ok Try.func56 ann_ref02_Same Try.call56 fun args o v h ho => by
  unfold S_ref02_Same at h
  split at h
  · rename_i l j e L
    cases h
    have ho2 := ho
    have this := show outB (evFnM Try.prog false menv79 [] [] 96 Ann.no Try.f56 [AV.agg [AV.float l, AV.float j], AV.agg [AV.float e, AV.float L]] []) = _ from e_ref02_Same l j e L
    exact ⟨this, rfl⟩
  · cases h
def c_ref02_Same : SFM := fun args => match S_ref02_Same args with | some (o, v) => some (o, v, []) | none => none
theorem c_ref02_Same_ok : SOkM Try.prog false (56, c_ref02_Same) := t_ref02_Same
def mss79 : List (FuncId × SFM) := (56, c_ref02_Same) :: mss78
def menv80 : EnvM := mkEnvM mxs mss79 mws2
theorem mss79_ok : All (SOkM Try.prog false) mss79 := All.cons c_ref02_Same_ok mss78_ok
theorem menv80_ok : menv80.Ok Try.prog false := mkEnvM_ok mxs_ok mss79_ok mws2_ok
-- tumble/tumbleref01.Same
theorem ann_ref01_Same : FnOk Try.prog false 0 Try.f85 Ann.no := (fnNo _)
def s_ref01_Same_0 (l j : Nat) : Bool := (bif ((nanb l) || (nanb j)) then ((nanb l) && (nanb j)) else (ieq (Int.ofNat l) (Int.ofNat j)))
theorem e_ref01_Same (l j : Nat) : outB (evFnM Try.prog false menv80 [] [] 96 Ann.no Try.f85 [AV.float l, AV.float j] []) = some ((mrgB ((nanb l) || (nanb j)) true ((!(nanb j)) && (!(nanb l)))), AV.bool (s_ref01_Same_0 l j)) := by kernel_rfl
def S_ref01_Same : List AV → Option (Ob × AV)
  | [AV.float l, AV.float j] => some (Ob.tt, AV.bool (s_ref01_Same_0 l j))
  | _ => none
theorem ob_ref01_Same (l j : Nat) : (mrgB ((nanb l) || (nanb j)) true ((!(nanb j)) && (!(nanb l)))) = true := by show ((mrgB ((nanb l) || (nanb j)) true ((!(nanb j)) && (!(nanb l))))) = true; (generalize (nanb j) = q0; generalize (nanb l) = q1; cases q0 <;> cases q1 <;> rfl)
theorem t_ref01_Same : SOkM Try.prog false (85, fun args => match S_ref01_Same args with | some (o, v) => some (o, v, []) | none => none) := SOkM.flat (N := 96) menv80_ok Try.func85 ann_ref01_Same Try.call85 fun args o v h ho => by
  unfold S_ref01_Same at h
  split at h
  · rename_i l j
    cases h
    have ho2 := ho
    have this := show outB (evFnM Try.prog false menv80 [] [] 96 Ann.no Try.f85 [AV.float l, AV.float j] []) = _ from e_ref01_Same l j
    rw [(ob_ref01_Same l j)] at this
    exact ⟨this, rfl⟩
  · cases h
def c_ref01_Same : SFM := fun args => match S_ref01_Same args with | some (o, v) => some (o, v, []) | none => none
theorem c_ref01_Same_ok : SOkM Try.prog false (85, c_ref01_Same) := t_ref01_Same
def mss80 : List (FuncId × SFM) := (85, c_ref01_Same) :: mss79
def menv81 : EnvM := mkEnvM mxs mss80 mws2
theorem mss80_ok : All (SOkM Try.prog false) mss80 := All.cons c_ref01_Same_ok mss79_ok
theorem menv81_ok : menv81.Ok Try.prog false := mkEnvM_ok mxs_ok mss80_ok mws2_ok
-- tumble/tumbleref01.SameAll
theorem ann_ref01_SameAll : FnOk Try.prog false 0 Try.f57 Ann.no := (fnNo _)
def s_ref01_SameAll_0 (k u : Nat → Nat) : Bool := let x0 := !(s_ref01_Same_0 (k 5) (u 5)); let x1 := !(s_ref01_Same_0 (k 4) (u 4)); let x2 := !(s_ref01_Same_0 (k 3) (u 3)); let x3 := !(s_ref01_Same_0 (k 2) (u 2)); let x4 := !(s_ref01_Same_0 (k 1) (u 1)); let x5 := !(s_ref01_Same_0 (k 0) (u 0)); (bif (x5 || (x4 || (x3 || (x2 || (x1 || (x0 || (!(s_ref01_Same_0 (k 6) (u 6))))))))) then (bif x5 then false else (bif x4 then false else (bif x3 then false else (bif x2 then false else (bif x1 then false else (x0 && false)))))) else true)
theorem e_ref01_SameAll (k u : Nat → Nat) : outB (evFnM Try.prog false menv81 [10, 14] [] 96 Ann.no Try.f57 [AV.view 7 1 (fun i0 => [AV.float (k i0)]), AV.view 7 1 (fun i0 => [AV.float (u i0)])] []) = some (true, AV.bool (s_ref01_SameAll_0 k u)) := by kernel_rfl
def S_ref01_SameAll : List AV → Option (Ob × AV)
  | [AV.view 7 1 an, AV.view 7 1 ar] => some (Ob.bit ((allB fun i => isNrm [Ck.f] (an i)) && (allB fun i => isNrm [Ck.f] (ar i))), AV.bool (s_ref01_SameAll_0 (fL an 0) (fL ar 0)))
  | _ => none
theorem t_ref01_SameAll : SOkM Try.prog false (57, fun args => match S_ref01_SameAll args with | some (o, v) => some (o, v, []) | none => none) := SOkM.flat (N := 96) menv81_ok Try.func57 ann_ref01_SameAll Try.call57 fun args o v h ho => by
  unfold S_ref01_SameAll at h
  split at h
  · rename_i an ar
    cases h
    have hn := ho
    simp only [Ob.ok, Bool.and_eq_true] at hn
    obtain ⟨n0, n1⟩ := hn
    replace n0 := nrm_fun n0
    replace n1 := nrm_fun n1
    have this := show outB (evFnM Try.prog false menv81 [10, 14] [] 96 Ann.no Try.f57 [AV.view 7 1 (fun i => mkN [Ck.f] (an i) 0), AV.view 7 1 (fun i => mkN [Ck.f] (ar i) 0)] []) = _ from e_ref01_SameAll (fL an 0) (fL ar 0)
    rw [n0, n1] at this
    exact ⟨this, rfl⟩
  · cases h
def c_ref01_SameAll : SFM := fun args => match S_ref01_SameAll args with | some (o, v) => some (o, v, []) | none => none
theorem c_ref01_SameAll_ok : SOkM Try.prog false (57, c_ref01_SameAll) := t_ref01_SameAll
def mss81 : List (FuncId × SFM) := (57, c_ref01_SameAll) :: mss80
def menv82 : EnvM := mkEnvM mxs mss81 mws2
theorem mss81_ok : All (SOkM Try.prog false) mss81 := All.cons c_ref01_SameAll_ok mss80_ok
theorem menv82_ok : menv82.Ok Try.prog false := mkEnvM_ok mxs_ok mss81_ok mws2_ok
-- tumble/tumbleref21.SameRow
theorem ann_ref21_SameRow : FnOk Try.prog false 0 Try.f29 Ann.no := (fnNo _)
def s_ref21_SameRow_0 (l j : Int) (e L V Z aa ab W X Y M : Nat) (ad : Int) (ac : Nat) (ae af : Int) (ah ai ak ag aj al am ao bv bO : Nat) (bN : Int) (bP : Nat) : Bool := (bif (((((!(ieq l ae)) || (!(ieq j af))) || (!(ieq ad bN))) || (!(s_ref02_Same_0 e L ah ai))) || (!(s_ref02_Same_0 V Z ak ag))) then false else (s_ref01_SameAll_0 (fun j0 => let x0 := (j0 - 1) - 1; let x1 := x0 - 1; let x2 := x1 - 1; (bif (Nat.beq j0 0) then aa else (bif (Nat.beq (j0 - 1) 0) then ab else (bif (Nat.beq x0 0) then W else (bif (Nat.beq x1 0) then X else (bif (Nat.beq x2 0) then Y else (bif (Nat.beq (x2 - 1) 0) then M else ac))))))) (fun j0 => let x0 := (j0 - 1) - 1; let x1 := x0 - 1; let x2 := x1 - 1; (bif (Nat.beq j0 0) then aj else (bif (Nat.beq (j0 - 1) 0) then al else (bif (Nat.beq x0 0) then am else (bif (Nat.beq x1 0) then ao else (bif (Nat.beq x2 0) then bv else (bif (Nat.beq (x2 - 1) 0) then bO else bP)))))))))
theorem e_ref21_SameRow (l j : Int) (e L V Z aa ab W X Y M : Nat) (ad : Int) (ac : Nat) (ae af : Int) (ah ai ak ag aj al am ao bv bO : Nat) (bN : Int) (bP : Nat) : outB (evFnM Try.prog false menv82 [] [] 96 Ann.no Try.f29 [AV.agg [AV.int .i64 l, AV.int .i64 j, AV.float e, AV.float L, AV.float V, AV.float Z, AV.float aa, AV.float ab, AV.float W, AV.float X, AV.float Y, AV.float M, AV.int .i64 ad, AV.float ac], AV.agg [AV.int .i64 ae, AV.int .i64 af, AV.float ah, AV.float ai, AV.float ak, AV.float ag, AV.float aj, AV.float al, AV.float am, AV.float ao, AV.float bv, AV.float bO, AV.int .i64 bN, AV.float bP]] []) = some ((mrgB (((((!(ieq l ae)) || (!(ieq j af))) || (!(ieq ad bN))) || (!(s_ref02_Same_0 e L ah ai))) || (!(s_ref02_Same_0 V Z ak ag))) true ((allB fun _ => true) && (allB fun _ => true))), AV.bool (s_ref21_SameRow_0 l j e L V Z aa ab W X Y M ad ac ae af ah ai ak ag aj al am ao bv bO bN bP)) := by kernel_rfl
def S_ref21_SameRow : List AV → Option (Ob × AV)
  | [AV.agg [AV.int .i64 l, AV.int .i64 j, AV.float e, AV.float L, AV.float V, AV.float Z, AV.float aa, AV.float ab, AV.float W, AV.float X, AV.float Y, AV.float M, AV.int .i64 ad, AV.float ac], AV.agg [AV.int .i64 ae, AV.int .i64 af, AV.float ah, AV.float ai, AV.float ak, AV.float ag, AV.float aj, AV.float al, AV.float am, AV.float ao, AV.float bv, AV.float bO, AV.int .i64 bN, AV.float bP]] => some (Ob.tt, AV.bool (s_ref21_SameRow_0 l j e L V Z aa ab W X Y M ad ac ae af ah ai ak ag aj al am ao bv bO bN bP))
  | _ => none
theorem ob_ref21_SameRow (l j : Int) (e L V Z aa ab W X Y M : Nat) (ad : Int) (ac : Nat) (ae af : Int) (ah ai ak ag aj al am ao bv bO : Nat) (bN : Int) (bP : Nat) : (mrgB (((((!(ieq l ae)) || (!(ieq j af))) || (!(ieq ad bN))) || (!(s_ref02_Same_0 e L ah ai))) || (!(s_ref02_Same_0 V Z ak ag))) true ((allB fun _ => true) && (allB fun _ => true))) = true := by (try simp only [allB_true, eqT_self, mrgB_self, Bool.true_and, Bool.and_true]) <;> first | rfl | simp
theorem t_ref21_SameRow : SOkM Try.prog false (29, fun args => match S_ref21_SameRow args with | some (o, v) => some (o, v, []) | none => none) := SOkM.flat (N := 96) menv82_ok Try.func29 ann_ref21_SameRow Try.call29 fun args o v h ho => by
  unfold S_ref21_SameRow at h
  split at h
  · rename_i l j e L V Z aa ab W X Y M ad ac ae af ah ai ak ag aj al am ao bv bO bN bP
    cases h
    have ho2 := ho
    have this := show outB (evFnM Try.prog false menv82 [] [] 96 Ann.no Try.f29 [AV.agg [AV.int .i64 l, AV.int .i64 j, AV.float e, AV.float L, AV.float V, AV.float Z, AV.float aa, AV.float ab, AV.float W, AV.float X, AV.float Y, AV.float M, AV.int .i64 ad, AV.float ac], AV.agg [AV.int .i64 ae, AV.int .i64 af, AV.float ah, AV.float ai, AV.float ak, AV.float ag, AV.float aj, AV.float al, AV.float am, AV.float ao, AV.float bv, AV.float bO, AV.int .i64 bN, AV.float bP]] []) = _ from e_ref21_SameRow l j e L V Z aa ab W X Y M ad ac ae af ah ai ak ag aj al am ao bv bO bN bP
    rw [(ob_ref21_SameRow l j e L V Z aa ab W X Y M ad ac ae af ah ai ak ag aj al am ao bv bO bN bP)] at this
    exact ⟨this, rfl⟩
  · cases h
def c_ref21_SameRow : SFM := fun args => match S_ref21_SameRow args with | some (o, v) => some (o, v, []) | none => none
theorem c_ref21_SameRow_ok : SOkM Try.prog false (29, c_ref21_SameRow) := t_ref21_SameRow
def mss82 : List (FuncId × SFM) := (29, c_ref21_SameRow) :: mss81
def menv83 : EnvM := mkEnvM mxs mss82 mws2
theorem mss82_ok : All (SOkM Try.prog false) mss82 := All.cons c_ref21_SameRow_ok mss81_ok
theorem menv83_ok : menv83.Ok Try.prog false := mkEnvM_ok mxs_ok mss82_ok mws2_ok
-- tumble/tumbleref21.SameRows
-- a loop of tumble/tumbleref21.SameRows
structure V_ref21_SameRows_L0 where
  v0 : Int
def tpl_ref21_SameRows_L0 : List AV := (AV.nul :: AV.nul :: AV.top :: AV.top :: AV.top :: AV.nul :: tpA 21 ([]))
def cts_ref21_SameRows_L0 : List CT := []
def phs_ref21_SameRows_L0 : List Src := []
def T_ref21_SameRows_L0 (au : Nat) (aw ax : Nat → Int) (ay az aA aB aV aW aX aY bj bk : Nat → Nat) (bl : Nat → Int) (bm : Nat → Nat) (bn bp : Nat → Int) (bq br bs bt bo bw bx bz bA bB : Nat → Nat) (bC : Nat → Int) (bD : Nat → Nat) (x : V_ref21_SameRows_L0) (F0 F1 : Nat → List AV) : List AV × Heap := ((AV.view au 14 F0 :: AV.view 1 14 F1 :: AV.top :: AV.top :: AV.top :: AV.int .i64 x.v0 :: tpA 21 ([])), [])
def sh_ref21_SameRows_L0 (au : Nat) (aw ax : Nat → Int) (ay az aA aB aV aW aX aY bj bk : Nat → Nat) (bl : Nat → Int) (bm : Nat → Nat) (bn bp : Nat → Int) (bq br bs bt bo bw bx bz bA bB : Nat → Nat) (bC : Nat → Int) (bD : Nat → Nat) (x : V_ref21_SameRows_L0) : List AV × Heap := T_ref21_SameRows_L0 au aw ax ay az aA aB aV aW aX aY bj bk bl bm bn bp bq br bs bt bo bw bx bz bA bB bC bD x (fun j0 => [AV.int .i64 (aw j0), AV.int .i64 (ax j0), AV.float (ay j0), AV.float (az j0), AV.float (aA j0), AV.float (aB j0), AV.float (aV j0), AV.float (aW j0), AV.float (aX j0), AV.float (aY j0), AV.float (bj j0), AV.float (bk j0), AV.int .i64 (bl j0), AV.float (bm j0)]) (fun j0 => [AV.int .i64 (bn j0), AV.int .i64 (bp j0), AV.float (bq j0), AV.float (br j0), AV.float (bs j0), AV.float (bt j0), AV.float (bo j0), AV.float (bw j0), AV.float (bx j0), AV.float (bz j0), AV.float (bA j0), AV.float (bB j0), AV.int .i64 (bC j0), AV.float (bD j0)])
def step_ref21_SameRows_L0 (au : Nat) (aw ax : Nat → Int) (ay az aA aB aV aW aX aY bj bk : Nat → Nat) (bl : Nat → Int) (bm : Nat → Nat) (bn bp : Nat → Int) (bq br bs bt bo bw bx bz bA bB : Nat → Nat) (bC : Nat → Int) (bD : Nat → Nat) (x : V_ref21_SameRows_L0) : V_ref21_SameRows_L0 := V_ref21_SameRows_L0.mk (IntKind.wrap .i64 (x.v0 + (1 : Int)))
def go_ref21_SameRows_L0 (au : Nat) (aw ax : Nat → Int) (ay az aA aB aV aW aX aY bj bk : Nat → Nat) (bl : Nat → Int) (bm : Nat → Nat) (bn bp : Nat → Int) (bq br bs bt bo bw bx bz bA bB : Nat → Nat) (bC : Nat → Int) (bD : Nat → Nat) (x : V_ref21_SameRows_L0) : Bool := let x0 := !(ilt x.v0 (Int.ofNat au)); (bif (bif x0 then false else (!(s_ref21_SameRow_0 (aw (Int.toNat x.v0)) (ax (Int.toNat x.v0)) (ay (Int.toNat x.v0)) (az (Int.toNat x.v0)) (aA (Int.toNat x.v0)) (aB (Int.toNat x.v0)) (aV (Int.toNat x.v0)) (aW (Int.toNat x.v0)) (aX (Int.toNat x.v0)) (aY (Int.toNat x.v0)) (bj (Int.toNat x.v0)) (bk (Int.toNat x.v0)) (bl (Int.toNat x.v0)) (bm (Int.toNat x.v0)) (bn (Int.toNat x.v0)) (bp (Int.toNat x.v0)) (bq (Int.toNat x.v0)) (br (Int.toNat x.v0)) (bs (Int.toNat x.v0)) (bt (Int.toNat x.v0)) (bo (Int.toNat x.v0)) (bw (Int.toNat x.v0)) (bx (Int.toNat x.v0)) (bz (Int.toNat x.v0)) (bA (Int.toNat x.v0)) (bB (Int.toNat x.v0)) (bC (Int.toNat x.v0)) (bD (Int.toNat x.v0))))) then false else (bif x0 then false else true))
def ok_ref21_SameRows_L0 (au : Nat) (aw ax : Nat → Int) (ay az aA aB aV aW aX aY bj bk : Nat → Nat) (bl : Nat → Int) (bm : Nat → Nat) (bn bp : Nat → Int) (bq br bs bt bo bw bx bz bA bB : Nat → Nat) (bC : Nat → Int) (bD : Nat → Nat) (x : V_ref21_SameRows_L0) : Bool := let x0 := ((ile (0 : Int) x.v0) && (Nat.blt (Int.toNat x.v0) 1)) && ((ile (0 : Int) x.v0) && (Nat.blt (Int.toNat x.v0) au)); let x1 := !(ilt x.v0 (Int.ofNat au)); (mrgB (bif x1 then false else (!(s_ref21_SameRow_0 (aw (Int.toNat x.v0)) (ax (Int.toNat x.v0)) (ay (Int.toNat x.v0)) (az (Int.toNat x.v0)) (aA (Int.toNat x.v0)) (aB (Int.toNat x.v0)) (aV (Int.toNat x.v0)) (aW (Int.toNat x.v0)) (aX (Int.toNat x.v0)) (aY (Int.toNat x.v0)) (bj (Int.toNat x.v0)) (bk (Int.toNat x.v0)) (bl (Int.toNat x.v0)) (bm (Int.toNat x.v0)) (bn (Int.toNat x.v0)) (bp (Int.toNat x.v0)) (bq (Int.toNat x.v0)) (br (Int.toNat x.v0)) (bs (Int.toNat x.v0)) (bt (Int.toNat x.v0)) (bo (Int.toNat x.v0)) (bw (Int.toNat x.v0)) (bx (Int.toNat x.v0)) (bz (Int.toNat x.v0)) (bA (Int.toNat x.v0)) (bB (Int.toNat x.v0)) (bC (Int.toNat x.v0)) (bD (Int.toNat x.v0))))) x0 (mrgB x1 true x0))
def L_ref21_SameRows_L0 (au : Nat) (aw ax : Nat → Int) (ay az aA aB aV aW aX aY bj bk : Nat → Nat) (bl : Nat → Int) (bm : Nat → Nat) (bn bp : Nat → Int) (bq br bs bt bo bw bx bz bA bB : Nat → Nat) (bC : Nat → Int) (bD : Nat → Nat) (x : V_ref21_SameRows_L0) : V_ref21_SameRows_L0 := lastL (ok_ref21_SameRows_L0 au aw ax ay az aA aB aV aW aX aY bj bk bl bm bn bp bq br bs bt bo bw bx bz bA bB bC bD) (go_ref21_SameRows_L0 au aw ax ay az aA aB aV aW aX aY bj bk bl bm bn bp bq br bs bt bo bw bx bz bA bB bC bD) (step_ref21_SameRows_L0 au aw ax ay az aA aB aV aW aX aY bj bk bl bm bn bp bq br bs bt bo bw bx bz bA bB bC bD) x
def E_ref21_SameRows_L0 (au : Nat) (aw ax : Nat → Int) (ay az aA aB aV aW aX aY bj bk : Nat → Nat) (bl : Nat → Int) (bm : Nat → Nat) (bn bp : Nat → Int) (bq br bs bt bo bw bx bz bA bB : Nat → Nat) (bC : Nat → Int) (bD : Nat → Nat) (x : V_ref21_SameRows_L0) : Bool := endsL (ok_ref21_SameRows_L0 au aw ax ay az aA aB aV aW aX aY bj bk bl bm bn bp bq br bs bt bo bw bx bz bA bB bC bD) (go_ref21_SameRows_L0 au aw ax ay az aA aB aV aW aX aY bj bk bl bm bn bp bq br bs bt bo bw bx bz bA bB bC bD) (step_ref21_SameRows_L0 au aw ax ay az aA aB aV aW aX aY bj bk bl bm bn bp bq br bs bt bo bw bx bz bA bB bC bD) x
theorem all_ref21_SameRows_L0 (au : Nat) (aw ax : Nat → Int) (ay az aA aB aV aW aX aY bj bk : Nat → Nat) (bl : Nat → Int) (bm : Nat → Nat) (bn bp : Nat → Int) (bq br bs bt bo bw bx bz bA bB : Nat → Nat) (bC : Nat → Int) (bD : Nat → Nat) (x : V_ref21_SameRows_L0) : rnd Try.prog false menv83 [] [] 96 Ann.no (subC [1, 1, 0, 1, 0, 0] (codeOf Try.f16)) 0 [] tpl_ref21_SameRows_L0 cts_ref21_SameRows_L0 (false :: false :: tpB 25 ([])) [] (sh_ref21_SameRows_L0 au aw ax ay az aA aB aV aW aX aY bj bk bl bm bn bp bq br bs bt bo bw bx bz bA bB bC bD x) = (true, true, go_ref21_SameRows_L0 au aw ax ay az aA aB aV aW aX aY bj bk bl bm bn bp bq br bs bt bo bw bx bz bA bB bC bD x, ok_ref21_SameRows_L0 au aw ax ay az aA aB aV aW aX aY bj bk bl bm bn bp bq br bs bt bo bw bx bz bA bB bC bD x, true, sh_ref21_SameRows_L0 au aw ax ay az aA aB aV aW aX aY bj bk bl bm bn bp bq br bs bt bo bw bx bz bA bB bC bD (step_ref21_SameRows_L0 au aw ax ay az aA aB aV aW aX aY bj bk bl bm bn bp bq br bs bt bo bw bx bz bA bB bC bD x), true) := by kernel_rfl
def fam_ref21_SameRows_L0 (au : Nat) (aw ax : Nat → Int) (ay az aA aB aV aW aX aY bj bk : Nat → Nat) (bl : Nat → Int) (bm : Nat → Nat) (bn bp : Nat → Int) (bq br bs bt bo bw bx bz bA bB : Nat → Nat) (bC : Nat → Int) (bD : Nat → Nat) : Fam Try.prog false menv83 [] [] 96 0 Ann.no (subC [1, 1, 0, 1, 0, 0] (codeOf Try.f16)) V_ref21_SameRows_L0 where
  sh := sh_ref21_SameRows_L0 au aw ax ay az aA aB aV aW aX aY bj bk bl bm bn bp bq br bs bt bo bw bx bz bA bB bC bD
  ok := ok_ref21_SameRows_L0 au aw ax ay az aA aB aV aW aX aY bj bk bl bm bn bp bq br bs bt bo bw bx bz bA bB bC bD
  go := go_ref21_SameRows_L0 au aw ax ay az aA aB aV aW aX aY bj bk bl bm bn bp bq br bs bt bo bw bx bz bA bB bC bD
  step := step_ref21_SameRows_L0 au aw ax ay az aA aB aV aW aX aY bj bk bl bm bn bp bq br bs bt bo bw bx bz bA bB bC bD
  chg := (false :: false :: tpB 25 ([]))
  chgH := []
  tpl := tpl_ref21_SameRows_L0
  cts := cts_ref21_SameRows_L0
  keep := 0
  srcs := []
  ann := (annNo (subC [1, 1, 0, 1, 0, 0] (codeOf Try.f16)))
  le := by kernel_rfl
  kept := by kernel_rfl
  keptB := by kernel_rfl
  all := all_ref21_SameRows_L0 au aw ax ay az aA aB aV aW aX aY bj bk bl bm bn bp bq br bs bt bo bw bx bz bA bB bC bD
  len := fun x => by kernel_rfl
  head := fun x y => by kernel_rfl
  con := fun x y => by kernel_rfl
  conH := fun x y => by kernel_rfl
def F_ref21_SameRows_L0 : St → Option Ch := fun s => cond (Nat.beq s.tm.length 27 && Nat.beq s.H.length 0) (tkCons (alL tpl_ref21_SameRows_L0 s.tm) fun l t0 => tkView 14 l fun s0 f0 => tkCons t0 fun j t1 => tkView 14 j fun s15 f1 => tkNL 1 s15 <| tkTops 3 t1 fun t2 => tkCons t2 fun L t3 => tkI .i64 L fun s30 => tkTops 21 t3 fun t4 => tkNil t4 <| tkNil (alH cts_ref21_SameRows_L0 (s.H ++ List.map phan phs_ref21_SameRows_L0)) <| Fam.out (fam_ref21_SameRows_L0 s0 (iL f0 0) (iL f0 1) (fL f0 2) (fL f0 3) (fL f0 4) (fL f0 5) (fL f0 6) (fL f0 7) (fL f0 8) (fL f0 9) (fL f0 10) (fL f0 11) (iL f0 12) (fL f0 13) (iL f1 0) (iL f1 1) (fL f1 2) (fL f1 3) (fL f1 4) (fL f1 5) (fL f1 6) (fL f1 7) (fL f1 8) (fL f1 9) (fL f1 10) (fL f1 11) (iL f1 12) (fL f1 13)) s ((allB fun i => isNrm [Ck.i .i64, Ck.i .i64, Ck.f, Ck.f, Ck.f, Ck.f, Ck.f, Ck.f, Ck.f, Ck.f, Ck.f, Ck.f, Ck.i .i64, Ck.f] (f0 i)) && (allB fun i => isNrm [Ck.i .i64, Ck.i .i64, Ck.f, Ck.f, Ck.f, Ck.f, Ck.f, Ck.f, Ck.f, Ck.f, Ck.f, Ck.f, Ck.i .i64, Ck.f] (f1 i))) (V_ref21_SameRows_L0.mk s30)) none
theorem F_ref21_SameRows_L0_ok : ∀ s ch, F_ref21_SameRows_L0 s = some ch → AllI s ch ∧ LoopSpec Try.prog false 0 (subC [1, 1, 0, 1, 0, 0] (codeOf Try.f16)) s (sel ch) := by
  intro s ch h
  unfold F_ref21_SameRows_L0 at h
  obtain ⟨hl, h0⟩ := cond_some h rfl
  clear h
  obtain ⟨hl, hb⟩ := and_beq2 hl
  obtain ⟨l, t0, e0, h1⟩ := tkCons_some h0
  obtain ⟨s0, f0, rfl, h2⟩ := tkView_some h1
  obtain ⟨j, t1, rfl, h3⟩ := tkCons_some h2
  obtain ⟨s15, f1, rfl, h4⟩ := tkView_some h3
  obtain ⟨rfl, h5⟩ := tkNL_some h4
  obtain ⟨t2, rfl, h6⟩ := tkTops_some h5
  obtain ⟨L, t3, rfl, h7⟩ := tkCons_some h6
  obtain ⟨s30, rfl, h8⟩ := tkI_some h7
  obtain ⟨t4, rfl, h9⟩ := tkTops_some h8
  obtain ⟨rfl, h10⟩ := tkNil_some h9
  obtain ⟨eH, h11⟩ := tkNil_some h10
  refine Fam.spec menv83_ok (fam_ref21_SameRows_L0 s0 (iL f0 0) (iL f0 1) (fL f0 2) (fL f0 3) (fL f0 4) (fL f0 5) (fL f0 6) (fL f0 7) (fL f0 8) (fL f0 9) (fL f0 10) (fL f0 11) (iL f0 12) (fL f0 13) (iL f1 0) (iL f1 1) (fL f1 2) (fL f1 3) (fL f1 4) (fL f1 5) (fL f1 6) (fL f1 7) (fL f1 8) (fL f1 9) (fL f1 10) (fL f1 11) (iL f1 12) (fL f1 13)) (phs := phs_ref21_SameRows_L0) (hl.trans (by kernel_rfl)) (hb.trans (by kernel_rfl)) ?_ ?_ h11
  · rw [← hdr_alH cts_ref21_SameRows_L0 (s.H ++ List.map phan phs_ref21_SameRows_L0), eH]; kernel_rfl
  · intro hq
    simp only [Bool.and_eq_true] at hq
    obtain ⟨hq0, hq1⟩ := hq
    have n0 := nrm_fun hq0
    have n1 := nrm_fun hq1
    show sh_ref21_SameRows_L0 s0 (iL f0 0) (iL f0 1) (fL f0 2) (fL f0 3) (fL f0 4) (fL f0 5) (fL f0 6) (fL f0 7) (fL f0 8) (fL f0 9) (fL f0 10) (fL f0 11) (iL f0 12) (fL f0 13) (iL f1 0) (iL f1 1) (fL f1 2) (fL f1 3) (fL f1 4) (fL f1 5) (fL f1 6) (fL f1 7) (fL f1 8) (fL f1 9) (fL f1 10) (fL f1 11) (iL f1 12) (fL f1 13) (V_ref21_SameRows_L0.mk s30) = (alL tpl_ref21_SameRows_L0 s.tm, alH cts_ref21_SameRows_L0 (s.H ++ List.map phan phs_ref21_SameRows_L0))
    rw [e0, eH]
    refine Eq.trans (show sh_ref21_SameRows_L0 s0 (iL f0 0) (iL f0 1) (fL f0 2) (fL f0 3) (fL f0 4) (fL f0 5) (fL f0 6) (fL f0 7) (fL f0 8) (fL f0 9) (fL f0 10) (fL f0 11) (iL f0 12) (fL f0 13) (iL f1 0) (iL f1 1) (fL f1 2) (fL f1 3) (fL f1 4) (fL f1 5) (fL f1 6) (fL f1 7) (fL f1 8) (fL f1 9) (fL f1 10) (fL f1 11) (iL f1 12) (fL f1 13) (V_ref21_SameRows_L0.mk s30) = T_ref21_SameRows_L0 s0 (iL f0 0) (iL f0 1) (fL f0 2) (fL f0 3) (fL f0 4) (fL f0 5) (fL f0 6) (fL f0 7) (fL f0 8) (fL f0 9) (fL f0 10) (fL f0 11) (iL f0 12) (fL f0 13) (iL f1 0) (iL f1 1) (fL f1 2) (fL f1 3) (fL f1 4) (fL f1 5) (fL f1 6) (fL f1 7) (fL f1 8) (fL f1 9) (fL f1 10) (fL f1 11) (iL f1 12) (fL f1 13) (V_ref21_SameRows_L0.mk s30) (fun i => mkN [Ck.i .i64, Ck.i .i64, Ck.f, Ck.f, Ck.f, Ck.f, Ck.f, Ck.f, Ck.f, Ck.f, Ck.f, Ck.f, Ck.i .i64, Ck.f] (f0 i) 0) (fun i => mkN [Ck.i .i64, Ck.i .i64, Ck.f, Ck.f, Ck.f, Ck.f, Ck.f, Ck.f, Ck.f, Ck.f, Ck.f, Ck.f, Ck.i .i64, Ck.f] (f1 i) 0) by kernel_rfl) ?_
    rw [n0, n1]
    kernel_rfl
theorem ann_ref21_SameRows : FnOk Try.prog false 0 Try.f16 (Ann.two Ann.no (Ann.two Ann.no (Ann.two (Ann.two Ann.no (Ann.one (Ann.loop F_ref21_SameRows_L0))) Ann.no))) := (fnOk_of (c := codeOf Try.f16) (by kernel_rfl) (annSeq (a := (subC [0] (codeOf Try.f16))) (b := (subC [1] (codeOf Try.f16))) (by kernel_rfl) (annNo (subC [0] (codeOf Try.f16))) (annSeq (a := (subC [1, 0] (codeOf Try.f16))) (b := (subC [1, 1] (codeOf Try.f16))) (by kernel_rfl) (annNo (subC [1, 0] (codeOf Try.f16))) (annSeq (a := (subC [1, 1, 0] (codeOf Try.f16))) (b := (subC [1, 1, 1] (codeOf Try.f16))) (by kernel_rfl) (annSeq (a := (subC [1, 1, 0, 0] (codeOf Try.f16))) (b := (subC [1, 1, 0, 1] (codeOf Try.f16))) (by kernel_rfl) (annNo (subC [1, 1, 0, 0] (codeOf Try.f16))) (annBlock (a := (subC [1, 1, 0, 1, 0] (codeOf Try.f16))) (i := 0) (by kernel_rfl) (annLoop (a := (subC [1, 1, 0, 1, 0, 0] (codeOf Try.f16))) (by kernel_rfl) F_ref21_SameRows_L0_ok))) (annNo (subC [1, 1, 1] (codeOf Try.f16)))))))
def s_ref21_SameRows_0 (aq : Nat) (k m : Nat → Int) (p q r F I J O P Q R : Nat → Nat) (S : Nat → Int) (U : Nat → Nat) (u E : Nat → Int) (z C D bE bF bG bH bI bJ bK : Nat → Nat) (bL : Nat → Int) (bM : Nat → Nat) : Bool := let x0 := (L_ref21_SameRows_L0 aq k m p q r F I J O P Q R S U u E z C D bE bF bG bH bI bJ bK bL bM (V_ref21_SameRows_L0.mk (0 : Int))).v0; let x1 := Int.toNat x0; (bif (!(ieq (Int.ofNat aq) (1 : Int))) then false else (bif (bif (!(ilt x0 (Int.ofNat aq))) then false else (!(s_ref21_SameRow_0 (k x1) (m x1) (p x1) (q x1) (r x1) (F x1) (I x1) (J x1) (O x1) (P x1) (Q x1) (R x1) (S x1) (U x1) (u x1) (E x1) (z x1) (C x1) (D x1) (bE x1) (bF x1) (bG x1) (bH x1) (bI x1) (bJ x1) (bK x1) (bL x1) (bM x1)))) then false else true))
def q_ref21_SameRows (aq : Nat) (k m : Nat → Int) (p q r F I J O P Q R : Nat → Nat) (S : Nat → Int) (U : Nat → Nat) (u E : Nat → Int) (z C D bE bF bG bH bI bJ bK : Nat → Nat) (bL : Nat → Int) (bM : Nat → Nat) : Bool := (let x0 := ((allB fun _ => true) && (allB fun _ => true)) && (E_ref21_SameRows_L0 aq k m p q r F I J O P Q R S U u E z C D bE bF bG bH bI bJ bK bL bM (V_ref21_SameRows_L0.mk (0 : Int))); let x1 := (L_ref21_SameRows_L0 aq k m p q r F I J O P Q R S U u E z C D bE bF bG bH bI bJ bK bL bM (V_ref21_SameRows_L0.mk (0 : Int))).v0; let x2 := Int.toNat x1; (mrgB (!(ieq (Int.ofNat aq) (1 : Int))) true (mrgB (bif (!(ilt x1 (Int.ofNat aq))) then false else (!(s_ref21_SameRow_0 (k x2) (m x2) (p x2) (q x2) (r x2) (F x2) (I x2) (J x2) (O x2) (P x2) (Q x2) (R x2) (S x2) (U x2) (u x2) (E x2) (z x2) (C x2) (D x2) (bE x2) (bF x2) (bG x2) (bH x2) (bI x2) (bJ x2) (bK x2) (bL x2) (bM x2)))) x0 x0)))
theorem e_ref21_SameRows (aq : Nat) (k m : Nat → Int) (p q r F I J O P Q R : Nat → Nat) (S : Nat → Int) (U : Nat → Nat) (u E : Nat → Int) (z C D bE bF bG bH bI bJ bK : Nat → Nat) (bL : Nat → Int) (bM : Nat → Nat) : outB (evFnM Try.prog false menv83 [] [] 96 (Ann.two Ann.no (Ann.two Ann.no (Ann.two (Ann.two Ann.no (Ann.one (Ann.loop F_ref21_SameRows_L0))) Ann.no))) Try.f16 [AV.view aq 14 (fun i0 => [AV.int .i64 (k i0), AV.int .i64 (m i0), AV.float (p i0), AV.float (q i0), AV.float (r i0), AV.float (F i0), AV.float (I i0), AV.float (J i0), AV.float (O i0), AV.float (P i0), AV.float (Q i0), AV.float (R i0), AV.int .i64 (S i0), AV.float (U i0)]), AV.view 1 14 (fun i0 => [AV.int .i64 (u i0), AV.int .i64 (E i0), AV.float (z i0), AV.float (C i0), AV.float (D i0), AV.float (bE i0), AV.float (bF i0), AV.float (bG i0), AV.float (bH i0), AV.float (bI i0), AV.float (bJ i0), AV.float (bK i0), AV.int .i64 (bL i0), AV.float (bM i0)])] []) = some (q_ref21_SameRows aq k m p q r F I J O P Q R S U u E z C D bE bF bG bH bI bJ bK bL bM, AV.bool (s_ref21_SameRows_0 aq k m p q r F I J O P Q R S U u E z C D bE bF bG bH bI bJ bK bL bM)) := by kernel_rfl
def o_ref21_SameRows (aq : Nat) (k m : Nat → Int) (p q r F I J O P Q R : Nat → Nat) (S : Nat → Int) (U : Nat → Nat) (u E : Nat → Int) (z C D bE bF bG bH bI bJ bK : Nat → Nat) (bL : Nat → Int) (bM : Nat → Nat) : Bool := let x0 := E_ref21_SameRows_L0 aq k m p q r F I J O P Q R S U u E z C D bE bF bG bH bI bJ bK bL bM (V_ref21_SameRows_L0.mk (0 : Int)); let x1 := (L_ref21_SameRows_L0 aq k m p q r F I J O P Q R S U u E z C D bE bF bG bH bI bJ bK bL bM (V_ref21_SameRows_L0.mk (0 : Int))).v0; let x2 := Int.toNat x1; (mrgB (!(ieq (Int.ofNat aq) (1 : Int))) true (mrgB (bif (!(ilt x1 (Int.ofNat aq))) then false else (!(s_ref21_SameRow_0 (k x2) (m x2) (p x2) (q x2) (r x2) (F x2) (I x2) (J x2) (O x2) (P x2) (Q x2) (R x2) (S x2) (U x2) (u x2) (E x2) (z x2) (C x2) (D x2) (bE x2) (bF x2) (bG x2) (bH x2) (bI x2) (bJ x2) (bK x2) (bL x2) (bM x2)))) x0 x0))
def S_ref21_SameRows : List AV → Option (Ob × AV)
  | [AV.view aq 14 an, AV.view 1 14 ar] => some (Ob.both (Ob.bit ((allB fun i => isNrm [Ck.i .i64, Ck.i .i64, Ck.f, Ck.f, Ck.f, Ck.f, Ck.f, Ck.f, Ck.f, Ck.f, Ck.f, Ck.f, Ck.i .i64, Ck.f] (an i)) && (allB fun i => isNrm [Ck.i .i64, Ck.i .i64, Ck.f, Ck.f, Ck.f, Ck.f, Ck.f, Ck.f, Ck.f, Ck.f, Ck.f, Ck.f, Ck.i .i64, Ck.f] (ar i)))) (Ob.bit (o_ref21_SameRows aq (iL an 0) (iL an 1) (fL an 2) (fL an 3) (fL an 4) (fL an 5) (fL an 6) (fL an 7) (fL an 8) (fL an 9) (fL an 10) (fL an 11) (iL an 12) (fL an 13) (iL ar 0) (iL ar 1) (fL ar 2) (fL ar 3) (fL ar 4) (fL ar 5) (fL ar 6) (fL ar 7) (fL ar 8) (fL ar 9) (fL ar 10) (fL ar 11) (iL ar 12) (fL ar 13))), AV.bool (s_ref21_SameRows_0 aq (iL an 0) (iL an 1) (fL an 2) (fL an 3) (fL an 4) (fL an 5) (fL an 6) (fL an 7) (fL an 8) (fL an 9) (fL an 10) (fL an 11) (iL an 12) (fL an 13) (iL ar 0) (iL ar 1) (fL ar 2) (fL ar 3) (fL ar 4) (fL ar 5) (fL ar 6) (fL ar 7) (fL ar 8) (fL ar 9) (fL ar 10) (fL ar 11) (iL ar 12) (fL ar 13)))
  | _ => none
theorem ob_ref21_SameRows (aq : Nat) (k m : Nat → Int) (p q r F I J O P Q R : Nat → Nat) (S : Nat → Int) (U : Nat → Nat) (u E : Nat → Int) (z C D bE bF bG bH bI bJ bK : Nat → Nat) (bL : Nat → Int) (bM : Nat → Nat) (ho : o_ref21_SameRows aq k m p q r F I J O P Q R S U u E z C D bE bF bG bH bI bJ bK bL bM = true) : q_ref21_SameRows aq k m p q r F I J O P Q R S U u E z C D bE bF bG bH bI bJ bK bL bM = true := by
  unfold q_ref21_SameRows
  unfold o_ref21_SameRows at ho
  simp only [allB_true, eqT_self, mrgB_self, Bool.true_and, Bool.and_true] at ho ⊢
  exact ho
theorem t_ref21_SameRows : SOkM Try.prog false (16, fun args => match S_ref21_SameRows args with | some (o, v) => some (o, v, []) | none => none) := SOkM.flat (N := 96) menv83_ok Try.func16 ann_ref21_SameRows Try.call16 fun args o v h ho => by
  unfold S_ref21_SameRows at h
  split at h
  · rename_i aq an ar
    cases h
    rw [Ob.both_ok, Bool.and_eq_true] at ho
    obtain ⟨hn, ho2⟩ := ho
    simp only [Ob.ok, Bool.and_eq_true] at hn
    obtain ⟨n0, n1⟩ := hn
    replace n0 := nrm_fun n0
    replace n1 := nrm_fun n1
    have this := show outB (evFnM Try.prog false menv83 [] [] 96 (Ann.two Ann.no (Ann.two Ann.no (Ann.two (Ann.two Ann.no (Ann.one (Ann.loop F_ref21_SameRows_L0))) Ann.no))) Try.f16 [AV.view aq 14 (fun i => mkN [Ck.i .i64, Ck.i .i64, Ck.f, Ck.f, Ck.f, Ck.f, Ck.f, Ck.f, Ck.f, Ck.f, Ck.f, Ck.f, Ck.i .i64, Ck.f] (an i) 0), AV.view 1 14 (fun i => mkN [Ck.i .i64, Ck.i .i64, Ck.f, Ck.f, Ck.f, Ck.f, Ck.f, Ck.f, Ck.f, Ck.f, Ck.f, Ck.f, Ck.i .i64, Ck.f] (ar i) 0)] []) = _ from e_ref21_SameRows aq (iL an 0) (iL an 1) (fL an 2) (fL an 3) (fL an 4) (fL an 5) (fL an 6) (fL an 7) (fL an 8) (fL an 9) (fL an 10) (fL an 11) (iL an 12) (fL an 13) (iL ar 0) (iL ar 1) (fL ar 2) (fL ar 3) (fL ar 4) (fL ar 5) (fL ar 6) (fL ar 7) (fL ar 8) (fL ar 9) (fL ar 10) (fL ar 11) (iL ar 12) (fL ar 13)
    rw [(ob_ref21_SameRows aq (iL an 0) (iL an 1) (fL an 2) (fL an 3) (fL an 4) (fL an 5) (fL an 6) (fL an 7) (fL an 8) (fL an 9) (fL an 10) (fL an 11) (iL an 12) (fL an 13) (iL ar 0) (iL ar 1) (fL ar 2) (fL ar 3) (fL ar 4) (fL ar 5) (fL ar 6) (fL ar 7) (fL ar 8) (fL ar 9) (fL ar 10) (fL ar 11) (iL ar 12) (fL ar 13) ho2)] at this
    rw [n0, n1] at this
    exact ⟨this, rfl⟩
  · cases h
def c_ref21_SameRows : SFM := fun args => match S_ref21_SameRows args with | some (o, v) => some (o, v, []) | none => none
theorem c_ref21_SameRows_ok : SOkM Try.prog false (16, c_ref21_SameRows) := t_ref21_SameRows
def mss83 : List (FuncId × SFM) := (16, c_ref21_SameRows) :: mss82
def menv84 : EnvM := mkEnvM mxs mss83 mws2
theorem mss83_ok : All (SOkM Try.prog false) mss83 := All.cons c_ref21_SameRows_ok mss82_ok
theorem menv84_ok : menv84.Ok Try.prog false := mkEnvM_ok mxs_ok mss83_ok mws2_ok
-- slices.IndexFunc[[]tumble/api.Still,tumble/api.Still]
-- a loop of slices.IndexFunc[[]tumble/api.Still,tumble/api.Still]
structure V_slices_IndexFunc___api_Still_api_Still__v1_L0 where
  v0 : Int
def tpl_slices_IndexFunc___api_Still_api_Still__v1_L0 : List AV := (AV.nul :: AV.nul :: AV.top :: AV.top :: AV.top :: AV.top :: AV.top :: AV.nul :: AV.nul :: tpA 10 ([]))
def cts_slices_IndexFunc___api_Still_api_Still__v1_L0 : List CT := []
def phs_slices_IndexFunc___api_Still_api_Still__v1_L0 : List Src := []
def T_slices_IndexFunc___api_Still_api_Still__v1_L0 (au : Nat) (aw ax ay az aA : Nat → Nat) (aB : Int) (x : V_slices_IndexFunc___api_Still_api_Still__v1_L0) (F0 : Nat → List AV) : List AV × Heap := ((AV.view au 5 F0 :: AV.func 63 [] [] :: AV.top :: AV.top :: AV.top :: AV.top :: AV.top :: AV.int .i64 aB :: AV.int .i64 x.v0 :: tpA 10 ([])), [])
def sh_slices_IndexFunc___api_Still_api_Still__v1_L0 (au : Nat) (aw ax ay az aA : Nat → Nat) (aB : Int) (x : V_slices_IndexFunc___api_Still_api_Still__v1_L0) : List AV × Heap := T_slices_IndexFunc___api_Still_api_Still__v1_L0 au aw ax ay az aA aB x (fun j0 => [AV.float (aw j0), AV.float (ax j0), AV.float (ay j0), AV.float (az j0), AV.float (aA j0)])
def step_slices_IndexFunc___api_Still_api_Still__v1_L0 (au : Nat) (aw ax ay az aA : Nat → Nat) (aB : Int) (x : V_slices_IndexFunc___api_Still_api_Still__v1_L0) : V_slices_IndexFunc___api_Still_api_Still__v1_L0 := V_slices_IndexFunc___api_Still_api_Still__v1_L0.mk (IntKind.wrap .i64 (x.v0 + (1 : Int)))
def go_slices_IndexFunc___api_Still_api_Still__v1_L0 (au : Nat) (aw ax ay az aA : Nat → Nat) (aB : Int) (x : V_slices_IndexFunc___api_Still_api_Still__v1_L0) : Bool := (bif (bif (!(ilt x.v0 aB)) then false else (s_solve_asked_1_0 (aw (Int.toNat x.v0)) (ax (Int.toNat x.v0)) (ay (Int.toNat x.v0)) (az (Int.toNat x.v0)) (aA (Int.toNat x.v0)))) then false else (bif (!(ilt x.v0 aB)) then false else true))
def ok_slices_IndexFunc___api_Still_api_Still__v1_L0 (au : Nat) (aw ax ay az aA : Nat → Nat) (aB : Int) (x : V_slices_IndexFunc___api_Still_api_Still__v1_L0) : Bool := (mrgB (bif (!(ilt x.v0 aB)) then false else (s_solve_asked_1_0 (aw (Int.toNat x.v0)) (ax (Int.toNat x.v0)) (ay (Int.toNat x.v0)) (az (Int.toNat x.v0)) (aA (Int.toNat x.v0)))) ((ile (0 : Int) x.v0) && (Nat.blt (Int.toNat x.v0) au)) (mrgB (!(ilt x.v0 aB)) true ((ile (0 : Int) x.v0) && (Nat.blt (Int.toNat x.v0) au))))
def L_slices_IndexFunc___api_Still_api_Still__v1_L0 (au : Nat) (aw ax ay az aA : Nat → Nat) (aB : Int) (x : V_slices_IndexFunc___api_Still_api_Still__v1_L0) : V_slices_IndexFunc___api_Still_api_Still__v1_L0 := lastL (ok_slices_IndexFunc___api_Still_api_Still__v1_L0 au aw ax ay az aA aB) (go_slices_IndexFunc___api_Still_api_Still__v1_L0 au aw ax ay az aA aB) (step_slices_IndexFunc___api_Still_api_Still__v1_L0 au aw ax ay az aA aB) x
def E_slices_IndexFunc___api_Still_api_Still__v1_L0 (au : Nat) (aw ax ay az aA : Nat → Nat) (aB : Int) (x : V_slices_IndexFunc___api_Still_api_Still__v1_L0) : Bool := endsL (ok_slices_IndexFunc___api_Still_api_Still__v1_L0 au aw ax ay az aA aB) (go_slices_IndexFunc___api_Still_api_Still__v1_L0 au aw ax ay az aA aB) (step_slices_IndexFunc___api_Still_api_Still__v1_L0 au aw ax ay az aA aB) x
theorem all_slices_IndexFunc___api_Still_api_Still__v1_L0 (au : Nat) (aw ax ay az aA : Nat → Nat) (aB : Int) (x : V_slices_IndexFunc___api_Still_api_Still__v1_L0) : rnd Try.prog false menv84 [] [] 96 Ann.no (subC [1, 0, 1, 0, 0] (codeOf Try.f88)) 0 [] tpl_slices_IndexFunc___api_Still_api_Still__v1_L0 cts_slices_IndexFunc___api_Still_api_Still__v1_L0 (false :: false :: true :: true :: true :: true :: true :: false :: tpB 11 ([])) [] (sh_slices_IndexFunc___api_Still_api_Still__v1_L0 au aw ax ay az aA aB x) = (true, true, go_slices_IndexFunc___api_Still_api_Still__v1_L0 au aw ax ay az aA aB x, ok_slices_IndexFunc___api_Still_api_Still__v1_L0 au aw ax ay az aA aB x, true, sh_slices_IndexFunc___api_Still_api_Still__v1_L0 au aw ax ay az aA aB (step_slices_IndexFunc___api_Still_api_Still__v1_L0 au aw ax ay az aA aB x), true) := by kernel_rfl
def fam_slices_IndexFunc___api_Still_api_Still__v1_L0 (au : Nat) (aw ax ay az aA : Nat → Nat) (aB : Int) : Fam Try.prog false menv84 [] [] 96 0 Ann.no (subC [1, 0, 1, 0, 0] (codeOf Try.f88)) V_slices_IndexFunc___api_Still_api_Still__v1_L0 where
  sh := sh_slices_IndexFunc___api_Still_api_Still__v1_L0 au aw ax ay az aA aB
  ok := ok_slices_IndexFunc___api_Still_api_Still__v1_L0 au aw ax ay az aA aB
  go := go_slices_IndexFunc___api_Still_api_Still__v1_L0 au aw ax ay az aA aB
  step := step_slices_IndexFunc___api_Still_api_Still__v1_L0 au aw ax ay az aA aB
  chg := (false :: false :: true :: true :: true :: true :: true :: false :: tpB 11 ([]))
  chgH := []
  tpl := tpl_slices_IndexFunc___api_Still_api_Still__v1_L0
  cts := cts_slices_IndexFunc___api_Still_api_Still__v1_L0
  keep := 0
  srcs := []
  ann := (annNo (subC [1, 0, 1, 0, 0] (codeOf Try.f88)))
  le := by kernel_rfl
  kept := by kernel_rfl
  keptB := by kernel_rfl
  all := all_slices_IndexFunc___api_Still_api_Still__v1_L0 au aw ax ay az aA aB
  len := fun x => by kernel_rfl
  head := fun x y => by kernel_rfl
  con := fun x y => by kernel_rfl
  conH := fun x y => by kernel_rfl
def F_slices_IndexFunc___api_Still_api_Still__v1_L0 : St → Option Ch := fun s => cond (Nat.beq s.tm.length 19 && Nat.beq s.H.length 0) (tkCons (alL tpl_slices_IndexFunc___api_Still_api_Still__v1_L0 s.tm) fun l t0 => tkView 5 l fun s0 f0 => tkCons t0 fun j t1 => tkFunc 63 j fun l2 l3 => tkNil l2 <| tkNil l3 <| tkTops 5 t1 fun t4 => tkCons t4 fun Z t5 => tkI .i64 Z fun s6 => tkCons t5 fun aa t6 => tkI .i64 aa fun s7 => tkTops 10 t6 fun t7 => tkNil t7 <| tkNil (alH cts_slices_IndexFunc___api_Still_api_Still__v1_L0 (s.H ++ List.map phan phs_slices_IndexFunc___api_Still_api_Still__v1_L0)) <| Fam.out (fam_slices_IndexFunc___api_Still_api_Still__v1_L0 s0 (fL f0 0) (fL f0 1) (fL f0 2) (fL f0 3) (fL f0 4) s6) s (allB fun i => isNrm [Ck.f, Ck.f, Ck.f, Ck.f, Ck.f] (f0 i)) (V_slices_IndexFunc___api_Still_api_Still__v1_L0.mk s7)) none
theorem F_slices_IndexFunc___api_Still_api_Still__v1_L0_ok : ∀ s ch, F_slices_IndexFunc___api_Still_api_Still__v1_L0 s = some ch → AllI s ch ∧ LoopSpec Try.prog false 0 (subC [1, 0, 1, 0, 0] (codeOf Try.f88)) s (sel ch) := by
  intro s ch h
  unfold F_slices_IndexFunc___api_Still_api_Still__v1_L0 at h
  obtain ⟨hl, h0⟩ := cond_some h rfl
  clear h
  obtain ⟨hl, hb⟩ := and_beq2 hl
  obtain ⟨l, t0, e0, h1⟩ := tkCons_some h0
  obtain ⟨s0, f0, rfl, h2⟩ := tkView_some h1
  obtain ⟨j, t1, rfl, h3⟩ := tkCons_some h2
  obtain ⟨l2, l3, rfl, h4⟩ := tkFunc_some h3
  obtain ⟨rfl, h5⟩ := tkNil_some h4
  obtain ⟨rfl, h6⟩ := tkNil_some h5
  obtain ⟨t4, rfl, h7⟩ := tkTops_some h6
  obtain ⟨Z, t5, rfl, h8⟩ := tkCons_some h7
  obtain ⟨s6, rfl, h9⟩ := tkI_some h8
  obtain ⟨aa, t6, rfl, h10⟩ := tkCons_some h9
  obtain ⟨s7, rfl, h11⟩ := tkI_some h10
  obtain ⟨t7, rfl, h12⟩ := tkTops_some h11
  obtain ⟨rfl, h13⟩ := tkNil_some h12
  obtain ⟨eH, h14⟩ := tkNil_some h13
  refine Fam.spec menv84_ok (fam_slices_IndexFunc___api_Still_api_Still__v1_L0 s0 (fL f0 0) (fL f0 1) (fL f0 2) (fL f0 3) (fL f0 4) s6) (phs := phs_slices_IndexFunc___api_Still_api_Still__v1_L0) (hl.trans (by kernel_rfl)) (hb.trans (by kernel_rfl)) ?_ ?_ h14
  · rw [← hdr_alH cts_slices_IndexFunc___api_Still_api_Still__v1_L0 (s.H ++ List.map phan phs_slices_IndexFunc___api_Still_api_Still__v1_L0), eH]; kernel_rfl
  · intro hq
    have hq0 := hq
    have n0 := nrm_fun hq0
    show sh_slices_IndexFunc___api_Still_api_Still__v1_L0 s0 (fL f0 0) (fL f0 1) (fL f0 2) (fL f0 3) (fL f0 4) s6 (V_slices_IndexFunc___api_Still_api_Still__v1_L0.mk s7) = (alL tpl_slices_IndexFunc___api_Still_api_Still__v1_L0 s.tm, alH cts_slices_IndexFunc___api_Still_api_Still__v1_L0 (s.H ++ List.map phan phs_slices_IndexFunc___api_Still_api_Still__v1_L0))
    rw [e0, eH]
    refine Eq.trans (show sh_slices_IndexFunc___api_Still_api_Still__v1_L0 s0 (fL f0 0) (fL f0 1) (fL f0 2) (fL f0 3) (fL f0 4) s6 (V_slices_IndexFunc___api_Still_api_Still__v1_L0.mk s7) = T_slices_IndexFunc___api_Still_api_Still__v1_L0 s0 (fL f0 0) (fL f0 1) (fL f0 2) (fL f0 3) (fL f0 4) s6 (V_slices_IndexFunc___api_Still_api_Still__v1_L0.mk s7) (fun i => mkN [Ck.f, Ck.f, Ck.f, Ck.f, Ck.f] (f0 i) 0) by kernel_rfl) ?_
    rw [n0]
    kernel_rfl
theorem ann_slices_IndexFunc___api_Still_api_Still__v1 : FnOk Try.prog false 0 Try.f88 (Ann.two Ann.no (Ann.two (Ann.two Ann.no (Ann.one (Ann.loop F_slices_IndexFunc___api_Still_api_Still__v1_L0))) Ann.no)) := (fnOk_of (c := codeOf Try.f88) (by kernel_rfl) (annSeq (a := (subC [0] (codeOf Try.f88))) (b := (subC [1] (codeOf Try.f88))) (by kernel_rfl) (annNo (subC [0] (codeOf Try.f88))) (annSeq (a := (subC [1, 0] (codeOf Try.f88))) (b := (subC [1, 1] (codeOf Try.f88))) (by kernel_rfl) (annSeq (a := (subC [1, 0, 0] (codeOf Try.f88))) (b := (subC [1, 0, 1] (codeOf Try.f88))) (by kernel_rfl) (annNo (subC [1, 0, 0] (codeOf Try.f88))) (annBlock (a := (subC [1, 0, 1, 0] (codeOf Try.f88))) (i := 0) (by kernel_rfl) (annLoop (a := (subC [1, 0, 1, 0, 0] (codeOf Try.f88))) (by kernel_rfl) F_slices_IndexFunc___api_Still_api_Still__v1_L0_ok))) (annNo (subC [1, 1] (codeOf Try.f88))))))
def s_slices_IndexFunc___api_Still_api_Still__v1_0 (aq : Nat) (k m p q r : Nat → Nat) : Int := let x0 := (L_slices_IndexFunc___api_Still_api_Still__v1_L0 aq k m p q r (Int.ofNat aq) (V_slices_IndexFunc___api_Still_api_Still__v1_L0.mk (0 : Int))).v0; let x1 := Int.toNat x0; (bif (bif (!(ilt x0 (Int.ofNat aq))) then false else (s_solve_asked_1_0 (k x1) (m x1) (p x1) (q x1) (r x1))) then x0 else (-1 : Int))
def q_slices_IndexFunc___api_Still_api_Still__v1 (aq : Nat) (k m p q r : Nat → Nat) : Bool := (let x0 := (allB fun _ => true) && (E_slices_IndexFunc___api_Still_api_Still__v1_L0 aq k m p q r (Int.ofNat aq) (V_slices_IndexFunc___api_Still_api_Still__v1_L0.mk (0 : Int))); let x1 := (L_slices_IndexFunc___api_Still_api_Still__v1_L0 aq k m p q r (Int.ofNat aq) (V_slices_IndexFunc___api_Still_api_Still__v1_L0.mk (0 : Int))).v0; let x2 := Int.toNat x1; (mrgB (bif (!(ilt x1 (Int.ofNat aq))) then false else (s_solve_asked_1_0 (k x2) (m x2) (p x2) (q x2) (r x2))) x0 x0))
theorem e_slices_IndexFunc___api_Still_api_Still__v1 (aq : Nat) (k m p q r : Nat → Nat) : outB (evFnM Try.prog false menv84 [] [] 96 (Ann.two Ann.no (Ann.two (Ann.two Ann.no (Ann.one (Ann.loop F_slices_IndexFunc___api_Still_api_Still__v1_L0))) Ann.no)) Try.f88 [AV.view aq 5 (fun i0 => [AV.float (k i0), AV.float (m i0), AV.float (p i0), AV.float (q i0), AV.float (r i0)]), AV.func 63 [] []] []) = some (q_slices_IndexFunc___api_Still_api_Still__v1 aq k m p q r, AV.int .i64 (s_slices_IndexFunc___api_Still_api_Still__v1_0 aq k m p q r)) := by kernel_rfl
def o_slices_IndexFunc___api_Still_api_Still__v1 (aq : Nat) (k m p q r : Nat → Nat) : Bool := let x0 := E_slices_IndexFunc___api_Still_api_Still__v1_L0 aq k m p q r (Int.ofNat aq) (V_slices_IndexFunc___api_Still_api_Still__v1_L0.mk (0 : Int)); let x1 := (L_slices_IndexFunc___api_Still_api_Still__v1_L0 aq k m p q r (Int.ofNat aq) (V_slices_IndexFunc___api_Still_api_Still__v1_L0.mk (0 : Int))).v0; let x2 := Int.toNat x1; (mrgB (bif (!(ilt x1 (Int.ofNat aq))) then false else (s_solve_asked_1_0 (k x2) (m x2) (p x2) (q x2) (r x2))) x0 x0)
def S_slices_IndexFunc___api_Still_api_Still__v1 : List AV → Option (Ob × AV)
  | [AV.view aq 5 an, AV.func 63 [] []] => some (Ob.both (Ob.bit (allB fun i => isNrm [Ck.f, Ck.f, Ck.f, Ck.f, Ck.f] (an i))) (Ob.bit (o_slices_IndexFunc___api_Still_api_Still__v1 aq (fL an 0) (fL an 1) (fL an 2) (fL an 3) (fL an 4))), AV.int .i64 (s_slices_IndexFunc___api_Still_api_Still__v1_0 aq (fL an 0) (fL an 1) (fL an 2) (fL an 3) (fL an 4)))
  | _ => none
theorem ob_slices_IndexFunc___api_Still_api_Still__v1 (aq : Nat) (k m p q r : Nat → Nat) (ho : o_slices_IndexFunc___api_Still_api_Still__v1 aq k m p q r = true) : q_slices_IndexFunc___api_Still_api_Still__v1 aq k m p q r = true := by
  unfold q_slices_IndexFunc___api_Still_api_Still__v1
  unfold o_slices_IndexFunc___api_Still_api_Still__v1 at ho
  simp only [allB_true, eqT_self, mrgB_self, Bool.true_and, Bool.and_true] at ho ⊢
  exact ho
theorem t_slices_IndexFunc___api_Still_api_Still__v1 : SOkM Try.prog false (88, fun args => match S_slices_IndexFunc___api_Still_api_Still__v1 args with | some (o, v) => some (o, v, []) | none => none) := SOkM.flat (N := 96) menv84_ok Try.func88 ann_slices_IndexFunc___api_Still_api_Still__v1 Try.call88 fun args o v h ho => by
  unfold S_slices_IndexFunc___api_Still_api_Still__v1 at h
  split at h
  · rename_i aq an
    cases h
    rw [Ob.both_ok, Bool.and_eq_true] at ho
    obtain ⟨hn, ho2⟩ := ho
    have n0 := hn
    simp only [Ob.ok] at n0
    replace n0 := nrm_fun n0
    have this := show outB (evFnM Try.prog false menv84 [] [] 96 (Ann.two Ann.no (Ann.two (Ann.two Ann.no (Ann.one (Ann.loop F_slices_IndexFunc___api_Still_api_Still__v1_L0))) Ann.no)) Try.f88 [AV.view aq 5 (fun i => mkN [Ck.f, Ck.f, Ck.f, Ck.f, Ck.f] (an i) 0), AV.func 63 [] []] []) = _ from e_slices_IndexFunc___api_Still_api_Still__v1 aq (fL an 0) (fL an 1) (fL an 2) (fL an 3) (fL an 4)
    rw [(ob_slices_IndexFunc___api_Still_api_Still__v1 aq (fL an 0) (fL an 1) (fL an 2) (fL an 3) (fL an 4) ho2)] at this
    rw [n0] at this
    exact ⟨this, rfl⟩
  · cases h
def c_slices_IndexFunc___api_Still_api_Still__v1 : SFM := altS (fun args => match S_slices_IndexFunc___api_Still_api_Still__v1 args with | some (o, v) => some (o, v, []) | none => none) (c_slices_IndexFunc___api_Still_api_Still_)
theorem c_slices_IndexFunc___api_Still_api_Still__v1_ok : SOkM Try.prog false (88, c_slices_IndexFunc___api_Still_api_Still__v1) := (SOkM.alt t_slices_IndexFunc___api_Still_api_Still__v1 c_slices_IndexFunc___api_Still_api_Still__ok)
def mss84 : List (FuncId × SFM) := (88, c_slices_IndexFunc___api_Still_api_Still__v1) :: mss83
def menv85 : EnvM := mkEnvM mxs mss84 mws2
theorem mss84_ok : All (SOkM Try.prog false) mss84 := All.cons c_slices_IndexFunc___api_Still_api_Still__v1_ok mss83_ok
theorem menv85_ok : menv85.Ok Try.prog false := mkEnvM_ok mxs_ok mss84_ok mws2_ok
-- slices.ContainsFunc[[]tumble/api.Still,tumble/api.Still]
theorem ann_slices_ContainsFunc___api_Still_api_Still__v1 : FnOk Try.prog false 0 Try.f62 Ann.no := (fnNo _)
def s_slices_ContainsFunc___api_Still_api_Still__v1_0 (aq : Nat) (k m p q r : Nat → Nat) : Bool := (ile (0 : Int) (s_slices_IndexFunc___api_Still_api_Still__v1_0 aq k m p q r))
theorem e_slices_ContainsFunc___api_Still_api_Still__v1 (aq : Nat) (k m p q r : Nat → Nat) : outB (evFnM Try.prog false menv85 [] [] 96 Ann.no Try.f62 [AV.view aq 5 (fun i0 => [AV.float (k i0), AV.float (m i0), AV.float (p i0), AV.float (q i0), AV.float (r i0)]), AV.func 63 [] []] []) = some (((allB fun _ => true) && (o_slices_IndexFunc___api_Still_api_Still__v1 aq k m p q r)), AV.bool (s_slices_ContainsFunc___api_Still_api_Still__v1_0 aq k m p q r)) := by kernel_rfl
def o_slices_ContainsFunc___api_Still_api_Still__v1 (aq : Nat) (k m p q r : Nat → Nat) : Bool := (o_slices_IndexFunc___api_Still_api_Still__v1 aq k m p q r)
def S_slices_ContainsFunc___api_Still_api_Still__v1 : List AV → Option (Ob × AV)
  | [AV.view aq 5 an, AV.func 63 [] []] => some (Ob.both (Ob.bit (allB fun i => isNrm [Ck.f, Ck.f, Ck.f, Ck.f, Ck.f] (an i))) (Ob.bit (o_slices_ContainsFunc___api_Still_api_Still__v1 aq (fL an 0) (fL an 1) (fL an 2) (fL an 3) (fL an 4))), AV.bool (s_slices_ContainsFunc___api_Still_api_Still__v1_0 aq (fL an 0) (fL an 1) (fL an 2) (fL an 3) (fL an 4)))
  | _ => none
theorem ob_slices_ContainsFunc___api_Still_api_Still__v1 (aq : Nat) (k m p q r : Nat → Nat) (ho : o_slices_ContainsFunc___api_Still_api_Still__v1 aq k m p q r = true) : ((allB fun _ => true) && (o_slices_IndexFunc___api_Still_api_Still__v1 aq k m p q r)) = true := by
  unfold o_slices_ContainsFunc___api_Still_api_Still__v1 at ho
  simp only [allB_true, eqT_self, mrgB_self, Bool.true_and, Bool.and_true] at ho ⊢
  exact ho
theorem t_slices_ContainsFunc___api_Still_api_Still__v1 : SOkM Try.prog false (62, fun args => match S_slices_ContainsFunc___api_Still_api_Still__v1 args with | some (o, v) => some (o, v, []) | none => none) := SOkM.flat (N := 96) menv85_ok Try.func62 ann_slices_ContainsFunc___api_Still_api_Still__v1 Try.call62 fun args o v h ho => by
  unfold S_slices_ContainsFunc___api_Still_api_Still__v1 at h
  split at h
  · rename_i aq an
    cases h
    rw [Ob.both_ok, Bool.and_eq_true] at ho
    obtain ⟨hn, ho2⟩ := ho
    have n0 := hn
    simp only [Ob.ok] at n0
    replace n0 := nrm_fun n0
    have this := show outB (evFnM Try.prog false menv85 [] [] 96 Ann.no Try.f62 [AV.view aq 5 (fun i => mkN [Ck.f, Ck.f, Ck.f, Ck.f, Ck.f] (an i) 0), AV.func 63 [] []] []) = _ from e_slices_ContainsFunc___api_Still_api_Still__v1 aq (fL an 0) (fL an 1) (fL an 2) (fL an 3) (fL an 4)
    rw [(ob_slices_ContainsFunc___api_Still_api_Still__v1 aq (fL an 0) (fL an 1) (fL an 2) (fL an 3) (fL an 4) ho2)] at this
    rw [n0] at this
    exact ⟨this, rfl⟩
  · cases h
def c_slices_ContainsFunc___api_Still_api_Still__v1 : SFM := altS (fun args => match S_slices_ContainsFunc___api_Still_api_Still__v1 args with | some (o, v) => some (o, v, []) | none => none) (c_slices_ContainsFunc___api_Still_api_Still_)
theorem c_slices_ContainsFunc___api_Still_api_Still__v1_ok : SOkM Try.prog false (62, c_slices_ContainsFunc___api_Still_api_Still__v1) := (SOkM.alt t_slices_ContainsFunc___api_Still_api_Still__v1 c_slices_ContainsFunc___api_Still_api_Still__ok)
def mss85 : List (FuncId × SFM) := (62, c_slices_ContainsFunc___api_Still_api_Still__v1) :: mss84
def menv86 : EnvM := mkEnvM mxs mss85 mws2
theorem mss85_ok : All (SOkM Try.prog false) mss85 := All.cons c_slices_ContainsFunc___api_Still_api_Still__v1_ok mss84_ok
theorem menv86_ok : menv86.Ok Try.prog false := mkEnvM_ok mxs_ok mss85_ok mws2_ok
-- tumble/solve.asked
-- a loop of tumble/solve.asked
structure V_solve_asked_v1_L0 where
  v0 : Int
def tpl_solve_asked_v1_L0 : List AV := (AV.nul :: AV.nul :: tpA 14 (AV.nul :: AV.nul :: AV.nul :: tpA 16 ([])))
def cts_solve_asked_v1_L0 : List CT := []
def phs_solve_asked_v1_L0 : List Src := []
def T_solve_asked_v1_L0 (au : Nat) (aw ax : Nat → Int) (ay az aA aB aV aW aX aY bj bk : Nat → Nat) (bl : Nat → Int) (bm : Nat → Nat) (bn : Nat) (bp bq br bs bt : Nat → Nat) (bo : Int) (x : V_solve_asked_v1_L0) (F0 F1 F2 : Nat → List AV) : List AV × Heap := ((AV.view au 14 F0 :: AV.view bn 5 F1 :: tpA 14 (AV.view au 14 F2 :: AV.int .i64 bo :: AV.int .i64 x.v0 :: tpA 16 ([]))), [])
def sh_solve_asked_v1_L0 (au : Nat) (aw ax : Nat → Int) (ay az aA aB aV aW aX aY bj bk : Nat → Nat) (bl : Nat → Int) (bm : Nat → Nat) (bn : Nat) (bp bq br bs bt : Nat → Nat) (bo : Int) (x : V_solve_asked_v1_L0) : List AV × Heap := T_solve_asked_v1_L0 au aw ax ay az aA aB aV aW aX aY bj bk bl bm bn bp bq br bs bt bo x (fun j0 => [AV.int .i64 (aw j0), AV.int .i64 (ax j0), AV.float (ay j0), AV.float (az j0), AV.float (aA j0), AV.float (aB j0), AV.float (aV j0), AV.float (aW j0), AV.float (aX j0), AV.float (aY j0), AV.float (bj j0), AV.float (bk j0), AV.int .i64 (bl j0), AV.float (bm j0)]) (fun j0 => [AV.float (bp j0), AV.float (bq j0), AV.float (br j0), AV.float (bs j0), AV.float (bt j0)]) (fun j0 => [AV.int .i64 (aw j0), AV.int .i64 (ax j0), AV.float (ay j0), AV.float (az j0), AV.float (aA j0), AV.float (aB j0), AV.float (aV j0), AV.float (aW j0), AV.float (aX j0), AV.float (aY j0), AV.float (bj j0), AV.float (bk j0), AV.int .i64 (bl j0), AV.float (bm j0)])
def step_solve_asked_v1_L0 (au : Nat) (aw ax : Nat → Int) (ay az aA aB aV aW aX aY bj bk : Nat → Nat) (bl : Nat → Int) (bm : Nat → Nat) (bn : Nat) (bo : Int) (x : V_solve_asked_v1_L0) : V_solve_asked_v1_L0 := V_solve_asked_v1_L0.mk (IntKind.wrap .i64 (x.v0 + (1 : Int)))
def go_solve_asked_v1_L0 (au : Nat) (aw ax : Nat → Int) (ay az aA aB aV aW aX aY bj bk : Nat → Nat) (bl : Nat → Int) (bm : Nat → Nat) (bn : Nat) (bo : Int) (x : V_solve_asked_v1_L0) : Bool := let x0 := !(ilt x.v0 bo); (bif (bif x0 then false else (!(ieq (s_rows_Check_0 (aw (Int.toNat x.v0)) (ax (Int.toNat x.v0)) (ay (Int.toNat x.v0)) (az (Int.toNat x.v0)) (aA (Int.toNat x.v0)) (aB (Int.toNat x.v0)) (aV (Int.toNat x.v0)) (aW (Int.toNat x.v0)) (aX (Int.toNat x.v0)) (aY (Int.toNat x.v0)) (bj (Int.toNat x.v0)) (bk (Int.toNat x.v0)) (bl (Int.toNat x.v0)) (bm (Int.toNat x.v0)) (Int.ofNat au) (Int.ofNat bn)) (0 : Int)))) then false else (bif x0 then false else true))
def ok_solve_asked_v1_L0 (au : Nat) (aw ax : Nat → Int) (ay az aA aB aV aW aX aY bj bk : Nat → Nat) (bl : Nat → Int) (bm : Nat → Nat) (bn : Nat) (bo : Int) (x : V_solve_asked_v1_L0) : Bool := let x0 := (ile (0 : Int) x.v0) && (Nat.blt (Int.toNat x.v0) au); let x1 := !(ilt x.v0 bo); (mrgB (bif x1 then false else (!(ieq (s_rows_Check_0 (aw (Int.toNat x.v0)) (ax (Int.toNat x.v0)) (ay (Int.toNat x.v0)) (az (Int.toNat x.v0)) (aA (Int.toNat x.v0)) (aB (Int.toNat x.v0)) (aV (Int.toNat x.v0)) (aW (Int.toNat x.v0)) (aX (Int.toNat x.v0)) (aY (Int.toNat x.v0)) (bj (Int.toNat x.v0)) (bk (Int.toNat x.v0)) (bl (Int.toNat x.v0)) (bm (Int.toNat x.v0)) (Int.ofNat au) (Int.ofNat bn)) (0 : Int)))) x0 (mrgB x1 true x0))
def L_solve_asked_v1_L0 (au : Nat) (aw ax : Nat → Int) (ay az aA aB aV aW aX aY bj bk : Nat → Nat) (bl : Nat → Int) (bm : Nat → Nat) (bn : Nat) (bo : Int) (x : V_solve_asked_v1_L0) : V_solve_asked_v1_L0 := lastL (ok_solve_asked_v1_L0 au aw ax ay az aA aB aV aW aX aY bj bk bl bm bn bo) (go_solve_asked_v1_L0 au aw ax ay az aA aB aV aW aX aY bj bk bl bm bn bo) (step_solve_asked_v1_L0 au aw ax ay az aA aB aV aW aX aY bj bk bl bm bn bo) x
def E_solve_asked_v1_L0 (au : Nat) (aw ax : Nat → Int) (ay az aA aB aV aW aX aY bj bk : Nat → Nat) (bl : Nat → Int) (bm : Nat → Nat) (bn : Nat) (bo : Int) (x : V_solve_asked_v1_L0) : Bool := endsL (ok_solve_asked_v1_L0 au aw ax ay az aA aB aV aW aX aY bj bk bl bm bn bo) (go_solve_asked_v1_L0 au aw ax ay az aA aB aV aW aX aY bj bk bl bm bn bo) (step_solve_asked_v1_L0 au aw ax ay az aA aB aV aW aX aY bj bk bl bm bn bo) x
theorem all_solve_asked_v1_L0 (au : Nat) (aw ax : Nat → Int) (ay az aA aB aV aW aX aY bj bk : Nat → Nat) (bl : Nat → Int) (bm : Nat → Nat) (bn : Nat) (bp bq br bs bt : Nat → Nat) (bo : Int) (x : V_solve_asked_v1_L0) : rnd Try.prog false menv86 [] [] 96 Ann.no (subC [1, 1, 0, 1, 0, 0] (codeOf Try.f36)) 0 [] tpl_solve_asked_v1_L0 cts_solve_asked_v1_L0 (false :: false :: tpB 14 (false :: false :: tpB 17 ([]))) [] (sh_solve_asked_v1_L0 au aw ax ay az aA aB aV aW aX aY bj bk bl bm bn bp bq br bs bt bo x) = (true, true, go_solve_asked_v1_L0 au aw ax ay az aA aB aV aW aX aY bj bk bl bm bn bo x, ok_solve_asked_v1_L0 au aw ax ay az aA aB aV aW aX aY bj bk bl bm bn bo x, true, sh_solve_asked_v1_L0 au aw ax ay az aA aB aV aW aX aY bj bk bl bm bn bp bq br bs bt bo (step_solve_asked_v1_L0 au aw ax ay az aA aB aV aW aX aY bj bk bl bm bn bo x), true) := by kernel_rfl
def fam_solve_asked_v1_L0 (au : Nat) (aw ax : Nat → Int) (ay az aA aB aV aW aX aY bj bk : Nat → Nat) (bl : Nat → Int) (bm : Nat → Nat) (bn : Nat) (bp bq br bs bt : Nat → Nat) (bo : Int) : Fam Try.prog false menv86 [] [] 96 0 Ann.no (subC [1, 1, 0, 1, 0, 0] (codeOf Try.f36)) V_solve_asked_v1_L0 where
  sh := sh_solve_asked_v1_L0 au aw ax ay az aA aB aV aW aX aY bj bk bl bm bn bp bq br bs bt bo
  ok := ok_solve_asked_v1_L0 au aw ax ay az aA aB aV aW aX aY bj bk bl bm bn bo
  go := go_solve_asked_v1_L0 au aw ax ay az aA aB aV aW aX aY bj bk bl bm bn bo
  step := step_solve_asked_v1_L0 au aw ax ay az aA aB aV aW aX aY bj bk bl bm bn bo
  chg := (false :: false :: tpB 14 (false :: false :: tpB 17 ([])))
  chgH := []
  tpl := tpl_solve_asked_v1_L0
  cts := cts_solve_asked_v1_L0
  keep := 0
  srcs := []
  ann := (annNo (subC [1, 1, 0, 1, 0, 0] (codeOf Try.f36)))
  le := by kernel_rfl
  kept := by kernel_rfl
  keptB := by kernel_rfl
  all := all_solve_asked_v1_L0 au aw ax ay az aA aB aV aW aX aY bj bk bl bm bn bp bq br bs bt bo
  len := fun x => by kernel_rfl
  head := fun x y => by kernel_rfl
  con := fun x y => by kernel_rfl
  conH := fun x y => by kernel_rfl
def F_solve_asked_v1_L0 : St → Option Ch := fun s => cond (Nat.beq s.tm.length 35 && Nat.beq s.H.length 0) (tkCons (alL tpl_solve_asked_v1_L0 s.tm) fun l t0 => tkView 14 l fun s0 f0 => tkCons t0 fun j t1 => tkView 5 j fun s15 f1 => tkTops 14 t1 fun t2 => tkCons t2 fun L t3 => tkView 14 L fun s21 f2 => tkCons t3 fun V t4 => tkI .i64 V fun s36 => tkCons t4 fun Z t5 => tkI .i64 Z fun s37 => tkTops 16 t5 fun t6 => tkNil t6 <| tkNil (alH cts_solve_asked_v1_L0 (s.H ++ List.map phan phs_solve_asked_v1_L0)) <| Fam.out (fam_solve_asked_v1_L0 s0 (iL f0 0) (iL f0 1) (fL f0 2) (fL f0 3) (fL f0 4) (fL f0 5) (fL f0 6) (fL f0 7) (fL f0 8) (fL f0 9) (fL f0 10) (fL f0 11) (iL f0 12) (fL f0 13) s15 (fL f1 0) (fL f1 1) (fL f1 2) (fL f1 3) (fL f1 4) s36) s ((((allB fun i => isNrm [Ck.i .i64, Ck.i .i64, Ck.f, Ck.f, Ck.f, Ck.f, Ck.f, Ck.f, Ck.f, Ck.f, Ck.f, Ck.f, Ck.i .i64, Ck.f] (f0 i)) && (allB fun i => isNrm [Ck.f, Ck.f, Ck.f, Ck.f, Ck.f] (f1 i))) && (eqT f2 f0)) && (eqT s21 s0)) (V_solve_asked_v1_L0.mk s37)) none
theorem F_solve_asked_v1_L0_ok : ∀ s ch, F_solve_asked_v1_L0 s = some ch → AllI s ch ∧ LoopSpec Try.prog false 0 (subC [1, 1, 0, 1, 0, 0] (codeOf Try.f36)) s (sel ch) := by
  intro s ch h
  unfold F_solve_asked_v1_L0 at h
  obtain ⟨hl, h0⟩ := cond_some h rfl
  clear h
  obtain ⟨hl, hb⟩ := and_beq2 hl
  obtain ⟨l, t0, e0, h1⟩ := tkCons_some h0
  obtain ⟨s0, f0, rfl, h2⟩ := tkView_some h1
  obtain ⟨j, t1, rfl, h3⟩ := tkCons_some h2
  obtain ⟨s15, f1, rfl, h4⟩ := tkView_some h3
  obtain ⟨t2, rfl, h5⟩ := tkTops_some h4
  obtain ⟨L, t3, rfl, h6⟩ := tkCons_some h5
  obtain ⟨s21, f2, rfl, h7⟩ := tkView_some h6
  obtain ⟨V, t4, rfl, h8⟩ := tkCons_some h7
  obtain ⟨s36, rfl, h9⟩ := tkI_some h8
  obtain ⟨Z, t5, rfl, h10⟩ := tkCons_some h9
  obtain ⟨s37, rfl, h11⟩ := tkI_some h10
  obtain ⟨t6, rfl, h12⟩ := tkTops_some h11
  obtain ⟨rfl, h13⟩ := tkNil_some h12
  obtain ⟨eH, h14⟩ := tkNil_some h13
  refine Fam.spec menv86_ok (fam_solve_asked_v1_L0 s0 (iL f0 0) (iL f0 1) (fL f0 2) (fL f0 3) (fL f0 4) (fL f0 5) (fL f0 6) (fL f0 7) (fL f0 8) (fL f0 9) (fL f0 10) (fL f0 11) (iL f0 12) (fL f0 13) s15 (fL f1 0) (fL f1 1) (fL f1 2) (fL f1 3) (fL f1 4) s36) (phs := phs_solve_asked_v1_L0) (hl.trans (by kernel_rfl)) (hb.trans (by kernel_rfl)) ?_ ?_ h14
  · rw [← hdr_alH cts_solve_asked_v1_L0 (s.H ++ List.map phan phs_solve_asked_v1_L0), eH]; kernel_rfl
  · intro hq
    simp only [Bool.and_eq_true] at hq
    obtain ⟨⟨⟨hq0, hq1⟩, hq2⟩, hq3⟩ := hq
    have n0 := nrm_fun hq0
    have n1 := nrm_fun hq1
    have hx := eqT_eq hq2; subst f2
    have hx := eqT_eq hq3; subst s21
    show sh_solve_asked_v1_L0 s0 (iL f0 0) (iL f0 1) (fL f0 2) (fL f0 3) (fL f0 4) (fL f0 5) (fL f0 6) (fL f0 7) (fL f0 8) (fL f0 9) (fL f0 10) (fL f0 11) (iL f0 12) (fL f0 13) s15 (fL f1 0) (fL f1 1) (fL f1 2) (fL f1 3) (fL f1 4) s36 (V_solve_asked_v1_L0.mk s37) = (alL tpl_solve_asked_v1_L0 s.tm, alH cts_solve_asked_v1_L0 (s.H ++ List.map phan phs_solve_asked_v1_L0))
    rw [e0, eH]
    refine Eq.trans (show sh_solve_asked_v1_L0 s0 (iL f0 0) (iL f0 1) (fL f0 2) (fL f0 3) (fL f0 4) (fL f0 5) (fL f0 6) (fL f0 7) (fL f0 8) (fL f0 9) (fL f0 10) (fL f0 11) (iL f0 12) (fL f0 13) s15 (fL f1 0) (fL f1 1) (fL f1 2) (fL f1 3) (fL f1 4) s36 (V_solve_asked_v1_L0.mk s37) = T_solve_asked_v1_L0 s0 (iL f0 0) (iL f0 1) (fL f0 2) (fL f0 3) (fL f0 4) (fL f0 5) (fL f0 6) (fL f0 7) (fL f0 8) (fL f0 9) (fL f0 10) (fL f0 11) (iL f0 12) (fL f0 13) s15 (fL f1 0) (fL f1 1) (fL f1 2) (fL f1 3) (fL f1 4) s36 (V_solve_asked_v1_L0.mk s37) (fun i => mkN [Ck.i .i64, Ck.i .i64, Ck.f, Ck.f, Ck.f, Ck.f, Ck.f, Ck.f, Ck.f, Ck.f, Ck.f, Ck.f, Ck.i .i64, Ck.f] (f0 i) 0) (fun i => mkN [Ck.f, Ck.f, Ck.f, Ck.f, Ck.f] (f1 i) 0) (fun i => mkN [Ck.i .i64, Ck.i .i64, Ck.f, Ck.f, Ck.f, Ck.f, Ck.f, Ck.f, Ck.f, Ck.f, Ck.f, Ck.f, Ck.i .i64, Ck.f] (f0 i) 0) by kernel_rfl) ?_
    rw [n0, n1]
    kernel_rfl
theorem ann_solve_asked_v1 : FnOk Try.prog false 0 Try.f36 (Ann.two Ann.no (Ann.two Ann.no (Ann.two (Ann.two Ann.no (Ann.one (Ann.loop F_solve_asked_v1_L0))) Ann.no))) := (fnOk_of (c := codeOf Try.f36) (by kernel_rfl) (annSeq (a := (subC [0] (codeOf Try.f36))) (b := (subC [1] (codeOf Try.f36))) (by kernel_rfl) (annNo (subC [0] (codeOf Try.f36))) (annSeq (a := (subC [1, 0] (codeOf Try.f36))) (b := (subC [1, 1] (codeOf Try.f36))) (by kernel_rfl) (annNo (subC [1, 0] (codeOf Try.f36))) (annSeq (a := (subC [1, 1, 0] (codeOf Try.f36))) (b := (subC [1, 1, 1] (codeOf Try.f36))) (by kernel_rfl) (annSeq (a := (subC [1, 1, 0, 0] (codeOf Try.f36))) (b := (subC [1, 1, 0, 1] (codeOf Try.f36))) (by kernel_rfl) (annNo (subC [1, 1, 0, 0] (codeOf Try.f36))) (annBlock (a := (subC [1, 1, 0, 1, 0] (codeOf Try.f36))) (i := 0) (by kernel_rfl) (annLoop (a := (subC [1, 1, 0, 1, 0, 0] (codeOf Try.f36))) (by kernel_rfl) F_solve_asked_v1_L0_ok))) (annNo (subC [1, 1, 1] (codeOf Try.f36)))))))
def s_solve_asked_v1_0 (aq : Nat) (k m : Nat → Int) (p q r F I J O P Q R : Nat → Nat) (S : Nat → Int) (U : Nat → Nat) (bu : Nat) (u E z C D : Nat → Nat) : Int := let x0 := (L_solve_asked_v1_L0 aq k m p q r F I J O P Q R S U bu (Int.ofNat aq) (V_solve_asked_v1_L0.mk (0 : Int))).v0; let x1 := Int.toNat x0; let x2 := s_rows_Check_0 (k x1) (m x1) (p x1) (q x1) (r x1) (F x1) (I x1) (J x1) (O x1) (P x1) (Q x1) (R x1) (S x1) (U x1) (Int.ofNat aq) (Int.ofNat bu); (bif ((ilt (1048576 : Int) (Int.ofNat aq)) || (ilt (1024 : Int) (Int.ofNat bu))) then (4 : Int) else (bif (bif (!(ilt x0 (Int.ofNat aq))) then false else (!(ieq x2 (0 : Int)))) then x2 else (bif (!(s_slices_ContainsFunc___api_Still_api_Still__v1_0 bu u E z C D)) then (0 : Int) else (200 : Int))))
def q_solve_asked_v1 (aq : Nat) (k m : Nat → Int) (p q r F I J O P Q R : Nat → Nat) (S : Nat → Int) (U : Nat → Nat) (bu : Nat) (u E z C D : Nat → Nat) : Bool := (let x0 := ((((allB fun _ => true) && (allB fun _ => true)) && (eqT (fun i => [AV.int .i64 (k i), AV.int .i64 (m i), AV.float (p i), AV.float (q i), AV.float (r i), AV.float (F i), AV.float (I i), AV.float (J i), AV.float (O i), AV.float (P i), AV.float (Q i), AV.float (R i), AV.int .i64 (S i), AV.float (U i)]) (fun i => [AV.int .i64 (k i), AV.int .i64 (m i), AV.float (p i), AV.float (q i), AV.float (r i), AV.float (F i), AV.float (I i), AV.float (J i), AV.float (O i), AV.float (P i), AV.float (Q i), AV.float (R i), AV.int .i64 (S i), AV.float (U i)]))) && (eqT aq aq)) && (E_solve_asked_v1_L0 aq k m p q r F I J O P Q R S U bu (Int.ofNat aq) (V_solve_asked_v1_L0.mk (0 : Int))); let x1 := ((allB fun _ => true) && (o_slices_ContainsFunc___api_Still_api_Still__v1 bu u E z C D)) && x0; let x2 := (L_solve_asked_v1_L0 aq k m p q r F I J O P Q R S U bu (Int.ofNat aq) (V_solve_asked_v1_L0.mk (0 : Int))).v0; let x3 := Int.toNat x2; (mrgB ((ilt (1048576 : Int) (Int.ofNat aq)) || (ilt (1024 : Int) (Int.ofNat bu))) true (mrgB (bif (!(ilt x2 (Int.ofNat aq))) then false else (!(ieq (s_rows_Check_0 (k x3) (m x3) (p x3) (q x3) (r x3) (F x3) (I x3) (J x3) (O x3) (P x3) (Q x3) (R x3) (S x3) (U x3) (Int.ofNat aq) (Int.ofNat bu)) (0 : Int)))) x0 (mrgB (!(s_slices_ContainsFunc___api_Still_api_Still__v1_0 bu u E z C D)) x1 x1))))
theorem e_solve_asked_v1 (aq : Nat) (k m : Nat → Int) (p q r F I J O P Q R : Nat → Nat) (S : Nat → Int) (U : Nat → Nat) (bu : Nat) (u E z C D : Nat → Nat) : outB (evFnM Try.prog false menv86 [] [] 96 (Ann.two Ann.no (Ann.two Ann.no (Ann.two (Ann.two Ann.no (Ann.one (Ann.loop F_solve_asked_v1_L0))) Ann.no))) Try.f36 [AV.view aq 14 (fun i0 => [AV.int .i64 (k i0), AV.int .i64 (m i0), AV.float (p i0), AV.float (q i0), AV.float (r i0), AV.float (F i0), AV.float (I i0), AV.float (J i0), AV.float (O i0), AV.float (P i0), AV.float (Q i0), AV.float (R i0), AV.int .i64 (S i0), AV.float (U i0)]), AV.view bu 5 (fun i0 => [AV.float (u i0), AV.float (E i0), AV.float (z i0), AV.float (C i0), AV.float (D i0)])] []) = some (q_solve_asked_v1 aq k m p q r F I J O P Q R S U bu u E z C D, AV.int .i64 (s_solve_asked_v1_0 aq k m p q r F I J O P Q R S U bu u E z C D)) := by kernel_rfl
def o_solve_asked_v1 (aq : Nat) (k m : Nat → Int) (p q r F I J O P Q R : Nat → Nat) (S : Nat → Int) (U : Nat → Nat) (bu : Nat) (u E z C D : Nat → Nat) : Bool := let x0 := E_solve_asked_v1_L0 aq k m p q r F I J O P Q R S U bu (Int.ofNat aq) (V_solve_asked_v1_L0.mk (0 : Int)); let x1 := (o_slices_ContainsFunc___api_Still_api_Still__v1 bu u E z C D) && x0; let x2 := (L_solve_asked_v1_L0 aq k m p q r F I J O P Q R S U bu (Int.ofNat aq) (V_solve_asked_v1_L0.mk (0 : Int))).v0; let x3 := Int.toNat x2; (mrgB ((ilt (1048576 : Int) (Int.ofNat aq)) || (ilt (1024 : Int) (Int.ofNat bu))) true (mrgB (bif (!(ilt x2 (Int.ofNat aq))) then false else (!(ieq (s_rows_Check_0 (k x3) (m x3) (p x3) (q x3) (r x3) (F x3) (I x3) (J x3) (O x3) (P x3) (Q x3) (R x3) (S x3) (U x3) (Int.ofNat aq) (Int.ofNat bu)) (0 : Int)))) x0 (mrgB (!(s_slices_ContainsFunc___api_Still_api_Still__v1_0 bu u E z C D)) x1 x1)))
def S_solve_asked_v1 : List AV → Option (Ob × AV)
  | [AV.view aq 14 an, AV.view bu 5 ar] => some (Ob.both (Ob.bit ((allB fun i => isNrm [Ck.i .i64, Ck.i .i64, Ck.f, Ck.f, Ck.f, Ck.f, Ck.f, Ck.f, Ck.f, Ck.f, Ck.f, Ck.f, Ck.i .i64, Ck.f] (an i)) && (allB fun i => isNrm [Ck.f, Ck.f, Ck.f, Ck.f, Ck.f] (ar i)))) (Ob.bit (o_solve_asked_v1 aq (iL an 0) (iL an 1) (fL an 2) (fL an 3) (fL an 4) (fL an 5) (fL an 6) (fL an 7) (fL an 8) (fL an 9) (fL an 10) (fL an 11) (iL an 12) (fL an 13) bu (fL ar 0) (fL ar 1) (fL ar 2) (fL ar 3) (fL ar 4))), AV.int .i64 (s_solve_asked_v1_0 aq (iL an 0) (iL an 1) (fL an 2) (fL an 3) (fL an 4) (fL an 5) (fL an 6) (fL an 7) (fL an 8) (fL an 9) (fL an 10) (fL an 11) (iL an 12) (fL an 13) bu (fL ar 0) (fL ar 1) (fL ar 2) (fL ar 3) (fL ar 4)))
  | _ => none
theorem ob_solve_asked_v1 (aq : Nat) (k m : Nat → Int) (p q r F I J O P Q R : Nat → Nat) (S : Nat → Int) (U : Nat → Nat) (bu : Nat) (u E z C D : Nat → Nat) (ho : o_solve_asked_v1 aq k m p q r F I J O P Q R S U bu u E z C D = true) : q_solve_asked_v1 aq k m p q r F I J O P Q R S U bu u E z C D = true := by
  unfold q_solve_asked_v1
  unfold o_solve_asked_v1 at ho
  simp only [allB_true, eqT_self, mrgB_self, Bool.true_and, Bool.and_true] at ho ⊢
  exact ho
theorem t_solve_asked_v1 : SOkM Try.prog false (36, fun args => match S_solve_asked_v1 args with | some (o, v) => some (o, v, []) | none => none) := SOkM.flat (N := 96) menv86_ok Try.func36 ann_solve_asked_v1 Try.call36 fun args o v h ho => by
  unfold S_solve_asked_v1 at h
  split at h
  · rename_i aq an bu ar
    cases h
    rw [Ob.both_ok, Bool.and_eq_true] at ho
    obtain ⟨hn, ho2⟩ := ho
    simp only [Ob.ok, Bool.and_eq_true] at hn
    obtain ⟨n0, n1⟩ := hn
    replace n0 := nrm_fun n0
    replace n1 := nrm_fun n1
    have this := show outB (evFnM Try.prog false menv86 [] [] 96 (Ann.two Ann.no (Ann.two Ann.no (Ann.two (Ann.two Ann.no (Ann.one (Ann.loop F_solve_asked_v1_L0))) Ann.no))) Try.f36 [AV.view aq 14 (fun i => mkN [Ck.i .i64, Ck.i .i64, Ck.f, Ck.f, Ck.f, Ck.f, Ck.f, Ck.f, Ck.f, Ck.f, Ck.f, Ck.f, Ck.i .i64, Ck.f] (an i) 0), AV.view bu 5 (fun i => mkN [Ck.f, Ck.f, Ck.f, Ck.f, Ck.f] (ar i) 0)] []) = _ from e_solve_asked_v1 aq (iL an 0) (iL an 1) (fL an 2) (fL an 3) (fL an 4) (fL an 5) (fL an 6) (fL an 7) (fL an 8) (fL an 9) (fL an 10) (fL an 11) (iL an 12) (fL an 13) bu (fL ar 0) (fL ar 1) (fL ar 2) (fL ar 3) (fL ar 4)
    rw [(ob_solve_asked_v1 aq (iL an 0) (iL an 1) (fL an 2) (fL an 3) (fL an 4) (fL an 5) (fL an 6) (fL an 7) (fL an 8) (fL an 9) (fL an 10) (fL an 11) (iL an 12) (fL an 13) bu (fL ar 0) (fL ar 1) (fL ar 2) (fL ar 3) (fL ar 4) ho2)] at this
    rw [n0, n1] at this
    exact ⟨this, rfl⟩
  · cases h
def c_solve_asked_v1 : SFM := altS (fun args => match S_solve_asked_v1 args with | some (o, v) => some (o, v, []) | none => none) (c_solve_asked)
theorem c_solve_asked_v1_ok : SOkM Try.prog false (36, c_solve_asked_v1) := (SOkM.alt t_solve_asked_v1 c_solve_asked_ok)
def mss86 : List (FuncId × SFM) := (36, c_solve_asked_v1) :: mss85
def menv87 : EnvM := mkEnvM mxs mss86 mws2
theorem mss86_ok : All (SOkM Try.prog false) mss86 := All.cons c_solve_asked_v1_ok mss85_ok
theorem menv87_ok : menv87.Ok Try.prog false := mkEnvM_ok mxs_ok mss86_ok mws2_ok
-- tumble/rows.Speed
theorem ann_rows_Speed : FnOk Try.prog false 0 Try.f44 Ann.no := (fnNo _)
def s_rows_Speed_0 (l j : Int) (e L V Z aa ab W X Y M : Nat) (ad : Int) (ac ae af ah ai ak ag aj al am ao : Nat) : Nat := (bif (!(ieq (s_rows_asked_0 l j e L V Z aa ab W X Y M ad ac ae af ah ai ak ag aj al am ao) (0 : Int))) then 0 else (s_rows_speed_0 l j e L V Z aa ab W X Y M ad ac ae af ah ai ak ag aj al am ao))
def s_rows_Speed_1 (l j : Int) (e L V Z aa ab W X Y M : Nat) (ad : Int) (ac ae af ah ai ak ag aj al am ao : Nat) : Int := (bif (!(ieq (s_rows_asked_0 l j e L V Z aa ab W X Y M ad ac ae af ah ai ak ag aj al am ao) (0 : Int))) then (s_rows_asked_0 l j e L V Z aa ab W X Y M ad ac ae af ah ai ak ag aj al am ao) else (0 : Int))
theorem e_rows_Speed (l j : Int) (e L V Z aa ab W X Y M : Nat) (ad : Int) (ac ae af ah ai ak ag aj al am ao : Nat) : outB (evFnM Try.prog false menv87 [] [] 96 Ann.no Try.f44 [AV.agg [AV.int .i64 l, AV.int .i64 j, AV.float e, AV.float L, AV.float V, AV.float Z, AV.float aa, AV.float ab, AV.float W, AV.float X, AV.float Y, AV.float M, AV.int .i64 ad, AV.float ac], AV.agg [AV.float ae, AV.float af, AV.float ah, AV.float ai, AV.float ak], AV.agg [AV.float ag, AV.float aj, AV.float al, AV.float am, AV.float ao]] []) = some (true, AV.tup [AV.float (s_rows_Speed_0 l j e L V Z aa ab W X Y M ad ac ae af ah ai ak ag aj al am ao), AV.int .i64 (s_rows_Speed_1 l j e L V Z aa ab W X Y M ad ac ae af ah ai ak ag aj al am ao)]) := by kernel_rfl
def S_rows_Speed : List AV → Option (Ob × AV)
  | [AV.agg [AV.int .i64 l, AV.int .i64 j, AV.float e, AV.float L, AV.float V, AV.float Z, AV.float aa, AV.float ab, AV.float W, AV.float X, AV.float Y, AV.float M, AV.int .i64 ad, AV.float ac], AV.agg [AV.float ae, AV.float af, AV.float ah, AV.float ai, AV.float ak], AV.agg [AV.float ag, AV.float aj, AV.float al, AV.float am, AV.float ao]] => some (Ob.tt, AV.tup [AV.float (s_rows_Speed_0 l j e L V Z aa ab W X Y M ad ac ae af ah ai ak ag aj al am ao), AV.int .i64 (s_rows_Speed_1 l j e L V Z aa ab W X Y M ad ac ae af ah ai ak ag aj al am ao)])
  | _ => none
theorem t_rows_Speed : SOkM Try.prog false (44, fun args => match S_rows_Speed args with | some (o, v) => some (o, v, []) | none => none) := SOkM.flat (N := 96) menv87_ok Try.func44 ann_rows_Speed Try.call44 fun args o v h ho => by
  unfold S_rows_Speed at h
  split at h
  · rename_i l j e L V Z aa ab W X Y M ad ac ae af ah ai ak ag aj al am ao
    cases h
    have ho2 := ho
    have this := show outB (evFnM Try.prog false menv87 [] [] 96 Ann.no Try.f44 [AV.agg [AV.int .i64 l, AV.int .i64 j, AV.float e, AV.float L, AV.float V, AV.float Z, AV.float aa, AV.float ab, AV.float W, AV.float X, AV.float Y, AV.float M, AV.int .i64 ad, AV.float ac], AV.agg [AV.float ae, AV.float af, AV.float ah, AV.float ai, AV.float ak], AV.agg [AV.float ag, AV.float aj, AV.float al, AV.float am, AV.float ao]] []) = _ from e_rows_Speed l j e L V Z aa ab W X Y M ad ac ae af ah ai ak ag aj al am ao
    exact ⟨this, rfl⟩
  · cases h
def c_rows_Speed : SFM := fun args => match S_rows_Speed args with | some (o, v) => some (o, v, []) | none => none
theorem c_rows_Speed_ok : SOkM Try.prog false (44, c_rows_Speed) := t_rows_Speed
def mss87 : List (FuncId × SFM) := (44, c_rows_Speed) :: mss86
def menv88 : EnvM := mkEnvM mxs mss87 mws2
theorem mss87_ok : All (SOkM Try.prog false) mss87 := All.cons c_rows_Speed_ok mss86_ok
theorem menv88_ok : menv88.Ok Try.prog false := mkEnvM_ok mxs_ok mss87_ok mws2_ok
-- tumble/rows.Weight
theorem ann_rows_Weight : FnOk Try.prog false 0 Try.f33 Ann.no := (fnNo _)
def s_rows_Weight_0 (l j : Int) (e L V Z aa ab W X Y M : Nat) (ad : Int) (ac ae af ah ai ak ag aj al am ao : Nat) : Nat := (bif (!(ieq (s_rows_asked_0 l j e L V Z aa ab W X Y M ad ac ae af ah ai ak ag aj al am ao) (0 : Int))) then 0 else (s_rows_weight_0 l j e L V Z aa ab W X Y M ad ac ae af ah ai ak ag aj al am ao))
def s_rows_Weight_1 (l j : Int) (e L V Z aa ab W X Y M : Nat) (ad : Int) (ac ae af ah ai ak ag aj al am ao : Nat) : Int := (bif (!(ieq (s_rows_asked_0 l j e L V Z aa ab W X Y M ad ac ae af ah ai ak ag aj al am ao) (0 : Int))) then (s_rows_asked_0 l j e L V Z aa ab W X Y M ad ac ae af ah ai ak ag aj al am ao) else (0 : Int))
theorem e_rows_Weight (l j : Int) (e L V Z aa ab W X Y M : Nat) (ad : Int) (ac ae af ah ai ak ag aj al am ao : Nat) : outB (evFnM Try.prog false menv88 [] [] 96 Ann.no Try.f33 [AV.agg [AV.int .i64 l, AV.int .i64 j, AV.float e, AV.float L, AV.float V, AV.float Z, AV.float aa, AV.float ab, AV.float W, AV.float X, AV.float Y, AV.float M, AV.int .i64 ad, AV.float ac], AV.agg [AV.float ae, AV.float af, AV.float ah, AV.float ai, AV.float ak], AV.agg [AV.float ag, AV.float aj, AV.float al, AV.float am, AV.float ao]] []) = some (true, AV.tup [AV.float (s_rows_Weight_0 l j e L V Z aa ab W X Y M ad ac ae af ah ai ak ag aj al am ao), AV.int .i64 (s_rows_Weight_1 l j e L V Z aa ab W X Y M ad ac ae af ah ai ak ag aj al am ao)]) := by kernel_rfl
def S_rows_Weight : List AV → Option (Ob × AV)
  | [AV.agg [AV.int .i64 l, AV.int .i64 j, AV.float e, AV.float L, AV.float V, AV.float Z, AV.float aa, AV.float ab, AV.float W, AV.float X, AV.float Y, AV.float M, AV.int .i64 ad, AV.float ac], AV.agg [AV.float ae, AV.float af, AV.float ah, AV.float ai, AV.float ak], AV.agg [AV.float ag, AV.float aj, AV.float al, AV.float am, AV.float ao]] => some (Ob.tt, AV.tup [AV.float (s_rows_Weight_0 l j e L V Z aa ab W X Y M ad ac ae af ah ai ak ag aj al am ao), AV.int .i64 (s_rows_Weight_1 l j e L V Z aa ab W X Y M ad ac ae af ah ai ak ag aj al am ao)])
  | _ => none
theorem t_rows_Weight : SOkM Try.prog false (33, fun args => match S_rows_Weight args with | some (o, v) => some (o, v, []) | none => none) := SOkM.flat (N := 96) menv88_ok Try.func33 ann_rows_Weight Try.call33 fun args o v h ho => by
  unfold S_rows_Weight at h
  split at h
  · rename_i l j e L V Z aa ab W X Y M ad ac ae af ah ai ak ag aj al am ao
    cases h
    have ho2 := ho
    have this := show outB (evFnM Try.prog false menv88 [] [] 96 Ann.no Try.f33 [AV.agg [AV.int .i64 l, AV.int .i64 j, AV.float e, AV.float L, AV.float V, AV.float Z, AV.float aa, AV.float ab, AV.float W, AV.float X, AV.float Y, AV.float M, AV.int .i64 ad, AV.float ac], AV.agg [AV.float ae, AV.float af, AV.float ah, AV.float ai, AV.float ak], AV.agg [AV.float ag, AV.float aj, AV.float al, AV.float am, AV.float ao]] []) = _ from e_rows_Weight l j e L V Z aa ab W X Y M ad ac ae af ah ai ak ag aj al am ao
    exact ⟨this, rfl⟩
  · cases h
def c_rows_Weight : SFM := fun args => match S_rows_Weight args with | some (o, v) => some (o, v, []) | none => none
theorem c_rows_Weight_ok : SOkM Try.prog false (33, c_rows_Weight) := t_rows_Weight
def mss88 : List (FuncId × SFM) := (33, c_rows_Weight) :: mss87
def menv89 : EnvM := mkEnvM mxs mss88 mws2
theorem mss88_ok : All (SOkM Try.prog false) mss88 := All.cons c_rows_Weight_ok mss87_ok
theorem menv89_ok : menv89.Ok Try.prog false := mkEnvM_ok mxs_ok mss88_ok mws2_ok
-- tumble/num.none[float64]
theorem ann_num_none_float64_ : FnOk Try.prog false 0 Try.f75 Ann.no := (fnNo _)
def s_num_none_float64__0 (l : Nat) : Bool := (!(feq l l))
theorem e_num_none_float64_ (l : Nat) : outB (evFnM Try.prog false menv89 [] [] 96 Ann.no Try.f75 [AV.float l] []) = some (true, AV.bool (s_num_none_float64__0 l)) := by kernel_rfl
def S_num_none_float64_ : List AV → Option (Ob × AV)
  | [AV.float l] => some (Ob.tt, AV.bool (s_num_none_float64__0 l))
  | _ => none
theorem t_num_none_float64_ : SOkM Try.prog false (75, fun args => match S_num_none_float64_ args with | some (o, v) => some (o, v, []) | none => none) := SOkM.flat (N := 96) menv89_ok Try.func75 ann_num_none_float64_ Try.call75 fun args o v h ho => by
  unfold S_num_none_float64_ at h
  split at h
  · rename_i l
    cases h
    have ho2 := ho
    have this := show outB (evFnM Try.prog false menv89 [] [] 96 Ann.no Try.f75 [AV.float l] []) = _ from e_num_none_float64_ l
    exact ⟨this, rfl⟩
  · cases h
def c_num_none_float64_ : SFM := fun args => match S_num_none_float64_ args with | some (o, v) => some (o, v, []) | none => none
theorem c_num_none_float64__ok : SOkM Try.prog false (75, c_num_none_float64_) := t_num_none_float64_
def mss89 : List (FuncId × SFM) := (75, c_num_none_float64_) :: mss88
def menv90 : EnvM := mkEnvM mxs mss89 mws2
theorem mss89_ok : All (SOkM Try.prog false) mss89 := All.cons c_num_none_float64__ok mss88_ok
theorem menv90_ok : menv90.Ok Try.prog false := mkEnvM_ok mxs_ok mss89_ok mws2_ok
-- tumble/num.minus[float64]
theorem ann_num_minus_float64_ : FnOk Try.prog false 0 Try.f76 Ann.no := (fnNo _)
def s_num_minus_float64__0 (l : Nat) : Bool := (flt (fdiv 4607182418800017408 l) 0)
theorem e_num_minus_float64_ (l : Nat) : outB (evFnM Try.prog false menv90 [] [] 96 Ann.no Try.f76 [AV.float l] []) = some (true, AV.bool (s_num_minus_float64__0 l)) := by kernel_rfl
def S_num_minus_float64_ : List AV → Option (Ob × AV)
  | [AV.float l] => some (Ob.tt, AV.bool (s_num_minus_float64__0 l))
  | _ => none
theorem t_num_minus_float64_ : SOkM Try.prog false (76, fun args => match S_num_minus_float64_ args with | some (o, v) => some (o, v, []) | none => none) := SOkM.flat (N := 96) menv90_ok Try.func76 ann_num_minus_float64_ Try.call76 fun args o v h ho => by
  unfold S_num_minus_float64_ at h
  split at h
  · rename_i l
    cases h
    have ho2 := ho
    have this := show outB (evFnM Try.prog false menv90 [] [] 96 Ann.no Try.f76 [AV.float l] []) = _ from e_num_minus_float64_ l
    exact ⟨this, rfl⟩
  · cases h
def c_num_minus_float64_ : SFM := fun args => match S_num_minus_float64_ args with | some (o, v) => some (o, v, []) | none => none
theorem c_num_minus_float64__ok : SOkM Try.prog false (76, c_num_minus_float64_) := t_num_minus_float64_
def mss90 : List (FuncId × SFM) := (76, c_num_minus_float64_) :: mss89
def menv91 : EnvM := mkEnvM mxs mss90 mws2
theorem mss90_ok : All (SOkM Try.prog false) mss90 := All.cons c_num_minus_float64__ok mss89_ok
theorem menv91_ok : menv91.Ok Try.prog false := mkEnvM_ok mxs_ok mss90_ok mws2_ok
-- tumble/num.Most[float64]
theorem ann_num_Most_float64_ : FnOk Try.prog false 0 Try.f45 Ann.no := (fnNo _)
def s_num_Most_float64__0 (l j : Nat) : Nat := (bif (((s_num_none_float64__0 l) || (flt l j)) || (((feq l 0) && (feq j 0)) && (s_num_minus_float64__0 l))) then j else l)
theorem e_num_Most_float64_ (l j : Nat) : outB (evFnM Try.prog false menv91 [] [] 96 Ann.no Try.f45 [AV.float l, AV.float j] []) = some (true, AV.float (s_num_Most_float64__0 l j)) := by kernel_rfl
def S_num_Most_float64_ : List AV → Option (Ob × AV)
  | [AV.float l, AV.float j] => some (Ob.tt, AV.float (s_num_Most_float64__0 l j))
  | _ => none
theorem t_num_Most_float64_ : SOkM Try.prog false (45, fun args => match S_num_Most_float64_ args with | some (o, v) => some (o, v, []) | none => none) := SOkM.flat (N := 96) menv91_ok Try.func45 ann_num_Most_float64_ Try.call45 fun args o v h ho => by
  unfold S_num_Most_float64_ at h
  split at h
  · rename_i l j
    cases h
    have ho2 := ho
    have this := show outB (evFnM Try.prog false menv91 [] [] 96 Ann.no Try.f45 [AV.float l, AV.float j] []) = _ from e_num_Most_float64_ l j
    exact ⟨this, rfl⟩
  · cases h
def c_num_Most_float64_ : SFM := fun args => match S_num_Most_float64_ args with | some (o, v) => some (o, v, []) | none => none
theorem c_num_Most_float64__ok : SOkM Try.prog false (45, c_num_Most_float64_) := t_num_Most_float64_
def mss91 : List (FuncId × SFM) := (45, c_num_Most_float64_) :: mss90
def menv92 : EnvM := mkEnvM mxs mss91 mws2
theorem mss91_ok : All (SOkM Try.prog false) mss91 := All.cons c_num_Most_float64__ok mss90_ok
theorem menv92_ok : menv92.Ok Try.prog false := mkEnvM_ok mxs_ok mss91_ok mws2_ok
-- tumble/solve.Left
-- a loop of tumble/solve.Left
structure V_solve_Left_L0 where
  v0 : Nat
  v1 : Int
def tpl_solve_Left_L0 : List AV := (AV.top :: AV.nul :: AV.top :: AV.top :: AV.top :: AV.top :: AV.top :: AV.nul :: tpA 15 (AV.nul :: AV.nul :: AV.nul :: tpA 59 ([])))
def cts_solve_Left_L0 : List CT := []
def phs_solve_Left_L0 : List Src := []
def T_solve_Left_L0 (au : Nat) (aw ax ay az aA : Nat → Nat) (aB : Nat) (aV aW : Nat → Int) (aX aY bj bk bl bm bn bp bq br : Nat → Nat) (bs : Nat → Int) (bt : Nat → Nat) (bo : Int) (x : V_solve_Left_L0) (F0 F1 : Nat → List AV) : List AV × Heap := ((AV.top :: AV.view au 5 F0 :: AV.top :: AV.top :: AV.top :: AV.top :: AV.top :: AV.float x.v0 :: tpA 15 (AV.view aB 14 F1 :: AV.int .i64 bo :: AV.int .i64 x.v1 :: tpA 59 ([]))), [])
def sh_solve_Left_L0 (au : Nat) (aw ax ay az aA : Nat → Nat) (aB : Nat) (aV aW : Nat → Int) (aX aY bj bk bl bm bn bp bq br : Nat → Nat) (bs : Nat → Int) (bt : Nat → Nat) (bo : Int) (x : V_solve_Left_L0) : List AV × Heap := T_solve_Left_L0 au aw ax ay az aA aB aV aW aX aY bj bk bl bm bn bp bq br bs bt bo x (fun j0 => [AV.float (aw j0), AV.float (ax j0), AV.float (ay j0), AV.float (az j0), AV.float (aA j0)]) (fun j0 => [AV.int .i64 (aV j0), AV.int .i64 (aW j0), AV.float (aX j0), AV.float (aY j0), AV.float (bj j0), AV.float (bk j0), AV.float (bl j0), AV.float (bm j0), AV.float (bn j0), AV.float (bp j0), AV.float (bq j0), AV.float (br j0), AV.int .i64 (bs j0), AV.float (bt j0)])
def step_solve_Left_L0 (au : Nat) (aw ax ay az aA : Nat → Nat) (aB : Nat) (aV aW : Nat → Int) (aX aY bj bk bl bm bn bp bq br : Nat → Nat) (bs : Nat → Int) (bt : Nat → Nat) (bo : Int) (x : V_solve_Left_L0) : V_solve_Left_L0 := V_solve_Left_L0.mk (let x0 := aW (Int.toNat x.v1); let x1 := Int.toNat x0; let x2 := aA x1; let x3 := az x1; let x4 := ay x1; let x5 := ax x1; let x6 := aw x1; let x7 := aV (Int.toNat x.v1); let x8 := Int.toNat x7; let x9 := aA x8; let x10 := az x8; let x11 := ay x8; let x12 := ax x8; let x13 := aw x8; let x14 := bt (Int.toNat x.v1); let x15 := bs (Int.toNat x.v1); let x16 := br (Int.toNat x.v1); let x17 := bq (Int.toNat x.v1); let x18 := bp (Int.toNat x.v1); let x19 := bn (Int.toNat x.v1); let x20 := bm (Int.toNat x.v1); let x21 := bl (Int.toNat x.v1); let x22 := bk (Int.toNat x.v1); let x23 := bj (Int.toNat x.v1); let x24 := aY (Int.toNat x.v1); let x25 := aX (Int.toNat x.v1); let x26 := fsub x19 (s_rows_Speed_0 x7 x0 x25 x24 x23 x22 x21 x20 x19 x18 x17 x16 x15 x14 x13 x12 x11 x10 x9 x6 x5 x4 x3 x2); (bif ((!(flt 0 (s_rows_Weight_0 x7 x0 x25 x24 x23 x22 x21 x20 x19 x18 x17 x16 x15 x14 x13 x12 x11 x10 x9 x6 x5 x4 x3 x2))) || (((flt x26 0) && (fle x16 x18)) || ((flt 0 x26) && (fle x17 x16)))) then x.v0 else (s_num_Most_float64__0 x.v0 (fabs x26)))) (IntKind.wrap .i64 (x.v1 + (1 : Int)))
def go_solve_Left_L0 (au : Nat) (aw ax ay az aA : Nat → Nat) (aB : Nat) (aV aW : Nat → Int) (aX aY bj bk bl bm bn bp bq br : Nat → Nat) (bs : Nat → Int) (bt : Nat → Nat) (bo : Int) (x : V_solve_Left_L0) : Bool := (bif (!(ilt x.v1 bo)) then false else true)
def ok_solve_Left_L0 (au : Nat) (aw ax ay az aA : Nat → Nat) (aB : Nat) (aV aW : Nat → Int) (aX aY bj bk bl bm bn bp bq br : Nat → Nat) (bs : Nat → Int) (bt : Nat → Nat) (bo : Int) (x : V_solve_Left_L0) : Bool := let x0 := aV (Int.toNat x.v1); let x1 := Int.toNat x0; let x2 := aW (Int.toNat x.v1); let x3 := Int.toNat x2; let x4 := ((ile (0 : Int) x2) && (Nat.blt x3 au)) && (((ile (0 : Int) x0) && (Nat.blt x1 au)) && ((ile (0 : Int) x.v1) && (Nat.blt (Int.toNat x.v1) aB))); let x5 := aA x3; let x6 := az x3; let x7 := ay x3; let x8 := ax x3; let x9 := aw x3; let x10 := aA x1; let x11 := az x1; let x12 := ay x1; let x13 := ax x1; let x14 := aw x1; let x15 := bt (Int.toNat x.v1); let x16 := bs (Int.toNat x.v1); let x17 := br (Int.toNat x.v1); let x18 := bq (Int.toNat x.v1); let x19 := bp (Int.toNat x.v1); let x20 := bn (Int.toNat x.v1); let x21 := bm (Int.toNat x.v1); let x22 := bl (Int.toNat x.v1); let x23 := bk (Int.toNat x.v1); let x24 := bj (Int.toNat x.v1); let x25 := aY (Int.toNat x.v1); let x26 := aX (Int.toNat x.v1); let x27 := fsub x20 (s_rows_Speed_0 x0 x2 x26 x25 x24 x23 x22 x21 x20 x19 x18 x17 x16 x15 x14 x13 x12 x11 x10 x9 x8 x7 x6 x5); let x28 := flt x27 0; let x29 := mrgB x28 x4 x4; let x30 := flt 0 x27; let x31 := x28 && (fle x17 x19); let x32 := !(flt 0 (s_rows_Weight_0 x0 x2 x26 x25 x24 x23 x22 x21 x20 x19 x18 x17 x16 x15 x14 x13 x12 x11 x10 x9 x8 x7 x6 x5)); let x33 := mrgB x32 x4 (mrgB x31 x29 (mrgB x30 x29 x29)); (mrgB (!(ilt x.v1 bo)) true (mrgB (x32 || (x31 || (x30 && (fle x18 x17)))) x33 x33))
def L_solve_Left_L0 (au : Nat) (aw ax ay az aA : Nat → Nat) (aB : Nat) (aV aW : Nat → Int) (aX aY bj bk bl bm bn bp bq br : Nat → Nat) (bs : Nat → Int) (bt : Nat → Nat) (bo : Int) (x : V_solve_Left_L0) : V_solve_Left_L0 := lastL (ok_solve_Left_L0 au aw ax ay az aA aB aV aW aX aY bj bk bl bm bn bp bq br bs bt bo) (go_solve_Left_L0 au aw ax ay az aA aB aV aW aX aY bj bk bl bm bn bp bq br bs bt bo) (step_solve_Left_L0 au aw ax ay az aA aB aV aW aX aY bj bk bl bm bn bp bq br bs bt bo) x
def E_solve_Left_L0 (au : Nat) (aw ax ay az aA : Nat → Nat) (aB : Nat) (aV aW : Nat → Int) (aX aY bj bk bl bm bn bp bq br : Nat → Nat) (bs : Nat → Int) (bt : Nat → Nat) (bo : Int) (x : V_solve_Left_L0) : Bool := endsL (ok_solve_Left_L0 au aw ax ay az aA aB aV aW aX aY bj bk bl bm bn bp bq br bs bt bo) (go_solve_Left_L0 au aw ax ay az aA aB aV aW aX aY bj bk bl bm bn bp bq br bs bt bo) (step_solve_Left_L0 au aw ax ay az aA aB aV aW aX aY bj bk bl bm bn bp bq br bs bt bo) x
theorem all_solve_Left_L0 (au : Nat) (aw ax ay az aA : Nat → Nat) (aB : Nat) (aV aW : Nat → Int) (aX aY bj bk bl bm bn bp bq br : Nat → Nat) (bs : Nat → Int) (bt : Nat → Nat) (bo : Int) (x : V_solve_Left_L0) : rnd Try.prog false menv92 [] [] 96 Ann.no (subC [1, 1, 1, 0, 1, 0, 0] (codeOf Try.f14)) 0 [] tpl_solve_Left_L0 cts_solve_Left_L0 (true :: false :: tpB 21 (false :: false :: tpB 60 ([]))) [] (sh_solve_Left_L0 au aw ax ay az aA aB aV aW aX aY bj bk bl bm bn bp bq br bs bt bo x) = (true, true, go_solve_Left_L0 au aw ax ay az aA aB aV aW aX aY bj bk bl bm bn bp bq br bs bt bo x, ok_solve_Left_L0 au aw ax ay az aA aB aV aW aX aY bj bk bl bm bn bp bq br bs bt bo x, true, sh_solve_Left_L0 au aw ax ay az aA aB aV aW aX aY bj bk bl bm bn bp bq br bs bt bo (step_solve_Left_L0 au aw ax ay az aA aB aV aW aX aY bj bk bl bm bn bp bq br bs bt bo x), true) := by kernel_rfl
def fam_solve_Left_L0 (au : Nat) (aw ax ay az aA : Nat → Nat) (aB : Nat) (aV aW : Nat → Int) (aX aY bj bk bl bm bn bp bq br : Nat → Nat) (bs : Nat → Int) (bt : Nat → Nat) (bo : Int) : Fam Try.prog false menv92 [] [] 96 0 Ann.no (subC [1, 1, 1, 0, 1, 0, 0] (codeOf Try.f14)) V_solve_Left_L0 where
  sh := sh_solve_Left_L0 au aw ax ay az aA aB aV aW aX aY bj bk bl bm bn bp bq br bs bt bo
  ok := ok_solve_Left_L0 au aw ax ay az aA aB aV aW aX aY bj bk bl bm bn bp bq br bs bt bo
  go := go_solve_Left_L0 au aw ax ay az aA aB aV aW aX aY bj bk bl bm bn bp bq br bs bt bo
  step := step_solve_Left_L0 au aw ax ay az aA aB aV aW aX aY bj bk bl bm bn bp bq br bs bt bo
  chg := (true :: false :: tpB 21 (false :: false :: tpB 60 ([])))
  chgH := []
  tpl := tpl_solve_Left_L0
  cts := cts_solve_Left_L0
  keep := 0
  srcs := []
  ann := (annNo (subC [1, 1, 1, 0, 1, 0, 0] (codeOf Try.f14)))
  le := by kernel_rfl
  kept := by kernel_rfl
  keptB := by kernel_rfl
  all := all_solve_Left_L0 au aw ax ay az aA aB aV aW aX aY bj bk bl bm bn bp bq br bs bt bo
  len := fun x => by kernel_rfl
  head := fun x y => by kernel_rfl
  con := fun x y => by kernel_rfl
  conH := fun x y => by kernel_rfl
def F_solve_Left_L0 : St → Option Ch := fun s => cond (Nat.beq s.tm.length 85 && Nat.beq s.H.length 0) (tkTops 1 (alL tpl_solve_Left_L0 s.tm) fun t0 => tkCons t0 fun j t1 => tkView 5 j fun s0 f0 => tkTops 5 t1 fun t2 => tkCons t2 fun L t3 => tkF L fun s6 => tkTops 15 t3 fun t4 => tkCons t4 fun Z t5 => tkView 14 Z fun s7 f1 => tkCons t5 fun aa t6 => tkI .i64 aa fun s22 => tkCons t6 fun ab t7 => tkI .i64 ab fun s23 => tkTops 59 t7 fun t8 => tkNil t8 <| tkNil (alH cts_solve_Left_L0 (s.H ++ List.map phan phs_solve_Left_L0)) <| Fam.out (fam_solve_Left_L0 s0 (fL f0 0) (fL f0 1) (fL f0 2) (fL f0 3) (fL f0 4) s7 (iL f1 0) (iL f1 1) (fL f1 2) (fL f1 3) (fL f1 4) (fL f1 5) (fL f1 6) (fL f1 7) (fL f1 8) (fL f1 9) (fL f1 10) (fL f1 11) (iL f1 12) (fL f1 13) s22) s ((allB fun i => isNrm [Ck.f, Ck.f, Ck.f, Ck.f, Ck.f] (f0 i)) && (allB fun i => isNrm [Ck.i .i64, Ck.i .i64, Ck.f, Ck.f, Ck.f, Ck.f, Ck.f, Ck.f, Ck.f, Ck.f, Ck.f, Ck.f, Ck.i .i64, Ck.f] (f1 i))) (V_solve_Left_L0.mk s6 s23)) none
theorem F_solve_Left_L0_ok : ∀ s ch, F_solve_Left_L0 s = some ch → AllI s ch ∧ LoopSpec Try.prog false 0 (subC [1, 1, 1, 0, 1, 0, 0] (codeOf Try.f14)) s (sel ch) := by
  intro s ch h
  unfold F_solve_Left_L0 at h
  obtain ⟨hl, h0⟩ := cond_some h rfl
  clear h
  obtain ⟨hl, hb⟩ := and_beq2 hl
  obtain ⟨t0, e0, h1⟩ := tkTops_some h0
  obtain ⟨j, t1, rfl, h2⟩ := tkCons_some h1
  obtain ⟨s0, f0, rfl, h3⟩ := tkView_some h2
  obtain ⟨t2, rfl, h4⟩ := tkTops_some h3
  obtain ⟨L, t3, rfl, h5⟩ := tkCons_some h4
  obtain ⟨s6, rfl, h6⟩ := tkF_some h5
  obtain ⟨t4, rfl, h7⟩ := tkTops_some h6
  obtain ⟨Z, t5, rfl, h8⟩ := tkCons_some h7
  obtain ⟨s7, f1, rfl, h9⟩ := tkView_some h8
  obtain ⟨aa, t6, rfl, h10⟩ := tkCons_some h9
  obtain ⟨s22, rfl, h11⟩ := tkI_some h10
  obtain ⟨ab, t7, rfl, h12⟩ := tkCons_some h11
  obtain ⟨s23, rfl, h13⟩ := tkI_some h12
  obtain ⟨t8, rfl, h14⟩ := tkTops_some h13
  obtain ⟨rfl, h15⟩ := tkNil_some h14
  obtain ⟨eH, h16⟩ := tkNil_some h15
  refine Fam.spec menv92_ok (fam_solve_Left_L0 s0 (fL f0 0) (fL f0 1) (fL f0 2) (fL f0 3) (fL f0 4) s7 (iL f1 0) (iL f1 1) (fL f1 2) (fL f1 3) (fL f1 4) (fL f1 5) (fL f1 6) (fL f1 7) (fL f1 8) (fL f1 9) (fL f1 10) (fL f1 11) (iL f1 12) (fL f1 13) s22) (phs := phs_solve_Left_L0) (hl.trans (by kernel_rfl)) (hb.trans (by kernel_rfl)) ?_ ?_ h16
  · rw [← hdr_alH cts_solve_Left_L0 (s.H ++ List.map phan phs_solve_Left_L0), eH]; kernel_rfl
  · intro hq
    simp only [Bool.and_eq_true] at hq
    obtain ⟨hq0, hq1⟩ := hq
    have n0 := nrm_fun hq0
    have n1 := nrm_fun hq1
    show sh_solve_Left_L0 s0 (fL f0 0) (fL f0 1) (fL f0 2) (fL f0 3) (fL f0 4) s7 (iL f1 0) (iL f1 1) (fL f1 2) (fL f1 3) (fL f1 4) (fL f1 5) (fL f1 6) (fL f1 7) (fL f1 8) (fL f1 9) (fL f1 10) (fL f1 11) (iL f1 12) (fL f1 13) s22 (V_solve_Left_L0.mk s6 s23) = (alL tpl_solve_Left_L0 s.tm, alH cts_solve_Left_L0 (s.H ++ List.map phan phs_solve_Left_L0))
    rw [e0, eH]
    refine Eq.trans (show sh_solve_Left_L0 s0 (fL f0 0) (fL f0 1) (fL f0 2) (fL f0 3) (fL f0 4) s7 (iL f1 0) (iL f1 1) (fL f1 2) (fL f1 3) (fL f1 4) (fL f1 5) (fL f1 6) (fL f1 7) (fL f1 8) (fL f1 9) (fL f1 10) (fL f1 11) (iL f1 12) (fL f1 13) s22 (V_solve_Left_L0.mk s6 s23) = T_solve_Left_L0 s0 (fL f0 0) (fL f0 1) (fL f0 2) (fL f0 3) (fL f0 4) s7 (iL f1 0) (iL f1 1) (fL f1 2) (fL f1 3) (fL f1 4) (fL f1 5) (fL f1 6) (fL f1 7) (fL f1 8) (fL f1 9) (fL f1 10) (fL f1 11) (iL f1 12) (fL f1 13) s22 (V_solve_Left_L0.mk s6 s23) (fun i => mkN [Ck.f, Ck.f, Ck.f, Ck.f, Ck.f] (f0 i) 0) (fun i => mkN [Ck.i .i64, Ck.i .i64, Ck.f, Ck.f, Ck.f, Ck.f, Ck.f, Ck.f, Ck.f, Ck.f, Ck.f, Ck.f, Ck.i .i64, Ck.f] (f1 i) 0) by kernel_rfl) ?_
    rw [n0, n1]
    kernel_rfl
theorem ann_solve_Left : FnOk Try.prog false 0 Try.f14 (Ann.two Ann.no (Ann.two Ann.no (Ann.two Ann.no (Ann.two (Ann.two Ann.no (Ann.one (Ann.loop F_solve_Left_L0))) Ann.no)))) := (fnOk_of (c := codeOf Try.f14) (by kernel_rfl) (annSeq (a := (subC [0] (codeOf Try.f14))) (b := (subC [1] (codeOf Try.f14))) (by kernel_rfl) (annNo (subC [0] (codeOf Try.f14))) (annSeq (a := (subC [1, 0] (codeOf Try.f14))) (b := (subC [1, 1] (codeOf Try.f14))) (by kernel_rfl) (annNo (subC [1, 0] (codeOf Try.f14))) (annSeq (a := (subC [1, 1, 0] (codeOf Try.f14))) (b := (subC [1, 1, 1] (codeOf Try.f14))) (by kernel_rfl) (annNo (subC [1, 1, 0] (codeOf Try.f14))) (annSeq (a := (subC [1, 1, 1, 0] (codeOf Try.f14))) (b := (subC [1, 1, 1, 1] (codeOf Try.f14))) (by kernel_rfl) (annSeq (a := (subC [1, 1, 1, 0, 0] (codeOf Try.f14))) (b := (subC [1, 1, 1, 0, 1] (codeOf Try.f14))) (by kernel_rfl) (annNo (subC [1, 1, 1, 0, 0] (codeOf Try.f14))) (annBlock (a := (subC [1, 1, 1, 0, 1, 0] (codeOf Try.f14))) (i := 0) (by kernel_rfl) (annLoop (a := (subC [1, 1, 1, 0, 1, 0, 0] (codeOf Try.f14))) (by kernel_rfl) F_solve_Left_L0_ok))) (annNo (subC [1, 1, 1, 1] (codeOf Try.f14))))))))
def s_solve_Left_0 (aq : Nat) (k m : Nat → Int) (p q r F I J O P Q R : Nat → Nat) (S : Nat → Int) (U : Nat → Nat) (bu : Nat) (u E z C D : Nat → Nat) : Nat := (bif (!(ieq (s_solve_asked_v1_0 aq k m p q r F I J O P Q R S U bu u E z C D) (0 : Int))) then 0 else ((L_solve_Left_L0 bu u E z C D aq k m p q r F I J O P Q R S U (Int.ofNat aq) (V_solve_Left_L0.mk 0 (0 : Int))).v0))
def s_solve_Left_1 (aq : Nat) (k m : Nat → Int) (p q r F I J O P Q R : Nat → Nat) (S : Nat → Int) (U : Nat → Nat) (bu : Nat) (u E z C D : Nat → Nat) : Int := (bif (!(ieq (s_solve_asked_v1_0 aq k m p q r F I J O P Q R S U bu u E z C D) (0 : Int))) then (s_solve_asked_v1_0 aq k m p q r F I J O P Q R S U bu u E z C D) else (0 : Int))
def q_solve_Left (aq : Nat) (k m : Nat → Int) (p q r F I J O P Q R : Nat → Nat) (S : Nat → Int) (U : Nat → Nat) (bu : Nat) (u E z C D : Nat → Nat) : Bool := (let x0 := ((allB fun _ => true) && (allB fun _ => true)) && (o_solve_asked_v1 aq k m p q r F I J O P Q R S U bu u E z C D); (mrgB (!(ieq (s_solve_asked_v1_0 aq k m p q r F I J O P Q R S U bu u E z C D) (0 : Int))) x0 (x0 && (((allB fun _ => true) && (allB fun _ => true)) && (E_solve_Left_L0 bu u E z C D aq k m p q r F I J O P Q R S U (Int.ofNat aq) (V_solve_Left_L0.mk 0 (0 : Int)))))))
def r_solve_Left (aq : Nat) (k m : Nat → Int) (p q r F I J O P Q R : Nat → Nat) (S : Nat → Int) (U : Nat → Nat) (bu : Nat) (u E z C D : Nat → Nat) : AV := AV.tup [AV.float (s_solve_Left_0 aq k m p q r F I J O P Q R S U bu u E z C D), AV.int .i64 (s_solve_Left_1 aq k m p q r F I J O P Q R S U bu u E z C D)]
theorem e_solve_Left (aq : Nat) (k m : Nat → Int) (p q r F I J O P Q R : Nat → Nat) (S : Nat → Int) (U : Nat → Nat) (bu : Nat) (u E z C D : Nat → Nat) : outB (evFnM Try.prog false menv92 [] [] 96 (Ann.two Ann.no (Ann.two Ann.no (Ann.two Ann.no (Ann.two (Ann.two Ann.no (Ann.one (Ann.loop F_solve_Left_L0))) Ann.no)))) Try.f14 [AV.view aq 14 (fun i0 => [AV.int .i64 (k i0), AV.int .i64 (m i0), AV.float (p i0), AV.float (q i0), AV.float (r i0), AV.float (F i0), AV.float (I i0), AV.float (J i0), AV.float (O i0), AV.float (P i0), AV.float (Q i0), AV.float (R i0), AV.int .i64 (S i0), AV.float (U i0)]), AV.view bu 5 (fun i0 => [AV.float (u i0), AV.float (E i0), AV.float (z i0), AV.float (C i0), AV.float (D i0)])] []) = some (q_solve_Left aq k m p q r F I J O P Q R S U bu u E z C D, r_solve_Left aq k m p q r F I J O P Q R S U bu u E z C D) := by kernel_rfl
def o_solve_Left (aq : Nat) (k m : Nat → Int) (p q r F I J O P Q R : Nat → Nat) (S : Nat → Int) (U : Nat → Nat) (bu : Nat) (u E z C D : Nat → Nat) : Bool := let x0 := o_solve_asked_v1 aq k m p q r F I J O P Q R S U bu u E z C D; (mrgB (!(ieq (s_solve_asked_v1_0 aq k m p q r F I J O P Q R S U bu u E z C D) (0 : Int))) x0 (x0 && (E_solve_Left_L0 bu u E z C D aq k m p q r F I J O P Q R S U (Int.ofNat aq) (V_solve_Left_L0.mk 0 (0 : Int)))))
def S_solve_Left : List AV → Option (Ob × AV)
  | [AV.view aq 14 an, AV.view bu 5 ar] => some (Ob.both (Ob.bit ((allB fun i => isNrm [Ck.i .i64, Ck.i .i64, Ck.f, Ck.f, Ck.f, Ck.f, Ck.f, Ck.f, Ck.f, Ck.f, Ck.f, Ck.f, Ck.i .i64, Ck.f] (an i)) && (allB fun i => isNrm [Ck.f, Ck.f, Ck.f, Ck.f, Ck.f] (ar i)))) (Ob.bit (o_solve_Left aq (iL an 0) (iL an 1) (fL an 2) (fL an 3) (fL an 4) (fL an 5) (fL an 6) (fL an 7) (fL an 8) (fL an 9) (fL an 10) (fL an 11) (iL an 12) (fL an 13) bu (fL ar 0) (fL ar 1) (fL ar 2) (fL ar 3) (fL ar 4))), r_solve_Left aq (iL an 0) (iL an 1) (fL an 2) (fL an 3) (fL an 4) (fL an 5) (fL an 6) (fL an 7) (fL an 8) (fL an 9) (fL an 10) (fL an 11) (iL an 12) (fL an 13) bu (fL ar 0) (fL ar 1) (fL ar 2) (fL ar 3) (fL ar 4))
  | _ => none
theorem ob_solve_Left (aq : Nat) (k m : Nat → Int) (p q r F I J O P Q R : Nat → Nat) (S : Nat → Int) (U : Nat → Nat) (bu : Nat) (u E z C D : Nat → Nat) (ho : o_solve_Left aq k m p q r F I J O P Q R S U bu u E z C D = true) : q_solve_Left aq k m p q r F I J O P Q R S U bu u E z C D = true := by
  unfold q_solve_Left
  unfold o_solve_Left at ho
  simp only [allB_true, eqT_self, mrgB_self, Bool.true_and, Bool.and_true] at ho ⊢
  exact ho
theorem t_solve_Left : SOkM Try.prog false (14, fun args => match S_solve_Left args with | some (o, v) => some (o, v, []) | none => none) := SOkM.flat (N := 96) menv92_ok Try.func14 ann_solve_Left Try.call14 fun args o v h ho => by
  unfold S_solve_Left at h
  split at h
  · rename_i aq an bu ar
    unfold r_solve_Left at h
    cases h
    rw [Ob.both_ok, Bool.and_eq_true] at ho
    obtain ⟨hn, ho2⟩ := ho
    simp only [Ob.ok, Bool.and_eq_true] at hn
    obtain ⟨n0, n1⟩ := hn
    replace n0 := nrm_fun n0
    replace n1 := nrm_fun n1
    have this := show outB (evFnM Try.prog false menv92 [] [] 96 (Ann.two Ann.no (Ann.two Ann.no (Ann.two Ann.no (Ann.two (Ann.two Ann.no (Ann.one (Ann.loop F_solve_Left_L0))) Ann.no)))) Try.f14 [AV.view aq 14 (fun i => mkN [Ck.i .i64, Ck.i .i64, Ck.f, Ck.f, Ck.f, Ck.f, Ck.f, Ck.f, Ck.f, Ck.f, Ck.f, Ck.f, Ck.i .i64, Ck.f] (an i) 0), AV.view bu 5 (fun i => mkN [Ck.f, Ck.f, Ck.f, Ck.f, Ck.f] (ar i) 0)] []) = _ from e_solve_Left aq (iL an 0) (iL an 1) (fL an 2) (fL an 3) (fL an 4) (fL an 5) (fL an 6) (fL an 7) (fL an 8) (fL an 9) (fL an 10) (fL an 11) (iL an 12) (fL an 13) bu (fL ar 0) (fL ar 1) (fL ar 2) (fL ar 3) (fL ar 4)
    rw [(ob_solve_Left aq (iL an 0) (iL an 1) (fL an 2) (fL an 3) (fL an 4) (fL an 5) (fL an 6) (fL an 7) (fL an 8) (fL an 9) (fL an 10) (fL an 11) (iL an 12) (fL an 13) bu (fL ar 0) (fL ar 1) (fL ar 2) (fL ar 3) (fL ar 4) ho2)] at this
    rw [n0, n1] at this
    exact ⟨this, rfl⟩
  · cases h
def c_solve_Left : SFM := fun args => match S_solve_Left args with | some (o, v) => some (o, v, []) | none => none
theorem c_solve_Left_ok : SOkM Try.prog false (14, c_solve_Left) := t_solve_Left
def mss92 : List (FuncId × SFM) := (14, c_solve_Left) :: mss91
def menv93 : EnvM := mkEnvM mxs mss92 mws2
theorem mss92_ok : All (SOkM Try.prog false) mss92 := All.cons c_solve_Left_ok mss91_ok
theorem menv93_ok : menv93.Ok Try.prog false := mkEnvM_ok mxs_ok mss92_ok mws2_ok
end Go.Proofs.Ytofpjfohijljgaa
end
