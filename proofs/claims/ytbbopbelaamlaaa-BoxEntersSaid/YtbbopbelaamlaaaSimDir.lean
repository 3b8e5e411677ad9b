/- A direct evaluator: one state for each exit. -/
import Derived.Test.YtbbopbelaamlaaaSimChn
namespace Go.Sim

abbrev RM := Option (Ob × AV × Heap × HV)
/-- What is known of callees, in direct form. -/
structure EnvM where
  X : FuncId → Option (List AV → Option (Ob × AV))
  R : FuncId → Option (List AV → Heap → Option (Ob × AV))
  W : FuncId → Option (List AV → Heap → RM)
def toX (F : List AV → Option (Ob × AV)) : List AV → Option (Bool × AV) := fun args => match F args with | some (ob, v) => some (ob.ok, v) | none => none
def toR (F : List AV → Heap → Option (Ob × AV)) : List AV → Heap → (AV → Option Res) → Option Res := fun args H k => match F args H with | some (ob, v) => cond ob.ok (k v) none | none => none
def toW (F : List AV → Heap → RM) : List AV → Heap → (AV → Heap → Option Res) → Option Res := fun args H k => match F args H with | some (ob, v, H', _) => cond ob.ok (k v H') none | none => none
def EnvM.env (M : EnvM) : Env :=
  ⟨fun f => match M.X f with | some F => some (toX F) | none => none, fun f => match M.R f with | some F => some (toR F) | none => none, fun f => match M.W f with | some F => some (toW F) | none => none⟩
/-- Contracts of callees that only read do not look at memory. -/
def RAll (M : EnvM) : Prop := ∀ f F, M.R f = some F → ∀ args H G, F args H = F args G
structure EnvM.Ok (P : Program) (ex : Bool) (M : EnvM) : Prop where
  env : M.env.Ok P ex
  inv : ∀ f F, M.W f = some F → ∀ args H ob v H' d, F args H = some (ob, v, H', d) → HInv H [] H' d
  rall : RAll M

section defs
variable (P : Program) (ex : Bool) (M : EnvM)
def evCallM (full : Bool) (H : Heap) (hv : HV) (f : FuncId) (args : List AV) : RM :=
  match M.X f with
  | some F => match F args with | some (g, v) => some (g, v, H, hv) | none => none
  | none => match M.R f with
    | some F => match F args H with | some (g, v) => some (g, v, H, hv) | none => none
    | none => match M.W f with
      | some F => cond full (match F args H with | some (g, v, H', d) => some (g, v, H', sumH hv d) | none => none) none
      | none => none
def evOpM (full : Bool) (o : Go.Op) (ρ : Operand → Option AV) (H : Heap) (hv : HV) : RM :=
  match o with
  | .pick c x y => match ρ c, ρ x, ρ y with
    | some (.bool q), some u, some v => some (.tt, mergeAV q u v, H, hv)
    | _, _, _ => none
  | .call c => match c.callee with
    | .value f => match ρ f, opsA ρ c.args.toList with
      | some (.func g first cap), some args => evCallM M full H hv g (first ++ args ++ cap)
      | _, _ => none
    | .builtin b => match opsA ρ c.args.toList with
      | some args => match biA P b c.argTypes args with | some v => some (.tt, v, H, hv) | none => none
      | none => none
    | .invoke _ _ => none
  | .store t x y => match ρ x, ρ y with
    | some (.ptr (some p)), some v => match storeA P H t p.1 p.2 v with | some H' => cond full (some (.tt, .tup [], H', bumpH hv p.1 p.2 v.cells.length)) none | none => none
    | _, _ => none
  | op => match stepOp P ex op ρ H with
    | some (.ro v) => some (.tt, v, H, hv)
    | some (.newP b) => some (.tt, .ptr (some (H.length, 0)), H ++ [b], hv)
    | some (.newS b len cap) => some (.tt, .slice (some (H.length, 0)) len cap, H ++ [b], hv)
    | some (.wr _) => none
    | none => none
def bumpD (tv : List Nat) : Option Tmp → List Nat
  | none => tv
  | some d => bump tv d
def doneM (s : St) (tm : List AV) (dst : Option Tmp) (r : RM) (next : St → Option St) : Option St :=
  match r with
  | some (ob', v, H', hv') => match putA tm dst v with | some tm' => next ⟨Ob.both ob' s.ob, tm', bumpD s.tv dst, H', hv'⟩ | none => none
  | none => none
def skipM (s : St) (tm : List AV) (dst : Option Tmp) (next : St → Option St) : Option St :=
  match putA tm dst (.tup []) with | some tm' => next ⟨s.ob, tm', bumpD s.tv dst, s.H, s.hv⟩ | none => none
def mrgO (b : Bool) (z : St) : Option St → Option St → Option St
  | some x, some y => some (mergeS b z x y)
  | none, y => cond b none y
  | x, none => cond b x none
def sameSt (s x : St) : Bool := Nat.beq x.H.length s.H.length && hsame x.hv s.hv
def midM (g : Bool) (s : St) (A B : Option St) (next : St → Option St) (A' B' : Option St) : Option St :=
  match A, B with
  | some x, some y => cond (sameSt s x && sameSt s y) (next ⟨(mergeS g s x y).ob, (mergeS g s x y).tm, (mergeS g s x y).tv, s.H, s.hv⟩) (mrgO g s A' B')
  | none, _ => mrgO g s A' B'
  | _, none => mrgO g s A' B'
/-- The ways of an operation that is done where the truth is as wanted, else passed over. -/
def midW (want b : Bool) (s : St) (A B : Option St) (next : St → Option St) (A' B' : Option St) : Option St :=
  cond want (midM b s A B next A' B') (midM b s B A next B' A')
def dstOf (ops : List Oper) (j : Nat) : Option Tmp := match ops[j]? with | some o => o.dst | none => none
def isPick (d : Option Tmp) (o : Oper) : Bool :=
  match o.op, d with
  | .pick (.tmp t) _ _, some d => Nat.beq t d
  | _, _ => false
def cutAt (d : Option Tmp) : List (Oper × Bool) → List (Oper × Bool) × List (Oper × Bool)
  | [] => ([], [])
  | x :: r => cond (isPick d x.1) ([x], r) (x :: (cutAt d r).1, (cutAt d r).2)
def zipF : List Oper → List Bool → List (Oper × Bool)
  | [], _ => []
  | o :: r, fs => (o, fs.headD false) :: zipF r fs.tail
/-- The operations of a region in the order of the text. Where one is guarded, both ways to the 'pick' behind it are gone, and made one. -/
def evOpsM (ops : List Oper) : Nat → List Nat → List (Oper × Bool) → St → Option St
  | 0, _, l, s => match l with | [] => some s | _ :: _ => none
  | n + 1, kn, l, s => match l with
    | [] => some s
    | (o, f) :: rest => match o.guard with
      | none => doneM s s.tm o.dst (evOpM P ex M f o.op (opA s.tm) s.H s.hv) (evOpsM ops n kn rest)
      | some (j, want) => match yieldA ops s.tm j with
        | none => skipM s s.tm o.dst (evOpsM ops n kn rest)
        | some b => cond (memN j kn)
            (cond (cond want b (!b))
              (doneM s (litA ops s.tm j want) o.dst (evOpM P ex M f o.op (opA (litA ops s.tm j want)) s.H s.hv) (evOpsM ops n kn rest))
              (skipM s (litA ops s.tm j (!want)) o.dst (evOpsM ops n kn rest)))
            (midW want b s
              (doneM s (litA ops s.tm j want) o.dst (evOpM P ex M f o.op (opA (litA ops s.tm j want)) s.H s.hv) (evOpsM ops n (j :: kn) (cutAt (dstOf ops j) rest).1))
              (skipM s (litA ops s.tm j (!want)) o.dst (evOpsM ops n (j :: kn) (cutAt (dstOf ops j) rest).1))
              (evOpsM ops n kn (cutAt (dstOf ops j) rest).2)
              (doneM s (litA ops s.tm j want) o.dst (evOpM P ex M f o.op (opA (litA ops s.tm j want)) s.H s.hv) (evOpsM ops n (j :: kn) rest))
              (skipM s (litA ops s.tm j (!want)) o.dst (evOpsM ops n (j :: kn) rest)))
end defs

section eqs
variable {P : Program} {ex : Bool} {M : EnvM}
theorem evCallM_eq {full : Bool} {H H' : Heap} {hv hv' : HV} {f : FuncId} {args : List AV} {ob : Ob} {v : AV} (h : evCallM M full H hv f args = some (ob, v, H', hv')) (hok : ob.ok = true) (k : AV → Heap → Option Res) :
    evCall M.env full H f args k = k v H' := by
  unfold evCallM at h
  unfold evCall EnvM.env
  dsimp only
  cases hX : M.X f with
  | some F =>
    rw [hX] at h; simp only at h ⊢
    unfold toX
    cases hF : F args with
    | none => rw [hF] at h; cases h
    | some p => rw [hF] at h; cases h; simp only [hok, cond_true]
  | none =>
    rw [hX] at h; simp only at h ⊢
    cases hR : M.R f with
    | some F =>
      rw [hR] at h; simp only at h ⊢
      unfold toR
      cases hF : F args H with
      | none => rw [hF] at h; cases h
      | some p => rw [hF] at h; cases h; simp only [hok, cond_true]
    | none =>
      rw [hR] at h; simp only at h ⊢
      cases hW : M.W f with
      | none => rw [hW] at h; cases h
      | some F =>
        rw [hW] at h; simp only at h ⊢
        cases full with
        | false => cases h
        | true =>
          rw [cond_true] at h ⊢
          unfold toW
          cases hF : F args H with
          | none => rw [hF] at h; cases h
          | some p => obtain ⟨p1, p2, p3, p4⟩ := p; rw [hF] at h; cases h; simp only [hok, cond_true]
theorem evCallM_inv (hM : M.Ok P ex) {full : Bool} {H H' : Heap} {hv hv' : HV} {f : FuncId} {args : List AV} {ob : Ob} {v : AV} (h : evCallM M full H hv f args = some (ob, v, H', hv')) : HInv H hv H' hv' := by
  unfold evCallM at h
  cases hX : M.X f with
  | some F =>
    rw [hX] at h; simp only at h
    cases hF : F args with
    | none => rw [hF] at h; cases h
    | some p => rw [hF] at h; cases h; exact HInv.refl _ _
  | none =>
    rw [hX] at h; simp only at h
    cases hR : M.R f with
    | some F =>
      rw [hR] at h; simp only at h
      cases hF : F args H with
      | none => rw [hF] at h; cases h
      | some p => rw [hF] at h; cases h; exact HInv.refl _ _
    | none =>
      rw [hR] at h; simp only at h
      cases hW : M.W f with
      | none => rw [hW] at h; cases h
      | some F =>
        rw [hW] at h; simp only at h
        cases full with
        | false => cases h
        | true =>
          rw [cond_true] at h
          cases hF : F args H with
          | none => rw [hF] at h; cases h
          | some p => obtain ⟨p1, p2, p3, p4⟩ := p; rw [hF] at h; cases h; exact (hM.inv f F hW _ _ _ _ _ _ hF).sum hv
theorem evOpM_eq {full : Bool} {o : Go.Op} {ρ : Operand → Option AV} {H H' : Heap} {hv hv' : HV} {ob : Ob} {v : AV} (h : evOpM P ex M full o ρ H hv = some (ob, v, H', hv')) (hok : ob.ok = true) (k : AV → Heap → Option Res) :
    evOp P ex M.env full o ρ H k = k v H' := by
  unfold evOpM at h
  split at h
  · rename_i c x y
    unfold evOp
    split at h
    · rename_i q u v' hc hx hy
      simp only [hc, hx, hy]
      cases h
      rw [mergeAV_eq]; cases q <;> rfl
    · cases h
  · rename_i c
    unfold evOp
    split at h
    · rename_i f hf
      simp only [hf]
      split at h
      · rename_i g first cap args h1 h2
        simp only [h1, h2]
        exact evCallM_eq h hok k
      · cases h
    · rename_i b hb
      simp only [hb]
      split at h
      · rename_i args h1
        simp only [h1]
        split at h
        · rename_i v' h2
          simp only [h2]; cases h; rfl
        · cases h
      · cases h
    · cases h
  · rename_i t x y
    unfold evOp stepOp
    split at h
    · rename_i p v' hx hy
      simp only [hx, hy]
      split at h
      · rename_i H2 hs
        simp only [hs]
        cases full with
        | false => cases h
        | true => cases h; rfl
      · cases h
    · cases h
  · rename_i op n1 n2 n3
    have e : evOp P ex M.env full o ρ H k = match stepOp P ex o ρ H with
      | some (.ro v) => k v H
      | some (.newP b) => k (.ptr (some (H.length, 0))) (H ++ [b])
      | some (.newS b len cap) => k (.slice (some (H.length, 0)) len cap) (H ++ [b])
      | some (.wr H') => cond full (k (.tup []) H') none
      | none => none := by
      cases o <;> first | rfl | (exact (n1 _ _ _ rfl).elim) | (exact (n2 _ rfl).elim)
    rw [e]
    cases hs : stepOp P ex o ρ H with
    | none => rw [hs] at h; cases h
    | some st =>
      rw [hs] at h
      cases st with
      | ro v' => cases h; rfl
      | newP b => cases h; rfl
      | newS b l c => cases h; rfl
      | wr H2 => cases h
theorem setR_length' : ∀ (r l : List AV) (o : Nat), (setR l o r).length = l.length
  | [], _, _ => rfl
  | v :: r, l, o => by rw [setR, setR_length' r]; simp
theorem setR_get : ∀ (r l : List AV) (o k : Nat), ¬ (o ≤ k ∧ k < o + r.length) → (setR l o r)[k]? = l[k]?
  | [], _, _, _, _ => rfl
  | v :: r, l, o, k, h => by
    simp at h
    rw [setR, setR_get r (l.set o v) (o + 1) k (by omega), List.getElem?_set_ne (by omega)]
theorem storeA_inv {H H' : Heap} {hv : HV} {t : TypeId} {i o : Nat} {v : AV} (h : storeA P H t i o v = some H') : HInv H hv H' (bumpH hv i o v.cells.length) := by
  unfold storeA at h
  split at h
  · cases h
  · rename_i b hb
    split at h
    · obtain ⟨_, h⟩ := cond_some h rfl
      cases h
      have hi : i < H.length := (List.getElem?_eq_some_iff.1 hb).1
      refine ⟨by simp, fun j k => ?_, fun j z x hz hx => ?_⟩
      · rw [hget, hget, lget_bumpH]
        split
        · rw [vget_bumpR]; omega
        · exact Nat.le_refl _
      · by_cases hj : i = j
        · subst hj
          rw [List.getElem?_set_self hi] at hx
          rw [hb] at hz
          cases hz; cases hx
          refine ⟨setR_length' _ _ _, rfl, rfl, fun k hk => ?_⟩
          rw [hget, hget, lget_bumpH, if_pos rfl, vget_bumpR] at hk
          refine setR_get _ _ _ _ fun hc => ?_
          rw [if_pos hc] at hk; omega
        · rw [List.getElem?_set_ne hj, hz] at hx
          cases hx
          exact ⟨rfl, rfl, rfl, fun _ _ => rfl⟩
    · cases h
theorem evOpM_inv (hM : M.Ok P ex) {full : Bool} {o : Go.Op} {ρ : Operand → Option AV} {H H' : Heap} {hv hv' : HV} {ob : Ob} {v : AV} (h : evOpM P ex M full o ρ H hv = some (ob, v, H', hv')) : HInv H hv H' hv' := by
  unfold evOpM at h
  split at h
  · split at h
    · cases h; exact HInv.refl _ _
    · cases h
  · split at h
    · split at h
      · exact evCallM_inv hM h
      · cases h
    · split at h
      · split at h
        · cases h; exact HInv.refl _ _
        · cases h
      · cases h
    · cases h
  · split at h
    · split at h
      · rename_i H2 hs
        cases full with
        | false => cases h
        | true => cases h; exact storeA_inv hs
      · cases h
    · cases h
  · split at h
    · cases h; exact HInv.refl _ _
    · cases h; exact HInv.push _ _ _
    · cases h; exact HInv.push _ _ _
    · cases h
    · cases h

theorem cutAt_app (d : Option Tmp) : ∀ l, (cutAt d l).1 ++ (cutAt d l).2 = l
  | [] => rfl
  | x :: r => by
    unfold cutAt
    cases isPick d x.1
    · simp only [cond_false, List.cons_append]; rw [cutAt_app d r]
    · rfl
theorem zipF_fst : ∀ (l : List Oper) (fs : List Bool), (zipF l fs).map (·.1) = l
  | [], _ => rfl
  | o :: r, fs => by simp only [zipF, List.map_cons]; rw [zipF_fst r fs.tail]
theorem evOps_zip (Φ : Env) (ops : List Oper) : ∀ (l : List Oper) (fs : List Bool) (tm : List AV) (H : Heap) (k : List AV → Heap → Option Res), evOps P ex Φ ops l fs tm H k = evOps P ex Φ ops l ((zipF l fs).map (·.2)) tm H k
  | [], _, _, _, _ => rfl
  | o :: r, fs, tm, H, k => by
    simp only [evOps, zipF, List.map_cons, List.headD_cons, List.tail_cons]
    have ih := fun tm H => evOps_zip Φ ops r fs.tail tm H k
    simp only [ih]
theorem evOps_app (Φ : Env) (ops : List Oper) (l2 : List (Oper × Bool)) (k : List AV → Heap → Option Res) : ∀ (l1 : List (Oper × Bool)) (tm : List AV) (H : Heap),
    evOps P ex Φ ops ((l1 ++ l2).map (·.1)) ((l1 ++ l2).map (·.2)) tm H k = evOps P ex Φ ops (l1.map (·.1)) (l1.map (·.2)) tm H (fun tm H => evOps P ex Φ ops (l2.map (·.1)) (l2.map (·.2)) tm H k)
  | [], tm, H => by simp only [List.nil_append, List.map_nil, evOps]
  | x :: r, tm, H => by
    simp only [List.cons_append, List.map_cons, evOps, List.headD_cons, List.tail_cons]
    have ih := fun tm H => evOps_app Φ ops l2 k r tm H
    simp only [ih]

theorem bump_inv {s : St} {tm' : List AV} {dst : Option Tmp} {v : AV} (hp : putA s.tm dst v = some tm') :
    tm'.length = s.tm.length ∧ (∀ i, vget s.tv i ≤ vget (bumpD s.tv dst) i) ∧ ∀ i, vget (bumpD s.tv dst) i = vget s.tv i → tm'[i]? = s.tm[i]? := by
  obtain ⟨p1, p2, p3⟩ := putA_get hp
  refine ⟨p1, fun i => ?_, fun i hi => ?_⟩
  · cases dst with
    | none => exact Nat.le_refl _
    | some d => simp only [bumpD]; rw [vget_bump]; omega
  · cases dst with
    | none => simp only [putA, Option.some.injEq] at hp; subst hp; rfl
    | some d =>
      simp only [bumpD] at hi
      rw [vget_bump] at hi
      refine p2 i fun e => ?_
      cases e
      rw [if_pos rfl] at hi; omega
theorem doneM_spec (hM : M.Ok P ex) {s s' : St} {full : Bool} {o : Oper} {tm : List AV} (ht : tm = s.tm) {next : St → Option St} (h : doneM s tm o.dst (evOpM P ex M full o.op (opA tm) s.H s.hv) next = some s') :
    ∃ s1, next s1 = some s' ∧ Inv s s1 ∧ (s1.ob.ok = true → s.ob.ok = true ∧ ∀ K : List AV → Heap → Option Res, evOp P ex M.env full o.op (opA s.tm) s.H (fun v H' => match putA s.tm o.dst v with | some tm' => K tm' H' | none => none) = K s1.tm s1.H) := by
  subst ht
  unfold doneM at h
  cases hr : evOpM P ex M full o.op (opA s.tm) s.H s.hv with
  | none => rw [hr] at h; cases h
  | some p =>
    obtain ⟨ob', v, H', hv'⟩ := p
    rw [hr] at h
    simp only at h
    cases hp : putA s.tm o.dst v with
    | none => rw [hp] at h; cases h
    | some tm' =>
      rw [hp] at h
      simp only at h
      obtain ⟨q1, q2, q3⟩ := bump_inv hp
      refine ⟨_, h, ⟨q1, q2, q3, evOpM_inv hM hr⟩, fun hok => ?_⟩
      rw [Ob.both_ok, Bool.and_eq_true] at hok
      refine ⟨hok.2, fun K => ?_⟩
      rw [evOpM_eq hr hok.1]
      simp only [hp]
theorem skipM_spec {s s' : St} {dst : Option Tmp} {tm : List AV} (ht : tm = s.tm) {next : St → Option St} (h : skipM s tm dst next = some s') :
    ∃ s1, next s1 = some s' ∧ Inv s s1 ∧ s1.ob = s.ob ∧ s1.H = s.H ∧ putA s.tm dst (.tup []) = some s1.tm := by
  subst ht
  unfold skipM at h
  cases hp : putA s.tm dst (.tup []) with
  | none => rw [hp] at h; cases h
  | some tm' =>
    rw [hp] at h
    simp only at h
    obtain ⟨q1, q2, q3⟩ := bump_inv hp
    exact ⟨_, h, ⟨q1, q2, q3, HInv.refl _ _⟩, rfl, rfl, rfl⟩
theorem mrgO_sel {b : Bool} {z s' : St} {x y : Option St} (h : mrgO b z x y = some s') (hi : ∀ a, cond b x y = some a → Inv z a) : ∃ a, cond b x y = some a ∧ SLe a s' ∧ Inv z s' := by
  cases x with
  | none =>
    have h' : cond b none y = some s' := h
    exact ⟨s', h', SLe.refl _, hi s' h'⟩
  | some a =>
    cases y with
    | none =>
      have h' : cond b (some a) none = some s' := h
      exact ⟨s', h', SLe.refl _, hi s' h'⟩
    | some a2 =>
      have h' : some (mergeS b z a a2) = some s' := h
      simp only [Option.some.injEq] at h'
      subst h'
      cases b with
      | true => exact ⟨a, rfl, (mergeS_true a2 (hi a rfl)).1, (mergeS_true a2 (hi a rfl)).2⟩
      | false => exact ⟨a2, rfl, (mergeS_false a (hi a2 rfl)).1, (mergeS_false a (hi a2 rfl)).2⟩

/-- What the direct evaluation of operations says of the other. -/
structure OpsSpec (P : Program) (ex : Bool) (M : EnvM) (ops : List Oper) (l : List (Oper × Bool)) (s s' : St) : Prop where
  inv : Inv s s'
  run : s'.ob.ok = true → s.ob.ok = true ∧ ∃ H', s.H.length ≤ H'.length ∧ HLe H' s'.H ∧ ∀ k, evOps P ex M.env ops (l.map (·.1)) (l.map (·.2)) s.tm s.H k = k s'.tm H'
theorem OpsSpec.le {ops : List Oper} {l : List (Oper × Bool)} {s x s' : St} (h : OpsSpec P ex M ops l s x) (g : SLe x s') (i : Inv s s') : OpsSpec P ex M ops l s s' :=
  ⟨i, fun hok => by
    obtain ⟨h1, H', h2, h3, h4⟩ := h.run (g.ob hok)
    exact ⟨h1, H', h2, h3.trans g.h, fun k => by rw [h4, g.tm]⟩⟩
theorem sameSt_eq {s x : St} (h : sameSt s x = true) (hi : Inv s x) : x.H = s.H := by
  unfold sameSt at h
  simp only [Bool.and_eq_true] at h
  exact hi.h.eq (Nat.eq_of_beq_eq_true h.1) fun i k => hsame_get _ _ h.2 i k
theorem midM_spec {ops : List Oper} {rest' l : List (Oper × Bool)} {g : Bool} {s s' : St} {A B : Option St} {next : St → Option St} {A' B' : Option St} (h : midM g s A B next A' B' = some s')
    (hseg : ∀ x, cond g A B = some x → Inv s x ∧ (x.ob.ok = true → s.ob.ok = true ∧ ∃ H', s.H.length ≤ H'.length ∧ HLe H' x.H ∧ ∀ k, evOps P ex M.env ops (l.map (·.1)) (l.map (·.2)) s.tm s.H k = evOps P ex M.env ops (rest'.map (·.1)) (rest'.map (·.2)) x.tm H' k))
    (hnext : ∀ s1 s', next s1 = some s' → OpsSpec P ex M ops rest' s1 s') (hall : ∀ x, cond g A' B' = some x → OpsSpec P ex M ops l s x) : OpsSpec P ex M ops l s s' := by
  have fall : mrgO g s A' B' = some s' → OpsSpec P ex M ops l s s' := by
    intro h
    obtain ⟨a, ha, h1, h2⟩ := mrgO_sel h fun a ha => (hall a ha).inv
    exact (hall a ha).le h1 h2
  unfold midM at h
  split at h
  · rename_i x y
    cases hc : (sameSt s x && sameSt s y) with
    | false => rw [hc] at h; exact fall h
    | true =>
      rw [hc, cond_true] at h
      simp only [Bool.and_eq_true] at hc
      have hs := hnext _ _ h
      obtain ⟨z, hz, hzi, hzr, hsame⟩ : ∃ z, cond g (some x) (some y) = some z ∧ SLe z (mergeS g s x y) ∧ Inv s (mergeS g s x y) ∧ sameSt s z = true := by
        cases g with
        | true => exact ⟨x, rfl, (mergeS_true y (hseg x rfl).1).1, (mergeS_true y (hseg x rfl).1).2, hc.1⟩
        | false => exact ⟨y, rfl, (mergeS_false x (hseg y rfl).1).1, (mergeS_false x (hseg y rfl).1).2, hc.2⟩
      obtain ⟨hiz, hrz⟩ := hseg z hz
      have hm : Inv s ⟨(mergeS g s x y).ob, (mergeS g s x y).tm, (mergeS g s x y).tv, s.H, s.hv⟩ := ⟨hzr.tl, hzr.tle, hzr.teq, HInv.refl _ _⟩
      refine ⟨hm.trans hs.inv, fun hok => ?_⟩
      obtain ⟨r1, H2, r2, r3, r4⟩ := hs.run hok
      obtain ⟨p1, H1, p2, p3, p4⟩ := hrz (hzi.ob r1)
      refine ⟨p1, H2, r2, r3, fun k => ?_⟩
      have he : H1 = s.H := by
        have hzs := sameSt_eq hsame hiz
        rw [hzs] at p3
        exact p3.of_length p2
      rw [p4, he, ← hzi.tm]
      exact r4 k
  · exact fall h
  · exact fall h
theorem midW_spec {ops : List Oper} {rest' l : List (Oper × Bool)} {want b : Bool} {s s' : St} {A B : Option St} {next : St → Option St} {A' B' : Option St} (h : midW want b s A B next A' B' = some s')
    (hseg : ∀ x, cond (cond want b (!b)) A B = some x → Inv s x ∧ (x.ob.ok = true → s.ob.ok = true ∧ ∃ H', s.H.length ≤ H'.length ∧ HLe H' x.H ∧ ∀ k, evOps P ex M.env ops (l.map (·.1)) (l.map (·.2)) s.tm s.H k = evOps P ex M.env ops (rest'.map (·.1)) (rest'.map (·.2)) x.tm H' k))
    (hnext : ∀ s1 s', next s1 = some s' → OpsSpec P ex M ops rest' s1 s') (hall : ∀ x, cond (cond want b (!b)) A' B' = some x → OpsSpec P ex M ops l s x) : OpsSpec P ex M ops l s s' := by
  cases want with
  | true => exact midM_spec h hseg hnext hall
  | false =>
    refine midM_spec (g := b) (A := B) (B := A) (A' := B') (B' := A') h (fun x hx => hseg x ?_) hnext (fun x hx => hall x ?_)
    · cases b <;> exact hx
    · cases b <;> exact hx
theorem evOpsM_spec (hM : M.Ok P ex) (ops : List Oper) : ∀ (n : Nat) (kn : List Nat) (l : List (Oper × Bool)) (s s' : St), evOpsM P ex M ops n kn l s = some s' → OpsSpec P ex M ops l s s'
  | 0, kn, l, s, s', h => by
    unfold evOpsM at h
    split at h
    · cases h; exact ⟨Inv.refl _, fun hok => ⟨hok, s.H, Nat.le_refl _, HLe.refl _, fun k => rfl⟩⟩
    · cases h
  | n + 1, kn, l, s, s', h => by
    unfold evOpsM at h
    split at h
    · cases h; exact ⟨Inv.refl _, fun hok => ⟨hok, s.H, Nat.le_refl _, HLe.refl _, fun k => rfl⟩⟩
    · rename_i o f rest
      have ih := fun kn l s s' h => evOpsM_spec hM ops n kn l s s' h
      split at h
      · rename_i hg
        obtain ⟨s1, h1, h2, h3⟩ := doneM_spec hM rfl h
        have hs := ih _ _ _ _ h1
        refine ⟨h2.trans hs.inv, fun hok => ?_⟩
        obtain ⟨r1, H', r2, r3, r4⟩ := hs.run hok
        obtain ⟨p1, p2⟩ := h3 r1
        refine ⟨p1, H', Nat.le_trans h2.h.len r2, r3, fun k => ?_⟩
        simp only [List.map_cons, evOps, hg, List.headD_cons, List.tail_cons]
        exact (p2 (fun tm H => evOps P ex M.env ops (rest.map (·.1)) (rest.map (·.2)) tm H k)).trans (r4 k)
      · rename_i j want hg
        split at h
        · rename_i hy
          obtain ⟨s1, h1, h2, h3, h4, h5⟩ := skipM_spec rfl h
          have hs := ih _ _ _ _ h1
          refine ⟨h2.trans hs.inv, fun hok => ?_⟩
          obtain ⟨r1, H', r2, r3, r4⟩ := hs.run hok
          rw [h3] at r1
          refine ⟨r1, H', by rw [h4] at r2; exact r2, r3, fun k => ?_⟩
          simp only [List.map_cons, evOps, hg, hy, List.tail_cons, h5]
          rw [h4] at r4
          exact r4 k
        · rename_i b hy
          have hb1 : cond want b (!b) = true → litA ops s.tm j want = s.tm := fun e => by
            have : b = want := by cases want <;> cases b <;> first | rfl | cases e
            subst this; exact litA_same hy
          have hb2 : cond want b (!b) = false → litA ops s.tm j (!want) = s.tm := fun e => by
            have : b = !want := by cases want <;> cases b <;> first | rfl | cases e
            subst this; exact litA_same hy
          have unf : ∀ (rest : List (Oper × Bool)) k, evOps P ex M.env ops (((o, f) :: rest).map (·.1)) (((o, f) :: rest).map (·.2)) s.tm s.H k = cond (cond want b (!b))
              (evOp P ex M.env f o.op (opA (litA ops s.tm j want)) s.H (fun v H' => match putA (litA ops s.tm j want) o.dst v with | some tm' => evOps P ex M.env ops (rest.map (·.1)) (rest.map (·.2)) tm' H' k | none => none))
              (match putA (litA ops s.tm j (!want)) o.dst (.tup []) with | some tm' => evOps P ex M.env ops (rest.map (·.1)) (rest.map (·.2)) tm' s.H k | none => none) := by
            intro rest k
            simp only [List.map_cons, evOps, hg, hy, List.headD_cons, List.tail_cons]
            rfl
          -- one of the two ways, up to what 'next' does
          have way : ∀ (nx : St → Option St) (r0 : List (Oper × Bool)) x, cond (cond want b (!b)) (doneM s (litA ops s.tm j want) o.dst (evOpM P ex M f o.op (opA (litA ops s.tm j want)) s.H s.hv) nx) (skipM s (litA ops s.tm j (!want)) o.dst nx) = some x →
              ∃ s1, nx s1 = some x ∧ Inv s s1 ∧ (s1.ob.ok = true → s.ob.ok = true ∧ ∀ k, evOps P ex M.env ops (((o, f) :: r0).map (·.1)) (((o, f) :: r0).map (·.2)) s.tm s.H k = evOps P ex M.env ops (r0.map (·.1)) (r0.map (·.2)) s1.tm s1.H k) := by
            intro nx r0 x hx
            cases hc : cond want b (!b) with
            | true =>
              rw [hc, cond_true] at hx
              obtain ⟨s1, h1, h2, h3⟩ := doneM_spec hM (hb1 hc) hx
              refine ⟨s1, h1, h2, fun hok => ?_⟩
              obtain ⟨p1, p2⟩ := h3 hok
              refine ⟨p1, fun k => ?_⟩
              rw [unf, hc, cond_true, hb1 hc]
              exact p2 (fun tm H => evOps P ex M.env ops (r0.map (·.1)) (r0.map (·.2)) tm H k)
            | false =>
              rw [hc, cond_false] at hx
              obtain ⟨s1, h1, h2, h3, h4, h5⟩ := skipM_spec (hb2 hc) hx
              refine ⟨s1, h1, h2, fun hok => ?_⟩
              rw [h3] at hok
              refine ⟨hok, fun k => ?_⟩
              rw [unf, hc, cond_false, hb2 hc]
              simp only [h5, h4]
          have full : ∀ kn x, cond (cond want b (!b)) (doneM s (litA ops s.tm j want) o.dst (evOpM P ex M f o.op (opA (litA ops s.tm j want)) s.H s.hv) (evOpsM P ex M ops n kn rest)) (skipM s (litA ops s.tm j (!want)) o.dst (evOpsM P ex M ops n kn rest)) = some x →
              OpsSpec P ex M ops ((o, f) :: rest) s x := by
            intro kn x hx
            obtain ⟨s1, h1, h2, h3⟩ := way _ rest x hx
            have hs := ih _ _ _ _ h1
            refine ⟨h2.trans hs.inv, fun hok => ?_⟩
            obtain ⟨r1, H', r2, r3, r4⟩ := hs.run hok
            obtain ⟨p1, p2⟩ := h3 r1
            exact ⟨p1, H', Nat.le_trans h2.h.len r2, r3, fun k => by rw [p2]; exact r4 k⟩
          cases hk : memN j kn with
          | true =>
            rw [hk, cond_true] at h
            exact full kn s' h
          | false =>
            rw [hk, cond_false] at h
            refine midW_spec (rest' := (cutAt (dstOf ops j) rest).2) h ?_ (fun s1 s' h => ih _ _ _ _ h) (full _)
            intro x hx
            obtain ⟨s1, h1, h2, h3⟩ := way _ rest x hx
            have hs := ih _ _ _ _ h1
            refine ⟨h2.trans hs.inv, fun hok => ?_⟩
            obtain ⟨r1, H', r2, r3, r4⟩ := hs.run hok
            obtain ⟨p1, p2⟩ := h3 r1
            refine ⟨p1, H', Nat.le_trans h2.h.len r2, r3, fun k => ?_⟩
            rw [p2]
            conv => lhs; rw [← cutAt_app (dstOf ops j) rest]
            rw [evOps_app]
            exact r4 _
end eqs
end Go.Sim
