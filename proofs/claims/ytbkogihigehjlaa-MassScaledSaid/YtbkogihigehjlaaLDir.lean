/- A direct evaluator of operations: one state; where an operation is guarded, both ways to the 'pick' behind it are gone, and made one. -/
import Derived.Test.YtbkogihigehjlaaLChn
namespace Go.Lst
/-- Two lists of values as one; where both have the version of the base, the base's. -/
def mergeT (b : Bool) : List AV → List AV → List AV → List Nat → List Nat → List Nat → List AV
  | x :: xs, y :: ys, z :: zs, xv, yv, bv =>
    cond (Nat.beq (vget xv 0) (vget bv 0) && Nat.beq (vget yv 0) (vget bv 0)) z (mergeAV b x y) :: mergeT b xs ys zs xv.tail yv.tail bv.tail
  | xs, ys, _, _, _, _ => mergeL b xs ys
theorem mergeT_true : ∀ (xs ys zs : List AV) (xv yv bv : List Nat), (∀ i, vget xv i = vget bv i → xs[i]? = zs[i]?) → mergeT true xs ys zs xv yv bv = xs
  | x :: xs, y :: ys, z :: zs, xv, yv, bv, h => by
    unfold mergeT
    rw [mergeT_true xs ys zs xv.tail yv.tail bv.tail (fun i hi => by
      rw [vget_tail, vget_tail] at hi; simpa using h (i + 1) hi), mergeAV_eq]
    cases hb : (Nat.beq (vget xv 0) (vget bv 0) && Nat.beq (vget yv 0) (vget bv 0))
    · rfl
    · simp only [Bool.and_eq_true] at hb
      have := h 0 (Nat.eq_of_beq_eq_true hb.1)
      simp at this; rw [this]; rfl
  | [], _, _, _, _, _, _ => by unfold mergeT; rw [mergeL_eq]; rfl
  | _ :: _, [], _, _, _, _, _ => by unfold mergeT; rw [mergeL_eq]; rfl
  | _ :: _, _ :: _, [], _, _, _, _ => by unfold mergeT; rw [mergeL_eq]; rfl
theorem mergeT_false : ∀ (xs ys zs : List AV) (xv yv bv : List Nat), (∀ i, vget yv i = vget bv i → ys[i]? = zs[i]?) → mergeT false xs ys zs xv yv bv = ys
  | x :: xs, y :: ys, z :: zs, xv, yv, bv, h => by
    unfold mergeT
    rw [mergeT_false xs ys zs xv.tail yv.tail bv.tail (fun i hi => by
      rw [vget_tail, vget_tail] at hi; simpa using h (i + 1) hi), mergeAV_eq]
    cases hb : (Nat.beq (vget xv 0) (vget bv 0) && Nat.beq (vget yv 0) (vget bv 0))
    · rfl
    · simp only [Bool.and_eq_true] at hb
      have := h 0 (Nat.eq_of_beq_eq_true hb.2)
      simp at this; rw [this]; rfl
  | [], _, _, _, _, _, _ => by unfold mergeT; rw [mergeL_eq]; rfl
  | _ :: _, [], _, _, _, _, _ => by unfold mergeT; rw [mergeL_eq]; rfl
  | _ :: _, _ :: _, [], _, _, _, _ => by unfold mergeT; rw [mergeL_eq]; rfl

theorem mergeT_eq (b : Bool) (xs ys zs : List AV) (xv yv bv : List Nat) (h : ∀ i, vget (cond b xv yv) i = vget bv i → (cond b xs ys)[i]? = zs[i]?) : mergeT b xs ys zs xv yv bv = cond b xs ys := by
  cases b
  · exact mergeT_false _ _ _ _ _ _ h
  · exact mergeT_true _ _ _ _ _ _ h
section defs
variable (P : Program) (ex : Bool) (M : EnvM)
def bumpD (tv : List Nat) : Option Tmp → List Nat
  | none => tv
  | some d => bump tv d
def doneM (s : St) (tm : List AV) (dst : Option Tmp) (r : RM) (next : St → Option St) : Option St :=
  match r with
  | some (ob', v, H', hv') => match putA tm dst v with | some tm' => next ⟨Ob.both ob' s.ob, tm', bumpD s.tv dst, H', hv'⟩ | none => none
  | none => none
def skipM (s : St) (tm : List AV) (dst : Option Tmp) (next : St → Option St) : Option St :=
  match putA tm dst (.tup []) with | some tm' => next ⟨s.ob, tm', bumpD s.tv dst, s.H, s.hv⟩ | none => none
def sameSt (s x : St) : Bool := Nat.beq x.H.length s.H.length && hsame x.hv s.hv
/-- Two ways to the region's end, as one. -/
def mrgO (g : Bool) (s : St) : Option St → Option St → Option St
  | some x, some y => some (mergeS g s x y)
  | none, y => cond g none y
  | x, none => cond g x none
/-- 'lo': may both ways be gone to the region's end? -/
def midM (lo g : Bool) (s : St) (A B : Option St) (next : St → Option St) (A' B' : Option St) : Option St :=
  match A, B with
  | some x, some y => cond (sameSt s x && sameSt s y) (next ⟨Ob.merge g x.ob y.ob, mergeT g x.tm y.tm s.tm x.tv y.tv s.tv, maxV x.tv y.tv, s.H, s.hv⟩) (cond lo (mrgO g s A' B') none)
  | none, _ => cond g none B'
  | _, none => cond g A' none
/-- The ways of an operation that is done where the truth is as wanted, else passed over. -/
def midW (lo want b : Bool) (s : St) (A B : Option St) (next : St → Option St) (A' B' : Option St) : Option St :=
  cond want (midM lo b s A B next A' B') (midM lo b s B A next B' A')
def dstOf (ops : List Oper) (j : Nat) : Option Tmp := match ops[j]? with | some o => o.dst | none => none
def isPick (d : Option Tmp) (o : Oper) : Bool :=
  match o.op, d with
  | .pick (.tmp t) _ _, some d => Nat.beq t d
  | _, _ => false
def cutAt (d : Option Tmp) : List (Oper × Bool) → List (Oper × Bool) × List (Oper × Bool)
  | [] => ([], [])
  | x :: r => cond (isPick d x.1) ([x], r) (x :: (cutAt d r).1, (cutAt d r).2)
def zipF : List Oper → List Bool → List (Oper × Bool)
  | [], _ => []
  | o :: r, fs => (o, fs.headD false) :: zipF r fs.tail
/-- The operations of a region in the order of the text. Where one is guarded, both ways to the 'pick' behind it are gone, and made one. -/
def evOpsM (ops : List Oper) : Bool → Nat → List Nat → List (Oper × Bool) → St → Option St
  | _, 0, _, l, s => match l with | [] => some s | _ :: _ => none
  | lo, n + 1, kn, l, s => match l with
    | [] => some s
    | (o, f) :: rest => match o.guard with
      | none => doneM s s.tm o.dst (evOpM P ex M f o.op (opA s.tm) s.H s.hv) (evOpsM ops lo n kn rest)
      | some (j, want) => match yieldA ops s.tm j with
        | none => cond (sureA ops o s.tm) (skipM s s.tm o.dst (evOpsM ops lo n kn rest)) none
        | some b => cond (memN j kn)
            (cond (cond want b (!b))
              (doneM s (litA ops s.tm j want) o.dst (evOpM P ex M f o.op (opA (litA ops s.tm j want)) s.H s.hv) (evOpsM ops lo n kn rest))
              (skipM s (litA ops s.tm j (!want)) o.dst (evOpsM ops lo n kn rest)))
            (midW lo want b s
              (doneM s (litA ops s.tm j want) o.dst (evOpM P ex M f o.op (opA (litA ops s.tm j want)) s.H s.hv) (evOpsM ops false n (j :: kn) (cutAt (dstOf ops j) rest).1))
              (skipM s (litA ops s.tm j (!want)) o.dst (evOpsM ops false n (j :: kn) (cutAt (dstOf ops j) rest).1))
              (evOpsM ops lo n kn (cutAt (dstOf ops j) rest).2)
              (doneM s (litA ops s.tm j want) o.dst (evOpM P ex M f o.op (opA (litA ops s.tm j want)) s.H s.hv) (evOpsM ops lo n (j :: kn) rest))
              (skipM s (litA ops s.tm j (!want)) o.dst (evOpsM ops lo n (j :: kn) rest)))
/-- The operations one after the other, none guarded: what each load looks at, what each store writes. -/
def evOpsC : List (Oper × Bool) → St → Option (St × List (Option Nat × Option Nat))
  | [], s => some (s, [])
  | (o, f) :: r, s => match o.guard with
    | some _ => none
    | none => match evOpM P ex M f o.op (opA s.tm) s.H s.hv with
      | some (ob', v, H', hv') => match putA s.tm o.dst v with
        | some tm' => match evOpsC r ⟨Ob.both ob' s.ob, tm', bumpD s.tv o.dst, H', hv'⟩ with
          | some (s', fs) => some (s', (readsA (opA s.tm) o.op, writesA (opA s.tm) o.op) :: fs)
          | none => none
        | none => none
      | none => none
end defs

section eqs
variable {P : Program} {ex : Bool} {M : EnvM}
theorem evCallM_inv (hM : M.Ok P ex) {full : Bool} {H H' : Heap} {hv hv' : HV} {f : FuncId} {args : List AV} {ob : Ob} {v : AV} (h : evCallM M full H hv f args = some (ob, v, H', hv')) : HInv H hv H' hv' := by
  unfold evCallM at h
  split at h
  · split at h
    · cases h; exact HInv.refl _ _
    · cases h
  · split at h
    · rename_i g u G hF
      cases hfl : u.flat with
      | true => rw [hfl, cond_true] at h; cases h; exact HInv.refl _ _
      | false =>
        rw [hfl, cond_false] at h
        cases h; exact HInv.push _ _ _
    · split at h
      · rename_i F hW
        obtain ⟨_, h⟩ := cond_some h rfl
        split at h
        · rename_i o' u G d hF
          cases h
          exact (hM.inv f F hW _ _ _ _ _ _ hF).sum hv
        · cases h
      · cases h
theorem setR_length' : ∀ (r l : List AV) (o : Nat), (setR l o r).length = l.length
  | [], _, _ => rfl
  | v :: r, l, o => by rw [setR, setR_length' r]; simp
theorem setR_get : ∀ (r l : List AV) (o k : Nat), ¬ (o ≤ k ∧ k < o + r.length) → (setR l o r)[k]? = l[k]?
  | [], _, _, _, _ => rfl
  | v :: r, l, o, k, h => by
    simp at h
    rw [setR, setR_get r (l.set o v) (o + 1) k (by omega), List.getElem?_set_ne (by omega)]
theorem lget_bump {h : HV} {i o n j : Nat} (hj : j ≠ i) : lget (bumpH h i o n) j = lget h j := by rw [lget_bumpH, if_neg hj]
/-- One block is seen anew. -/
theorem HInv.set {H : Heap} {hv : HV} {i o n : Nat} {z x : Blk} (hz : H[i]? = some z) (ht : x.ty = z.ty) (hg : z.g ≤ x.g) (h : hget (bumpH hv i o n) i 0 = hget hv i 0 → x.g = z.g ∧ CInv z.cells (lget hv i) x.cells (bumpR (lget hv i) o n)) : HInv H hv (H.set i x) (bumpH hv i o n) := by
  have hi : i < H.length := (List.getElem?_eq_some_iff.1 hz).1
  refine ⟨by simp, fun j k => ?_, fun j a c ha hc => ?_, fun j a c ha hc he => ?_⟩
  · rw [hget, hget, lget_bumpH]
    split
    · rw [vget_bumpR]; omega
    · exact Nat.le_refl _
  · by_cases hj : j = i
    · subst hj
      rw [List.getElem?_set_self hi] at hc
      rw [hz] at ha; cases ha; cases hc
      exact ⟨ht, hg⟩
    · rw [List.getElem?_set_ne (fun e => hj e.symm), ha] at hc
      cases hc; exact ⟨rfl, Nat.le_refl _⟩
  · by_cases hj : j = i
    · subst hj
      rw [List.getElem?_set_self hi] at hc
      rw [hz] at ha; cases ha; cases hc
      rw [lget_bumpH, if_pos rfl]
      exact h he
    · rw [List.getElem?_set_ne (fun e => hj e.symm), ha] at hc
      cases hc
      rw [lget_bump hj]; exact ⟨rfl, CInv.refl _ _⟩
theorem storeA_inv {H H' : Heap} {hv : HV} {t : TypeId} {p : Pos} {v : AV} {cs : List AV} {ob : Ob} (hcs : v.cells = some cs) (h : storeA P H t p v = some (ob, H')) : HInv H hv H' (bumpH hv p.b (wideS H p cs.length).1 (wideS H p cs.length).2) := by
  unfold storeA at h
  split at h
  · rename_i b s cs' hb hs hcs'
    rw [hcs] at hcs'; cases hcs'
    obtain ⟨_, h⟩ := cond_some h rfl
    split at h
    · rename_i l hl
      cases ho : p.o with
      | idx i y c m =>
        simp only [ho] at h
        obtain ⟨_, h⟩ := cond_some h rfl
        cases h
        have hw : wideS H p cs.length = (c + 1, m * y + cs.length) := by simp only [wideS, hb, hl, ho]
        rw [hw]
        refine HInv.set hb rfl (Nat.le_refl _) fun _ => ⟨rfl, ?_⟩
        rw [hl, setP_eq]
        refine ⟨by split; exact setR_length' _ _ _; rfl, fun k hk => ?_⟩
        split
        · rename_i him
          refine setR_get _ _ _ _ fun hc => ?_
          have hmul : (i + 1) * y ≤ m * y := Nat.mul_le_mul_right _ him
          rw [Nat.add_mul, Nat.one_mul] at hmul
          rw [vget_bumpR, if_pos (by omega)] at hk; omega
        · rfl
      | _ =>
      simp only [ho] at h
      obtain ⟨_, h⟩ := cond_some h rfl
      cases h
      have hw : wideS H p cs.length = (p.o.val + 1, cs.length) := by simp only [wideS, hb, hl, ho]
      rw [ho] at hw
      rw [hw]
      refine HInv.set hb rfl (Nat.le_refl _) fun _ => ⟨rfl, ?_⟩
      rw [hl]
      refine ⟨setR_length' _ _ _, fun k hk => setR_get _ _ _ _ fun hc => ?_⟩
      rw [vget_bumpR, if_pos (by omega)] at hk; omega
    · rename_i n z f hl
      obtain ⟨_, h⟩ := cond_some h rfl
      cases h
      have hw : wideS H p cs.length = (1, 1) := by simp only [wideS, hb, hl]
      rw [hw]
      refine HInv.set hb rfl (Nat.le_refl _) fun _ => ⟨rfl, ?_⟩
      rw [hl]
      refine ⟨rfl, rfl, fun hk => ?_⟩
      rw [vget_bumpR, if_pos (by omega)] at hk; omega
  · cases h
theorem appA_inv {t : TypeId} {H H' : Heap} {hv hv' : HV} {s x r : AV} {ob : Ob} (h : appA P t H hv s x = some (ob, r, H', hv')) : HInv H hv H' hv' := by
  unfold appA at h
  split at h
  · split at h
    · obtain ⟨_, h⟩ := cond_some h rfl
      split at h
      · split at h
        · cases h; exact HInv.push _ _ _
        · cases h; exact HInv.push _ _ _
        · split at h
          · rename_i k hk
            obtain ⟨hc, h⟩ := cond_some h rfl
            simp only [Bool.and_eq_true] at hc
            have hg := beq_eq hc.2.1
            have ht := beq_eq hc.2.2
            split at h
            · cases h
              refine HInv.set hk ht.symm (by simp only; omega) fun he => ?_
              rw [hget, hget, lget_bumpH, if_pos rfl, vget_bumpR, if_pos (by omega)] at he; omega
            · cases h
          · cases h
        · cases h
      · cases h
    · cases h
  · cases h
theorem evOpM_inv (hM : M.Ok P ex) {full : Bool} {o : Go.Op} {ρ : Operand → Option AV} {H H' : Heap} {hv hv' : HV} {ob : Ob} {v : AV} (h : evOpM P ex M full o ρ H hv = some (ob, v, H', hv')) : HInv H hv H' hv' := by
  unfold evOpM at h
  split at h
  · split at h
    · cases h; exact HInv.refl _ _
    · cases h
  · split at h
    · split at h
      · exact evCallM_inv hM h
      · cases h
    · split at h
      · obtain ⟨_, h⟩ := cond_some h rfl
        exact appA_inv h
      · cases h
    · split at h
      · split at h
        · obtain ⟨_, h⟩ := cond_some' h rfl
          cases h; exact HInv.refl _ _
        · split at h
          · cases h; exact HInv.refl _ _
          · cases h
      · cases h
    · split at h
      · split at h
        · exact evCallM_inv hM h
        · cases h
      · split at h
        · cases h; exact HInv.refl _ _
        · cases h
      · cases h
  · split at h
    · split at h
      · rename_i cs ob' H2 hcs hs
        obtain ⟨_, h⟩ := cond_some h rfl
        cases h; exact storeA_inv hcs hs
      · cases h
    · cases h
  · split at h
    · cases h; exact HInv.refl _ _
    · cases h; exact HInv.push _ _ _
    · cases h
    · cases h
theorem cutAt_app (d : Option Tmp) : ∀ l, (cutAt d l).1 ++ (cutAt d l).2 = l
  | [] => rfl
  | x :: r => by
    unfold cutAt
    cases isPick d x.1
    · simp only [cond_false, List.cons_append]; rw [cutAt_app d r]
    · rfl
theorem zipF_fst : ∀ (l : List Oper) (fs : List Bool), (zipF l fs).map (·.1) = l
  | [], _ => rfl
  | o :: r, fs => by simp only [zipF, List.map_cons]; rw [zipF_fst r fs.tail]
theorem bump_inv {s : St} {tm' : List AV} {dst : Option Tmp} {v : AV} (hp : putA s.tm dst v = some tm') :
    tm'.length = s.tm.length ∧ (∀ i, vget s.tv i ≤ vget (bumpD s.tv dst) i) ∧ ∀ i, vget (bumpD s.tv dst) i = vget s.tv i → tm'[i]? = s.tm[i]? := by
  obtain ⟨p1, p2, p3⟩ := putA_get hp
  refine ⟨p1, fun i => ?_, fun i hi => ?_⟩
  · cases dst with
    | none => exact Nat.le_refl _
    | some d => simp only [bumpD]; rw [vget_bump]; omega
  · cases dst with
    | none => simp only [putA, Option.some.injEq] at hp; subst hp; rfl
    | some d =>
      simp only [bumpD] at hi
      rw [vget_bump] at hi
      refine p2 i fun e => ?_
      cases e
      rw [if_pos rfl] at hi; omega
theorem doneM_spec (hM : M.Ok P ex) {s s' : St} {full : Bool} {o : Oper} {tm : List AV} (ht : tm = s.tm) {next : St → Option St} (h : doneM s tm o.dst (evOpM P ex M full o.op (opA tm) s.H s.hv) next = some s') :
    ∃ s1, next s1 = some s' ∧ Inv s s1 ∧ (s1.ob.ok = true → s.ob.ok = true ∧ ∀ ops, wantedA ops o s.tm = true → Tr P ex ops [(o, full)] s.tm s.H s1.tm s1.H) := by
  subst ht
  unfold doneM at h
  cases hr : evOpM P ex M full o.op (opA s.tm) s.H s.hv with
  | none => rw [hr] at h; cases h
  | some p =>
    obtain ⟨ob', v, H', hv'⟩ := p
    rw [hr] at h
    simp only at h
    cases hp : putA s.tm o.dst v with
    | none => rw [hp] at h; cases h
    | some tm' =>
      rw [hp] at h
      simp only at h
      obtain ⟨q1, q2, q3⟩ := bump_inv hp
      refine ⟨_, h, ⟨q1, q2, q3, evOpM_inv hM hr⟩, fun hok => ?_⟩
      rw [Ob.both_ok, Bool.and_eq_true] at hok
      exact ⟨hok.2, fun ops hw => .cons ⟨.inl ⟨hw, evOpM_does hM hr hok.1⟩, fun hq => ⟨hw, calm_does hM hq hr hok.1⟩⟩ hp .nil⟩
theorem skipM_spec {s s' : St} {o : Oper} {tm : List AV} (ht : tm = s.tm) {next : St → Option St} (h : skipM s tm o.dst next = some s') :
    ∃ s1, next s1 = some s' ∧ Inv s s1 ∧ (s1.ob.ok = true → s.ob.ok = true ∧ ∀ ops full, wantedA ops o s.tm = false → sureA ops o s.tm = true → Tr P ex ops [(o, full)] s.tm s.H s1.tm s1.H) := by
  subst ht
  unfold skipM at h
  cases hp : putA s.tm o.dst (.tup []) with
  | none => rw [hp] at h; cases h
  | some tm' =>
    rw [hp] at h
    simp only at h
    obtain ⟨q1, q2, q3⟩ := bump_inv hp
    exact ⟨_, h, ⟨q1, q2, q3, HInv.refl _ _⟩, fun hok => ⟨hok, fun ops full hw hsu => .cons ⟨.inr ⟨hw, hsu, rfl, rfl⟩, fun hq => by rw [wanted_calm hq] at hw; cases hw⟩ hp .nil⟩⟩
theorem storeA_far {H H' : Heap} {t : TypeId} {p : Pos} {v : AV} {ob : Ob} (h : storeA P H t p v = some (ob, H')) {b : Nat} (hb : b ≠ p.b) : H'[b]? = H[b]? := by
  unfold storeA at h
  split at h
  · obtain ⟨_, h⟩ := cond_some h rfl
    split at h
    · split at h
      · obtain ⟨_, h⟩ := cond_some h rfl
        cases h; rw [List.getElem?_set_ne (fun e => hb e.symm)]
      · obtain ⟨_, h⟩ := cond_some h rfl
        cases h; rw [List.getElem?_set_ne (fun e => hb e.symm)]
    · obtain ⟨_, h⟩ := cond_some h rfl
      cases h; rw [List.getElem?_set_ne (fun e => hb e.symm)]
  · cases h
theorem store_far {full : Bool} {o : Oper} {ρ : Operand → Option AV} {H H' : Heap} {hv hv' : HV} {ob : Ob} {v : AV} (hs : storeO o = true) (h : evOpM P ex M full o.op ρ H hv = some (ob, v, H', hv')) :
    ∃ b', writesA ρ o.op = some b' ∧ ∀ b, b ≠ b' → H'[b]? = H[b]? := by
  obtain ⟨dst, op, ty, pos, after, guard⟩ := o
  unfold storeO at hs
  simp only at hs h ⊢
  split at hs
  · rename_i t x y
    simp only [evOpM] at h
    split at h
    · rename_i p u hp hu
      split at h
      · rename_i cs ob1 H1 hcs hst
        obtain ⟨_, h⟩ := cond_some h rfl
        cases h
        refine ⟨p.b, by simp only [writesA]; rw [hp], fun b hb => storeA_far hst hb⟩
      · cases h
    · cases h
  · cases hs
theorem evOpsC_spec (hM : M.Ok P ex) (ops : List Oper) : ∀ (l : List (Oper × Bool)) (s s' : St) (fs : List (Option Nat × Option Nat)), evOpsC P ex M l s = some (s', fs) → Inv s s' ∧ (s'.ob.ok = true → s.ob.ok = true ∧
    ∃ (vals : Nat → AV) (tms : Nat → List AV) (Hs : Nat → Heap), tms 0 = s.tm ∧ Hs 0 = s.H ∧ tms l.length = s'.tm ∧ Hs l.length = s'.H ∧
      ∀ i x, l[i]? = some x → (Does P ex ops x.2 x.1 (tms i) (Hs i) (vals i) (Hs (i + 1)) ∧ putA (tms i) x.1.dst (vals i) = some (tms (i + 1))) ∧ fs[i]? = some (readsA (opA (tms i)) x.1.op, writesA (opA (tms i)) x.1.op) ∧
        (storeO x.1 = true → ∃ b', writesA (opA (tms i)) x.1.op = some b' ∧ ∀ b, b ≠ b' → (Hs (i + 1))[b]? = (Hs i)[b]?))
  | [], s, s', fs, h => by
    simp only [evOpsC, Option.some.injEq, Prod.mk.injEq] at h
    obtain ⟨rfl, rfl⟩ := h
    exact ⟨Inv.refl _, fun h => ⟨h, fun _ => .tup [], fun _ => s.tm, fun _ => s.H, rfl, rfl, rfl, rfl, fun i x e => by simp at e⟩⟩
  | (o, f) :: r, s, s', fs, h => by
    simp only [evOpsC] at h
    split at h
    · cases h
    · rename_i hg
      cases hr : evOpM P ex M f o.op (opA s.tm) s.H s.hv with
      | none => rw [hr] at h; cases h
      | some p =>
        obtain ⟨ob', v, H', hv'⟩ := p
        rw [hr] at h
        simp only at h
        cases hp : putA s.tm o.dst v with
        | none => rw [hp] at h; cases h
        | some tm' =>
          rw [hp] at h
          simp only at h
          split at h
          · rename_i s2 fs2 he
            cases h
            obtain ⟨i1, i2⟩ := evOpsC_spec hM ops r _ _ _ he
            obtain ⟨q1, q2, q3⟩ := bump_inv hp
            refine ⟨Inv.trans ⟨q1, q2, q3, evOpM_inv hM hr⟩ i1, fun hok => ?_⟩
            obtain ⟨hok2, vals, tms, Hs, h1, h2, h3, h4, h5⟩ := i2 hok
            simp only at hok2 h1 h2
            rw [Ob.both_ok, Bool.and_eq_true] at hok2
            have hw : wantedA ops o s.tm = true := by unfold wantedA; rw [hg]
            refine ⟨hok2.2, fun | 0 => v | i + 1 => vals i, fun | 0 => s.tm | i + 1 => tms i, fun | 0 => s.H | i + 1 => Hs i, rfl, rfl, h3, h4, ?_⟩
            intro i x hx
            cases i with
            | zero =>
              simp at hx; subst hx
              simp only [h1, h2]
              exact ⟨⟨⟨.inl ⟨hw, evOpM_does hM hr hok2.1⟩, fun hq => ⟨hw, calm_does hM hq hr hok2.1⟩⟩, hp⟩, rfl, fun hs => store_far hs hr⟩
            | succ i => simp at hx; simpa using h5 i x hx
          · cases h
/-- What the direct evaluation of operations says; 'lo': of a state that is seen more loosely. -/
structure OpsSpec (P : Program) (ex : Bool) (lo : Bool) (ops : List Oper) (l : List (Oper × Bool)) (s s' : St) : Prop where
  inv : Inv s s'
  run : s'.ob.ok = true → s.ob.ok = true ∧ ∃ tm1 H1, Tr P ex ops l s.tm s.H tm1 H1 ∧ (lo = false → tm1 = s'.tm ∧ H1 = s'.H) ∧ ∀ (w0 : World) (H0 : Heap) (μ0 : Mu) (a : Act) (w : World), Ends ex tm1 w0 H0 μ0 H1 a w → Ends ex s'.tm w0 H0 μ0 s'.H a w
theorem OpsSpec.nil {lo : Bool} {ops : List Oper} {s : St} : OpsSpec P ex lo ops [] s s := ⟨Inv.refl _, fun h => ⟨h, _, _, .nil, fun _ => ⟨rfl, rfl⟩, fun _ _ _ _ _ h => h⟩⟩
theorem OpsSpec.one {lo : Bool} {ops : List Oper} {l : List (Oper × Bool)} {s s' : St} (hi : Inv s s') (hr : s'.ob.ok = true → s.ob.ok = true ∧ Tr P ex ops l s.tm s.H s'.tm s'.H) : OpsSpec P ex lo ops l s s' :=
  ⟨hi, fun h => ⟨(hr h).1, _, _, (hr h).2, fun _ => ⟨rfl, rfl⟩, fun _ _ _ _ _ h => h⟩⟩
theorem OpsSpec.exact {ops : List Oper} {l : List (Oper × Bool)} {s s' : St} (h : OpsSpec P ex false ops l s s') (hok : s'.ob.ok = true) : s.ob.ok = true ∧ Tr P ex ops l s.tm s.H s'.tm s'.H := by
  obtain ⟨h1, tm1, H1, h2, h3, _⟩ := h.run hok
  obtain ⟨rfl, rfl⟩ := h3 rfl
  exact ⟨h1, h2⟩
theorem OpsSpec.trans {lo : Bool} {ops : List Oper} {l1 l2 : List (Oper × Bool)} {a b c : St} (h : OpsSpec P ex false ops l1 a b) (g : OpsSpec P ex lo ops l2 b c) : OpsSpec P ex lo ops (l1 ++ l2) a c :=
  ⟨h.inv.trans g.inv, fun hok => by
    obtain ⟨g1, tm1, H1, g2, g3, g4⟩ := g.run hok
    obtain ⟨h1, h2⟩ := h.exact g1
    exact ⟨h1, tm1, H1, h2.append g2, g3, g4⟩⟩
theorem OpsSpec.le {ops : List Oper} {l : List (Oper × Bool)} {s x s' : St} (h : OpsSpec P ex true ops l s x) (g : SLe ex x s') (i : Inv s s') : OpsSpec P ex true ops l s s' :=
  ⟨i, fun hok => by
    obtain ⟨h1, tm1, H1, h2, _, h4⟩ := h.run (g.ob hok)
    exact ⟨h1, tm1, H1, h2, (by intro e; cases e), fun w0 H0 μ0 a w e => g.ends w0 H0 μ0 a w (h4 w0 H0 μ0 a w e)⟩⟩
theorem mrgO_sel {ex : Bool} {g : Bool} {s s' : St} {X Y : Option St} (h : mrgO g s X Y = some s') (hX : ∀ x, X = some x → InvW s x) (hY : ∀ y, Y = some y → InvW s y) (hi : ∀ x, cond g X Y = some x → Inv s x) : ∃ x, cond g X Y = some x ∧ SLe ex x s' ∧ Inv s s' := by
  unfold mrgO at h
  split at h
  · rename_i x y
    cases h
    have e : cond g (some x) (some y) = some (cond g x y) := by cases g <;> rfl
    exact ⟨_, e, mergeS_le g (hi _ e), mergeS_inv g (hX x rfl) (hY y rfl)⟩
  · cases g with
    | true => cases h
    | false => exact ⟨s', h, SLe.refl ex _, hi _ h⟩
  · cases g with
    | true => exact ⟨s', h, SLe.refl ex _, hi _ h⟩
    | false => cases h
theorem sameSt_eq {s x : St} (h : sameSt s x = true) (hi : Inv s x) : x.H = s.H := by
  unfold sameSt at h
  simp only [Bool.and_eq_true] at h
  exact hi.h.eq (Nat.eq_of_beq_eq_true h.1) fun i k => hsame_get _ _ h.2 i k
theorem midM_spec {lo : Bool} {ops : List Oper} {rest' l : List (Oper × Bool)} {g : Bool} {s s' : St} {A B : Option St} {next : St → Option St} {A' B' : Option St} (h : midM lo g s A B next A' B' = some s')
    (hA : ∀ x, A = some x → ∀ i, vget s.tv i ≤ vget x.tv i) (hB : ∀ x, B = some x → ∀ i, vget s.tv i ≤ vget x.tv i)
    (hA' : ∀ x, A' = some x → InvW s x) (hB' : ∀ x, B' = some x → InvW s x)
    (hseg : ∀ x, cond g A B = some x → OpsSpec P ex false ops l s x)
    (hnext : ∀ s1 s', next s1 = some s' → OpsSpec P ex lo ops rest' s1 s') (hall : ∀ x, cond g A' B' = some x → OpsSpec P ex lo ops (l ++ rest') s x) : OpsSpec P ex lo ops (l ++ rest') s s' := by
  unfold midM at h
  split at h
  · rename_i x y
    cases hc : (sameSt s x && sameSt s y) with
    | false =>
      rw [hc, cond_false] at h
      cases lo with
      | false => cases h
      | true =>
        rw [cond_true] at h
        obtain ⟨z, hz, h1, h2⟩ := mrgO_sel (ex := ex) h hA' hB' fun x hx => (hall x hx).inv
        exact (hall z hz).le h1 h2
    | true =>
    rw [hc, cond_true] at h
    simp only [Bool.and_eq_true] at hc
    have hs := hnext _ _ h
    have ix := hA x rfl
    have iy := hB y rfl
    have esel : cond g (some x) (some y) = some (cond g x y) := by cases g <;> rfl
    have isel : Inv s (cond g x y) := (hseg _ esel).inv
    have hm : mergeT g x.tm y.tm s.tm x.tv y.tv s.tv = (cond g x y).tm := by
      rw [cond_st St.tm]
      refine mergeT_eq g _ _ _ _ _ _ fun i hi => ?_
      have := isel.teq i (by rw [cond_st St.tv]; exact hi)
      rw [cond_st St.tm] at this; exact this
    have hH : (cond g x y).H = s.H := by cases g; exact sameSt_eq hc.2 isel; exact sameSt_eq hc.1 isel
    have hi1 : Inv s ⟨Ob.merge g x.ob y.ob, mergeT g x.tm y.tm s.tm x.tv y.tv s.tv, maxV x.tv y.tv, s.H, s.hv⟩ := by
      refine ⟨by rw [hm]; exact isel.tl, fun i => ?_, fun i e => ?_, HInv.refl _ _⟩
      · show _ ≤ vget (maxV _ _) i; rw [vget_maxV]; have := ix i; omega
      · have e' : vget (maxV x.tv y.tv) i = vget s.tv i := e
        rw [vget_maxV] at e'
        have h1 := ix i
        have h2 := iy i
        show (mergeT g x.tm y.tm s.tm x.tv y.tv s.tv)[i]? = _
        rw [hm]
        refine isel.teq i ?_
        cases g
        · show vget y.tv i = _; omega
        · show vget x.tv i = _; omega
    refine ⟨hi1.trans hs.inv, fun hok => ?_⟩
    obtain ⟨r1, tm1, H1, r2, r3, r4⟩ := hs.run hok
    have r1' : (Ob.merge g x.ob y.ob).ok = true := r1
    rw [Ob.merge_ok] at r1'
    obtain ⟨p1, p2⟩ := (hseg _ esel).exact (by rw [cond_st St.ob]; cases g <;> exact r1')
    refine ⟨p1, tm1, H1, p2.append ?_, r3, r4⟩
    rw [hH, ← hm]
    exact r2
  · rename_i y
    cases g with
    | true => cases h
    | false => exact hall _ h
  · rename_i x
    cases g with
    | true => exact hall _ h
    | false => cases h
theorem midW_spec {lo : Bool} {ops : List Oper} {rest' l : List (Oper × Bool)} {want b : Bool} {s s' : St} {A B : Option St} {next : St → Option St} {A' B' : Option St} (h : midW lo want b s A B next A' B' = some s')
    (hA : ∀ x, A = some x → ∀ i, vget s.tv i ≤ vget x.tv i) (hB : ∀ x, B = some x → ∀ i, vget s.tv i ≤ vget x.tv i)
    (hA' : ∀ x, A' = some x → InvW s x) (hB' : ∀ x, B' = some x → InvW s x)
    (hseg : ∀ x, cond (cond want b (!b)) A B = some x → OpsSpec P ex false ops l s x)
    (hnext : ∀ s1 s', next s1 = some s' → OpsSpec P ex lo ops rest' s1 s') (hall : ∀ x, cond (cond want b (!b)) A' B' = some x → OpsSpec P ex lo ops (l ++ rest') s x) : OpsSpec P ex lo ops (l ++ rest') s s' := by
  cases want with
  | true => exact midM_spec h hA hB hA' hB' hseg hnext hall
  | false =>
    refine midM_spec (g := b) (A := B) (B := A) (A' := B') (B' := A') h hB hA hB' hA' (fun x hx => hseg x ?_) hnext (fun x hx => hall x ?_)
    · cases b <;> exact hx
    · cases b <;> exact hx
theorem wanted_bool {ops : List Oper} {o : Oper} {tm : List AV} {j : Nat} {want b : Bool} (hg : o.guard = some (j, want)) (hy : yieldA ops tm j = some b) : wantedA ops o tm = cond want b (!b) ∧ sureA ops o tm = true := by
  refine ⟨by simp only [wantedA, hg, hy], ?_⟩
  unfold sureA
  rw [hg]
  simp only
  unfold yieldA at hy
  split
  · rename_i og ho
    rw [ho] at hy
    simp only at hy
    split
    · rename_i d hd
      rw [hd] at hy
      simp only at hy
      split
      · rename_i ht; rw [ht] at hy; cases hy
      · rename_i ht; rw [ht] at hy; cases hy
      · rename_i ht; rw [ht] at hy; cases hy
      · rfl
    · rfl
  · rfl
theorem evOpsM_spec (hM : M.Ok P ex) (ops : List Oper) : ∀ (lo : Bool) (n : Nat) (kn : List Nat) (l : List (Oper × Bool)) (s s' : St), evOpsM P ex M ops lo n kn l s = some s' → OpsSpec P ex lo ops l s s'
  | lo, 0, kn, l, s, s', h => by
    unfold evOpsM at h
    split at h
    · cases h; exact .nil
    · cases h
  | lo, n + 1, kn, l, s, s', h => by
    unfold evOpsM at h
    split at h
    · cases h; exact .nil
    · rename_i o f rest
      have ih := fun lo kn l s s' h => evOpsM_spec hM ops lo n kn l s s' h
      have stp : ∀ {lo : Bool} {r0 : List (Oper × Bool)} {s1 x : St}, Inv s s1 → (s1.ob.ok = true → s.ob.ok = true ∧ Tr P ex ops [(o, f)] s.tm s.H s1.tm s1.H) → OpsSpec P ex lo ops r0 s1 x → OpsSpec P ex lo ops ((o, f) :: r0) s x :=
        fun hi hr hs => OpsSpec.trans (l1 := [(o, f)]) (OpsSpec.one hi hr) hs
      split at h
      · rename_i hg
        obtain ⟨s1, h1, h2, h3⟩ := doneM_spec hM rfl h
        exact stp h2 (fun hok => ⟨(h3 hok).1, (h3 hok).2 ops (by simp [wantedA, hg])⟩) (ih _ _ _ _ _ h1)
      · rename_i j want hg
        split at h
        · rename_i hy
          obtain ⟨hsu, h⟩ := cond_some h rfl
          obtain ⟨s1, h1, h2, h3⟩ := skipM_spec (P := P) (ex := ex) (o := o) rfl h
          exact stp h2 (fun hok => ⟨(h3 hok).1, (h3 hok).2 ops f (by simp only [wantedA, hg, hy]) hsu⟩) (ih _ _ _ _ _ h1)
        · rename_i b hy
          obtain ⟨hwb, hsu⟩ := wanted_bool hg hy
          have hb1 : cond want b (!b) = true → litA ops s.tm j want = s.tm := fun e => by
            have : b = want := by cases want <;> cases b <;> first | rfl | cases e
            subst this; exact litA_same hy
          have hb2 : cond want b (!b) = false → litA ops s.tm j (!want) = s.tm := fun e => by
            have : b = !want := by cases want <;> cases b <;> first | rfl | cases e
            subst this; exact litA_same hy
          -- one of the two ways, up to what 'next' does
          have way : ∀ (lo : Bool) (nx : St → Option St) (r0 : List (Oper × Bool)) (hnx : ∀ s1 x, nx s1 = some x → OpsSpec P ex lo ops r0 s1 x) x, cond (cond want b (!b)) (doneM s (litA ops s.tm j want) o.dst (evOpM P ex M f o.op (opA (litA ops s.tm j want)) s.H s.hv) nx) (skipM s (litA ops s.tm j (!want)) o.dst nx) = some x →
              OpsSpec P ex lo ops ((o, f) :: r0) s x := by
            intro lo nx r0 hnx x hx
            cases hc : cond want b (!b) with
            | true =>
              rw [hc, cond_true] at hx
              obtain ⟨s1, h1, h2, h3⟩ := doneM_spec hM (hb1 hc) hx
              exact stp h2 (fun hok => ⟨(h3 hok).1, (h3 hok).2 ops (hwb.trans hc)⟩) (hnx _ _ h1)
            | false =>
              rw [hc, cond_false] at hx
              obtain ⟨s1, h1, h2, h3⟩ := skipM_spec (P := P) (ex := ex) (o := o) (hb2 hc) hx
              exact stp h2 (fun hok => ⟨(h3 hok).1, (h3 hok).2 ops f (hwb.trans hc) hsu⟩) (hnx _ _ h1)
          have tle : ∀ (lo : Bool) (nx : St → Option St) (r0 : List (Oper × Bool)) (hnx : ∀ s1 x, nx s1 = some x → OpsSpec P ex lo ops r0 s1 x) (tm : List AV) (htm : tm.length = s.tm.length) x, (doneM s tm o.dst (evOpM P ex M f o.op (opA tm) s.H s.hv) nx = some x ∨ skipM s tm o.dst nx = some x) → InvW s x := by
            intro lo nx r0 hnx tm htm x hx
            have lit : InvW s ⟨s.ob, tm, s.tv, s.H, s.hv⟩ := ⟨htm, fun _ => Nat.le_refl _, HInv.refl _ _⟩
            rcases hx with hx | hx
            · obtain ⟨s1, h1, h2, _⟩ := doneM_spec hM (s := ⟨s.ob, tm, s.tv, s.H, s.hv⟩) rfl hx
              exact lit.trans (h2.trans (hnx _ _ h1).inv).w
            · obtain ⟨s1, h1, h2, _⟩ := skipM_spec (P := P) (ex := ex) (o := o) (s := ⟨s.ob, tm, s.tv, s.H, s.hv⟩) rfl hx
              exact lit.trans (h2.trans (hnx _ _ h1).inv).w
          have litlen : ∀ q, (litA ops s.tm j q).length = s.tm.length := by
            intro q
            unfold litA
            split
            · split
              · rename_i d _
                unfold litT
                cases hs : setF s.tm d (.bool q) with
                | none => rfl
                | some tm' => obtain ⟨e1, _⟩ := setF_eq hs; subst e1; simp
              · rfl
            · rfl
          cases hk : memN j kn with
          | true =>
            rw [hk, cond_true] at h
            exact way _ _ rest (fun s1 x h => ih _ _ _ _ _ h) s' h
          | false =>
            rw [hk, cond_false] at h
            have e : (o, f) :: rest = ((o, f) :: (cutAt (dstOf ops j) rest).1) ++ (cutAt (dstOf ops j) rest).2 := by
              rw [List.cons_append, cutAt_app]
            rw [e]
            refine midW_spec h (fun x hx => (tle _ _ _ (fun s1 x h => ih _ _ _ _ _ h) _ (litlen _) x (.inl hx)).tle) (fun x hx => (tle _ _ _ (fun s1 x h => ih _ _ _ _ _ h) _ (litlen _) x (.inr hx)).tle)
              (fun x hx => tle _ _ _ (fun s1 x h => ih _ _ _ _ _ h) _ (litlen _) x (.inl hx)) (fun x hx => tle _ _ _ (fun s1 x h => ih _ _ _ _ _ h) _ (litlen _) x (.inr hx))
              (fun x hx => way _ _ _ (fun s1 x h => ih _ _ _ _ _ h) x hx) (fun s1 s' h => ih _ _ _ _ _ h) (fun x hx => ?_)
            rw [← e]
            exact way _ _ rest (fun s1 x h => ih _ _ _ _ _ h) x hx
end eqs
end Go.Lst
