/- A block that one of two ways has grown is seen in both by the later generation. -/
import Derived.Test.YtbkogihigehjlaaLSt
namespace Go.Lst
abbrev Lft := Nat → Nat → Option Nat
mutual
def liftA (R : Lft) : AV → AV
  | .lst b g s n lo => match R b g with | some k => .lst b k s n lo | none => .lst b g s n lo
  | .agg l => .agg (liftL R l)
  | a => a
def liftL (R : Lft) : List AV → List AV
  | [] => []
  | a :: l => liftA R a :: liftL R l
end
section
variable {ex : Bool} {μ μ' : Mu}
mutual
theorem lift_rel {R : Lft} (hp : ∀ b g k c, R b g = some k → μ.pl b g = some c → μ'.pl b k = some c) (hm : MLe μ μ') : ∀ (a : AV) (v : Value), VRel ex μ a v → VRel ex μ' (liftA R a) v
  | .lst b g s n lo, v, h => by
    unfold liftA
    cases hr : R b g with
    | none => exact VRel.mono hm _ v h
    | some k =>
      simp only [VRel] at h ⊢
      obtain ⟨a, cap, rfl, h1, h2, h3, h4⟩ := h
      refine ⟨a, cap, rfl, h1, h2, h3, h4.imp id ?_⟩
      rintro ⟨c, z, hc, h5⟩
      exact ⟨c, z, hp _ _ _ _ hr hc, h5⟩
  | .agg l, v, h => by
    simp only [liftA, VRel] at h ⊢
    obtain ⟨l', rfl, h1⟩ := h
    exact ⟨l', rfl, lifts_rel hp hm l _ h1⟩
  | .ptr p, v, h => VRel.mono hm _ v h
  | .slice p l c, v, h => VRel.mono hm _ v h
  | .view n s f, v, h => VRel.mono hm _ v h
  | .vptr l, v, h => VRel.mono hm _ v h
  | .func f l r, v, h => VRel.mono hm _ v h
  | .iface t u, v, h => VRel.mono hm _ v h
  | .tup l, v, h => VRel.mono hm _ v h
  | .bool _, v, h => VRel.mono hm _ v h
  | .int _ _, v, h => VRel.mono hm _ v h
  | .float _, v, h => VRel.mono hm _ v h
  | .complex _ _, v, h => VRel.mono hm _ v h
  | .str _, v, h => VRel.mono hm _ v h
  | .nul, v, h => VRel.mono hm _ v h
  | .top, v, h => VRel.mono hm _ v h
  | .nilFunc, v, h => VRel.mono hm _ v h
  | .nilIface, v, h => VRel.mono hm _ v h
  | .unk _, v, h => VRel.mono hm _ v h
  | .alt _ _ _, v, h => VRel.mono hm _ v h
theorem lifts_rel {R : Lft} (hp : ∀ b g k c, R b g = some k → μ.pl b g = some c → μ'.pl b k = some c) (hm : MLe μ μ') : ∀ (l : List AV) (vs : List Value), VRels ex μ l vs → VRels ex μ' (liftL R l) vs
  | [], vs, h => by rw [VRels.nil_iff.1 h]; exact VRels.nil
  | a :: l, vs, h => by
    obtain ⟨v, r, rfl, h1, h2⟩ := h.uncons
    exact VRels.cons (lift_rel hp hm a v h1) (lifts_rel hp hm l r h2)
end
end
def liftR (X Y : Heap) : Lft := fun b g => match X[b]?, Y[b]? with
  | some p, some q => cond (Nat.beq p.g g && Nat.blt p.g q.g) (some q.g) none
  | _, _ => none
def needL : Heap → Heap → Bool
  | p :: X, q :: Y => Nat.blt p.g q.g || needL X Y
  | _, _ => false
/-- What has not the base's version is seen by the later generation. -/
def liftV (R : Lft) : List AV → List Nat → List Nat → List AV
  | [], _, _ => []
  | a :: l, xv, zv => cond (Nat.beq (vget xv 0) (vget zv 0)) a (liftA R a) :: liftV R l xv.tail zv.tail
def liftC (R : Lft) (xv zv : List Nat) : Cells → Cells
  | .flat l => .flat (liftV R l xv.tail zv.tail)
  | .sym n s f => .sym n s f
def liftHp (R : Lft) : Heap → Heap → HV → HV → Heap
  | p :: X, q :: Y, xv, zv => ⟨liftC R (lget xv 0) (lget zv 0) p.cells, p.ty, cond (Nat.blt p.g q.g) q.g p.g⟩ :: liftHp R X Y xv.tail zv.tail
  | X, _, _, _ => X
def liftHV : Heap → Heap → HV
  | p :: X, q :: Y => cond (Nat.blt p.g q.g) [1] [] :: liftHV X Y
  | _, _ => []
def lift (z x : St) (Y : Heap) : St :=
  cond (needL x.H Y) ⟨x.ob, liftV (liftR x.H Y) x.tm x.tv z.tv, x.tv, liftHp (liftR x.H Y) x.H Y x.hv z.hv, sumH x.hv (liftHV x.H Y)⟩ x
theorem liftV_length (R : Lft) : ∀ (l : List AV) (xv zv : List Nat), (liftV R l xv zv).length = l.length
  | [], _, _ => rfl
  | a :: l, xv, zv => by simp [liftV, liftV_length R l]
theorem liftV_get (R : Lft) : ∀ (l : List AV) (xv zv : List Nat) (i : Nat), vget xv i = vget zv i → (liftV R l xv zv)[i]? = l[i]?
  | [], _, _, i, _ => by simp [liftV]
  | a :: l, xv, zv, 0, h => by simp [liftV, h, Nat.beq_refl]
  | a :: l, xv, zv, i + 1, h => by
    simp only [liftV, List.getElem?_cons_succ]
    exact liftV_get R l _ _ i (by rw [vget_tail, vget_tail]; exact h)
theorem liftV_rel {ex : Bool} {μ μ' : Mu} {R : Lft} (hp : ∀ b g k c, R b g = some k → μ.pl b g = some c → μ'.pl b k = some c) (hm : MLe μ μ') : ∀ (l : List AV) (xv zv : List Nat) (vs : List Value), VRels ex μ l vs → VRels ex μ' (liftV R l xv zv) vs
  | [], _, _, vs, h => by rw [VRels.nil_iff.1 h]; exact VRels.nil
  | a :: l, xv, zv, vs, h => by
    obtain ⟨v, r, rfl, h1, h2⟩ := h.uncons
    refine VRels.cons ?_ (liftV_rel hp hm l _ _ r h2)
    cases Nat.beq (vget xv 0) (vget zv 0) with
    | true => exact VRel.mono hm a v h1
    | false => exact lift_rel hp hm a v h1
theorem liftC_rel {ex : Bool} {μ μ' : Mu} {R : Lft} (hp : ∀ b g k c, R b g = some k → μ.pl b g = some c → μ'.pl b k = some c) (hm : MLe μ μ') (xv zv : List Nat) {c : Cells} {vs : List Value} (h : CRel ex μ c vs) : CRel ex μ' (liftC R xv zv c) vs := by
  cases c with
  | flat l => exact liftV_rel hp hm l _ _ vs h
  | sym => exact CRel.mono hm h
theorem liftHp_length (R : Lft) : ∀ (X Y : Heap) (xv zv : HV), (liftHp R X Y xv zv).length = X.length
  | [], Y, _, _ => by cases Y <;> rfl
  | p :: X, [], _, _ => rfl
  | p :: X, q :: Y, xv, zv => by simp [liftHp, liftHp_length R X Y]
theorem liftHp_get (R : Lft) : ∀ (X Y : Heap) (xv zv : HV) (i : Nat) (b : Blk), (liftHp R X Y xv zv)[i]? = some b →
    (∃ p q, X[i]? = some p ∧ Y[i]? = some q ∧ b = ⟨liftC R (lget xv i) (lget zv i) p.cells, p.ty, cond (Nat.blt p.g q.g) q.g p.g⟩) ∨ (X[i]? = some b ∧ Y[i]? = none)
  | [], Y, _, _, i, b, h => by cases Y <;> simp [liftHp] at h
  | p :: X, [], _, _, i, b, h => .inr ⟨h, by simp⟩
  | p :: X, q :: Y, xv, zv, 0, b, h => by simp [liftHp] at h; exact .inl ⟨p, q, by simp, by simp, h.symm⟩
  | p :: X, q :: Y, xv, zv, i + 1, b, h => by
    have := liftHp_get R X Y xv.tail zv.tail i b (by simpa [liftHp] using h)
    rw [lget_tail, lget_tail] at this
    simpa using this
theorem liftHV_get : ∀ (X Y : Heap) (i k : Nat), hget (liftHV X Y) i k = 0 ∨ (k = 0 ∧ ∃ p q, X[i]? = some p ∧ Y[i]? = some q ∧ p.g < q.g ∧ hget (liftHV X Y) i k = 1)
  | [], Y, i, k => by cases Y <;> simp [liftHV, hget]
  | p :: X, [], i, k => by simp [liftHV, hget]
  | p :: X, q :: Y, 0, k => by
    simp only [liftHV, hget, lget]
    cases hb : Nat.blt p.g q.g with
    | false => simp
    | true =>
      cases k with
      | zero => right; exact ⟨rfl, p, q, by simp, by simp, by simpa using hb, rfl⟩
      | succ k => left; simp [vget]
  | p :: X, q :: Y, i + 1, k => by
    have := liftHV_get X Y i k
    simpa [liftHV, hget, lget] using this
theorem liftHV_none : ∀ (X Y : Heap) (i : Nat) (p q : Blk), X[i]? = some p → Y[i]? = some q → hget (liftHV X Y) i 0 = 0 → Nat.blt p.g q.g = false
  | [], Y, i, p, q, h, _, _ => by simp at h
  | x :: X, [], i, p, q, _, h, _ => by simp at h
  | x :: X, y :: Y, 0, p, q, h1, h2, h3 => by
    simp at h1 h2; subst h1; subst h2
    simp only [liftHV, hget, lget] at h3
    cases hb : Nat.blt x.g y.g with
    | false => rfl
    | true => rw [hb] at h3; cases h3
  | x :: X, y :: Y, i + 1, p, q, h1, h2, h3 => by
    exact liftHV_none X Y i p q (by simpa using h1) (by simpa using h2) (by simpa [liftHV, hget, lget] using h3)
theorem lift_hinv {Z X Y : Heap} {zv xv : HV} {R : Lft} (h : HInv Z zv X xv) : HInv Z zv (liftHp R X Y xv zv) (sumH xv (liftHV X Y)) := by
  refine ⟨by rw [liftHp_length]; exact h.len, fun i k => by rw [hget_sumH]; have := h.le i k; omega, fun i z b hz hb => ?_, fun i z b hz hb he => ?_⟩
  · rcases liftHp_get _ _ _ _ _ _ _ hb with ⟨p, q, h1, h2, rfl⟩ | ⟨h1, h2⟩
    · obtain ⟨q1, q2⟩ := h.ty i z p hz h1
      refine ⟨q1, ?_⟩
      simp only
      cases hb : Nat.blt p.g q.g with
      | false => exact q2
      | true => have : p.g < q.g := by simpa using hb
                simp only [cond_true]; omega
    · exact h.ty i z b hz h1
  · rw [hget_sumH] at he
    have hle := h.le i 0
    have e0 : hget xv i 0 = hget zv i 0 := by omega
    have e1 : hget (liftHV X Y) i 0 = 0 := by omega
    have ek : ∀ k, vget (lget (sumH xv (liftHV X Y)) i) k = vget (lget xv i) k := fun k => by
      have := hget_sumH xv (liftHV X Y) i k
      simp only [hget] at this
      rw [this]
      rcases liftHV_get X Y i k with h3 | ⟨rfl, _, _, _, _, _, h3⟩
      · simp only [hget] at h3; omega
      · rw [e1] at h3; cases h3
    rcases liftHp_get _ _ _ _ _ _ _ hb with ⟨p, q, h1, h2, rfl⟩ | ⟨h1, h2⟩
    · obtain ⟨q1, q2⟩ := h.same i z p hz h1 e0
      have hg := liftHV_none X Y i p q h1 h2 e1
      simp only [hg, cond_false]
      refine ⟨q1, ?_⟩
      unfold CInv at q2 ⊢
      cases hc : p.cells with
      | flat l =>
        rw [hc] at q2
        cases hz' : z.cells with
        | flat m =>
          rw [hz'] at q2
          simp only [liftC] at q2 ⊢
          refine ⟨by rw [liftV_length]; exact q2.1, fun k hk => ?_⟩
          rw [ek] at hk
          rw [liftV_get _ _ _ _ _ (by rw [vget_tail, vget_tail]; exact hk)]
          exact q2.2 k hk
        | sym => rw [hz'] at q2; simp only at q2
      | sym n s f =>
        rw [hc] at q2
        cases hz' : z.cells with
        | flat => rw [hz'] at q2; simp only at q2
        | sym =>
          rw [hz'] at q2
          simp only [liftC] at q2 ⊢
          exact ⟨q2.1, q2.2.1, fun hk => q2.2.2 (by rw [ek] at hk; exact hk)⟩
    · obtain ⟨q1, q2⟩ := h.same i z b hz h1 e0
      refine ⟨q1, ?_⟩
      unfold CInv at q2 ⊢
      cases hc : b.cells with
      | flat l =>
        rw [hc] at q2
        cases hz' : z.cells with
        | flat m => rw [hz'] at q2; simp only at q2 ⊢; exact ⟨q2.1, fun k hk => q2.2 k (by rw [ek] at hk; exact hk)⟩
        | sym => rw [hz'] at q2; simp only at q2
      | sym n s f =>
        rw [hc] at q2
        cases hz' : z.cells with
        | flat => rw [hz'] at q2; simp only at q2
        | sym => rw [hz'] at q2; simp only at q2 ⊢; exact ⟨q2.1, q2.2.1, fun hk => q2.2.2 (by rw [ek] at hk; exact hk)⟩
theorem lift_invW {z x : St} (Y : Heap) (h : InvW z x) : InvW z (lift z x Y) := by
  unfold lift
  cases needL x.H Y with
  | false => exact h
  | true => exact ⟨(liftV_length _ _ _ _).trans h.tl, h.tle, lift_hinv h.h⟩
theorem lift_inv {z x : St} (Y : Heap) (h : Inv z x) : Inv z (lift z x Y) := by
  unfold lift
  cases needL x.H Y with
  | false => exact h
  | true =>
    refine ⟨(liftV_length _ _ _ _).trans h.tl, h.tle, fun i e => ?_, lift_hinv h.h⟩
    show (liftV _ _ _ _)[i]? = _
    have e : vget x.tv i = vget z.tv i := e
    rw [liftV_get _ _ _ _ _ e]; exact h.teq i e
theorem lift_le {ex : Bool} (z x : St) (Y : Heap) : SLe ex x (lift z x Y) := by
  unfold lift
  cases needL x.H Y with
  | false => exact SLe.refl ex x
  | true =>
    rw [cond_true]
    refine ⟨fun e => e, ?_⟩
    rintro w0 H0 μ0 a w ⟨μ, h1, h2, h3, h4⟩
    let μ' : Mu := ⟨fun i g => match x.H[i]?, Y[i]? with
      | some p, some q => if p.g < q.g ∧ g = q.g then μ.pl i p.g else μ.pl i g
      | _, _ => μ.pl i g, μ.w0⟩
    have hl : ∀ i g p q, x.H[i]? = some p → Y[i]? = some q → μ'.pl i g = if p.g < q.g ∧ g = q.g then μ.pl i p.g else μ.pl i g := fun i g p q e1 e2 => by
      simp only [μ', e1, e2]
    have hn : ∀ i g, (x.H[i]? = none ∨ Y[i]? = none) → μ'.pl i g = μ.pl i g := fun i g e => by
      rcases e with e | e
      · simp only [μ', e]
      · cases hx : x.H[i]? <;> simp only [μ', e, hx]
    have some_of : ∀ i g c, μ'.pl i g = some c → ∃ g', μ.pl i g' = some c := fun i g c e => by
      cases hx : x.H[i]? with
      | none => rw [hn i g (.inl hx)] at e; exact ⟨g, e⟩
      | some p =>
        cases hy : Y[i]? with
        | none => rw [hn i g (.inr hy)] at e; exact ⟨g, e⟩
        | some q =>
          rw [hl i g p q hx hy] at e
          split at e
          · exact ⟨_, e⟩
          · exact ⟨_, e⟩
    have hm : MLe μ μ' := ⟨fun i g c e => by
      cases hx : x.H[i]? with
      | none => rw [hn i g (.inl hx)]; exact e
      | some p =>
        cases hy : Y[i]? with
        | none => rw [hn i g (.inr hy)]; exact e
        | some q =>
          rw [hl i g p q hx hy]
          split
          · rename_i hc
            obtain ⟨hc, rfl⟩ := hc
            rw [h4.gen i p _ hx hc] at e; cases e
          · exact e, fun _ _ => rfl⟩
    have hp : ∀ b g k c, liftR x.H Y b g = some k → μ.pl b g = some c → μ'.pl b k = some c := fun b g k c hr hc => by
      unfold liftR at hr
      split at hr
      · rename_i p q e1 e2
        obtain ⟨hb, hr⟩ := cond_some hr rfl
        cases hr
        simp only [Bool.and_eq_true, Nat.blt_eq] at hb
        rw [hl b _ p q e1 e2, if_pos ⟨hb.2, rfl⟩, beq_eq hb.1]; exact hc
      · cases hr
    -- a block that has a place
    have blk : ∀ i b c, (liftHp (liftR x.H Y) x.H Y x.hv z.hv)[i]? = some b → μ'.pl i b.g = some c → ∃ p, x.H[i]? = some p ∧ μ.pl i p.g = some c ∧ b.ty = p.ty ∧ ∀ vs, CRel ex μ p.cells vs → CRel ex μ' b.cells vs := by
      intro i b c hb hc
      rcases liftHp_get _ _ _ _ _ _ _ hb with ⟨p, q, e1, e2, rfl⟩ | ⟨e1, e2⟩
      · refine ⟨p, e1, ?_, rfl, fun vs hv => liftC_rel hp hm _ _ hv⟩
        rw [hl i _ p q e1 e2] at hc
        simp only at hc
        cases hb' : Nat.blt p.g q.g with
        | true =>
          have hlt : p.g < q.g := by simpa using hb'
          rw [hb', cond_true, if_pos ⟨hlt, rfl⟩] at hc; exact hc
        | false =>
          have hlt : ¬ p.g < q.g := fun e => by have e2 : Nat.blt p.g q.g = true := by simpa using e
                                                rw [e2] at hb'; cases hb'
          rw [hb', cond_false, if_neg (fun e => hlt e.1)] at hc; exact hc
      · refine ⟨b, e1, ?_, rfl, fun vs hv => CRel.mono hm hv⟩
        rw [hn i _ (.inr e2)] at hc; exact hc
    refine ⟨μ', liftV_rel hp hm _ _ _ _ h1, h2, ⟨⟨?_, ?_, ?_, h3.rel.old⟩, ⟨fun i g c e => hm.pl i g c (h3.mu.pl i g c e), h3.mu.w0⟩, h3.stay, ?_, by rw [liftHp_length]; exact h3.ext, h3.os, h3.output, h3.tape, h3.size, h3.keep⟩, ⟨?_, ?_⟩⟩
    · intro i b c y hb hc
      obtain ⟨p, e1, e2, e3, e4⟩ := blk i b _ hb hc
      obtain ⟨arr, q1, q2, q3⟩ := h3.rel.blk i p c y e1 e2
      exact ⟨arr, by rw [e3]; exact q1, q2, e4 _ q3⟩
    · intro i j b b' c y y' hb hb' hc hc'
      obtain ⟨p, e1, e2, _, _⟩ := blk i b _ hb hc
      obtain ⟨q, f1, f2, _, _⟩ := blk j b' _ hb' hc'
      exact h3.rel.inj i j p q c y y' e1 f1 e2 f2
    · intro i g c y e
      obtain ⟨g', e⟩ := some_of i g _ e
      exact h3.rel.lt i g' c y e
    · intro i g c y e
      obtain ⟨g', e⟩ := some_of i g _ e
      exact h3.fresh i g' c y e
    · intro i g hi
      rw [liftHp_length] at hi
      rw [hn i g (.inl (List.getElem?_eq_none hi))]
      exact h4.out i g hi
    · intro i b g hb hg
      rcases liftHp_get _ _ _ _ _ _ _ hb with ⟨p, q, e1, e2, rfl⟩ | ⟨e1, e2⟩
      · rw [hl i g p q e1 e2]
        simp only at hg
        cases hb' : Nat.blt p.g q.g with
        | true =>
          have hlt : p.g < q.g := by simpa using hb'
          rw [hb', cond_true] at hg
          rw [if_neg (by omega)]; exact h4.gen i p g e1 (by omega)
        | false =>
          have hlt : ¬ p.g < q.g := fun e => by have e2 : Nat.blt p.g q.g = true := by simpa using e
                                                rw [e2] at hb'; cases hb'
          rw [hb', cond_false] at hg
          rw [if_neg (fun e => hlt e.1)]; exact h4.gen i p g e1 hg
      · rw [hn i g (.inr e2)]; exact h4.gen i b g e1 hg
/-- What the other way has changed counts as changed. -/
def raise (x y : St) : St := ⟨x.ob, x.tm, maxV x.tv y.tv, x.H, maxH x.hv y.hv⟩
theorem raise_hinv {Z X : Heap} {zv xv : HV} (yv : HV) (h : HInv Z zv X xv) : HInv Z zv X (maxH xv yv) := by
  refine ⟨h.len, fun i k => by rw [hget_maxH]; have := h.le i k; omega, h.ty, fun i z b hz hb he => ?_⟩
  rw [hget_maxH] at he
  have h0 := h.le i 0
  obtain ⟨q1, q2⟩ := h.same i z b hz hb (by omega)
  refine ⟨q1, ?_⟩
  have up : ∀ k, vget (lget (maxH xv yv) i) k = vget (lget zv i) k → vget (lget xv i) k = vget (lget zv i) k := fun k hk => by
    have h1 := hget_maxH xv yv i k
    have h2 := h.le i k
    simp only [hget] at h1 h2
    omega
  unfold CInv at q2 ⊢
  cases hc : b.cells with
  | flat l =>
    rw [hc] at q2
    cases hz' : z.cells with
    | flat m => rw [hz'] at q2; simp only at q2 ⊢; exact ⟨q2.1, fun k hk => q2.2 k (up _ hk)⟩
    | sym => rw [hz'] at q2; simp only at q2
  | sym n s f =>
    rw [hc] at q2
    cases hz' : z.cells with
    | flat => rw [hz'] at q2; simp only at q2
    | sym => rw [hz'] at q2; simp only at q2 ⊢; exact ⟨q2.1, q2.2.1, fun hk => q2.2.2 (up _ hk)⟩
theorem raise_invW {z x : St} (y : St) (h : InvW z x) : InvW z (raise x y) :=
  ⟨h.tl, fun i => by show _ ≤ vget (maxV _ _) i; rw [vget_maxV]; have := h.tle i; omega, raise_hinv _ h.h⟩
theorem raise_inv {z x : St} (y : St) (h : Inv z x) : Inv z (raise x y) :=
  ⟨h.tl, fun i => by show _ ≤ vget (maxV _ _) i; rw [vget_maxV]; have := h.tle i; omega, fun i e => by
    have e : vget (maxV x.tv y.tv) i = vget z.tv i := e
    rw [vget_maxV] at e
    have := h.tle i
    exact h.teq i (by omega), raise_hinv _ h.h⟩
theorem raise_le {ex : Bool} (x y : St) : SLe ex x (raise x y) := ⟨fun e => e, fun _ _ _ _ _ h => h⟩
/-- Two states as one. -/
def mergeS (b : Bool) (z x y : St) : St :=
  cond (needL x.H y.H || needL y.H x.H) (mergeS0 b z (lift z (raise x y) y.H) (lift z (raise y x) x.H)) (mergeS0 b z x y)
theorem mergeS_inv {z x y : St} (b : Bool) (hx : InvW z x) (hy : InvW z y) : Inv z (mergeS b z x y) := by
  unfold mergeS
  cases (needL x.H y.H || needL y.H x.H)
  · exact mergeS0_inv b hx hy
  · exact mergeS0_inv b (lift_invW _ (raise_invW y hx)) (lift_invW _ (raise_invW x hy))
theorem mergeS_le {ex : Bool} {z x y : St} (b : Bool) (hz : Inv z (cond b x y)) : SLe ex (cond b x y) (mergeS b z x y) := by
  unfold mergeS
  cases (needL x.H y.H || needL y.H x.H)
  · exact mergeS0_le b hz
  · cases b with
    | true => exact ((raise_le x y).trans (lift_le z (raise x y) y.H)).trans (mergeS0_le (x := lift z (raise x y) y.H) (y := lift z (raise y x) x.H) true (lift_inv y.H (raise_inv y hz)))
    | false => exact ((raise_le y x).trans (lift_le z (raise y x) x.H)).trans (mergeS0_le (x := lift z (raise x y) y.H) (y := lift z (raise y x) x.H) false (lift_inv x.H (raise_inv x hz)))
end Go.Lst
