/- States, and how two states, of which a truth tells the one that holds, are made one: what neither way has changed stays as it was. -/
import Derived.Test.YtbkogihigehjlaaLAny
namespace Go.Lst
mutual
/-- A value, said as loosely as the other one. -/
def align : AV → AV → AV
  | .slice none 0 0, .lst b g s _ _ => .lst b g s 0 0
  | .nul, .lst b g s _ _ => .lst b g s 0 0
  | .agg l, .agg m => .agg (alignL l m)
  | .tup l, .tup m => .tup (alignL l m)
  | _, .top => .top
  | x, _ => x
def alignL : List AV → List AV → List AV
  | x :: l, y :: m => align x y :: alignL l m
  | l, _ => l
end
section
variable {ex : Bool} {μ : Mu}
mutual
theorem align_rel : ∀ (x y : AV) (v : Value), VRel ex μ x v → VRel ex μ (align x y) v
  | .slice none n k, y, v, h => by
    simp only [VRel] at h
    obtain ⟨rfl, rfl, rfl⟩ := h
    cases y <;> unfold align <;> simp only [VRel] <;> first | exact ⟨rfl, rfl, rfl⟩ | exact ⟨none, 0, rfl, Nat.le_refl _, Nat.le_refl _, Nat.zero_le _, .inl rfl⟩ | trivial | (simp; done)
  | .nul, y, v, h => by
    cases y <;> unfold align <;> first | exact h | (simp only [VRel]; done) | skip
    simp only [VRel] at h ⊢
    obtain ⟨a, rfl⟩ := h
    exact ⟨a, 0, rfl, Nat.le_refl _, Nat.le_refl _, Nat.zero_le _, .inl rfl⟩
  | .agg l, y, v, h => by
    cases y <;> unfold align <;> first | exact h | (simp only [VRel]; done) | skip
    simp only [VRel] at h ⊢
    obtain ⟨l', rfl, h1⟩ := h
    exact ⟨l', rfl, alignL_rel l _ _ h1⟩
  | .tup l, y, v, h => by
    cases y <;> unfold align <;> first | exact h | (simp only [VRel]; done) | skip
    simp only [VRel] at h ⊢
    obtain ⟨l', rfl, h1⟩ := h
    exact ⟨l', rfl, alignL_rel l _ _ h1⟩
  | .bool _, y, v, h => by cases y <;> unfold align <;> first | exact h | simp only [VRel]
  | .int _ _, y, v, h => by cases y <;> unfold align <;> first | exact h | simp only [VRel]
  | .float _, y, v, h => by cases y <;> unfold align <;> first | exact h | simp only [VRel]
  | .complex _ _, y, v, h => by cases y <;> unfold align <;> first | exact h | simp only [VRel]
  | .str _, y, v, h => by cases y <;> unfold align <;> first | exact h | simp only [VRel]
  | .ptr _, y, v, h => by cases y <;> unfold align <;> first | exact h | simp only [VRel]
  | .vptr _, y, v, h => by cases y <;> unfold align <;> first | exact h | simp only [VRel]
  | .slice (some _) _ _, y, v, h => by cases y <;> unfold align <;> first | exact h | simp only [VRel]
  | .lst _ _ _ _ _, y, v, h => by cases y <;> unfold align <;> first | exact h | simp only [VRel]
  | .view _ _ _, y, v, h => by cases y <;> unfold align <;> first | exact h | simp only [VRel]
  | .top, y, v, h => by cases y <;> unfold align <;> simp only [VRel]
  | .func _ _ _, y, v, h => by cases y <;> unfold align <;> first | exact h | simp only [VRel]
  | .nilFunc, y, v, h => by cases y <;> unfold align <;> first | exact h | simp only [VRel]
  | .iface _ _, y, v, h => by cases y <;> unfold align <;> first | exact h | simp only [VRel]
  | .nilIface, y, v, h => by cases y <;> unfold align <;> first | exact h | simp only [VRel]
  | .unk _, y, v, h => by cases y <;> unfold align <;> first | exact h | simp only [VRel]
  | .alt _ _ _, y, v, h => by cases y <;> unfold align <;> first | exact h | simp only [VRel]
theorem alignL_rel : ∀ (l m : List AV) (vs : List Value), VRels ex μ l vs → VRels ex μ (alignL l m) vs
  | [], m, vs, h => by cases m <;> exact h
  | x :: l, [], vs, h => h
  | x :: l, y :: m, vs, h => by
    obtain ⟨v, r, rfl, h1, h2⟩ := h.uncons
    exact VRels.cons (align_rel x y v h1) (alignL_rel l m r h2)
end
end
theorem alignL_length : ∀ (l m : List AV), (alignL l m).length = l.length
  | [], m => by cases m <;> rfl
  | x :: l, [] => rfl
  | x :: l, y :: m => by simp [alignL, alignL_length l m]
/-- What an interface holds, of two kinds? -/
def altK : AV → AV → Bool
  | .iface t _, .iface u _ => !Nat.beq t u
  | .iface _ _, .nilIface => true
  | .nilIface, .iface _ _ => true
  | .alt _ _ _, .iface _ _ => true
  | .alt _ _ _, .nilIface => true
  | .alt _ _ _, .alt _ _ _ => true
  | .iface _ _, .alt _ _ _ => true
  | .nilIface, .alt _ _ _ => true
  | _, _ => false
/-- Two values as one. -/
def mergeW (b : Bool) (x y : AV) : AV := cond (altK x y) (.alt b x y) (mergeAV b (align x y) (align y x))
def mergeWL (b : Bool) : List AV → List AV → List AV
  | x :: l, y :: m => mergeW b x y :: mergeWL b l m
  | [], [] => []
  | l, m => cond b l m
section
variable {ex : Bool} {μ : Mu}
theorem mergeW_rel (b : Bool) (x y : AV) (v : Value) (h : VRel ex μ (cond b x y) v) : VRel ex μ (mergeW b x y) v := by
  unfold mergeW
  cases altK x y with
  | true =>
    simp only [cond_true, VRel]
    exact ⟨fun e => by subst e; exact h, fun e => by subst e; exact h⟩
  | false =>
  rw [cond_false, mergeAV_eq]
  cases b
  · exact align_rel y x v h
  · exact align_rel x y v h
theorem mergeWL_rel (b : Bool) : ∀ (l m : List AV) (vs : List Value), VRels ex μ (cond b l m) vs → VRels ex μ (mergeWL b l m) vs
  | [], [], vs, h => by cases b <;> exact h
  | [], _ :: _, vs, h => h
  | _ :: _, [], vs, h => h
  | x :: l, y :: m, vs, h => by
    unfold mergeWL
    have e : cond b (x :: l) (y :: m) = cond b x y :: cond b l m := by cases b <;> rfl
    rw [e] at h
    obtain ⟨v, r, rfl, h1, h2⟩ := h.uncons
    exact VRels.cons (mergeW_rel b x y v h1) (mergeWL_rel b l m r h2)
end
/-- Two lists of values as one; where both have the version of the base, the base's. -/
def mergeV (b : Bool) : List AV → List AV → List AV → List Nat → List Nat → List Nat → List AV
  | x :: xs, y :: ys, z :: zs, xv, yv, bv =>
    cond (Nat.beq (vget xv 0) (vget bv 0) && Nat.beq (vget yv 0) (vget bv 0)) z (mergeW b x y) :: mergeV b xs ys zs xv.tail yv.tail bv.tail
  | xs, ys, _, _, _, _ => mergeWL b xs ys
section
variable {ex : Bool} {μ : Mu}
theorem mergeV_rel (b : Bool) : ∀ (xs ys zs : List AV) (xv yv bv : List Nat) (vs : List Value), (∀ i, vget (cond b xv yv) i = vget bv i → (cond b xs ys)[i]? = zs[i]?) → VRels ex μ (cond b xs ys) vs → VRels ex μ (mergeV b xs ys zs xv yv bv) vs
  | x :: xs, y :: ys, z :: zs, xv, yv, bv, vs, hz, h => by
    unfold mergeV
    have e : cond b (x :: xs) (y :: ys) = cond b x y :: cond b xs ys := by cases b <;> rfl
    rw [e] at h hz
    obtain ⟨v, r, rfl, h1, h2⟩ := h.uncons
    have ht : ∀ i, vget (cond b xv.tail yv.tail) i = vget bv.tail i → (cond b xs ys)[i]? = zs[i]? := fun i hi => by
      have := hz (i + 1) (by rw [vget_tail] at hi; rw [← hi]; cases b <;> simp [vget_tail])
      simpa using this
    refine VRels.cons ?_ (mergeV_rel b xs ys zs _ _ _ r ht h2)
    cases hb : (Nat.beq (vget xv 0) (vget bv 0) && Nat.beq (vget yv 0) (vget bv 0)) with
    | false => exact mergeW_rel b x y v h1
    | true =>
      simp only [Bool.and_eq_true] at hb
      have := hz 0 (by cases b; exact beq_eq hb.2; exact beq_eq hb.1)
      simp at this
      rw [cond_true, ← this]; exact h1
  | [], ys, zs, xv, yv, bv, vs, hz, h => by unfold mergeV; exact mergeWL_rel b _ _ vs h
  | _ :: _, [], zs, xv, yv, bv, vs, hz, h => by unfold mergeV; exact mergeWL_rel b _ _ vs h
  | _ :: _, _ :: _, [], xv, yv, bv, vs, hz, h => by unfold mergeV; exact mergeWL_rel b _ _ vs h
end
theorem mergeWL_length (b : Bool) : ∀ (l m : List AV), l.length = m.length → (mergeWL b l m).length = l.length
  | [], [], _ => rfl
  | [], _ :: _, h => by simp at h
  | _ :: _, [], h => by simp at h
  | x :: l, y :: m, h => by simp [mergeWL, mergeWL_length b l m (by simpa using h)]
theorem mergeV_length (b : Bool) : ∀ (xs ys zs : List AV) (xv yv bv : List Nat), xs.length = zs.length → ys.length = zs.length → (mergeV b xs ys zs xv yv bv).length = zs.length
  | [], [], [], _, _, _, _, _ => rfl
  | x :: xs, y :: ys, z :: zs, xv, yv, bv, h1, h2 => by
    unfold mergeV; simp [mergeV_length b xs ys zs _ _ _ (by simpa using h1) (by simpa using h2)]
  | _ :: _, [], _, _, _, _, h1, h2 => by rw [← h2] at h1; simp at h1
  | [], _ :: _, _, _, _, _, h1, h2 => by rw [← h2] at h1; simp at h1
  | [], [], _ :: _, _, _, _, h1, _ => by simp at h1
  | _ :: _, _ :: _, [], _, _, _, h1, _ => by simp at h1
theorem mergeV_base (b : Bool) : ∀ (xs ys zs : List AV) (xv yv bv : List Nat), xs.length = zs.length → ys.length = zs.length → ∀ i, vget xv i = vget bv i → vget yv i = vget bv i → (mergeV b xs ys zs xv yv bv)[i]? = zs[i]?
  | [], [], [], _, _, _, _, _, i, _, _ => by simp [mergeV, mergeWL]
  | x :: xs, y :: ys, z :: zs, xv, yv, bv, h1, h2, 0, e1, e2 => by
    unfold mergeV
    have : (Nat.beq (vget xv 0) (vget bv 0) && Nat.beq (vget yv 0) (vget bv 0)) = true := by rw [e1, e2, Nat.beq_refl]; rfl
    rw [this]; rfl
  | x :: xs, y :: ys, z :: zs, xv, yv, bv, h1, h2, i + 1, e1, e2 => by
    unfold mergeV
    have := mergeV_base b xs ys zs xv.tail yv.tail bv.tail (by simpa using h1) (by simpa using h2) i (by rw [vget_tail, vget_tail]; exact e1) (by rw [vget_tail, vget_tail]; exact e2)
    simpa using this
  | _ :: _, [], _, _, _, _, h1, h2, _, _, _ => by rw [← h2] at h1; simp at h1
  | [], _ :: _, _, _, _, _, h1, h2, _, _, _ => by rw [← h2] at h1; simp at h1
  | [], [], _ :: _, _, _, _, h1, _, _, _, _ => by simp at h1
  | _ :: _, _ :: _, [], _, _, _, h1, _, _, _, _ => by simp at h1

/-- Do both have the base's version? -/
def bsame (xv yv zv : List Nat) (k : Nat) : Bool := Nat.beq (vget xv k) (vget zv k) && Nat.beq (vget yv k) (vget zv k)
theorem vsame_of {b : Bool} {xv yv zv : List Nat} {k : Nat} (h : bsame xv yv zv k = true) : vget (cond b xv yv) k = vget zv k := by
  obtain ⟨h1, h2⟩ := and_beq2 h
  cases b; exact h2; exact h1
/-- The cells of a block, of two ways. -/
def mergeC (b : Bool) (x y z : Cells) (xv yv zv : List Nat) : Cells :=
  match x, y with
  | .flat l, .flat m => match z with
    | .flat n => cond (bsame xv yv zv 0) (.flat (mergeV b l m n xv.tail yv.tail zv.tail)) (.flat (mergeWL b l m))
    | .sym .. => .flat (mergeWL b l m)
  | .sym n s f, .sym m t g => match z with
    | .sym k _ h => cond (Nat.beq s t) (.sym (cond (bsame xv yv zv 0) k (csame b n m)) s (cond (bsame xv yv zv 0 && bsame xv yv zv 1) h (fun i => mergeWL b (f i) (g i)))) (cond b x y)
    | .flat _ => cond (Nat.beq s t) (.sym (csame b n m) s (fun i => mergeWL b (f i) (g i))) (cond b x y)
  | _, _ => cond b x y
theorem mergeC_rel {ex : Bool} {μ : Mu} (b : Bool) (x y z : Cells) (xv yv zv : List Nat) (vs : List Value) (hz : vget (cond b xv yv) 0 = vget zv 0 → CInv z zv (cond b x y) (cond b xv yv)) (h : CRel ex μ (cond b x y) vs) : CRel ex μ (mergeC b x y z xv yv zv) vs := by
  unfold mergeC
  split
  · rename_i l m
    have h' : VRels ex μ (cond b l m) vs := by cases b <;> exact h
    have loose : CRel ex μ (.flat (mergeWL b l m)) vs := mergeWL_rel b l m vs h'
    split
    · rename_i n
      cases hs : bsame xv yv zv 0 with
      | false => exact loose
      | true =>
        have hc := hz (vsame_of hs)
        have hc' : (cond b l m).length = n.length ∧ ∀ k, vget (cond b xv yv) (k + 1) = vget zv (k + 1) → (cond b l m)[k]? = n[k]? := by cases b <;> exact hc
        refine mergeV_rel b l m n _ _ _ vs (fun i hi => hc'.2 i ?_) h'
        rw [vget_tail] at hi
        rw [← hi]; cases b <;> simp [vget_tail]
    · exact loose
  · rename_i n s f m t g
    have loose : ∀ (q : Nat) (F : Nat → List AV), s = t → q = cond b n m → (∀ i vs, VRels ex μ (cond b (f i) (g i)) vs → VRels ex μ (F i) vs) → CRel ex μ (.sym q s F) vs := by
      intro q F hst hq hF
      subst hst; subst hq
      cases b
      · exact ⟨h.1, fun i hi => ⟨hF i _ (h.2 i hi).1, (h.2 i hi).2⟩⟩
      · exact ⟨h.1, fun i hi => ⟨hF i _ (h.2 i hi).1, (h.2 i hi).2⟩⟩
    split
    · rename_i k u F
      cases hst : Nat.beq s t with
      | false => exact h
      | true =>
        have hst := beq_eq hst
        refine loose _ _ hst ?_ ?_
        · cases hs : bsame xv yv zv 0 with
          | false => exact csame_eq b n m
          | true =>
            have hc := hz (vsame_of hs)
            cases b
            · exact hc.1.symm
            · exact hc.1.symm
        · intro i vs' hv
          cases hs : (bsame xv yv zv 0 && bsame xv yv zv 1) with
          | false => exact mergeWL_rel b _ _ vs' hv
          | true =>
            simp only [Bool.and_eq_true] at hs
            have hc := hz (vsame_of hs.1)
            have h1 := vsame_of (b := b) hs.2
            cases b
            · have : g = F := hc.2.2 h1
              rw [cond_true, ← this]; exact hv
            · have : f = F := hc.2.2 h1
              rw [cond_true, ← this]; exact hv
    · cases hst : Nat.beq s t with
      | false => exact h
      | true => exact loose _ _ (beq_eq hst) (csame_eq b n m) fun i vs' hv => mergeWL_rel b _ _ vs' hv
  · exact h
/-- The cells of a block, of two ways, against the base's. -/
theorem mergeC_inv (b : Bool) (x y z : Cells) (xv yv zv mv : List Nat) (hx : CInv z zv x xv) (hy : CInv z zv y yv) (h0x : vget xv 0 = vget zv 0) (h0y : vget yv 0 = vget zv 0) (hm : ∀ k, vget mv k = vget zv k → vget xv k = vget zv k ∧ vget yv k = vget zv k) :
    CInv z zv (mergeC b x y z xv yv zv) mv := by
  have h0 : bsame xv yv zv 0 = true := by unfold bsame; rw [h0x, h0y, Nat.beq_refl]; rfl
  unfold CInv at hx hy
  cases z with
  | flat n =>
    cases x with
    | sym => simp only at hx
    | flat l =>
      cases y with
      | sym => simp only at hy
      | flat m =>
        simp only at hx hy
        simp only [mergeC, h0, cond_true, CInv]
        refine ⟨mergeV_length b l m n _ _ _ hx.1 hy.1, fun k hk => ?_⟩
        obtain ⟨e1, e2⟩ := hm (k + 1) hk
        exact mergeV_base b l m n _ _ _ hx.1 hy.1 k (by rw [vget_tail, vget_tail]; exact e1) (by rw [vget_tail, vget_tail]; exact e2)
  | sym k u F =>
    cases x with
    | flat => simp only at hx
    | sym n s f =>
      cases y with
      | flat => simp only at hy
      | sym m t g =>
        simp only at hx hy
        obtain ⟨rfl, rfl, hf⟩ := hx
        obtain ⟨rfl, rfl, hg⟩ := hy
        simp only [mergeC, h0, cond_true, CInv, Nat.beq_refl, Bool.true_and]
        refine ⟨trivial, trivial, fun hk => ?_⟩
        obtain ⟨e1, e2⟩ := hm 1 hk
        have : bsame xv yv zv 1 = true := by unfold bsame; rw [e1, e2, Nat.beq_refl]; rfl
        rw [this]; rfl
def tyM (b : Bool) (x y : Blk) : TypeId := cond (Nat.beq x.ty y.ty) x.ty (cond b x.ty y.ty)
theorem tyM_eq (b : Bool) (x y : Blk) : tyM b x y = cond b x.ty y.ty := by
  unfold tyM
  cases h : Nat.beq x.ty y.ty
  · rfl
  · have e := Nat.eq_of_beq_eq_true h
    cases b
    · exact e
    · rfl
def noBlk : Blk := ⟨.flat [], 0, 0⟩
def mergeHp (b : Bool) : Heap → Heap → Heap → HV → HV → HV → Heap
  | x :: l, y :: m, z :: n, xv, yv, zv => ⟨mergeC b x.cells y.cells z.cells (lget xv 0) (lget yv 0) (lget zv 0), tyM b x y, csame b x.g y.g⟩ :: mergeHp b l m n xv.tail yv.tail zv.tail
  | x :: l, y :: m, [], xv, yv, zv => ⟨mergeC b x.cells y.cells noBlk.cells [1] [1] [], tyM b x y, csame b x.g y.g⟩ :: mergeHp b l m [] xv.tail yv.tail zv.tail
  | [], m, _, _, _, _ => m
  | l, [], _, _, _, _ => l
/-- Memory said more loosely. -/
def HWk (ex : Bool) (H H' : Heap) : Prop := ∀ (i : Nat) (b : Blk), H[i]? = some b → ∃ b', H'[i]? = some b' ∧ b'.ty = b.ty ∧ b'.g = b.g ∧ ∀ μ vs, CRel ex μ b.cells vs → CRel ex μ b'.cells vs
theorem HWk.refl (ex : Bool) (H : Heap) : HWk ex H H := fun _ b h => ⟨b, h, rfl, rfl, fun _ _ h => h⟩
theorem HWk.cons {ex : Bool} {x x' : Blk} {H H' : Heap} (h : HWk ex H H') (ht : x'.ty = x.ty) (hg : x'.g = x.g) (hc : ∀ μ vs, CRel ex μ x.cells vs → CRel ex μ x'.cells vs) : HWk ex (x :: H) (x' :: H') := by
  intro i b e
  cases i with
  | zero => simp at e; subst e; exact ⟨x', rfl, ht, hg, hc⟩
  | succ i => exact h i b e
theorem HWk.length {ex : Bool} {H H' : Heap} (h : HWk ex H H') : H.length ≤ H'.length := by
  rcases Nat.lt_or_ge H'.length H.length with hl | hl
  · obtain ⟨b', hb', _⟩ := h H'.length H[H'.length] (List.getElem?_eq_getElem hl)
    rw [List.getElem?_eq_none (Nat.le_refl _)] at hb'; cases hb'
  · exact hl
theorem cond_ty (b : Bool) (x y : Blk) : (cond b x y).ty = cond b x.ty y.ty := by cases b <;> rfl
theorem cond_g (b : Bool) (x y : Blk) : (cond b x y).g = cond b x.g y.g := by cases b <;> rfl
theorem cond_cells (b : Bool) (x y : Blk) : (cond b x y).cells = cond b x.cells y.cells := by cases b <;> rfl
theorem mergeHp_wk (ex b : Bool) : ∀ (l m n : Heap) (xv yv zv : HV), (∀ (i : Nat) (z x : Blk), n[i]? = some z → (cond b l m)[i]? = some x → hget (cond b xv yv) i 0 = hget zv i 0 → CInv z.cells (lget zv i) x.cells (lget (cond b xv yv) i)) →
    HWk ex (cond b l m) (mergeHp b l m n xv yv zv)
  | x :: l, y :: m, z :: n, xv, yv, zv, h => by
    unfold mergeHp
    have e : cond b (x :: l) (y :: m) = cond b x y :: cond b l m := by cases b <;> rfl
    have ev : ∀ i, lget (cond b xv.tail yv.tail) i = lget (cond b xv yv) (i + 1) := fun i => by cases b <;> simp [lget_tail]
    rw [e] at h ⊢
    refine HWk.cons (mergeHp_wk ex b l m n _ _ _ fun i a c ha hc hk => ?_) ?_ ?_ ?_
    · have := h (i + 1) a c ha hc (by rw [hget, hget, ev, lget_tail] at hk; exact hk)
      rw [ev, lget_tail]; exact this
    · rw [tyM_eq, cond_ty]
    · rw [csame_eq, cond_g]
    · intro μ vs hr
      have e0 : lget (cond b xv yv) 0 = cond b (lget xv 0) (lget yv 0) := by cases b <;> rfl
      rw [cond_cells] at hr
      refine mergeC_rel b _ _ _ _ _ _ vs (fun h0 => ?_) hr
      have := h 0 z (cond b x y) rfl rfl (by rw [hget, hget, e0]; exact h0)
      rw [e0, cond_cells] at this; exact this
  | x :: l, y :: m, [], xv, yv, zv, h => by
    unfold mergeHp
    have e : cond b (x :: l) (y :: m) = cond b x y :: cond b l m := by cases b <;> rfl
    rw [e]
    refine HWk.cons (mergeHp_wk ex b l m [] _ _ _ fun i a c ha => by simp at ha) ?_ ?_ ?_
    · rw [tyM_eq, cond_ty]
    · rw [csame_eq, cond_g]
    · intro μ vs hr
      rw [cond_cells] at hr
      exact mergeC_rel b x.cells y.cells noBlk.cells [1] [1] [] vs (fun h0 => by cases b <;> simp [vget] at h0) hr
  | [], m, n, xv, yv, zv, h => by
    cases b with
    | true => exact fun i b e => by simp at e
    | false => unfold mergeHp; exact HWk.refl ex m
  | x :: l, [], n, xv, yv, zv, h => by
    cases b with
    | true => unfold mergeHp; exact HWk.refl ex _
    | false => exact fun i b e => by simp at e
structure St where
  ob : Ob
  tm : List AV
  tv : List Nat
  H : Heap
  hv : HV
structure Inv (s s' : St) : Prop where
  tl : s'.tm.length = s.tm.length
  tle : ∀ i, vget s.tv i ≤ vget s'.tv i
  teq : ∀ i, vget s'.tv i = vget s.tv i → s'.tm[i]? = s.tm[i]?
  h : HInv s.H s.hv s'.H s'.hv
/-- The same, but for the values. -/
structure InvW (s s' : St) : Prop where
  tl : s'.tm.length = s.tm.length
  tle : ∀ i, vget s.tv i ≤ vget s'.tv i
  h : HInv s.H s.hv s'.H s'.hv
theorem Inv.w {s t : St} (h : Inv s t) : InvW s t := ⟨h.tl, h.tle, h.h⟩
theorem InvW.trans {a b c : St} (h : InvW a b) (g : InvW b c) : InvW a c := ⟨g.tl.trans h.tl, fun i => Nat.le_trans (h.tle i) (g.tle i), h.h.trans g.h⟩
theorem Inv.refl (s : St) : Inv s s := ⟨rfl, fun _ => Nat.le_refl _, fun _ _ => rfl, HInv.refl _ _⟩
theorem Inv.trans {a b c : St} (h : Inv a b) (g : Inv b c) : Inv a c :=
  ⟨g.tl.trans h.tl, fun i => Nat.le_trans (h.tle i) (g.tle i), fun i e => by
    have h1 := h.tle i
    have h2 := g.tle i
    rw [g.teq i (by omega), h.teq i (by omega)], h.h.trans g.h⟩
def mergeS0 (b : Bool) (z x y : St) : St :=
  ⟨Ob.merge b x.ob y.ob, mergeV b x.tm y.tm z.tm x.tv y.tv z.tv, maxV x.tv y.tv, mergeHp b x.H y.H z.H x.hv y.hv z.hv, maxH x.hv y.hv⟩
/-- The later state stands for the earlier one. -/
structure SLe (ex : Bool) (s t : St) : Prop where
  ob : t.ob.ok = true → s.ob.ok = true
  ends : ∀ (w0 : World) (H0 : Heap) (μ0 : Mu) (a : Act) (w : World), Ends ex s.tm w0 H0 μ0 s.H a w → Ends ex t.tm w0 H0 μ0 t.H a w
theorem SLe.refl (ex : Bool) (s : St) : SLe ex s s := ⟨id, fun _ _ _ _ _ h => h⟩
theorem SLe.trans {ex : Bool} {a b c : St} (h : SLe ex a b) (g : SLe ex b c) : SLe ex a c := ⟨fun e => h.ob (g.ob e), fun w0 H0 μ0 x w e => g.ends w0 H0 μ0 x w (h.ends w0 H0 μ0 x w e)⟩
theorem Ends.weak {ex : Bool} {tm tm' : List AV} {w0 : World} {H0 H H' : Heap} {μ0 : Mu} {a : Act} {w : World} (h : Ends ex tm w0 H0 μ0 H a w) (ht : ∀ μ vs, VRels ex μ tm vs → VRels ex μ tm' vs) (hh : HWk ex H H') : Ends ex tm' w0 H0 μ0 H' a w := by
  obtain ⟨μ, h1, h2, h3, h4⟩ := h
  have back : ∀ (i : Nat) (b' : Blk) (c : Nat × Nat) (g : Nat), H'[i]? = some b' → μ.pl i g = some c → ∃ b, H[i]? = some b ∧ b'.ty = b.ty ∧ b'.g = b.g ∧ ∀ μ vs, CRel ex μ b.cells vs → CRel ex μ b'.cells vs := by
    intro i b' c g hb hc
    have hi := h4.lt hc
    obtain ⟨b2, e1, e2, e3, e4⟩ := hh i H[i] (List.getElem?_eq_getElem hi)
    rw [hb] at e1; cases e1
    exact ⟨_, List.getElem?_eq_getElem hi, e2, e3, e4⟩
  refine ⟨μ, ht μ _ h1, h2, ⟨⟨?_, ?_, h3.rel.lt, h3.rel.old⟩, h3.mu, h3.stay, h3.fresh, Nat.le_trans h3.ext hh.length, h3.os, h3.output, h3.tape, h3.size, h3.keep⟩, ⟨fun i g hi => h4.out i g (Nat.le_trans hh.length hi), ?_⟩⟩
  · intro i b' c z hb hc
    obtain ⟨b, e1, e2, e3, e4⟩ := back i b' _ _ hb hc
    rw [e3] at hc
    obtain ⟨arr, q1, q2, q3⟩ := h3.rel.blk i b c z e1 hc
    exact ⟨arr, by rw [e2]; exact q1, q2, e4 μ _ q3⟩
  · intro i j b b' c z z' hb hb' hc hc'
    obtain ⟨x, e1, e2, e3, e4⟩ := back i b _ _ hb hc
    obtain ⟨y, f1, f2, f3, f4⟩ := back j b' _ _ hb' hc'
    rw [e3] at hc
    rw [f3] at hc'
    exact h3.rel.inj i j x y c z z' e1 f1 hc hc'
  · intro i b' g hb hg
    cases hc : μ.pl i g with
    | none => rfl
    | some c =>
      obtain ⟨b, e1, e2, e3, e4⟩ := back i b' _ _ hb hc
      rw [h4.gen i b g e1 (by omega)] at hc; cases hc
theorem mergeHp_len (b : Bool) : ∀ (l m n : Heap) (xv yv zv : HV), n.length ≤ l.length → n.length ≤ m.length → n.length ≤ (mergeHp b l m n xv yv zv).length
  | _, _, [], _, _, _, _, _ => Nat.zero_le _
  | x :: l, y :: m, z :: n, xv, yv, zv, h1, h2 => by
    unfold mergeHp
    have := mergeHp_len b l m n xv.tail yv.tail zv.tail (by simpa using h1) (by simpa using h2)
    simpa using this
  | [], _, _ :: _, _, _, _, h, _ => by simp at h
  | _ :: _, [], _ :: _, _, _, _, _, h => by simp at h
theorem mergeHp_get (b : Bool) : ∀ (l m n : Heap) (xv yv zv : HV) (i : Nat) (z x y t : Blk), n[i]? = some z → l[i]? = some x → m[i]? = some y → (mergeHp b l m n xv yv zv)[i]? = some t →
    t = ⟨mergeC b x.cells y.cells z.cells (lget xv i) (lget yv i) (lget zv i), tyM b x y, csame b x.g y.g⟩
  | x :: l, y :: m, z :: n, xv, yv, zv, 0, z', x', y', t, hz, hx, hy, ht => by
    unfold mergeHp at ht
    simp at hz hx hy ht; subst hz; subst hx; subst hy; exact ht.symm
  | x :: l, y :: m, z :: n, xv, yv, zv, i + 1, z', x', y', t, hz, hx, hy, ht => by
    unfold mergeHp at ht
    have := mergeHp_get b l m n xv.tail yv.tail zv.tail i z' x' y' t (by simpa using hz) (by simpa using hx) (by simpa using hy) (by simpa using ht)
    rw [lget_tail, lget_tail, lget_tail] at this
    exact this
  | _, _, [], _, _, _, i, _, _, _, _, hz, _, _, _ => by simp at hz
  | [], _, _ :: _, _, _, _, i, _, _, _, _, _, hx, _, _ => by simp at hx
  | _ :: _, [], _ :: _, _, _, _, i, _, _, _, _, _, _, hy, _ => by simp at hy
theorem mergeS0_inv {z x y : St} (b : Bool) (hx : InvW z x) (hy : InvW z y) : Inv z (mergeS0 b z x y) := by
  refine ⟨mergeV_length b _ _ _ _ _ _ hx.tl hy.tl, fun i => ?_, fun i e => ?_, ⟨mergeHp_len b _ _ _ _ _ _ hx.h.len hy.h.len, fun i k => ?_, fun i a c ha hc => ?_, fun i a c ha hc he => ?_⟩⟩
  · show _ ≤ vget (maxV _ _) i; rw [vget_maxV]; have := hx.tle i; omega
  · have e' : vget (maxV x.tv y.tv) i = vget z.tv i := e
    rw [vget_maxV] at e'
    have h1 := hx.tle i
    have h2 := hy.tle i
    exact mergeV_base b _ _ _ _ _ _ hx.tl hy.tl i (by omega) (by omega)
  · show _ ≤ hget (maxH _ _) i k; rw [hget_maxH]; have := hx.h.le i k; omega
  · have hi := (List.getElem?_eq_some_iff.1 ha).1
    have hxi := List.getElem?_eq_getElem (Nat.lt_of_lt_of_le hi hx.h.len)
    have hyi := List.getElem?_eq_getElem (Nat.lt_of_lt_of_le hi hy.h.len)
    have := mergeHp_get b _ _ _ _ _ _ i a _ _ c ha hxi hyi hc
    subst this
    obtain ⟨p1, p2⟩ := hx.h.ty i a _ ha hxi
    obtain ⟨q1, q2⟩ := hy.h.ty i a _ ha hyi
    refine ⟨?_, ?_⟩
    · show tyM b _ _ = _
      rw [tyM_eq, p1, q1]; cases b <;> rfl
    · show a.g ≤ csame b _ _
      rw [csame_eq]; cases b
      · exact q2
      · exact p2
  · have hi := (List.getElem?_eq_some_iff.1 ha).1
    have hxi := List.getElem?_eq_getElem (Nat.lt_of_lt_of_le hi hx.h.len)
    have hyi := List.getElem?_eq_getElem (Nat.lt_of_lt_of_le hi hy.h.len)
    have := mergeHp_get b _ _ _ _ _ _ i a _ _ c ha hxi hyi hc
    subst this
    have he' : hget (maxH x.hv y.hv) i 0 = hget z.hv i 0 := he
    rw [hget_maxH] at he'
    have h1 := hx.h.le i 0
    have h2 := hy.h.le i 0
    obtain ⟨p1, p2⟩ := hx.h.same i a _ ha hxi (by omega)
    obtain ⟨q1, q2⟩ := hy.h.same i a _ ha hyi (by omega)
    refine ⟨?_, ?_⟩
    · show csame b _ _ = a.g
      rw [csame_eq, p1, q1]; cases b <;> rfl
    · refine mergeC_inv b _ _ _ _ _ _ _ p2 q2 (show hget _ i 0 = hget _ i 0 by omega) (show hget _ i 0 = hget _ i 0 by omega) fun k hk => ?_
      have hk' : hget (maxH x.hv y.hv) i k = hget z.hv i k := hk
      rw [hget_maxH] at hk'
      have h3 := hx.h.le i k
      have h4 := hy.h.le i k
      exact ⟨show hget _ i k = hget _ i k by omega, show hget _ i k = hget _ i k by omega⟩
theorem cond_st {α : Type} (f : St → α) (b : Bool) (x y : St) : f (cond b x y) = cond b (f x) (f y) := by cases b <;> rfl
theorem mergeS0_le {ex : Bool} {z x y : St} (b : Bool) (hz : Inv z (cond b x y)) : SLe ex (cond b x y) (mergeS0 b z x y) := by
  refine ⟨fun e => ?_, fun w0 H0 μ0 a w h => ?_⟩
  · rw [mergeS0, Ob.merge_ok] at e; cases b <;> exact e
  · refine Ends.weak h (fun μ vs hv => ?_) ?_
    · rw [cond_st St.tm] at hv
      refine mergeV_rel b _ _ _ _ _ _ vs (fun i hi => ?_) hv
      have := hz.teq i (by rw [cond_st St.tv]; exact hi)
      rw [cond_st St.tm] at this; exact this
    · rw [cond_st St.H]
      refine mergeHp_wk ex b _ _ _ _ _ _ fun i a c ha hc hk => ?_
      have := (hz.h.same i a c ha (by rw [cond_st St.H]; exact hc) (by rw [cond_st St.hv]; exact hk)).2
      rw [cond_st St.hv] at this; exact this
end Go.Lst
