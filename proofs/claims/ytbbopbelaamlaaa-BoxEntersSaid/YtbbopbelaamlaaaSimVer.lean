/- Versions of values, states, and how two states are made one: what neither way has changed stays as it was. -/
import Derived.Test.YtbbopbelaamlaaaSimMerge
import Derived.Test.YtbbopbelaamlaaaSimEnv
namespace Go.Sim

/-- What has to hold for an evaluation to count. -/
inductive Ob where
  | tt
  | bit (b : Bool)
  | ite (b : Bool) (x y : Ob)
  | and (x y : Ob)
def Ob.ok : Ob → Bool
  | .tt => true
  | .bit b => b
  | .ite b x y => cond b x.ok y.ok
  | .and x y => x.ok && y.ok
def Ob.both : Ob → Ob → Ob
  | .tt, y => y
  | x, .tt => x
  | x, y => .and x y
def Ob.merge (b : Bool) : Ob → Ob → Ob
  | .tt, .tt => .tt
  | x, y => .ite b x y
theorem Ob.both_ok (x y : Ob) : (Ob.both x y).ok = (x.ok && y.ok) := by
  cases x <;> cases y <;> simp [Ob.both, Ob.ok]
theorem Ob.merge_ok (b : Bool) (x y : Ob) : (Ob.merge b x y).ok = cond b x.ok y.ok := by
  cases x <;> cases y <;> simp [Ob.merge, Ob.ok]

def vget : List Nat → Nat → Nat
  | [], _ => 0
  | v :: _, 0 => v
  | _ :: l, k + 1 => vget l k
def bump : List Nat → Nat → List Nat
  | [], 0 => [1]
  | [], k + 1 => 0 :: bump [] k
  | v :: l, 0 => (v + 1) :: l
  | v :: l, k + 1 => v :: bump l k
def bumpR (l : List Nat) (o : Nat) : Nat → List Nat
  | 0 => l
  | n + 1 => bump (bumpR l o n) (o + n)
@[simp] theorem vget_nil (k : Nat) : vget [] k = 0 := by cases k <;> rfl
theorem vget_bump : ∀ (l : List Nat) (k j : Nat), vget (bump l k) j = vget l j + (if j = k then 1 else 0)
  | [], 0, j => by cases j <;> simp [bump, vget]
  | [], k + 1, j => by
    cases j with
    | zero => simp [bump, vget]
    | succ j => simp only [bump, vget]; rw [vget_bump [] k j]; simp
  | v :: l, 0, j => by cases j <;> simp [bump, vget]
  | v :: l, k + 1, j => by
    cases j with
    | zero => simp [bump, vget]
    | succ j => simp only [bump, vget]; rw [vget_bump l k j]; simp
theorem vget_bumpR (l : List Nat) (o : Nat) : ∀ (n j : Nat), vget (bumpR l o n) j = vget l j + (if o ≤ j ∧ j < o + n then 1 else 0)
  | 0, j => by
    rw [if_neg (by omega)]; rfl
  | n + 1, j => by
    rw [bumpR, vget_bump, vget_bumpR l o n j]
    split <;> split <;> split <;> omega
def maxV : List Nat → List Nat → List Nat
  | x :: l, y :: m => cond (Nat.ble x y) y x :: maxV l m
  | [], m => m
  | l, [] => l
theorem vget_maxV : ∀ (l m : List Nat) (j : Nat), vget (maxV l m) j = max (vget l j) (vget m j)
  | [], m, j => by simp [maxV]
  | x :: l, [], j => by simp [maxV]
  | x :: l, y :: m, 0 => by
    simp only [maxV, vget]
    cases h : Nat.ble x y
    · have : ¬ x ≤ y := fun h' => by rw [Nat.ble_eq_true_of_le h'] at h; cases h
      simp only [cond_false]; omega
    · have := Nat.le_of_ble_eq_true h
      simp only [cond_true]; omega
  | x :: l, y :: m, j + 1 => by simp only [maxV, vget]; exact vget_maxV l m j
def sumV : List Nat → List Nat → List Nat
  | x :: l, y :: m => (x + y) :: sumV l m
  | [], m => m
  | l, [] => l
theorem vget_sumV : ∀ (l m : List Nat) (j : Nat), vget (sumV l m) j = vget l j + vget m j
  | [], m, j => by simp [sumV]
  | x :: l, [], j => by simp [sumV]
  | x :: l, y :: m, 0 => rfl
  | x :: l, y :: m, j + 1 => by simp only [sumV, vget]; exact vget_sumV l m j
def vzero : List Nat → Bool
  | [] => true
  | y :: m => Nat.beq y 0 && vzero m
theorem vzero_get : ∀ (l : List Nat), vzero l = true → ∀ j, vget l j = 0
  | [], _, j => by simp
  | y :: m, h, j => by
    simp only [vzero, Bool.and_eq_true] at h
    cases j with
    | zero => exact Nat.eq_of_beq_eq_true h.1
    | succ j => exact vzero_get m h.2 j
def vsame : List Nat → List Nat → Bool
  | [], m => vzero m
  | x :: l, y :: m => Nat.beq x y && vsame l m
  | x :: l, [] => Nat.beq x 0 && vsame l []
theorem vsame_get : ∀ (l m : List Nat), vsame l m = true → ∀ j, vget l j = vget m j
  | [], m, h, j => by
    simp only [vsame] at h
    rw [vzero_get m h j]; simp
  | x :: l, y :: m, h, j => by
    simp only [vsame, Bool.and_eq_true] at h
    cases j with
    | zero => exact Nat.eq_of_beq_eq_true h.1
    | succ j => exact vsame_get l m h.2 j
  | x :: l, [], h, j => by
    simp only [vsame, Bool.and_eq_true] at h
    cases j with
    | zero => exact Nat.eq_of_beq_eq_true h.1
    | succ j => have := vsame_get l [] h.2 j; simpa [vget] using this

abbrev HV := List (List Nat)
def lget : HV → Nat → List Nat
  | [], _ => []
  | v :: _, 0 => v
  | _ :: l, k + 1 => lget l k
@[simp] theorem lget_nil (k : Nat) : lget [] k = [] := by cases k <;> rfl
abbrev hget (h : HV) (i k : Nat) : Nat := vget (lget h i) k
def bumpH : HV → Nat → Nat → Nat → HV
  | [], 0, o, n => [bumpR [] o n]
  | [], i + 1, o, n => [] :: bumpH [] i o n
  | v :: l, 0, o, n => bumpR v o n :: l
  | v :: l, i + 1, o, n => v :: bumpH l i o n
theorem lget_bumpH : ∀ (h : HV) (i o n j : Nat), lget (bumpH h i o n) j = if j = i then bumpR (lget h j) o n else lget h j
  | [], 0, o, n, j => by cases j <;> simp [bumpH, lget]
  | [], i + 1, o, n, j => by
    cases j with
    | zero => simp [bumpH, lget]
    | succ j => simp only [bumpH, lget]; rw [lget_bumpH [] i o n j]; simp
  | v :: l, 0, o, n, j => by cases j <;> simp [bumpH, lget]
  | v :: l, i + 1, o, n, j => by
    cases j with
    | zero => simp [bumpH, lget]
    | succ j => simp only [bumpH, lget]; rw [lget_bumpH l i o n j]; simp
def maxH : HV → HV → HV
  | x :: l, y :: m => maxV x y :: maxH l m
  | [], m => m
  | l, [] => l
theorem hget_maxH : ∀ (l m : HV) (i k : Nat), hget (maxH l m) i k = max (hget l i k) (hget m i k)
  | [], m, i, k => by simp [maxH, hget]
  | x :: l, [], i, k => by simp [maxH, hget]
  | x :: l, y :: m, 0, k => vget_maxV x y k
  | x :: l, y :: m, i + 1, k => hget_maxH l m i k
def sumH : HV → HV → HV
  | x :: l, y :: m => sumV x y :: sumH l m
  | [], m => m
  | l, [] => l
theorem hget_sumH : ∀ (l m : HV) (i k : Nat), hget (sumH l m) i k = hget l i k + hget m i k
  | [], m, i, k => by simp [sumH, hget]
  | x :: l, [], i, k => by simp [sumH, hget]
  | x :: l, y :: m, 0, k => vget_sumV x y k
  | x :: l, y :: m, i + 1, k => hget_sumH l m i k
def hzero : HV → Bool
  | [] => true
  | y :: m => vzero y && hzero m
theorem hzero_get : ∀ (l : HV), hzero l = true → ∀ i k, hget l i k = 0
  | [], _, i, k => by simp [hget]
  | y :: m, h, i, k => by
    simp only [hzero, Bool.and_eq_true] at h
    cases i with
    | zero => exact vzero_get y h.1 k
    | succ i => exact hzero_get m h.2 i k
def hsame : HV → HV → Bool
  | [], m => hzero m
  | x :: l, y :: m => vsame x y && hsame l m
  | x :: l, [] => vzero x && hsame l []
theorem hsame_get : ∀ (l m : HV), hsame l m = true → ∀ i k, hget l i k = hget m i k
  | [], m, h, i, k => by
    simp only [hsame] at h
    rw [hzero_get m h i k]; simp [hget]
  | x :: l, y :: m, h, i, k => by
    simp only [hsame, Bool.and_eq_true] at h
    cases i with
    | zero => exact vsame_get x y h.1 k
    | succ i => exact hsame_get l m h.2 i k
  | x :: l, [], h, i, k => by
    simp only [hsame, Bool.and_eq_true] at h
    cases i with
    | zero => show vget x k = hget [] 0 k; rw [vzero_get x h.1 k]; simp [hget]
    | succ i => have := hsame_get l [] h.2 i k; simpa [lget, hget] using this

/-- Two lists of values as one; where both have the version of the base, the base's. -/
def mergeV (b : Bool) : List AV → List AV → List AV → List Nat → List Nat → List Nat → List AV
  | x :: xs, y :: ys, z :: zs, xv, yv, bv =>
    cond (Nat.beq (vget xv 0) (vget bv 0) && Nat.beq (vget yv 0) (vget bv 0)) z (mergeAV b x y) :: mergeV b xs ys zs xv.tail yv.tail bv.tail
  | xs, ys, _, _, _, _ => mergeL b xs ys
theorem vget_tail (l : List Nat) (k : Nat) : vget l.tail k = vget l (k + 1) := by cases l <;> simp [vget]
theorem mergeV_true : ∀ (xs ys zs : List AV) (xv yv bv : List Nat), (∀ i, vget xv i = vget bv i → xs[i]? = zs[i]?) → mergeV true xs ys zs xv yv bv = xs
  | x :: xs, y :: ys, z :: zs, xv, yv, bv, h => by
    unfold mergeV
    rw [mergeV_true xs ys zs xv.tail yv.tail bv.tail (fun i hi => by
      rw [vget_tail, vget_tail] at hi; simpa using h (i + 1) hi), mergeAV_eq]
    cases hb : (Nat.beq (vget xv 0) (vget bv 0) && Nat.beq (vget yv 0) (vget bv 0))
    · rfl
    · simp only [Bool.and_eq_true] at hb
      have := h 0 (Nat.eq_of_beq_eq_true hb.1)
      simp at this; rw [this]; rfl
  | [], _, _, _, _, _, _ => by unfold mergeV; rw [mergeL_eq]; rfl
  | _ :: _, [], _, _, _, _, _ => by unfold mergeV; rw [mergeL_eq]; rfl
  | _ :: _, _ :: _, [], _, _, _, _ => by unfold mergeV; rw [mergeL_eq]; rfl
theorem mergeV_false : ∀ (xs ys zs : List AV) (xv yv bv : List Nat), (∀ i, vget yv i = vget bv i → ys[i]? = zs[i]?) → mergeV false xs ys zs xv yv bv = ys
  | x :: xs, y :: ys, z :: zs, xv, yv, bv, h => by
    unfold mergeV
    rw [mergeV_false xs ys zs xv.tail yv.tail bv.tail (fun i hi => by
      rw [vget_tail, vget_tail] at hi; simpa using h (i + 1) hi), mergeAV_eq]
    cases hb : (Nat.beq (vget xv 0) (vget bv 0) && Nat.beq (vget yv 0) (vget bv 0))
    · rfl
    · simp only [Bool.and_eq_true] at hb
      have := h 0 (Nat.eq_of_beq_eq_true hb.2)
      simp at this; rw [this]; rfl
  | [], _, _, _, _, _, _ => by unfold mergeV; rw [mergeL_eq]; rfl
  | _ :: _, [], _, _, _, _, _ => by unfold mergeV; rw [mergeL_eq]; rfl
  | _ :: _, _ :: _, [], _, _, _, _ => by unfold mergeV; rw [mergeL_eq]; rfl

def tyM (b : Bool) (x y : Blk) : TypeId := cond (Nat.beq x.ty y.ty) x.ty (cond b x.ty y.ty)
def rwM (b : Bool) (x y : Blk) : Bool := cond (x.rw == y.rw) x.rw (cond b x.rw y.rw)
theorem tyM_eq (b : Bool) (x y : Blk) : tyM b x y = cond b x.ty y.ty := by
  unfold tyM
  cases h : Nat.beq x.ty y.ty
  · rfl
  · have e := Nat.eq_of_beq_eq_true h
    cases b
    · exact e
    · rfl
theorem rwM_eq (b : Bool) (x y : Blk) : rwM b x y = cond b x.rw y.rw := by
  unfold rwM; cases x.rw <;> cases y.rw <;> cases b <;> rfl
def mergeHp (b : Bool) : Heap → Heap → Heap → HV → HV → HV → Heap
  | x :: l, y :: m, z :: n, xv, yv, zv => ⟨mergeV b x.cells y.cells z.cells (lget xv 0) (lget yv 0) (lget zv 0), tyM b x y, rwM b x y⟩ :: mergeHp b l m n xv.tail yv.tail zv.tail
  | x :: l, y :: m, [], xv, yv, zv => ⟨mergeL b x.cells y.cells, tyM b x y, rwM b x y⟩ :: mergeHp b l m [] xv.tail yv.tail zv.tail
  | [], m, _, _, _, _ => m
  | l, [], _, _, _, _ => l
theorem lget_tail (l : HV) (k : Nat) : lget l.tail k = lget l (k + 1) := by cases l <;> simp [lget]
/-- The one is the other's beginning. -/
def HLe (H H' : Heap) : Prop := ∀ (i : Nat) (b : Blk), H[i]? = some b → H'[i]? = some b
theorem HLe.refl (H : Heap) : HLe H H := fun _ _ h => h
theorem HLe.trans {a b c : Heap} (h : HLe a b) (h' : HLe b c) : HLe a c := fun i x e => h' i x (h i x e)
theorem HLe.length {H H' : Heap} (h : HLe H H') : H.length ≤ H'.length := by
  rcases Nat.lt_or_ge H'.length H.length with hl | hl
  · have := h H'.length H[H'.length] (List.getElem?_eq_getElem hl)
    rw [List.getElem?_eq_none (Nat.le_refl _)] at this; cases this
  · exact hl
theorem HLe.cons {x : Blk} {H H' : Heap} (h : HLe H H') : HLe (x :: H) (x :: H') := by
  intro i b e
  cases i with
  | zero => exact e
  | succ i => exact h i b e
theorem mergeHp_true : ∀ (l m n : Heap) (xv yv zv : HV), (∀ (i : Nat) (z x : Blk), n[i]? = some z → l[i]? = some x → ∀ k, hget xv i k = hget zv i k → x.cells[k]? = z.cells[k]?) → HLe l (mergeHp true l m n xv yv zv)
  | x :: l, y :: m, z :: n, xv, yv, zv, h => by
    unfold mergeHp
    rw [mergeV_true _ _ _ _ _ _ (h 0 z x rfl rfl), tyM_eq, rwM_eq]
    refine HLe.cons (mergeHp_true l m n _ _ _ fun i a c ha hc k hk => ?_)
    rw [hget, hget, lget_tail, lget_tail] at hk
    exact h (i + 1) a c ha hc k hk
  | x :: l, y :: m, [], xv, yv, zv, h => by
    unfold mergeHp
    rw [mergeL_eq, tyM_eq, rwM_eq]
    exact HLe.cons (mergeHp_true l m [] _ _ _ fun i a c ha hc => by simp at ha)
  | [], m, _, _, _, _, _ => fun i b e => by simp at e
  | x :: l, [], _, _, _, _, _ => by unfold mergeHp; exact HLe.refl _
theorem mergeHp_false : ∀ (l m n : Heap) (xv yv zv : HV), (∀ (i : Nat) (z y : Blk), n[i]? = some z → m[i]? = some y → ∀ k, hget yv i k = hget zv i k → y.cells[k]? = z.cells[k]?) → HLe m (mergeHp false l m n xv yv zv)
  | x :: l, y :: m, z :: n, xv, yv, zv, h => by
    unfold mergeHp
    rw [mergeV_false _ _ _ _ _ _ (h 0 z y rfl rfl), tyM_eq, rwM_eq]
    refine HLe.cons (mergeHp_false l m n _ _ _ fun i a c ha hc k hk => ?_)
    rw [hget, hget, lget_tail, lget_tail] at hk
    exact h (i + 1) a c ha hc k hk
  | x :: l, y :: m, [], xv, yv, zv, h => by
    unfold mergeHp
    rw [mergeL_eq, tyM_eq, rwM_eq]
    exact HLe.cons (mergeHp_false l m [] _ _ _ fun i a c ha hc => by simp at ha)
  | [], m, _, _, _, _, _ => by unfold mergeHp; exact HLe.refl _
  | x :: l, [], _, _, _, _, _ => fun i b e => by simp at e
theorem HLe.of_length {H H' : Heap} (h : HLe H H') (hl : H'.length ≤ H.length) : H = H' := by
  apply List.ext_getElem?
  intro i
  cases e : H[i]? with
  | some b => exact (h i b e).symm
  | none =>
    rw [List.getElem?_eq_none_iff] at e
    exact (List.getElem?_eq_none (Nat.le_trans hl e)).symm

/-- Memory later on: what has its old version has its old value. -/
structure HInv (H : Heap) (hv : HV) (H' : Heap) (hv' : HV) : Prop where
  len : H.length ≤ H'.length
  le : ∀ i k, hget hv i k ≤ hget hv' i k
  same : ∀ (i : Nat) (z x : Blk), H[i]? = some z → H'[i]? = some x → x.cells.length = z.cells.length ∧ x.ty = z.ty ∧ x.rw = z.rw ∧ ∀ k, hget hv' i k = hget hv i k → x.cells[k]? = z.cells[k]?
theorem HInv.refl (H : Heap) (hv : HV) : HInv H hv H hv :=
  ⟨Nat.le_refl _, fun _ _ => Nat.le_refl _, fun i z x h h' => by rw [h] at h'; cases h'; exact ⟨rfl, rfl, rfl, fun _ _ => rfl⟩⟩
theorem HInv.trans {H1 H2 H3 : Heap} {v1 v2 v3 : HV} (a : HInv H1 v1 H2 v2) (b : HInv H2 v2 H3 v3) : HInv H1 v1 H3 v3 := by
  refine ⟨Nat.le_trans a.len b.len, fun i k => Nat.le_trans (a.le i k) (b.le i k), fun i z x hz hx => ?_⟩
  have hi : i < H2.length := Nat.lt_of_lt_of_le (List.getElem?_eq_some_iff.1 hz).1 a.len
  obtain ⟨p1, p2, p3, p4⟩ := a.same i z H2[i] hz (List.getElem?_eq_getElem hi)
  obtain ⟨q1, q2, q3, q4⟩ := b.same i H2[i] x (List.getElem?_eq_getElem hi) hx
  refine ⟨q1.trans p1, q2.trans p2, q3.trans p3, fun k hk => ?_⟩
  have h1 := a.le i k
  have h2 := b.le i k
  rw [q4 k (by omega), p4 k (by omega)]
theorem HInv.push (H : Heap) (hv : HV) (l : Heap) : HInv H hv (H ++ l) hv :=
  ⟨by simp, fun _ _ => Nat.le_refl _, fun i z x h h' => by
    rw [List.getElem?_append_left (List.getElem?_eq_some_iff.1 h).1, h] at h'; cases h'; exact ⟨rfl, rfl, rfl, fun _ _ => rfl⟩⟩
theorem HInv.sum {H H' : Heap} {d : HV} (hv : HV) (h : HInv H [] H' d) : HInv H hv H' (sumH hv d) :=
  ⟨h.len, fun i k => by rw [hget_sumH]; omega, fun i z x hz hx => by
    obtain ⟨p1, p2, p3, p4⟩ := h.same i z x hz hx
    exact ⟨p1, p2, p3, fun k hk => p4 k (by rw [hget_sumH] at hk; simp only [hget, lget_nil, vget_nil]; simp only [hget] at hk; omega)⟩⟩
theorem HInv.eq {H H' : Heap} {hv hv' : HV} (h : HInv H hv H' hv') (hl : H'.length = H.length) (he : ∀ i k, hget hv' i k = hget hv i k) : H' = H := by
  apply List.ext_getElem?
  intro i
  cases e : H[i]? with
  | none =>
    rw [List.getElem?_eq_none_iff] at e ⊢; omega
  | some z =>
    have hi : i < H'.length := by rw [hl]; exact (List.getElem?_eq_some_iff.1 e).1
    obtain ⟨p1, p2, p3, p4⟩ := h.same i z H'[i] e (List.getElem?_eq_getElem hi)
    rw [List.getElem?_eq_getElem hi]
    have hc : H'[i].cells = z.cells := List.ext_getElem? fun k => p4 k (he i k)
    have : H'[i] = z := by
      cases hx : H'[i] with
      | mk c t r => rw [hx] at hc p2 p3; simp only at hc p2 p3; subst hc p2 p3; rfl
    rw [this]

structure St where
  ob : Ob
  tm : List AV
  tv : List Nat
  H : Heap
  hv : HV
structure Inv (s s' : St) : Prop where
  tl : s'.tm.length = s.tm.length
  tle : ∀ i, vget s.tv i ≤ vget s'.tv i
  teq : ∀ i, vget s'.tv i = vget s.tv i → s'.tm[i]? = s.tm[i]?
  h : HInv s.H s.hv s'.H s'.hv
theorem Inv.refl (s : St) : Inv s s := ⟨rfl, fun _ => Nat.le_refl _, fun _ _ => rfl, HInv.refl _ _⟩
theorem Inv.trans {a b c : St} (h : Inv a b) (g : Inv b c) : Inv a c :=
  ⟨g.tl.trans h.tl, fun i => Nat.le_trans (h.tle i) (g.tle i), fun i e => by
    have h1 := h.tle i
    have h2 := g.tle i
    rw [g.teq i (by omega), h.teq i (by omega)], h.h.trans g.h⟩
/-- The later state stands for the earlier one. -/
structure SLe (s t : St) : Prop where
  ob : t.ob.ok = true → s.ob.ok = true
  tm : t.tm = s.tm
  h : HLe s.H t.H
theorem SLe.refl (s : St) : SLe s s := ⟨id, rfl, HLe.refl _⟩
theorem SLe.trans {a b c : St} (h : SLe a b) (g : SLe b c) : SLe a c := ⟨fun e => h.ob (g.ob e), g.tm.trans h.tm, h.h.trans g.h⟩
def mergeS (b : Bool) (z x y : St) : St :=
  ⟨Ob.merge b x.ob y.ob, mergeV b x.tm y.tm z.tm x.tv y.tv z.tv, maxV x.tv y.tv, mergeHp b x.H y.H z.H x.hv y.hv z.hv, maxH x.hv y.hv⟩
theorem merge_inv {z x t : St} (hz : Inv z x) (ht : t.tm = x.tm) (hv : ∀ i, vget x.tv i ≤ vget t.tv i) (hh : HLe x.H t.H) (hhv : ∀ i k, hget x.hv i k ≤ hget t.hv i k) : Inv z t := by
  refine ⟨by rw [ht]; exact hz.tl, fun i => Nat.le_trans (hz.tle i) (hv i), fun i e => ?_, ?_⟩
  · have h1 := hz.tle i
    have h2 := hv i
    rw [ht, hz.teq i (by omega)]
  · refine ⟨Nat.le_trans hz.h.len hh.length, fun i k => Nat.le_trans (hz.h.le i k) (hhv i k), fun i a c ha hc => ?_⟩
    have hi : i < x.H.length := Nat.lt_of_lt_of_le (List.getElem?_eq_some_iff.1 ha).1 hz.h.len
    have h3 := hh i x.H[i] (List.getElem?_eq_getElem hi)
    rw [hc] at h3; cases h3
    obtain ⟨p1, p2, p3, p4⟩ := hz.h.same i a x.H[i] ha (List.getElem?_eq_getElem hi)
    refine ⟨p1, p2, p3, fun k hk => p4 k ?_⟩
    have h4 := hz.h.le i k
    have h5 := hhv i k
    omega
theorem mergeS_true {z x : St} (y : St) (hz : Inv z x) : SLe x (mergeS true z x y) ∧ Inv z (mergeS true z x y) := by
  have h1 : (mergeS true z x y).tm = x.tm := mergeV_true _ _ _ _ _ _ fun i e => hz.teq i e
  have h2 : HLe x.H (mergeS true z x y).H := mergeHp_true _ _ _ _ _ _ fun i a c ha hc k hk => (hz.h.same i a c ha hc).2.2.2 k hk
  refine ⟨⟨fun e => ?_, h1, h2⟩, merge_inv hz h1 (fun i => ?_) h2 fun i k => ?_⟩
  · rw [mergeS, Ob.merge_ok] at e; exact e
  · show _ ≤ vget (maxV _ _) i; rw [vget_maxV]; omega
  · show _ ≤ hget (maxH _ _) i k; rw [hget_maxH]; omega
theorem mergeS_false {z y : St} (x : St) (hz : Inv z y) : SLe y (mergeS false z x y) ∧ Inv z (mergeS false z x y) := by
  have h1 : (mergeS false z x y).tm = y.tm := mergeV_false _ _ _ _ _ _ fun i e => hz.teq i e
  have h2 : HLe y.H (mergeS false z x y).H := mergeHp_false _ _ _ _ _ _ fun i a c ha hc k hk => (hz.h.same i a c ha hc).2.2.2 k hk
  refine ⟨⟨fun e => ?_, h1, h2⟩, merge_inv hz h1 (fun i => ?_) h2 fun i k => ?_⟩
  · rw [mergeS, Ob.merge_ok] at e; exact e
  · show _ ≤ vget (maxV _ _) i; rw [vget_maxV]; omega
  · show _ ≤ hget (maxH _ _) i k; rw [hget_maxH]; omega
theorem mergeS_eq {z x y : St} (b : Bool) (hz : Inv z (cond b x y)) : SLe (cond b x y) (mergeS b z x y) ∧ Inv z (mergeS b z x y) := by
  cases b
  · exact mergeS_false x hz
  · exact mergeS_true y hz
end Go.Sim
