/- Versions. -/
import Derived.Test.YtbkogihigehjlaaLSnd
namespace Go.Lst
def vget : List Nat → Nat → Nat
  | [], _ => 0
  | v :: _, 0 => v
  | _ :: l, k + 1 => vget l k
def bump : List Nat → Nat → List Nat
  | [], 0 => [1]
  | [], k + 1 => 0 :: bump [] k
  | v :: l, 0 => (v + 1) :: l
  | v :: l, k + 1 => v :: bump l k
def bumpR (l : List Nat) (o : Nat) : Nat → List Nat
  | 0 => l
  | n + 1 => bump (bumpR l o n) (o + n)
@[simp] theorem vget_nil (k : Nat) : vget [] k = 0 := by cases k <;> rfl
theorem vget_bump : ∀ (l : List Nat) (k j : Nat), vget (bump l k) j = vget l j + (if j = k then 1 else 0)
  | [], 0, j => by cases j <;> simp [bump, vget]
  | [], k + 1, j => by
    cases j with
    | zero => simp [bump, vget]
    | succ j => simp only [bump, vget]; rw [vget_bump [] k j]; simp
  | v :: l, 0, j => by cases j <;> simp [bump, vget]
  | v :: l, k + 1, j => by
    cases j with
    | zero => simp [bump, vget]
    | succ j => simp only [bump, vget]; rw [vget_bump l k j]; simp
theorem vget_bumpR (l : List Nat) (o : Nat) : ∀ (n j : Nat), vget (bumpR l o n) j = vget l j + (if o ≤ j ∧ j < o + n then 1 else 0)
  | 0, j => by
    rw [if_neg (by omega)]; rfl
  | n + 1, j => by
    rw [bumpR, vget_bump, vget_bumpR l o n j]
    split <;> split <;> split <;> omega
def maxV : List Nat → List Nat → List Nat
  | x :: l, y :: m => cond (Nat.ble x y) y x :: maxV l m
  | [], m => m
  | l, [] => l
theorem vget_maxV : ∀ (l m : List Nat) (j : Nat), vget (maxV l m) j = max (vget l j) (vget m j)
  | [], m, j => by simp [maxV]
  | x :: l, [], j => by simp [maxV]
  | x :: l, y :: m, 0 => by
    simp only [maxV, vget]
    cases h : Nat.ble x y
    · have : ¬ x ≤ y := fun h' => by rw [Nat.ble_eq_true_of_le h'] at h; cases h
      simp only [cond_false]; omega
    · have := Nat.le_of_ble_eq_true h
      simp only [cond_true]; omega
  | x :: l, y :: m, j + 1 => by simp only [maxV, vget]; exact vget_maxV l m j
def sumV : List Nat → List Nat → List Nat
  | x :: l, y :: m => (x + y) :: sumV l m
  | [], m => m
  | l, [] => l
theorem vget_sumV : ∀ (l m : List Nat) (j : Nat), vget (sumV l m) j = vget l j + vget m j
  | [], m, j => by simp [sumV]
  | x :: l, [], j => by simp [sumV]
  | x :: l, y :: m, 0 => rfl
  | x :: l, y :: m, j + 1 => by simp only [sumV, vget]; exact vget_sumV l m j
def vzero : List Nat → Bool
  | [] => true
  | y :: m => Nat.beq y 0 && vzero m
theorem vzero_get : ∀ (l : List Nat), vzero l = true → ∀ j, vget l j = 0
  | [], _, j => by simp
  | y :: m, h, j => by
    simp only [vzero, Bool.and_eq_true] at h
    cases j with
    | zero => exact Nat.eq_of_beq_eq_true h.1
    | succ j => exact vzero_get m h.2 j
def vsame : List Nat → List Nat → Bool
  | [], m => vzero m
  | x :: l, y :: m => Nat.beq x y && vsame l m
  | x :: l, [] => Nat.beq x 0 && vsame l []
theorem vsame_get : ∀ (l m : List Nat), vsame l m = true → ∀ j, vget l j = vget m j
  | [], m, h, j => by
    simp only [vsame] at h
    rw [vzero_get m h j]; simp
  | x :: l, y :: m, h, j => by
    simp only [vsame, Bool.and_eq_true] at h
    cases j with
    | zero => exact Nat.eq_of_beq_eq_true h.1
    | succ j => exact vsame_get l m h.2 j
  | x :: l, [], h, j => by
    simp only [vsame, Bool.and_eq_true] at h
    cases j with
    | zero => exact Nat.eq_of_beq_eq_true h.1
    | succ j => have := vsame_get l [] h.2 j; simpa [vget] using this

abbrev HV := List (List Nat)
def lget : HV → Nat → List Nat
  | [], _ => []
  | v :: _, 0 => v
  | _ :: l, k + 1 => lget l k
@[simp] theorem lget_nil (k : Nat) : lget [] k = [] := by cases k <;> rfl
abbrev hget (h : HV) (i k : Nat) : Nat := vget (lget h i) k
def bumpH : HV → Nat → Nat → Nat → HV
  | [], 0, o, n => [bumpR [] o n]
  | [], i + 1, o, n => [] :: bumpH [] i o n
  | v :: l, 0, o, n => bumpR v o n :: l
  | v :: l, i + 1, o, n => v :: bumpH l i o n
theorem lget_bumpH : ∀ (h : HV) (i o n j : Nat), lget (bumpH h i o n) j = if j = i then bumpR (lget h j) o n else lget h j
  | [], 0, o, n, j => by cases j <;> simp [bumpH, lget]
  | [], i + 1, o, n, j => by
    cases j with
    | zero => simp [bumpH, lget]
    | succ j => simp only [bumpH, lget]; rw [lget_bumpH [] i o n j]; simp
  | v :: l, 0, o, n, j => by cases j <;> simp [bumpH, lget]
  | v :: l, i + 1, o, n, j => by
    cases j with
    | zero => simp [bumpH, lget]
    | succ j => simp only [bumpH, lget]; rw [lget_bumpH l i o n j]; simp
def maxH : HV → HV → HV
  | x :: l, y :: m => maxV x y :: maxH l m
  | [], m => m
  | l, [] => l
theorem hget_maxH : ∀ (l m : HV) (i k : Nat), hget (maxH l m) i k = max (hget l i k) (hget m i k)
  | [], m, i, k => by simp [maxH, hget]
  | x :: l, [], i, k => by simp [maxH, hget]
  | x :: l, y :: m, 0, k => vget_maxV x y k
  | x :: l, y :: m, i + 1, k => hget_maxH l m i k
def sumH : HV → HV → HV
  | x :: l, y :: m => sumV x y :: sumH l m
  | [], m => m
  | l, [] => l
theorem hget_sumH : ∀ (l m : HV) (i k : Nat), hget (sumH l m) i k = hget l i k + hget m i k
  | [], m, i, k => by simp [sumH, hget]
  | x :: l, [], i, k => by simp [sumH, hget]
  | x :: l, y :: m, 0, k => vget_sumV x y k
  | x :: l, y :: m, i + 1, k => hget_sumH l m i k
def hzero : HV → Bool
  | [] => true
  | y :: m => vzero y && hzero m
theorem hzero_get : ∀ (l : HV), hzero l = true → ∀ i k, hget l i k = 0
  | [], _, i, k => by simp [hget]
  | y :: m, h, i, k => by
    simp only [hzero, Bool.and_eq_true] at h
    cases i with
    | zero => exact vzero_get y h.1 k
    | succ i => exact hzero_get m h.2 i k
def hsame : HV → HV → Bool
  | [], m => hzero m
  | x :: l, y :: m => vsame x y && hsame l m
  | x :: l, [] => vzero x && hsame l []
theorem hsame_get : ∀ (l m : HV), hsame l m = true → ∀ i k, hget l i k = hget m i k
  | [], m, h, i, k => by
    simp only [hsame] at h
    rw [hzero_get m h i k]; simp [hget]
  | x :: l, y :: m, h, i, k => by
    simp only [hsame, Bool.and_eq_true] at h
    cases i with
    | zero => exact vsame_get x y h.1 k
    | succ i => exact hsame_get l m h.2 i k
  | x :: l, [], h, i, k => by
    simp only [hsame, Bool.and_eq_true] at h
    cases i with
    | zero => show vget x k = hget [] 0 k; rw [vzero_get x h.1 k]; simp [hget]
    | succ i => have := hsame_get l [] h.2 i k; simpa [lget, hget] using this

theorem vget_tail (l : List Nat) (k : Nat) : vget l.tail k = vget l (k + 1) := by cases l <;> simp [vget]
theorem lget_tail (l : HV) (k : Nat) : lget l.tail k = lget l (k + 1) := by cases l <;> simp [lget]
/-- The cells of a block later on: what has its old version has its old value. Version 0 is that of the shape; 1 on those of the cells (of a row of elements: 1). -/
def CInv (c : Cells) (cv : List Nat) (d : Cells) (dv : List Nat) : Prop :=
  match c, d with
  | .flat l, .flat m => m.length = l.length ∧ ∀ k, vget dv (k + 1) = vget cv (k + 1) → m[k]? = l[k]?
  | .sym n s f, .sym m t g => m = n ∧ t = s ∧ (vget dv 1 = vget cv 1 → g = f)
  | _, _ => False
theorem CInv.refl (c : Cells) (cv : List Nat) : CInv c cv c cv := by
  cases c with
  | flat l => exact ⟨rfl, fun _ _ => rfl⟩
  | sym n s f => exact ⟨rfl, rfl, fun _ => rfl⟩
theorem CInv.trans {c d e : Cells} {cv dv ev : List Nat} (h1 : ∀ k, vget cv k ≤ vget dv k) (h2 : ∀ k, vget dv k ≤ vget ev k) (a : CInv c cv d dv) (b : CInv d dv e ev) : CInv c cv e ev := by
  unfold CInv at *
  cases c <;> cases d <;> cases e <;> simp only at a b ⊢
  · obtain ⟨p1, p2⟩ := a
    obtain ⟨q1, q2⟩ := b
    refine ⟨q1.trans p1, fun k hk => ?_⟩
    have g1 := h1 (k + 1)
    have g2 := h2 (k + 1)
    rw [q2 k (by omega), p2 k (by omega)]
  · obtain ⟨p1, p2, p3⟩ := a
    obtain ⟨q1, q2, q3⟩ := b
    refine ⟨q1.trans p1, q2.trans p2, fun hk => ?_⟩
    have g1 := h1 1
    have g2 := h2 1
    rw [q3 (by omega), p3 (by omega)]
theorem CInv.eq {c d : Cells} {cv dv : List Nat} (h : CInv c cv d dv) (he : ∀ k, vget dv k = vget cv k) : d = c := by
  unfold CInv at h
  cases c <;> cases d <;> simp only at h
  · rw [List.ext_getElem? fun k => h.2 k (he (k + 1))]
  · rw [h.1, h.2.1, h.2.2 (he 1)]
/-- Memory later on. -/
structure HInv (H : Heap) (hv : HV) (H' : Heap) (hv' : HV) : Prop where
  len : H.length ≤ H'.length
  le : ∀ i k, hget hv i k ≤ hget hv' i k
  ty : ∀ (i : Nat) (z x : Blk), H[i]? = some z → H'[i]? = some x → x.ty = z.ty ∧ z.g ≤ x.g
  same : ∀ (i : Nat) (z x : Blk), H[i]? = some z → H'[i]? = some x → hget hv' i 0 = hget hv i 0 → x.g = z.g ∧ CInv z.cells (lget hv i) x.cells (lget hv' i)
theorem HInv.refl (H : Heap) (hv : HV) : HInv H hv H hv :=
  ⟨Nat.le_refl _, fun _ _ => Nat.le_refl _, fun i z x h h' => by rw [h] at h'; cases h'; exact ⟨rfl, Nat.le_refl _⟩, fun i z x h h' _ => by rw [h] at h'; cases h'; exact ⟨rfl, CInv.refl _ _⟩⟩
theorem HInv.trans {H1 H2 H3 : Heap} {v1 v2 v3 : HV} (a : HInv H1 v1 H2 v2) (b : HInv H2 v2 H3 v3) : HInv H1 v1 H3 v3 := by
  refine ⟨Nat.le_trans a.len b.len, fun i k => Nat.le_trans (a.le i k) (b.le i k), fun i z x hz hx => ?_, fun i z x hz hx he => ?_⟩
  · have hi : i < H2.length := Nat.lt_of_lt_of_le (List.getElem?_eq_some_iff.1 hz).1 a.len
    obtain ⟨p1, p2⟩ := a.ty i z H2[i] hz (List.getElem?_eq_getElem hi)
    obtain ⟨q1, q2⟩ := b.ty i H2[i] x (List.getElem?_eq_getElem hi) hx
    exact ⟨q1.trans p1, Nat.le_trans p2 q2⟩
  · have hi : i < H2.length := Nat.lt_of_lt_of_le (List.getElem?_eq_some_iff.1 hz).1 a.len
    have h1 := a.le i 0
    have h2 := b.le i 0
    obtain ⟨p1, p2⟩ := a.same i z H2[i] hz (List.getElem?_eq_getElem hi) (by omega)
    obtain ⟨q1, q2⟩ := b.same i H2[i] x (List.getElem?_eq_getElem hi) hx (by omega)
    exact ⟨q1.trans p1, CInv.trans (a.le i) (b.le i) p2 q2⟩
theorem HInv.push (H : Heap) (hv : HV) (l : Heap) : HInv H hv (H ++ l) hv := by
  have e : ∀ (i : Nat) (z x : Blk), H[i]? = some z → (H ++ l)[i]? = some x → x = z := fun i z x h h' => by
    rw [List.getElem?_append_left (List.getElem?_eq_some_iff.1 h).1, h] at h'; cases h'; rfl
  exact ⟨by simp, fun _ _ => Nat.le_refl _, fun i z x h h' => by rw [e i z x h h']; exact ⟨rfl, Nat.le_refl _⟩, fun i z x h h' _ => by rw [e i z x h h']; exact ⟨rfl, CInv.refl _ _⟩⟩
theorem lget_sumH (l m : HV) (i k : Nat) : vget (lget (sumH l m) i) k = vget (lget l i) k + vget (lget m i) k := hget_sumH l m i k
theorem CInv.sum {c d : Cells} {dv : List Nat} (cv ev : List Nat) (h : CInv c [] d dv) (he : ∀ k, vget ev k = vget cv k + vget dv k) : CInv c cv d ev := by
  unfold CInv at *
  cases c <;> cases d <;> simp only at h ⊢
  · exact ⟨h.1, fun k hk => h.2 k (by rw [he] at hk; simp; omega)⟩
  · exact ⟨h.1, h.2.1, fun hk => h.2.2 (by rw [he] at hk; simp; omega)⟩
theorem HInv.sum {H H' : Heap} {d : HV} (hv : HV) (h : HInv H [] H' d) : HInv H hv H' (sumH hv d) :=
  ⟨h.len, fun i k => by rw [hget_sumH]; omega, h.ty, fun i z x hz hx he => by
    rw [hget_sumH] at he
    obtain ⟨p1, p2⟩ := h.same i z x hz hx (by simp [hget]; simp only [hget] at he; omega)
    rw [lget_nil] at p2
    exact ⟨p1, p2.sum _ _ fun k => lget_sumH hv d i k⟩⟩
theorem HInv.eq {H H' : Heap} {hv hv' : HV} (h : HInv H hv H' hv') (hl : H'.length = H.length) (he : ∀ i k, hget hv' i k = hget hv i k) : H' = H := by
  apply List.ext_getElem?
  intro i
  cases e : H[i]? with
  | none =>
    rw [List.getElem?_eq_none_iff] at e ⊢; omega
  | some z =>
    have hi : i < H'.length := by rw [hl]; exact (List.getElem?_eq_some_iff.1 e).1
    obtain ⟨p1, p2⟩ := h.same i z H'[i] e (List.getElem?_eq_getElem hi) (he i 0)
    obtain ⟨p3, _⟩ := h.ty i z H'[i] e (List.getElem?_eq_getElem hi)
    rw [List.getElem?_eq_getElem hi]
    have p4 := p2.eq (he i)
    cases hx : H'[i] with
    | mk c t r => rw [hx] at p1 p3 p4; simp only at p1 p3 p4; subst p1 p3 p4; rfl
end Go.Lst
