/- Taking a state apart: what the printed texts of loops are made of. -/
import Derived.Test.YtbkogihigehjlaaLLoop
namespace Go.Lst
open Classical in
/-- Does it hold of every number? -/
noncomputable def allB (p : Nat → Bool) : Bool := decide (∀ i, p i = true)
@[simp] theorem allB_true : allB (fun _ => true) = true := by simp [allB]
theorem allB_get {p : Nat → Bool} (h : allB p = true) (i : Nat) : p i = true := by
  have h' : ∀ i, p i = true := by simpa [allB] using h
  exact h' i
def flO : AV → Nat | .float x => x | _ => 0
def inO : AV → Int | .int _ x => x | _ => 0
def blO : AV → Bool | .bool x => x | _ => false
def reO : AV → Nat | .complex x _ => x | _ => 0
def imO : AV → Nat | .complex _ y => y | _ => 0
def stO : AV → ByteArray | .str s => s | _ => ⟨#[]⟩
def lnO : AV → Nat | .view n _ _ => n | _ => 0
def vwO : AV → Nat → List AV | .view _ _ f => f | _ => fun _ => []
def atL (l : List AV) (j : Nat) : AV := l.getD j (.tup [])
/-- Kinds of the cells of an element. -/
inductive Ck where
  | f
  | c
  | i (k : IntKind)
  | b
  | s
  | v (ks : List Ck)
mutual
noncomputable def isN1 : Ck → AV → Bool
  | .f, .float _ => true
  | .c, .complex _ _ => true
  | .i k, .int k' _ => decide (k = k')
  | .b, .bool _ => true
  | .s, .str _ => true
  | .v ks, .view _ s g => Nat.beq s ks.length && allB (fun j => isNrm ks (g j))
  | _, _ => false
noncomputable def isNrm : List Ck → List AV → Bool
  | [], [] => true
  | k :: ks, a :: l => isN1 k a && isNrm ks l
  | _, _ => false
end
mutual
def mk1 : Ck → AV → AV
  | .f, a => .float (flO a)
  | .c, a => .complex (reO a) (imO a)
  | .i k, a => .int k (inO a)
  | .b, a => .bool (blO a)
  | .s, a => .str (stO a)
  | .v ks, a => .view (lnO a) ks.length (fun j => mkN ks (vwO a j) 0)
def mkN : List Ck → List AV → Nat → List AV
  | [], _, _ => []
  | k :: ks, l, j => mk1 k (atL l j) :: mkN ks l (j + 1)
end
mutual
theorem mk1_eq : ∀ (k : Ck) (a : AV), isN1 k a = true → mk1 k a = a
  | .f, a, h => by cases a <;> first | rfl | (simp [isN1] at h)
  | .c, a, h => by cases a <;> first | rfl | (simp [isN1] at h)
  | .i k, a, h => by
    cases a with
    | int k' x => simp [isN1] at h; subst h; rfl
    | _ => simp [isN1] at h
  | .b, a, h => by cases a <;> first | rfl | (simp [isN1] at h)
  | .s, a, h => by cases a <;> first | rfl | (simp [isN1] at h)
  | .v ks, a, h => by
    cases a with
    | view n s g =>
      simp only [isN1, Bool.and_eq_true] at h
      have hs := beq_eq h.1
      subst hs
      simp only [mk1, lnO, vwO]
      congr 1
      funext j
      have := mkN_eq ks (g j) [] (allB_get h.2 j)
      simpa using this
    | _ => simp [isN1] at h
theorem mkN_eq : ∀ (ks : List Ck) (l pre : List AV), isNrm ks l = true → mkN ks (pre ++ l) pre.length = l
  | [], [], pre, _ => by simp [mkN]
  | [], _ :: _, pre, h => by simp [isNrm] at h
  | _ :: _, [], pre, h => by simp [isNrm] at h
  | k :: ks, a :: l, pre, h => by
    simp only [isNrm, Bool.and_eq_true] at h
    simp only [mkN]
    have e1 : atL (pre ++ a :: l) pre.length = a := by simp [atL, List.getD_eq_getElem?_getD]
    rw [e1, mk1_eq k a h.1]
    have e2 := mkN_eq ks l (pre ++ [a]) h.2
    simp only [List.append_assoc, List.singleton_append, List.length_append, List.length_singleton] at e2
    rw [e2]
end
theorem nrm_eq {ks : List Ck} {l : List AV} (h : isNrm ks l = true) : mkN ks l 0 = l := by simpa using mkN_eq ks l [] h
theorem nrm_fun {ks : List Ck} {f : Nat → List AV} (h : allB (fun i => isNrm ks (f i)) = true) : (fun i => mkN ks (f i) 0) = f := funext fun i => nrm_eq (allB_get h i)

section
variable {α β : Type}
def tkCons (l : List α) (k : α → List α → Option β) : Option β := match l with | a :: t => k a t | [] => none
theorem tkCons_some {l : List α} {k : α → List α → Option β} {r : β} (h : tkCons l k = some r) : ∃ a t, l = a :: t ∧ k a t = some r := by
  cases l with
  | nil => cases h
  | cons a t => exact ⟨a, t, rfl, h⟩
def tkNil (l : List α) (k : Option β) : Option β := match l with | [] => k | _ :: _ => none
theorem tkNil_some {l : List α} {k : Option β} {r : β} (h : tkNil l k = some r) : l = [] ∧ k = some r := by
  cases l with
  | nil => exact ⟨rfl, h⟩
  | cons a t => cases h
def tkTops : Nat → List AV → (List AV → Option β) → Option β
  | 0, l, k => k l
  | n + 1, l, k => match l with
    | .top :: t => tkTops n t k
    | _ => none
theorem tkTops_some : ∀ {n : Nat} {l : List AV} {k : List AV → Option β} {r : β}, tkTops n l k = some r → ∃ t, l = List.replicate n .top ++ t ∧ k t = some r
  | 0, l, k, r, h => ⟨l, rfl, h⟩
  | n + 1, l, k, r, h => by
    unfold tkTops at h
    split at h
    · obtain ⟨t, rfl, h'⟩ := tkTops_some h
      exact ⟨t, rfl, h'⟩
    · cases h
def tkF (a : AV) (k : Nat → Option β) : Option β := match a with | .float x => k x | _ => none
theorem tkF_some {a : AV} {k : Nat → Option β} {r : β} (h : tkF a k = some r) : ∃ x, a = .float x ∧ k x = some r := by
  cases a <;> first | exact ⟨_, rfl, h⟩ | cases h
def tkC (a : AV) (k : Nat → Nat → Option β) : Option β := match a with | .complex x y => k x y | _ => none
theorem tkC_some {a : AV} {k : Nat → Nat → Option β} {r : β} (h : tkC a k = some r) : ∃ x y, a = .complex x y ∧ k x y = some r := by
  cases a <;> first | exact ⟨_, _, rfl, h⟩ | cases h
def tkB (a : AV) (k : Bool → Option β) : Option β := match a with | .bool x => k x | _ => none
theorem tkB_some {a : AV} {k : Bool → Option β} {r : β} (h : tkB a k = some r) : ∃ x, a = .bool x ∧ k x = some r := by
  cases a <;> first | exact ⟨_, rfl, h⟩ | cases h
def tkS (a : AV) (k : ByteArray → Option β) : Option β := match a with | .str x => k x | _ => none
theorem tkS_some {a : AV} {k : ByteArray → Option β} {r : β} (h : tkS a k = some r) : ∃ x, a = .str x ∧ k x = some r := by
  cases a <;> first | exact ⟨_, rfl, h⟩ | cases h
def tkI (kd : IntKind) (a : AV) (k : Int → Option β) : Option β := match a with | .int j x => cond (decide (j = kd)) (k x) none | _ => none
theorem tkI_some {kd : IntKind} {a : AV} {k : Int → Option β} {r : β} (h : tkI kd a k = some r) : ∃ x, a = .int kd x ∧ k x = some r := by
  unfold tkI at h
  split at h
  · rename_i j x
    obtain ⟨hj, h'⟩ := cond_some h rfl
    simp only [decide_eq_true_eq] at hj
    subst hj; exact ⟨x, rfl, h'⟩
  · cases h
def tkAgg (a : AV) (k : List AV → Option β) : Option β := match a with | .agg l => k l | _ => none
theorem tkAgg_some {a : AV} {k : List AV → Option β} {r : β} (h : tkAgg a k = some r) : ∃ l, a = .agg l ∧ k l = some r := by
  cases a <;> first | exact ⟨_, rfl, h⟩ | cases h
def tkTup (a : AV) (k : List AV → Option β) : Option β := match a with | .tup l => k l | _ => none
theorem tkTup_some {a : AV} {k : List AV → Option β} {r : β} (h : tkTup a k = some r) : ∃ l, a = .tup l ∧ k l = some r := by
  cases a <;> first | exact ⟨_, rfl, h⟩ | cases h
def tkVptr (a : AV) (k : List AV → Option β) : Option β := match a with | .vptr l => k l | _ => none
theorem tkVptr_some {a : AV} {k : List AV → Option β} {r : β} (h : tkVptr a k = some r) : ∃ l, a = .vptr l ∧ k l = some r := by
  cases a <;> first | exact ⟨_, rfl, h⟩ | cases h
def tkView (s : Nat) (a : AV) (k : Nat → (Nat → List AV) → Option β) : Option β := match a with | .view n z f => cond (Nat.beq z s) (k n f) none | _ => none
theorem tkView_some {s : Nat} {a : AV} {k : Nat → (Nat → List AV) → Option β} {r : β} (h : tkView s a k = some r) : ∃ n f, a = .view n s f ∧ k n f = some r := by
  unfold tkView at h
  split at h
  · rename_i n z f
    obtain ⟨hj, h⟩ := cond_some h rfl
    rw [beq_eq hj]; exact ⟨n, f, rfl, h⟩
  · cases h
def tkLst (b g s : Nat) (a : AV) (k : Nat → Nat → Option β) : Option β := match a with | .lst b' g' s' n lo => cond (Nat.beq b' b && (Nat.beq g' g && Nat.beq s' s)) (k n lo) none | _ => none
theorem tkLst_some {b g s : Nat} {a : AV} {k : Nat → Nat → Option β} {r : β} (h : tkLst b g s a k = some r) : ∃ n lo, a = .lst b g s n lo ∧ k n lo = some r := by
  unfold tkLst at h
  split at h
  · obtain ⟨hj, h⟩ := cond_some h rfl
    simp only [Bool.and_eq_true] at hj
    rw [beq_eq hj.1, beq_eq hj.2.1, beq_eq hj.2.2]; exact ⟨_, _, rfl, h⟩
  · cases h
def tkPtr (b g o : Nat) (a : AV) (k : Option β) : Option β := match a with | .ptr (some ⟨b', g', .lit o'⟩) => cond (Nat.beq b' b && (Nat.beq g' g && Nat.beq o' o)) k none | _ => none
theorem tkPtr_some {b g o : Nat} {a : AV} {k : Option β} {r : β} (h : tkPtr b g o a k = some r) : a = .ptr (some ⟨b, g, .lit o⟩) ∧ k = some r := by
  unfold tkPtr at h
  split at h
  · obtain ⟨hj, h⟩ := cond_some h rfl
    simp only [Bool.and_eq_true] at hj
    rw [beq_eq hj.1, beq_eq hj.2.1, beq_eq hj.2.2]; exact ⟨rfl, h⟩
  · cases h
def tkPtrAt (b g s c : Nat) (a : AV) (k : Nat → Option β) : Option β := match a with | .ptr (some ⟨b', g', .at i s' c'⟩) => cond (Nat.beq b' b && (Nat.beq g' g && (Nat.beq s' s && Nat.beq c' c))) (k i) none | _ => none
theorem tkPtrAt_some {b g s c : Nat} {a : AV} {k : Nat → Option β} {r : β} (h : tkPtrAt b g s c a k = some r) : ∃ i, a = .ptr (some ⟨b, g, .at i s c⟩) ∧ k i = some r := by
  unfold tkPtrAt at h
  split at h
  · obtain ⟨hj, h⟩ := cond_some h rfl
    simp only [Bool.and_eq_true] at hj
    rw [beq_eq hj.1, beq_eq hj.2.1, beq_eq hj.2.2.1, beq_eq hj.2.2.2]; exact ⟨_, rfl, h⟩
  · cases h
def tkSlice (b g o n c : Nat) (a : AV) (k : Option β) : Option β := match a with | .slice (some ⟨b', g', .lit o'⟩) n' c' => cond (Nat.beq b' b && (Nat.beq g' g && (Nat.beq o' o && (Nat.beq n' n && Nat.beq c' c)))) k none | _ => none
theorem tkSlice_some {b g o n c : Nat} {a : AV} {k : Option β} {r : β} (h : tkSlice b g o n c a k = some r) : a = .slice (some ⟨b, g, .lit o⟩) n c ∧ k = some r := by
  unfold tkSlice at h
  split at h
  · obtain ⟨hj, h⟩ := cond_some h rfl
    simp only [Bool.and_eq_true] at hj
    rw [beq_eq hj.1, beq_eq hj.2.1, beq_eq hj.2.2.1, beq_eq hj.2.2.2.1, beq_eq hj.2.2.2.2]; exact ⟨rfl, h⟩
  · cases h
def tkPtrNil (a : AV) (k : Option β) : Option β := match a with | .ptr none => k | _ => none
theorem tkPtrNil_some {a : AV} {k : Option β} {r : β} (h : tkPtrNil a k = some r) : a = .ptr none ∧ k = some r := by
  unfold tkPtrNil at h; split at h <;> first | exact ⟨rfl, h⟩ | cases h
def tkSliceNil (a : AV) (k : Option β) : Option β := match a with | .slice none 0 0 => k | _ => none
theorem tkSliceNil_some {a : AV} {k : Option β} {r : β} (h : tkSliceNil a k = some r) : a = .slice none 0 0 ∧ k = some r := by
  unfold tkSliceNil at h; split at h <;> first | exact ⟨rfl, h⟩ | cases h
def tkNul (a : AV) (k : Option β) : Option β := match a with | .nul => k | _ => none
theorem tkNul_some {a : AV} {k : Option β} {r : β} (h : tkNul a k = some r) : a = .nul ∧ k = some r := by
  unfold tkNul at h; split at h <;> first | exact ⟨rfl, h⟩ | cases h
def tkNilFunc (a : AV) (k : Option β) : Option β := match a with | .nilFunc => k | _ => none
theorem tkNilFunc_some {a : AV} {k : Option β} {r : β} (h : tkNilFunc a k = some r) : a = .nilFunc ∧ k = some r := by
  unfold tkNilFunc at h; split at h <;> first | exact ⟨rfl, h⟩ | cases h
def tkNilIface (a : AV) (k : Option β) : Option β := match a with | .nilIface => k | _ => none
theorem tkNilIface_some {a : AV} {k : Option β} {r : β} (h : tkNilIface a k = some r) : a = .nilIface ∧ k = some r := by
  unfold tkNilIface at h; split at h <;> first | exact ⟨rfl, h⟩ | cases h
def tkIface (t : Nat) (a : AV) (k : AV → Option β) : Option β := match a with | .iface u x => cond (Nat.beq u t) (k x) none | _ => none
theorem tkIface_some {t : Nat} {a : AV} {k : AV → Option β} {r : β} (h : tkIface t a k = some r) : ∃ x, a = .iface t x ∧ k x = some r := by
  unfold tkIface at h
  split at h
  · obtain ⟨hj, h⟩ := cond_some h rfl
    rw [beq_eq hj]; exact ⟨_, rfl, h⟩
  · cases h
def tkFunc (f : Nat) (a : AV) (k : List AV → List AV → Option β) : Option β := match a with | .func g l r => cond (Nat.beq g f) (k l r) none | _ => none
theorem tkFunc_some {f : Nat} {a : AV} {k : List AV → List AV → Option β} {r : β} (h : tkFunc f a k = some r) : ∃ l m, a = .func f l m ∧ k l m = some r := by
  unfold tkFunc at h
  split at h
  · obtain ⟨hj, h⟩ := cond_some h rfl
    rw [beq_eq hj]; exact ⟨_, _, rfl, h⟩
  · cases h
def tkFlat (ty g : Nat) (b : Blk) (k : List AV → Option β) : Option β := match b with | ⟨.flat l, t, g'⟩ => cond (Nat.beq t ty && Nat.beq g' g) (k l) none | _ => none
theorem tkFlat_some {ty g : Nat} {b : Blk} {k : List AV → Option β} {r : β} (h : tkFlat ty g b k = some r) : ∃ l, b = ⟨.flat l, ty, g⟩ ∧ k l = some r := by
  unfold tkFlat at h
  split at h
  · obtain ⟨hj, h⟩ := cond_some h rfl
    obtain ⟨h1, h2⟩ := and_beq2 hj
    rw [h1, h2]; exact ⟨_, rfl, h⟩
  · cases h
def tkSym (ty g s : Nat) (b : Blk) (k : Nat → (Nat → List AV) → Option β) : Option β := match b with | ⟨.sym n z f, t, g'⟩ => cond (Nat.beq t ty && (Nat.beq g' g && Nat.beq z s)) (k n f) none | _ => none
theorem tkSym_some {ty g s : Nat} {b : Blk} {k : Nat → (Nat → List AV) → Option β} {r : β} (h : tkSym ty g s b k = some r) : ∃ n f, b = ⟨.sym n s f, ty, g⟩ ∧ k n f = some r := by
  unfold tkSym at h
  split at h
  · obtain ⟨hj, h⟩ := cond_some h rfl
    simp only [Bool.and_eq_true] at hj
    rw [beq_eq hj.1, beq_eq hj.2.1, beq_eq hj.2.2]; exact ⟨_, _, rfl, h⟩
  · cases h
/-- Literals. -/
def tkFL (n : Nat) (a : AV) (k : Option β) : Option β := match a with | .float x => cond (Nat.beq x n) k none | _ => none
theorem tkFL_some {n : Nat} {a : AV} {k : Option β} {r : β} (h : tkFL n a k = some r) : a = .float n ∧ k = some r := by
  unfold tkFL at h
  split at h
  · obtain ⟨hj, h⟩ := cond_some h rfl
    rw [beq_eq hj]; exact ⟨rfl, h⟩
  · cases h
def tkBL (b : Bool) (a : AV) (k : Option β) : Option β := match a with | .bool x => cond (x == b) k none | _ => none
theorem tkBL_some {b : Bool} {a : AV} {k : Option β} {r : β} (h : tkBL b a k = some r) : a = .bool b ∧ k = some r := by
  unfold tkBL at h
  split at h
  · obtain ⟨hj, h⟩ := cond_some h rfl
    simp only [beq_iff_eq] at hj
    rw [hj]; exact ⟨rfl, h⟩
  · cases h
def tkIL (kd : IntKind) (n : Int) (a : AV) (k : Option β) : Option β := match a with | .int j x => cond (decide (j = kd) && ieq x n) k none | _ => none
theorem tkIL_some {kd : IntKind} {n : Int} {a : AV} {k : Option β} {r : β} (h : tkIL kd n a k = some r) : a = .int kd n ∧ k = some r := by
  unfold tkIL at h
  split at h
  · obtain ⟨hj, h⟩ := cond_some h rfl
    simp only [Bool.and_eq_true, decide_eq_true_eq, ieq] at hj
    rw [hj.1, hj.2]; exact ⟨rfl, h⟩
  · cases h
def tkNL (n : Nat) (x : Nat) (k : Option β) : Option β := cond (Nat.beq x n) k none
theorem tkNL_some {n x : Nat} {k : Option β} {r : β} (h : tkNL n x k = some r) : x = n ∧ k = some r := by
  unfold tkNL at h
  obtain ⟨hj, h⟩ := cond_some h rfl
  exact ⟨beq_eq hj, h⟩
end
theorem hdr_alH : ∀ (ts : List CT) (H : Heap), hdr (alH ts H) = hdr H
  | [], H => by cases H <;> rfl
  | t :: ts, [] => rfl
  | t :: ts, b :: H => by
    have := hdr_alH ts H
    simp only [hdr, alH, List.map_cons] at this ⊢
    rw [this]
/-- A part of the code. -/
def subC : List Nat → Code → Code
  | [], c => c
  | 0 :: p, .seq a _ => subC p a
  | 1 :: p, .seq _ b => subC p b
  | 0 :: p, .cond _ a _ => subC p a
  | 1 :: p, .cond _ _ b => subC p b
  | 0 :: p, .block _ b => subC p b
  | 0 :: p, .loop b => subC p b
  | 0 :: p, .scope b => subC p b
  | _, c => c
def codeOf (fn : Func) : Code := match fn.body with | some c => c | none => .skip
end Go.Lst
namespace Go.Lst
open Classical in
/-- Are they the same? -/
noncomputable def eqT {α : Type} (a b : α) : Bool := decide (a = b)
@[simp] theorem eqT_self {α : Type} (a : α) : eqT a a = true := by simp [eqT]
theorem eqT_eq {α : Type} {a b : α} (h : eqT a b = true) : a = b := by simpa [eqT] using h
section
variable {P : Program} {ex : Bool} {k0 : Nat}
theorem annNo : ∀ (c : Code), AnnOk P ex k0 c .no
  | .skip | .label _ | .exit _ | .ret | .region .. | .rangeFunc .. | .goto _ | .refuse _ => by simp [AnnOk]
  | .seq a b => ⟨annNo a, annNo b⟩
  | .cond _ a b => ⟨annNo a, annNo b⟩
  | .block _ c => by simp only [AnnOk]; exact annNo c
  | .scope c => by simp only [AnnOk]; exact annNo c
  | .loop c => by simp only [AnnOk]; exact annNo c
theorem annSeq {c a b : Code} {A B : Ann} (h : c = .seq a b) (ha : AnnOk P ex k0 a A) (hb : AnnOk P ex k0 b B) : AnnOk P ex k0 c (.two A B) := by subst h; exact ⟨ha, hb⟩
theorem annCond {c a b : Code} {x : Operand} {A B : Ann} (h : c = .cond x a b) (ha : AnnOk P ex k0 a A) (hb : AnnOk P ex k0 b B) : AnnOk P ex k0 c (.two A B) := by subst h; exact ⟨ha, hb⟩
theorem annBlock {c a : Code} {i : Nat} {A : Ann} (h : c = .block i a) (ha : AnnOk P ex k0 a A) : AnnOk P ex k0 c (.one A) := by subst h; exact ha
theorem annScope {c a : Code} {A : Ann} (h : c = .scope a) (ha : AnnOk P ex k0 a A) : AnnOk P ex k0 c (.one A) := by subst h; exact ha
theorem annLoop1 {c a : Code} {A : Ann} (h : c = .loop a) (ha : AnnOk P ex k0 a A) : AnnOk P ex k0 c (.one A) := by subst h; exact ha
theorem annLoop {c a : Code} {F : St → Option Ch} (h : c = .loop a) (hF : ∀ s ch, F s = some ch → AllI s ch ∧ LoopSpec P ex k0 a s (sel ch)) : AnnOk P ex k0 c (.loop F) := by subst h; exact hF
theorem fnOk_of {fn : Func} {c : Code} {A : Ann} (h : fn.body = some c) (ha : AnnOk P ex k0 c A) : FnOk P ex k0 fn A := by
  unfold FnOk; rw [h]; exact ha
theorem fnNo (fn : Func) : FnOk P ex k0 fn .no := by
  unfold FnOk; split
  · exact annNo _
  · trivial
end
end Go.Lst
