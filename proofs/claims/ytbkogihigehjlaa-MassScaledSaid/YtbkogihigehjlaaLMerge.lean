/- Two values, of which a truth tells the one that holds, as one value: only a rewriting of 'cond'. -/
import Derived.Test.YtbkogihigehjlaaLCore
namespace Go.Lst
def csame (q : Bool) (x y : Nat) : Nat := cond (Nat.beq x y) x (cond q x y)
theorem csame_eq (q : Bool) (x y : Nat) : csame q x y = cond q x y := by
  unfold csame
  cases h : Nat.beq x y with
  | false => rfl
  | true => have := Nat.eq_of_beq_eq_true h; subst this; cases q <;> rfl
theorem beq_eq {a b : Nat} (h : Nat.beq a b = true) : a = b := Nat.eq_of_beq_eq_true h
theorem and_beq2 {a b c d : Nat} (h : (Nat.beq a b && Nat.beq c d) = true) : a = b ∧ c = d := by
  simp only [Bool.and_eq_true] at h; exact ⟨beq_eq h.1, beq_eq h.2⟩
def mergeOff (q : Bool) : Off → Off → Option Off
  | .lit n, .lit m => cond (Nat.beq n m) (some (.lit n)) none
  | .at i s k, .at j t l => cond (Nat.beq s t && Nat.beq k l) (some (.at (csame q i j) s k)) none
  | .idx i s k n, .idx j t l m => cond (Nat.beq s t && (Nat.beq k l && Nat.beq n m)) (some (.idx (csame q i j) s k n)) none
  | _, _ => none
theorem mergeOff_eq {q : Bool} {x y z : Off} (h : mergeOff q x y = some z) : z = cond q x y := by
  unfold mergeOff at h
  split at h
  · rename_i n m
    cases e : Nat.beq n m with
    | false => rw [e] at h; cases h
    | true => rw [e] at h; cases h; rw [beq_eq e]; cases q <;> rfl
  · rename_i i s k j t l
    cases e : (Nat.beq s t && Nat.beq k l) with
    | false => rw [e] at h; cases h
    | true =>
      rw [e] at h; cases h
      obtain ⟨h1, h2⟩ := and_beq2 e
      rw [h1, h2, csame_eq]; cases q <;> rfl
  · rename_i i s k n j t l m
    cases e : (Nat.beq s t && (Nat.beq k l && Nat.beq n m)) with
    | false => rw [e] at h; cases h
    | true =>
      rw [e] at h; cases h
      simp only [Bool.and_eq_true] at e
      rw [beq_eq e.1, beq_eq e.2.1, beq_eq e.2.2, csame_eq]; cases q <;> rfl
  · cases h
def mergePos (q : Bool) (p r : Pos) : Option Pos :=
  cond (Nat.beq p.b r.b && Nat.beq p.g r.g) (match mergeOff q p.o r.o with | some o => some ⟨p.b, p.g, o⟩ | none => none) none
theorem mergePos_eq {q : Bool} {x y z : Pos} (h : mergePos q x y = some z) : z = cond q x y := by
  unfold mergePos at h
  cases e : (Nat.beq x.b y.b && Nat.beq x.g y.g) with
  | false => rw [e] at h; cases h
  | true =>
    rw [e, cond_true] at h
    obtain ⟨h1, h2⟩ := and_beq2 e
    split at h
    · rename_i o ho
      cases h
      have := mergeOff_eq ho
      subst this
      cases x; cases y; simp only at h1 h2; subst h1 h2
      cases q <;> rfl
    · cases h
mutual
def mergeAV (b : Bool) : AV → AV → AV
  | .bool p, .bool q => .bool (cond b p q)
  | .float p, .float q => .float (cond b p q)
  | .int k p, .int j q => match decEq k j with | isTrue _ => .int k (cond b p q) | isFalse _ => cond b (.int k p) (.int j q)
  | .complex p r, .complex q s => .complex (cond b p q) (cond b r s)
  | .str p, .str q => .str (cond b p q)
  | .agg l, .agg m => .agg (mergeL b l m)
  | .tup l, .tup m => .tup (mergeL b l m)
  | .ptr (some p), .ptr (some q) => match mergePos b p q with | some t => .ptr (some t) | none => cond b (.ptr (some p)) (.ptr (some q))
  | .ptr none, .ptr none => .ptr none
  | .vptr l, .vptr m => .vptr (mergeL b l m)
  | .slice (some p) n k, .slice (some q) m j => match mergePos b p q with
    | some t => .slice (some t) (csame b n m) (csame b k j)
    | none => cond b (.slice (some p) n k) (.slice (some q) m j)
  | .slice none n k, .slice none m j => .slice none (csame b n m) (csame b k j)
  | .lst x g s n l, .lst y h t m k => cond (Nat.beq x y && (Nat.beq g h && Nat.beq s t)) (.lst x g s (csame b n m) (csame b l k)) (cond b (.lst x g s n l) (.lst y h t m k))
  | .view n s f, .view m t g => cond (Nat.beq s t) (.view (csame b n m) s (fun i => mergeL b (f i) (g i))) (cond b (.view n s f) (.view m t g))
  | .nul, .nul => .nul
  | .func f l r, .func g m q => cond (Nat.beq f g) (.func f (mergeL b l m) (mergeL b r q)) (cond b (.func f l r) (.func g m q))
  | .nilFunc, .nilFunc => .nilFunc
  | .iface t x, .iface u y => cond (Nat.beq t u) (.iface t (mergeAV b x y)) (cond b (.iface t x) (.iface u y))
  | .nilIface, .nilIface => .nilIface
  | .top, .top => .top
  | x, y => cond b x y
def mergeL (b : Bool) : List AV → List AV → List AV
  | x :: l, y :: m => mergeAV b x y :: mergeL b l m
  | [], [] => []
  | l, m => cond b l m
end
mutual
theorem mergeAV_true : ∀ x y, mergeAV true x y = x
  | .bool p, y => by cases y <;> rfl
  | .float p, y => by cases y <;> rfl
  | .int k p, y => by
    cases y with
    | int j q => unfold mergeAV; split <;> rfl
    | _ => rfl
  | .complex p r, y => by cases y <;> rfl
  | .str p, y => by cases y <;> rfl
  | .agg l, y => by
    cases y with
    | agg m => unfold mergeAV; rw [mergeL_true l m]
    | _ => rfl
  | .tup l, y => by
    cases y with
    | tup m => unfold mergeAV; rw [mergeL_true l m]
    | _ => rfl
  | .ptr none, y => by
    cases y with
    | ptr a => cases a <;> rfl
    | _ => rfl
  | .ptr (some p), y => by
    cases y with
    | ptr a =>
      cases a with
      | none => rfl
      | some q =>
        unfold mergeAV
        split
        · rename_i t ht; rw [mergePos_eq ht]; rfl
        · rfl
    | _ => rfl
  | .vptr l, y => by
    cases y with
    | vptr m => unfold mergeAV; rw [mergeL_true l m]
    | _ => rfl
  | .slice none n k, y => by
    cases y with
    | slice a m j =>
      cases a with
      | none => unfold mergeAV; rw [csame_eq, csame_eq]; rfl
      | some q => rfl
    | _ => rfl
  | .slice (some p) n k, y => by
    cases y with
    | slice a m j =>
      cases a with
      | none => rfl
      | some q =>
        unfold mergeAV
        split
        · rename_i t ht; rw [mergePos_eq ht, csame_eq, csame_eq]; rfl
        · rfl
    | _ => rfl
  | .lst x g s n l, y => by
    cases y with
    | lst y h t m k => unfold mergeAV; rw [csame_eq, csame_eq]; cases (Nat.beq x y && (Nat.beq g h && Nat.beq s t)) <;> rfl
    | _ => rfl
  | .view n s f, y => by
    cases y with
    | view m t g =>
      unfold mergeAV
      have : (fun i => mergeL true (f i) (g i)) = f := funext fun i => mergeL_true (f i) (g i)
      rw [csame_eq, this]; cases Nat.beq s t <;> rfl
    | _ => rfl
  | .nul, y => by cases y <;> rfl
  | .top, y => by cases y <;> rfl
  | .func f l r, y => by
    cases y with
    | func g m q => unfold mergeAV; rw [mergeL_true l m, mergeL_true r q]; cases Nat.beq f g <;> rfl
    | _ => rfl
  | .iface t a, y => by
    cases y with
    | iface u b => unfold mergeAV; rw [mergeAV_true a b]; cases Nat.beq t u <;> rfl
    | _ => rfl
  | .nilFunc, y => by cases y <;> rfl
  | .nilIface, y => by cases y <;> rfl
  | .unk _, y => by cases y <;> rfl
  | .alt _ _ _, y => by cases y <;> rfl
theorem mergeL_true : ∀ l m, mergeL true l m = l
  | [], [] => rfl
  | [], _ :: _ => rfl
  | _ :: _, [] => rfl
  | x :: l, y :: m => by unfold mergeL; rw [mergeAV_true x y, mergeL_true l m]
end
mutual
theorem mergeAV_false : ∀ x y, mergeAV false x y = y
  | .bool p, y => by cases y <;> rfl
  | .float p, y => by cases y <;> rfl
  | .int k p, y => by
    cases y with
    | int j q =>
      unfold mergeAV; split
      · rename_i h _; subst h; rfl
      · rfl
    | _ => rfl
  | .complex p r, y => by cases y <;> rfl
  | .str p, y => by cases y <;> rfl
  | .agg l, y => by
    cases y with
    | agg m => unfold mergeAV; rw [mergeL_false l m]
    | _ => rfl
  | .tup l, y => by
    cases y with
    | tup m => unfold mergeAV; rw [mergeL_false l m]
    | _ => rfl
  | .ptr none, y => by
    cases y with
    | ptr a => cases a <;> rfl
    | _ => rfl
  | .ptr (some p), y => by
    cases y with
    | ptr a =>
      cases a with
      | none => rfl
      | some q =>
        unfold mergeAV
        split
        · rename_i t ht; rw [mergePos_eq ht]; rfl
        · rfl
    | _ => rfl
  | .vptr l, y => by
    cases y with
    | vptr m => unfold mergeAV; rw [mergeL_false l m]
    | _ => rfl
  | .slice none n k, y => by
    cases y with
    | slice a m j =>
      cases a with
      | none => unfold mergeAV; rw [csame_eq, csame_eq]; rfl
      | some q => rfl
    | _ => rfl
  | .slice (some p) n k, y => by
    cases y with
    | slice a m j =>
      cases a with
      | none => rfl
      | some q =>
        unfold mergeAV
        split
        · rename_i t ht; rw [mergePos_eq ht, csame_eq, csame_eq]; rfl
        · rfl
    | _ => rfl
  | .lst x g s n l, y => by
    cases y with
    | lst y h t m k =>
      unfold mergeAV
      rw [csame_eq, csame_eq]
      cases e : (Nat.beq x y && (Nat.beq g h && Nat.beq s t))
      · rfl
      · simp only [Bool.and_eq_true] at e
        rw [beq_eq e.1, beq_eq e.2.1, beq_eq e.2.2]; rfl
    | _ => rfl
  | .view n s f, y => by
    cases y with
    | view m t g =>
      unfold mergeAV
      have : (fun i => mergeL false (f i) (g i)) = g := funext fun i => mergeL_false (f i) (g i)
      rw [csame_eq, this]
      cases e : Nat.beq s t
      · rfl
      · rw [beq_eq e]; rfl
    | _ => rfl
  | .nul, y => by cases y <;> rfl
  | .top, y => by cases y <;> rfl
  | .func f l r, y => by
    cases y with
    | func g m q =>
      unfold mergeAV; rw [mergeL_false l m, mergeL_false r q]
      cases e : Nat.beq f g
      · rfl
      · rw [beq_eq e]; rfl
    | _ => rfl
  | .iface t a, y => by
    cases y with
    | iface u b =>
      unfold mergeAV; rw [mergeAV_false a b]
      cases e : Nat.beq t u
      · rfl
      · rw [beq_eq e]; rfl
    | _ => rfl
  | .nilFunc, y => by cases y <;> rfl
  | .nilIface, y => by cases y <;> rfl
  | .unk _, y => by cases y <;> rfl
  | .alt _ _ _, y => by cases y <;> rfl
theorem mergeL_false : ∀ l m, mergeL false l m = m
  | [], [] => rfl
  | [], _ :: _ => rfl
  | _ :: _, [] => rfl
  | x :: l, y :: m => by unfold mergeL; rw [mergeAV_false x y, mergeL_false l m]
end
theorem mergeAV_eq (b : Bool) (x y : AV) : mergeAV b x y = cond b x y := by cases b; exact mergeAV_false x y; exact mergeAV_true x y
theorem mergeL_eq (b : Bool) (x y : List AV) : mergeL b x y = cond b x y := by cases b; exact mergeL_false x y; exact mergeL_true x y
/-- The cells from k on are these, where the truth holds. -/
def setM (q : Bool) : List AV → Nat → List AV → List AV
  | l, _, [] => l
  | [], _, _ => []
  | a :: l, 0, c :: cs => mergeAV q c a :: setM q l 0 cs
  | a :: l, k + 1, c :: cs => a :: setM q l k (c :: cs)
def setR : List AV → Nat → List AV → List AV
  | l, _, [] => l
  | l, o, v :: r => setR (l.set o v) (o + 1) r
theorem setM_false : ∀ (l : List AV) (k : Nat) (cs : List AV), setM false l k cs = l
  | [], k, [] => rfl
  | [], k, _ :: _ => rfl
  | _ :: _, k, [] => by cases k <;> rfl
  | a :: l, 0, c :: cs => by unfold setM; rw [mergeAV_false, setM_false l 0 cs]
  | a :: l, k + 1, c :: cs => by unfold setM; rw [setM_false l k (c :: cs)]
theorem setR_nil : ∀ (cs : List AV) (k : Nat), setR [] k cs = []
  | [], _ => rfl
  | c :: cs, k => by simp only [setR, List.set_nil]; exact setR_nil cs (k + 1)
theorem setR_cons (a : AV) : ∀ (cs l : List AV) (k : Nat), setR (a :: l) (k + 1) cs = a :: setR l k cs
  | [], l, k => rfl
  | c :: cs, l, k => by simp only [setR, List.set_cons_succ]; exact setR_cons a cs (l.set k c) (k + 1)
theorem setM_true : ∀ (l : List AV) (k : Nat) (cs : List AV), setM true l k cs = setR l k cs
  | l, k, [] => by cases l <;> cases k <;> rfl
  | [], k, c :: cs => by rw [setR_nil]; rfl
  | a :: l, 0, c :: cs => by
    unfold setM; rw [mergeAV_true, setM_true l 0 cs]
    simp only [setR, List.set_cons_zero]; exact (setR_cons c cs l 0).symm
  | a :: l, k + 1, c :: cs => by unfold setM; rw [setM_true l k (c :: cs), setR_cons]
theorem setM_eq (q : Bool) (l : List AV) (k : Nat) (cs : List AV) : setM q l k cs = cond q (setR l k cs) l := by
  cases q; exact setM_false l k cs; exact setM_true l k cs
end Go.Lst
