/- Two states, of which a truth tells the one that holds, as one state: only a rewriting of 'cond'. -/
import Derived.Test.YtbbopbelaamlaaaSimSound
namespace Go.Sim
mutual
def mergeAV (b : Bool) : AV → AV → AV
  | .bool p, .bool q => .bool (cond b p q)
  | .float p, .float q => .float (cond b p q)
  | .int k p, .int j q => match decEq k j with | isTrue _ => .int k (cond b p q) | isFalse _ => cond b (.int k p) (.int j q)
  | .complex p r, .complex q s => .complex (cond b p q) (cond b r s)
  | .agg l, .agg m => .agg (mergeL b l m)
  | .tup l, .tup m => .tup (mergeL b l m)
  | .ptr (some p), .ptr (some q) => cond (Nat.beq p.1 q.1 && Nat.beq p.2 q.2) (.ptr (some p)) (cond b (.ptr (some p)) (.ptr (some q)))
  | .ptr none, .ptr none => .ptr none
  | .slice (some p) n k, .slice (some q) m j => cond (Nat.beq p.1 q.1 && (Nat.beq p.2 q.2 && (Nat.beq n m && Nat.beq k j))) (.slice (some p) n k) (cond b (.slice (some p) n k) (.slice (some q) m j))
  | .slice none n k, .slice none m j => cond (Nat.beq n m && Nat.beq k j) (.slice none n k) (cond b (.slice none n k) (.slice none m j))
  | .nilFunc, .nilFunc => .nilFunc
  | .nilIface, .nilIface => .nilIface
  | x, y => cond b x y
def mergeL (b : Bool) : List AV → List AV → List AV
  | x :: l, y :: m => mergeAV b x y :: mergeL b l m
  | [], [] => []
  | l, m => cond b l m
end
mutual
theorem mergeAV_true : ∀ x y, mergeAV true x y = x
  | .bool p, y => by cases y <;> rfl
  | .float p, y => by cases y <;> rfl
  | .int k p, y => by
    cases y with
    | int j q => unfold mergeAV; split <;> rfl
    | _ => rfl
  | .complex p r, y => by cases y <;> rfl
  | .agg l, y => by
    cases y with
    | agg m => unfold mergeAV; rw [mergeL_true l m]
    | _ => rfl
  | .tup l, y => by
    cases y with
    | tup m => unfold mergeAV; rw [mergeL_true l m]
    | _ => rfl
  | .ptr none, y => by
    cases y with
    | ptr a => cases a <;> rfl
    | _ => rfl
  | .ptr (some p), y => by
    cases y with
    | ptr a =>
      cases a with
      | none => rfl
      | some q => unfold mergeAV; cases (Nat.beq p.1 q.1 && Nat.beq p.2 q.2) <;> rfl
    | _ => rfl
  | .slice none n k, y => by
    cases y with
    | slice a m j =>
      cases a with
      | none => unfold mergeAV; cases (Nat.beq n m && Nat.beq k j) <;> rfl
      | some q => rfl
    | _ => rfl
  | .slice (some p) n k, y => by
    cases y with
    | slice a m j =>
      cases a with
      | none => rfl
      | some q => unfold mergeAV; cases (Nat.beq p.1 q.1 && (Nat.beq p.2 q.2 && (Nat.beq n m && Nat.beq k j))) <;> rfl
    | _ => rfl
  | .str s, y => by cases y <;> rfl
  | .func f l r, y => by cases y <;> rfl
  | .iface t a, y => by cases y <;> rfl
  | .nilFunc, y => by cases y <;> rfl
  | .nilIface, y => by cases y <;> rfl
theorem mergeL_true : ∀ l m, mergeL true l m = l
  | [], [] => rfl
  | [], _ :: _ => rfl
  | _ :: _, [] => rfl
  | x :: l, y :: m => by unfold mergeL; rw [mergeAV_true x y, mergeL_true l m]
end
theorem and_beq2 {a b c d : Nat} (h : (Nat.beq a b && Nat.beq c d) = true) : a = b ∧ c = d := by
  simp only [Bool.and_eq_true] at h; exact ⟨Nat.eq_of_beq_eq_true h.1, Nat.eq_of_beq_eq_true h.2⟩
mutual
theorem mergeAV_false : ∀ x y, mergeAV false x y = y
  | .bool p, y => by cases y <;> rfl
  | .float p, y => by cases y <;> rfl
  | .int k p, y => by
    cases y with
    | int j q =>
      unfold mergeAV; split
      · rename_i h _; subst h; rfl
      · rfl
    | _ => rfl
  | .complex p r, y => by cases y <;> rfl
  | .agg l, y => by
    cases y with
    | agg m => unfold mergeAV; rw [mergeL_false l m]
    | _ => rfl
  | .tup l, y => by
    cases y with
    | tup m => unfold mergeAV; rw [mergeL_false l m]
    | _ => rfl
  | .ptr none, y => by
    cases y with
    | ptr a => cases a <;> rfl
    | _ => rfl
  | .ptr (some p), y => by
    cases y with
    | ptr a =>
      cases a with
      | none => rfl
      | some q =>
        unfold mergeAV
        cases h : (Nat.beq p.1 q.1 && Nat.beq p.2 q.2)
        · rfl
        · obtain ⟨h1, h2⟩ := and_beq2 h
          have : p = q := Prod.ext h1 h2
          rw [this]; rfl
    | _ => rfl
  | .slice none n k, y => by
    cases y with
    | slice a m j =>
      cases a with
      | none =>
        unfold mergeAV
        cases h : (Nat.beq n m && Nat.beq k j)
        · rfl
        · obtain ⟨h1, h2⟩ := and_beq2 h; rw [h1, h2]; rfl
      | some q => rfl
    | _ => rfl
  | .slice (some p) n k, y => by
    cases y with
    | slice a m j =>
      cases a with
      | none => rfl
      | some q =>
        unfold mergeAV
        cases h : (Nat.beq p.1 q.1 && (Nat.beq p.2 q.2 && (Nat.beq n m && Nat.beq k j)))
        · rfl
        · simp only [Bool.and_eq_true] at h
          obtain ⟨h1, h2, h3, h4⟩ := h
          have e : p = q := Prod.ext (Nat.eq_of_beq_eq_true h1) (Nat.eq_of_beq_eq_true h2)
          rw [e, Nat.eq_of_beq_eq_true h3, Nat.eq_of_beq_eq_true h4]; rfl
    | _ => rfl
  | .str s, y => by cases y <;> rfl
  | .func f l r, y => by cases y <;> rfl
  | .iface t a, y => by cases y <;> rfl
  | .nilFunc, y => by cases y <;> rfl
  | .nilIface, y => by cases y <;> rfl
theorem mergeL_false : ∀ l m, mergeL false l m = m
  | [], [] => rfl
  | [], _ :: _ => rfl
  | _ :: _, [] => rfl
  | x :: l, y :: m => by unfold mergeL; rw [mergeAV_false x y, mergeL_false l m]
end
theorem mergeAV_eq (b : Bool) (x y : AV) : mergeAV b x y = cond b x y := by cases b; exact mergeAV_false x y; exact mergeAV_true x y
theorem mergeL_eq (b : Bool) (x y : List AV) : mergeL b x y = cond b x y := by cases b; exact mergeL_false x y; exact mergeL_true x y
end Go.Sim
