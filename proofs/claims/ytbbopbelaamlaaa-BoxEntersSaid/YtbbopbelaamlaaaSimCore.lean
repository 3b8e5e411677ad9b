/- Abstract values, what it means that a value, a block, a world stand for them, and what a stretch of the run may do to memory. -/
import Derived.Calls
import Derived.Laws.Tables
import Derived.Laws.Rows
import Derived.Below
import Derived.Test.YtbbopbelaamlaaaSimFloat
namespace Go.Sim

/-- A value up to which NaN; a pointer names a block by a number of our own. -/
inductive AV where
  | bool (b : Bool)
  | int (k : IntKind) (n : Int)
  | float (x : Nat)
  | complex (re im : Nat)
  | str (s : ByteArray)
  | ptr (a : Option (Nat × Nat))
  | slice (a : Option (Nat × Nat)) (len cap : Nat)
  | func (f : FuncId) (first captured : List AV)
  | nilFunc
  | iface (t : TypeId) (v : AV)
  | nilIface
  | agg (l : List AV)
  | tup (l : List AV)

def AV.cells : AV → List AV
  | .agg l => l
  | v => [v]
/-- The value of one cell. -/
def AV.one : AV → Bool
  | .agg _ | .tup _ => false
  | _ => true

mutual
def VRel (ex : Bool) (μ : Nat → Option Nat) : AV → Value → Prop
  | .bool b, v => v = .bool b
  | .int k n, v => v = .int k n
  | .float a, v => ∃ b, v = .float .f64 b ∧ FR ex a b
  | .complex a c, v => ∃ b d, v = .complex .f64 b d ∧ FR ex a b ∧ FR ex c d
  | .str s, v => v = .string s
  | .ptr none, v => v = .pointer none
  | .ptr (some p), v => ∃ c, μ p.1 = some c ∧ v = .pointer (some ⟨c, p.2, none⟩)
  | .slice none n k, v => n = 0 ∧ k = 0 ∧ v = .slice none 0 0
  | .slice (some p) n k, v => ∃ c, μ p.1 = some c ∧ v = .slice (some ⟨c, p.2, none⟩) n k
  | .func f l r, v => ∃ l' r', v = .func (.func f) l' r' ∧ VRels ex μ l l'.toList ∧ VRels ex μ r r'.toList
  | .nilFunc, v => v = .nilFunc
  | .iface t a, v => ∃ u, v = .iface t u ∧ VRel ex μ a u
  | .nilIface, v => v = .nilIface
  | .agg l, v => ∃ l', v = .agg l' ∧ VRels ex μ l l'.toList
  | .tup l, v => ∃ l', v = .tuple l' ∧ VRels ex μ l l'.toList
def VRels (ex : Bool) (μ : Nat → Option Nat) : List AV → List Value → Prop
  | [], vs => vs = []
  | a :: l, vs => ∃ v r, vs = v :: r ∧ VRel ex μ a v ∧ VRels ex μ l r
end

def MLe (μ μ' : Nat → Option Nat) : Prop := ∀ i c, μ i = some c → μ' i = some c
theorem MLe.refl (μ : Nat → Option Nat) : MLe μ μ := fun _ _ h => h
theorem MLe.trans {a b c : Nat → Option Nat} (h : MLe a b) (h' : MLe b c) : MLe a c := fun i x e => h' i x (h i x e)

mutual
theorem VRel.mono {ex : Bool} {μ μ' : Nat → Option Nat} (h : MLe μ μ') : ∀ (a : AV) (v : Value), VRel ex μ a v → VRel ex μ' a v
  | .bool _, _, r => r
  | .int _ _, _, r => r
  | .float _, _, r => r
  | .complex _ _, _, r => r
  | .str _, _, r => r
  | .ptr none, _, r => r
  | .ptr (some _), _, r => by
    simp only [VRel] at r ⊢
    obtain ⟨c, hc, e⟩ := r
    exact ⟨c, h _ _ hc, e⟩
  | .slice none _ _, _, r => r
  | .slice (some _) _ _, _, r => by
    simp only [VRel] at r ⊢
    obtain ⟨c, hc, e⟩ := r
    exact ⟨c, h _ _ hc, e⟩
  | .func f l q, v, r => by
    simp only [VRel] at r ⊢
    obtain ⟨l', r', e, h1, h2⟩ := r
    exact ⟨l', r', e, VRels.mono h l _ h1, VRels.mono h q _ h2⟩
  | .nilFunc, _, r => r
  | .iface t a, v, r => by
    simp only [VRel] at r ⊢
    obtain ⟨u, e, h1⟩ := r
    exact ⟨u, e, VRel.mono h a u h1⟩
  | .nilIface, _, r => r
  | .agg l, v, r => by
    simp only [VRel] at r ⊢
    obtain ⟨l', e, h1⟩ := r
    exact ⟨l', e, VRels.mono h l _ h1⟩
  | .tup l, v, r => by
    simp only [VRel] at r ⊢
    obtain ⟨l', e, h1⟩ := r
    exact ⟨l', e, VRels.mono h l _ h1⟩
theorem VRels.mono {ex : Bool} {μ μ' : Nat → Option Nat} (h : MLe μ μ') : ∀ (l : List AV) (vs : List Value), VRels ex μ l vs → VRels ex μ' l vs
  | [], _, r => r
  | a :: l, vs, r => by
    simp only [VRels] at r ⊢
    obtain ⟨v, q, e, h1, h2⟩ := r
    exact ⟨v, q, e, VRel.mono h a v h1, VRels.mono h l q h2⟩
end

mutual
/-- It holds no pointer. -/
def AV.flat : AV → Bool
  | .bool _ | .int .. | .float _ | .complex .. | .str _ | .ptr none | .slice none _ _ | .nilFunc | .nilIface => true
  | .ptr (some _) | .slice (some _) _ _ => false
  | .func _ l r => AV.flats l && AV.flats r
  | .iface _ a => AV.flat a
  | .agg l => AV.flats l
  | .tup l => AV.flats l
def AV.flats : List AV → Bool
  | [] => true
  | a :: l => AV.flat a && AV.flats l
end
mutual
theorem VRel.flat {ex : Bool} {μ μ' : Nat → Option Nat} : ∀ (a : AV) (v : Value), a.flat = true → VRel ex μ a v → VRel ex μ' a v
  | .bool _, _, _, r => r
  | .int _ _, _, _, r => r
  | .float _, _, _, r => r
  | .complex _ _, _, _, r => r
  | .str _, _, _, r => r
  | .ptr none, _, _, r => r
  | .ptr (some _), _, f, _ => by simp [AV.flat] at f
  | .slice none _ _, _, _, r => r
  | .slice (some _) _ _, _, f, _ => by simp [AV.flat] at f
  | .func g l q, v, f, r => by
    simp only [AV.flat, Bool.and_eq_true] at f
    simp only [VRel] at r ⊢
    obtain ⟨l', r', e, h1, h2⟩ := r
    exact ⟨l', r', e, VRels.flat l _ f.1 h1, VRels.flat q _ f.2 h2⟩
  | .nilFunc, _, _, r => r
  | .iface t a, v, f, r => by
    simp only [AV.flat] at f
    simp only [VRel] at r ⊢
    obtain ⟨u, e, h1⟩ := r
    exact ⟨u, e, VRel.flat a u f h1⟩
  | .nilIface, _, _, r => r
  | .agg l, v, f, r => by
    simp only [AV.flat] at f
    simp only [VRel] at r ⊢
    obtain ⟨l', e, h1⟩ := r
    exact ⟨l', e, VRels.flat l _ f h1⟩
  | .tup l, v, f, r => by
    simp only [AV.flat] at f
    simp only [VRel] at r ⊢
    obtain ⟨l', e, h1⟩ := r
    exact ⟨l', e, VRels.flat l _ f h1⟩
theorem VRels.flat {ex : Bool} {μ μ' : Nat → Option Nat} : ∀ (l : List AV) (vs : List Value), AV.flats l = true → VRels ex μ l vs → VRels ex μ' l vs
  | [], _, _, r => r
  | a :: l, vs, f, r => by
    simp only [AV.flats, Bool.and_eq_true] at f
    simp only [VRels] at r ⊢
    obtain ⟨v, q, e, h1, h2⟩ := r
    exact ⟨v, q, e, VRel.flat a v f.1 h1, VRels.flat l q f.2 h2⟩
end

section
variable {ex : Bool} {μ : Nat → Option Nat}
theorem VRels.nil_iff {vs : List Value} : VRels ex μ [] vs ↔ vs = [] := by simp only [VRels]
theorem VRels.cons {a : AV} {l : List AV} {v : Value} {vs : List Value} (h : VRel ex μ a v) (h' : VRels ex μ l vs) : VRels ex μ (a :: l) (v :: vs) := by
  simp only [VRels]; exact ⟨v, vs, rfl, h, h'⟩
theorem VRels.nil : VRels ex μ [] [] := by simp only [VRels]
theorem VRels.uncons {a : AV} {l : List AV} {vs : List Value} (h : VRels ex μ (a :: l) vs) : ∃ v r, vs = v :: r ∧ VRel ex μ a v ∧ VRels ex μ l r := by
  simpa only [VRels] using h
theorem VRels.length : ∀ {l : List AV} {vs : List Value}, VRels ex μ l vs → vs.length = l.length
  | [], vs, h => by rw [VRels.nil_iff.1 h]; rfl
  | a :: l, vs, h => by
    obtain ⟨v, r, rfl, _, h2⟩ := h.uncons
    simp [VRels.length h2]
theorem VRels.get : ∀ {l : List AV} {vs : List Value}, VRels ex μ l vs → ∀ {i : Nat} {a : AV}, l[i]? = some a → ∃ v, vs[i]? = some v ∧ VRel ex μ a v
  | [], vs, h, i, a, e => by simp at e
  | b :: l, vs, h, i, a, e => by
    obtain ⟨v, r, rfl, h1, h2⟩ := h.uncons
    cases i with
    | zero => simp at e; subst e; exact ⟨v, by simp, h1⟩
    | succ i => simp at e; obtain ⟨u, hu, hr⟩ := VRels.get h2 e; exact ⟨u, by simpa using hu, hr⟩
theorem VRels.append : ∀ {l : List AV} {vs : List Value}, VRels ex μ l vs → ∀ {l' : List AV} {vs' : List Value}, VRels ex μ l' vs' → VRels ex μ (l ++ l') (vs ++ vs')
  | [], vs, h, l', vs', h' => by rw [VRels.nil_iff.1 h]; exact h'
  | a :: l, vs, h, l', vs', h' => by
    obtain ⟨v, r, rfl, h1, h2⟩ := h.uncons
    exact VRels.cons h1 (VRels.append h2 h')
theorem VRels.take : ∀ {l : List AV} {vs : List Value}, VRels ex μ l vs → ∀ (n : Nat), VRels ex μ (l.take n) (vs.take n)
  | [], vs, h, n => by rw [VRels.nil_iff.1 h]; simp [VRels.nil]
  | a :: l, vs, h, n => by
    obtain ⟨v, r, rfl, h1, h2⟩ := h.uncons
    cases n with
    | zero => simp [VRels.nil]
    | succ n => exact VRels.cons h1 (VRels.take h2 n)
theorem VRels.drop : ∀ {l : List AV} {vs : List Value}, VRels ex μ l vs → ∀ (n : Nat), VRels ex μ (l.drop n) (vs.drop n)
  | [], vs, h, n => by rw [VRels.nil_iff.1 h]; simp [VRels.nil]
  | a :: l, vs, h, n => by
    obtain ⟨v, r, rfl, h1, h2⟩ := h.uncons
    cases n with
    | zero => exact VRels.cons h1 h2
    | succ n => exact VRels.drop h2 n
theorem VRels.set : ∀ {l : List AV} {vs : List Value}, VRels ex μ l vs → ∀ {a : AV} {v : Value}, VRel ex μ a v → ∀ (n : Nat), VRels ex μ (l.set n a) (vs.set n v)
  | [], vs, h, a, v, h', n => by rw [VRels.nil_iff.1 h]; simp [VRels.nil]
  | b :: l, vs, h, a, v, h', n => by
    obtain ⟨u, r, rfl, h1, h2⟩ := h.uncons
    cases n with
    | zero => exact VRels.cons h' h2
    | succ n => exact VRels.cons h1 (VRels.set h2 h' n)
theorem VRels.replicate {a : AV} {v : Value} (h : VRel ex μ a v) : ∀ (n : Nat), VRels ex μ (List.replicate n a) (List.replicate n v)
  | 0 => VRels.nil
  | n + 1 => VRels.cons h (VRels.replicate h n)
theorem VRel.undef : VRel ex μ (.tup []) Go.undef := by
  simp only [VRel]; exact ⟨#[], rfl, VRels.nil⟩
theorem VRels.getD {l : List AV} {vs : List Value} (h : VRels ex μ l vs) (i : Nat) : VRel ex μ (l.getD i (.tup [])) (vs.getD i Go.undef) := by
  rw [List.getD_eq_getElem?_getD, List.getD_eq_getElem?_getD]
  cases e : l[i]? with
  | some a => obtain ⟨v, hv, hr⟩ := h.get e; rw [hv]; exact hr
  | none =>
    have : vs[i]? = none := by rw [List.getElem?_eq_none_iff] at e ⊢; rw [h.length]; exact e
    rw [this]; exact VRel.undef
theorem VRel.one {a : AV} {v : Value} (h : VRel ex μ a v) (h1 : a.one = true) : v.oneCell' = true ∧ v.cells = #[v] := by
  cases a with
  | ptr p => cases p <;> simp only [VRel] at h <;> (first | (subst h; exact ⟨rfl, rfl⟩) | (obtain ⟨c, _, rfl⟩ := h; exact ⟨rfl, rfl⟩))
  | slice p n k => cases p <;> simp only [VRel] at h <;> (first | (obtain ⟨_, _, rfl⟩ := h; exact ⟨rfl, rfl⟩) | (obtain ⟨c, _, rfl⟩ := h; exact ⟨rfl, rfl⟩))
  | agg l => cases h1
  | tup l => cases h1
  | float x => simp only [VRel] at h; obtain ⟨b, rfl, _⟩ := h; exact ⟨rfl, rfl⟩
  | complex x y => simp only [VRel] at h; obtain ⟨b, d, rfl, _⟩ := h; exact ⟨rfl, rfl⟩
  | func f l r => simp only [VRel] at h; obtain ⟨_, _, rfl, _⟩ := h; exact ⟨rfl, rfl⟩
  | iface t u => simp only [VRel] at h; obtain ⟨_, rfl, _⟩ := h; exact ⟨rfl, rfl⟩
  | _ => simp only [VRel] at h; subst h; exact ⟨rfl, rfl⟩
theorem VRel.cells {a : AV} {v : Value} (h : VRel ex μ a v) : VRels ex μ a.cells v.cells.toList := by
  cases ha : a.one with
  | true =>
    rw [(h.one ha).2]
    have : a.cells = [a] := by cases a <;> first | rfl | cases ha
    rw [this]
    exact VRels.cons h VRels.nil
  | false =>
    cases a with
    | agg l => simp only [VRel] at h; obtain ⟨l', rfl, h1⟩ := h; exact h1
    | tup l => simp only [VRel] at h; obtain ⟨l', rfl, h1⟩ := h; exact VRels.cons (by simp only [VRel]; exact ⟨l', rfl, h1⟩) VRels.nil
    | _ => cases ha
end

/-- A constant of the code as an abstract value. -/
def toAV : Nat → Value → Option AV
  | 0, _ => none
  | n + 1, v => match v with
    | .bool b => some (.bool b)
    | .int k i => some (.int k i)
    | .float .f64 b => cond (nanb b || !Nat.blt b 18446744073709551616) none (some (.float b))
    | .complex .f64 a b => cond (nanb a || !Nat.blt a 18446744073709551616 || (nanb b || !Nat.blt b 18446744073709551616)) none (some (.complex a b))
    | .string s => some (.str s)
    | .pointer none => some (.ptr none)
    | .slice none 0 0 => some (.slice none 0 0)
    | .nilFunc => some .nilFunc
    | .nilIface => some .nilIface
    | .agg cs => match cs.toList.mapM (toAV n) with | some l => some (.agg l) | none => none
    | .tuple cs => match cs.toList.mapM (toAV n) with | some l => some (.tup l) | none => none
    | _ => none
theorem FR.const {ex : Bool} {b : Nat} (h : nanb b = false) (hb : b < 2 ^ 64) : FR ex b b := by
  cases ex
  · exact ⟨hb, (cn_of_not h).symm⟩
  · exact ⟨hb, rfl⟩
theorem const_ok {b : Nat} (h : (nanb b || !Nat.blt b 18446744073709551616) = false) : nanb b = false ∧ b < 2 ^ 64 := by
  simp only [Bool.or_eq_false_iff, Bool.not_eq_false', Nat.blt_eq] at h
  exact ⟨h.1, h.2⟩
theorem toAVs_rel {ex : Bool} {μ : Nat → Option Nat} {f : Value → Option AV} (hf : ∀ v a, f v = some a → VRel ex μ a v) : ∀ (vs : List Value) (l : List AV), vs.mapM f = some l → VRels ex μ l vs
  | [], l, h => by simp at h; subst h; exact VRels.nil
  | v :: vs, l, h => by
    simp only [List.mapM_cons, Option.bind_eq_bind, Option.pure_def] at h
    cases h1 : f v with
    | none => simp [h1] at h
    | some a =>
      cases h2 : vs.mapM f with
      | none => simp [h1, h2] at h
      | some r => simp [h1, h2] at h; subst h; exact VRels.cons (hf v a h1) (toAVs_rel hf vs r h2)
theorem toAV_rel {ex : Bool} {μ : Nat → Option Nat} : ∀ (n : Nat) (v : Value) (a : AV), toAV n v = some a → VRel ex μ a v
  | 0, _, _, h => by simp [toAV] at h
  | n + 1, v, a, h => by
    unfold toAV at h
    split at h
    all_goals first
      | (cases h; simp only [VRel]; done)
      | (cases h; simp [VRel]; done)
      | (cases h; simp only [VRel]; exact ⟨rfl, rfl, rfl⟩)
      | (cases h; done)
      | skip
    case h_3 b =>
      cases hb : (nanb b || !Nat.blt b 18446744073709551616) <;> rw [hb] at h
      · cases h; simp only [VRel]; exact ⟨b, rfl, FR.const (const_ok hb).1 (const_ok hb).2⟩
      · cases h
    case h_4 x y =>
      cases hx : (nanb x || !Nat.blt x 18446744073709551616) <;> rw [hx] at h
      · cases hy : (nanb y || !Nat.blt y 18446744073709551616) <;> rw [hy] at h
        · cases h; simp only [VRel]; exact ⟨x, y, rfl, FR.const (const_ok hx).1 (const_ok hx).2, FR.const (const_ok hy).1 (const_ok hy).2⟩
        · cases h
      · cases h
    case h_10 cs =>
      split at h
      · rename_i l hl
        cases h; simp only [VRel]; exact ⟨cs, rfl, toAVs_rel (toAV_rel n) _ _ hl⟩
      · cases h
    case h_11 cs =>
      split at h
      · rename_i l hl
        cases h; simp only [VRel]; exact ⟨cs, rfl, toAVs_rel (toAV_rel n) _ _ hl⟩
      · cases h

/-- A block of memory, as we see it: its first cells, the type that the model marks it with, may it be written. -/
structure Blk where
  cells : List AV
  ty : TypeId
  rw : Bool
abbrev Heap := List Blk

def BRel (ex : Bool) (μ : Nat → Option Nat) (b : Blk) (w : World) (c : Nat) : Prop :=
  ∃ (arr : Array Value) (fz : Nat × Nat), w.heap[c]? = some (.cells arr b.ty fz) ∧ VRels ex μ b.cells arr.toList ∧ (b.rw = true → fz = (0, 0))
/-- Of the blocks that have their place in memory; others may not have it yet. -/
structure HRel (ex : Bool) (μ : Nat → Option Nat) (H : Heap) (w : World) : Prop where
  blk : ∀ (i : Nat) (b : Blk) (c : Nat), H[i]? = some b → μ i = some c → BRel ex μ b w c
  inj : ∀ i j c, μ i = some c → μ j = some c → i = j
  lt : ∀ i c, μ i = some c → c < w.heap.size
def Dom (μ : Nat → Option Nat) (H : Heap) : Prop := ∀ i, H.length ≤ i → μ i = none
theorem Dom.lt {μ : Nat → Option Nat} {H : Heap} {i c : Nat} (hd : Dom μ H) (h : μ i = some c) : i < H.length := by
  rcases Nat.lt_or_ge i H.length with h' | h'
  · exact h'
  · rw [hd i h'] at h; cases h

/-- From (w0, H0, μ0) the run has come to (w, H, μ): what was there and may not be written is as it was, all else that is named is new. -/
structure Goes (ex : Bool) (w0 : World) (H0 : Heap) (μ0 : Nat → Option Nat) (w : World) (H : Heap) (μ : Nat → Option Nat) : Prop where
  rel : HRel ex μ H w
  mu : MLe μ0 μ
  fresh : ∀ i c, μ i = some c → μ0 i = some c ∨ w0.heap.size ≤ c
  ext : ∀ (i : Nat) (b : Blk), H0[i]? = some b → ∃ b' : Blk, H[i]? = some b' ∧ b'.rw = b.rw
  os : w.os = w0.os
  output : w.output = w0.output
  tape : w.tape = w0.tape
  size : w0.heap.size ≤ w.heap.size
  keep : ∀ c, c < w0.heap.size → (∀ (i : Nat) (b : Blk), H0[i]? = some b → b.rw = true → μ0 i ≠ some c) → w.heap[c]? = w0.heap[c]?

theorem Goes.refl {ex : Bool} {w : World} {H : Heap} {μ : Nat → Option Nat} (h : HRel ex μ H w) : Goes ex w H μ w H μ :=
  ⟨h, MLe.refl μ, fun _ _ e => .inl e, fun _ b e => ⟨b, e, rfl⟩, rfl, rfl, rfl, Nat.le_refl _, fun _ _ _ => rfl⟩
theorem Goes.trans {ex : Bool} {w0 w1 w2 : World} {H0 H1 H2 : Heap} {μ0 μ1 μ2 : Nat → Option Nat} (h0 : Dom μ0 H0)
    (a : Goes ex w0 H0 μ0 w1 H1 μ1) (b : Goes ex w1 H1 μ1 w2 H2 μ2) : Goes ex w0 H0 μ0 w2 H2 μ2 where
  rel := b.rel
  mu := a.mu.trans b.mu
  fresh := fun i c e => by
    rcases b.fresh i c e with h | h
    · exact a.fresh i c h
    · exact .inr (Nat.le_trans a.size h)
  ext := fun i x e => by
    obtain ⟨y, hy, e1⟩ := a.ext i x e
    obtain ⟨z, hz, e2⟩ := b.ext i y hy
    exact ⟨z, hz, e2.trans e1⟩
  os := b.os.trans a.os
  output := b.output.trans a.output
  tape := b.tape.trans a.tape
  size := Nat.le_trans a.size b.size
  keep := fun c hc hn => by
    rw [b.keep c (Nat.lt_of_lt_of_le hc a.size) ?_, a.keep c hc hn]
    intro i x hx hrw hm
    rcases a.fresh i c hm with h | h
    · have hi : i < H0.length := h0.lt h
      obtain ⟨y, hy, e1⟩ := a.ext i H0[i] (List.getElem?_eq_getElem hi)
      rw [hx] at hy; cases hy
      exact hn i H0[i] (List.getElem?_eq_getElem hi) (e1 ▸ hrw) h
    · omega
/-- More blocks that have no place yet. -/
theorem Goes.more {ex : Bool} {w0 w : World} {H0 H H' : Heap} {μ0 μ : Nat → Option Nat} (a : Goes ex w0 H0 μ0 w H μ) (hp : ∀ (i : Nat) (b : Blk), H[i]? = some b → H'[i]? = some b) (hn : ∀ (i : Nat) (b : Blk) (c : Nat), H'[i]? = some b → μ i = some c → H[i]? = some b) : Goes ex w0 H0 μ0 w H' μ :=
  ⟨⟨fun i b c hb hc => a.rel.blk i b c (hn i b c hb hc) hc, a.rel.inj, a.rel.lt⟩, a.mu, a.fresh, fun i b e => by obtain ⟨b', h1, h2⟩ := a.ext i b e; exact ⟨b', hp i b' h1, h2⟩, a.os, a.output, a.tape, a.size, a.keep⟩

theorem BRel.of_same {ex : Bool} {μ : Nat → Option Nat} {b : Blk} {w w' : World} {c : Nat} (h : BRel ex μ b w c) (e : w'.heap[c]? = w.heap[c]?) : BRel ex μ b w' c := by
  obtain ⟨arr, fz, h1, h2⟩ := h
  exact ⟨arr, fz, by rw [e]; exact h1, h2⟩
/-- What leaves all old memory as it was. -/
theorem HRel.below {ex : Bool} {w w' : World} {H : Heap} {μ : Nat → Option Nat} (h : HRel ex μ H w) (b : RowKit.Below w.heap.size w w') : HRel ex μ H w' :=
  ⟨fun i x c hx hc => (h.blk i x c hx hc).of_same (b.block c (h.lt i c hc)), h.inj, fun i c e => Nat.lt_of_lt_of_le (h.lt i c e) b.size⟩
theorem Goes.of_below {ex : Bool} {w w' : World} {H : Heap} {μ : Nat → Option Nat} (h : HRel ex μ H w) (b : RowKit.Below w.heap.size w w') : Goes ex w H μ w' H μ :=
  ⟨h.below b, MLe.refl μ, fun _ _ e => .inl e, fun _ b e => ⟨b, e, rfl⟩, b.os, b.output, b.tape, b.size, fun c hc _ => b.block c hc⟩
theorem below_drawn (w : World) (n : Nat) : RowKit.Below w.heap.size w { w with drawn := w.drawn + n } := ⟨rfl, rfl, rfl, Nat.le_refl _, fun _ _ => rfl⟩

/-- The map with one block more. -/
def upd (μ : Nat → Option Nat) (n c : Nat) : Nat → Option Nat := fun i => if i = n then some c else μ i
theorem MLe.upd {μ : Nat → Option Nat} {n c : Nat} (h : μ n = none) : MLe μ (upd μ n c) := fun i d e => by
  unfold Sim.upd
  by_cases hi : i = n
  · subst hi; rw [h] at e; cases e
  · rw [if_neg hi]; exact e

/-- A block of H gets its place: a new one. -/
theorem Goes.alloc {ex : Bool} {w : World} {H : Heap} {μ : Nat → Option Nat} (h : HRel ex μ H w) {n : Nat} (hn : μ n = none) {b : Blk} (hb : H[n]? = some b) {arr : Array Value} (hv : VRels ex μ b.cells arr.toList) :
    Goes ex w H μ (w.alloc (.cells arr b.ty)) H (upd μ n w.heap.size) := by
  have hm : MLe μ (upd μ n w.heap.size) := MLe.upd hn
  have old : ∀ c, c < w.heap.size → (w.alloc (.cells arr b.ty)).heap[c]? = w.heap[c]? := fun c hc => heap_alloc_old w _ c hc
  refine ⟨⟨?_, ?_, ?_⟩, hm, ?_, fun i x e => ⟨x, e, rfl⟩, rfl, rfl, rfl, by simp, fun c hc _ => old c hc⟩
  · intro i x c hx hc
    unfold upd at hc
    split at hc
    · rename_i hi
      subst hi
      rw [hb] at hx; cases hx; cases hc
      exact ⟨arr, (0, 0), heap_alloc_new w _, VRels.mono hm _ _ hv, fun _ => rfl⟩
    · obtain ⟨a', fz, h1, h2, h3⟩ := h.blk i x c hx hc
      exact ⟨a', fz, by rw [old c (h.lt i c hc)]; exact h1, VRels.mono hm _ _ h2, h3⟩
  · intro i j c hi hj
    unfold upd at hi hj
    split at hi <;> split at hj
    · omega
    · cases hi; exact absurd (h.lt _ _ hj) (by omega)
    · cases hj; exact absurd (h.lt _ _ hi) (by omega)
    · exact h.inj i j c hi hj
  · intro i c e
    unfold upd at e
    simp only [World.size_alloc]
    split at e
    · cases e; omega
    · have := h.lt i c e; omega
  · intro i c e
    unfold upd at e
    split at e
    · cases e; exact .inr (Nat.le_refl _)
    · exact .inl e

/-- A block whose cells are written anew. -/
theorem Goes.write {ex : Bool} {w : World} {H : Heap} {μ : Nat → Option Nat} (h : HRel ex μ H w) {i c : Nat} {b : Blk} (hb : H[i]? = some b) (hrw : b.rw = true) (hc : μ i = some c)
    {old arr : Array Value} {l : List AV} (ho : w.heap[c]? = some (.cells old b.ty (0, 0))) (hv : VRels ex μ l arr.toList) :
    Goes ex w H μ (w.setRow c arr) (H.set i { b with cells := l }) μ := by
  have hlt : i < H.length := (List.getElem?_eq_some_iff.1 hb).1
  refine ⟨⟨?_, h.inj, fun j d e => by simpa using h.lt j d e⟩, MLe.refl μ, fun _ _ e => .inl e, ?_, rfl, rfl, rfl, by simp, ?_⟩
  · intro j x d hx hd
    by_cases hj : i = j
    · subst hj
      rw [List.getElem?_set_self hlt] at hx
      cases hx
      rw [hc] at hd; cases hd
      exact ⟨arr, (0, 0), setRow_heap w c old arr b.ty (0, 0) ho, hv, fun _ => rfl⟩
    · rw [List.getElem?_set_ne hj] at hx
      exact (h.blk j x d hx hd).of_same (setRow_other w c d arr (fun hdc => hj (by subst hdc; exact h.inj i j d hc hd)))
  · intro j x hx
    by_cases hj : i = j
    · subst hj
      rw [hb] at hx; cases hx
      exact ⟨{ b with cells := l }, List.getElem?_set_self hlt, rfl⟩
    · exact ⟨x, by rw [List.getElem?_set_ne hj]; exact hx, rfl⟩
  · intro d hd hn
    exact setRow_other w c d arr (fun hdc => hn i b hb hrw (by rw [hdc]; exact hc))

/-- What a whole call leaves to its caller. -/
theorem Goes.below {ex : Bool} {w0 w : World} {H0 H : Heap} {μ0 μ : Nat → Option Nat} (a : Goes ex w0 H0 μ0 w H μ) (hn : ∀ (i : Nat) (b : Blk), H0[i]? = some b → b.rw = false) : RowKit.Below w0.heap.size w0 w :=
  ⟨a.os, a.tape, a.output, a.size, fun c hc => a.keep c hc fun i b hb hrw => by rw [hn i b hb] at hrw; cases hrw⟩

/-- THE CONTRACT: called with values that stand for these, in a world that stands for H, it returns a value that stands for r, and leaves H'. -/
def Sim (P : Program) (ex : Bool) (f : FuncId) (args : List AV) (H : Heap) (r : AV) (H' : Heap) : Prop :=
  ∀ (μ : Nat → Option Nat) (vs : List Value) (w : World), VRels ex μ args vs → HRel ex μ H w → Dom μ H →
    Calls P f vs.toArray w fun e w' => ∃ v μ', e = .returned v ∧ VRel ex μ' r v ∧ Goes ex w H μ w' H' μ' ∧ Dom μ' H'
/-- The same of what only reads: all old memory is as it was. -/
def SimR (P : Program) (ex : Bool) (f : FuncId) (args : List AV) (H : Heap) (r : AV) : Prop :=
  ∀ (μ : Nat → Option Nat) (vs : List Value) (w : World), VRels ex μ args vs → HRel ex μ H w →
    Calls P f vs.toArray w fun e w' => ∃ v, e = .returned v ∧ VRel ex μ r v ∧ RowKit.Below w.heap.size w w'

/-- What no pointer goes into and none comes out of does not look at memory. -/
theorem Sim.pure {P : Program} {ex : Bool} {f : FuncId} {args : List AV} {r : AV} {G : Heap} (h : Sim P ex f args [] r G) (ha : AV.flats args = true) (hr : r.flat = true) (H : Heap) : SimR P ex f args H r := by
  intro μ vs w hv hH
  have h0 : HRel ex (fun _ => none) [] w := ⟨fun i b c e _ => by simp at e, fun i j c e _ => (by cases e), fun i c e => (by cases e)⟩
  refine (h _ vs w (VRels.flat _ _ ha hv) h0 (fun _ _ => rfl)).mono ?_
  rintro e w' ⟨v, μ', rfl, hr', g, _⟩
  exact ⟨v, rfl, VRel.flat _ _ hr hr', g.below fun i b e => by simp at e⟩
theorem SimR.sim {P : Program} {ex : Bool} {f : FuncId} {args : List AV} {H : Heap} {r : AV} (h : SimR P ex f args H r) : Sim P ex f args H r H := by
  intro μ vs w hv hH hd
  refine (h μ vs w hv hH).mono ?_
  rintro e w' ⟨v, rfl, hr, hb⟩
  exact ⟨v, μ, rfl, hr, Goes.of_below hH hb, hd⟩
end Go.Sim
