/- Abstract values with lists of any length, what it means that a value, a block, a world stand for them, and what a stretch of the run may do to memory. -/
import Derived.Calls
import Derived.ChangeKeysEq
import Derived.Laws.Tables
import Derived.Laws.Rows
import Derived.Below
import Derived.Test.YtbkogihigehjlaaSimFloat
namespace Go.Lst
open Go.Sim (FR nanb cn cn_of_not)

/-- A place in a block: a number, or cell k of the element i of a row of elements of s cells; 'idx': of a row of n elements, in a block of which each cell is known. -/
inductive Off where
  | lit (n : Nat)
  | at (i s k : Nat)
  | idx (i s k n : Nat)
def Off.val : Off → Nat
  | .lit n => n
  | .at i s k => i * s + k
  | .idx i s k _ => i * s + k
structure Pos where
  b : Nat
  g : Nat
  o : Off
/-- A value up to which NaN ('unk n': a truth that is not known; where it is true, n is nought; 'alt': the one or the other, of two kinds that an interface may hold). 'ptr', 'slice', 'lst' lead into blocks of our own (number, generation); 'vptr', 'view' into memory that nobody writes, and say what lies there. -/
inductive AV where
  | bool (b : Bool)
  | int (k : IntKind) (n : Int)
  | float (x : Nat)
  | complex (re im : Nat)
  | str (s : ByteArray)
  | ptr (a : Option Pos)
  | vptr (l : List AV)
  | slice (a : Option Pos) (len cap : Nat)
  | lst (b g s len lo : Nat)
  | view (len s : Nat) (f : Nat → List AV)
  | nul
  | top
  | func (f : FuncId) (first captured : List AV)
  | nilFunc
  | iface (t : TypeId) (v : AV)
  | nilIface
  | unk (n : Nat)
  | alt (q : Bool) (x y : AV)
  | agg (l : List AV)
  | tup (l : List AV)

/-- The cells of a value; of one of which nothing is known: unknown. -/
def AV.cells : AV → Option (List AV)
  | .agg l => some l
  | .top => none
  | .alt _ _ _ => none
  | v => some [v]
/-- The value of one cell. -/
def AV.one : AV → Bool
  | .agg _ | .tup _ | .top | .alt _ _ _ => false
  | _ => true

/-- Where the blocks lie (block, generation: block of memory, its size); the world whose memory stays. -/
structure Mu where
  pl : Nat → Nat → Option (Nat × Nat)
  w0 : World
def maxN : Nat := 9223372036854775807
mutual
def VRel (ex : Bool) (μ : Mu) : AV → Value → Prop
  | .bool b, v => v = .bool b
  | .int k n, v => v = .int k n
  | .float a, v => ∃ b, v = .float .f64 b ∧ FR ex a b
  | .complex a c, v => ∃ b d, v = .complex .f64 b d ∧ FR ex a b ∧ FR ex c d
  | .str s, v => v = .string s
  | .ptr none, v => v = .pointer none
  | .ptr (some p), v => ∃ c z, μ.pl p.b p.g = some (c, z) ∧ v = .pointer (some ⟨c, p.o.val, none⟩)
  | .vptr l, v => ∃ c o arr t fz, v = .pointer (some ⟨c, o, none⟩) ∧ μ.w0.heap[c]? = some (.cells arr t fz) ∧ VRels ex μ l ((arr.toList.drop o).take l.length)
  | .slice none n k, v => n = 0 ∧ k = 0 ∧ v = .slice none 0 0
  | .slice (some p) n k, v => ∃ c z, μ.pl p.b p.g = some (c, z) ∧ v = .slice (some ⟨c, p.o.val, none⟩) n k
  | .lst b g s n lo, v => ∃ a cap, v = .slice a n cap ∧ n ≤ cap ∧ lo ≤ cap ∧ cap ≤ maxN ∧ (cap = 0 ∨ ∃ c z, μ.pl b g = some (c, z) ∧ a = some ⟨c, 0, none⟩ ∧ cap * s = z)
  | .view n s f, v => ∃ a cap, v = .slice a n cap ∧ n ≤ cap ∧ (n = 0 ∨ ∃ c o arr t fz, a = some ⟨c, o, none⟩ ∧ μ.w0.heap[c]? = some (.cells arr t fz) ∧ o + n * s ≤ arr.size ∧ ∀ i, i < n → VRels ex μ (f i) ((arr.toList.drop (o + i * s)).take s) ∧ ∀ u ∈ (arr.toList.drop (o + i * s)).take s, u.oneCell' = true)
  | .nul, v => ∃ a, v = .slice a 0 0
  | .top, _ => True
  | .func f l r, v => ∃ l' r', v = .func (.func f) l' r' ∧ VRels ex μ l l'.toList ∧ VRels ex μ r r'.toList
  | .nilFunc, v => v = .nilFunc
  | .iface t a, v => ∃ u, v = .iface t u ∧ VRel ex μ a u
  | .nilIface, v => v = .nilIface
  | .unk n, v => ∃ b : Bool, v = .bool b ∧ (b = true → n = 0)
  | .alt q x y, v => (q = true → VRel ex μ x v) ∧ (q = false → VRel ex μ y v)
  | .agg l, v => ∃ l', v = .agg l' ∧ VRels ex μ l l'.toList
  | .tup l, v => ∃ l', v = .tuple l' ∧ VRels ex μ l l'.toList
def VRels (ex : Bool) (μ : Mu) : List AV → List Value → Prop
  | [], vs => vs = []
  | a :: l, vs => ∃ v r, vs = v :: r ∧ VRel ex μ a v ∧ VRels ex μ l r
end

/-- What is placed stays placed; and the memory that stays stays so. -/
structure MLe (μ μ' : Mu) : Prop where
  pl : ∀ i g c, μ.pl i g = some c → μ'.pl i g = some c
  w0 : ∀ c, c < μ.w0.heap.size → μ'.w0.heap[c]? = μ.w0.heap[c]?
theorem MLe.refl (μ : Mu) : MLe μ μ := ⟨fun _ _ _ h => h, fun _ _ => rfl⟩
theorem size_of_heap {w w' : World} (h : ∀ c, c < w.heap.size → w'.heap[c]? = w.heap[c]?) : w.heap.size ≤ w'.heap.size := by
  rcases Nat.lt_or_ge w'.heap.size w.heap.size with hl | hl
  · have := h _ hl
    rw [Array.getElem?_eq_none (Nat.le_refl _), Array.getElem?_eq_getElem hl] at this; cases this
  · exact hl
theorem MLe.trans {a b c : Mu} (h : MLe a b) (h' : MLe b c) : MLe a c :=
  ⟨fun i g x e => h'.pl i g x (h.pl i g x e), fun x hx => (h'.w0 x (Nat.lt_of_lt_of_le hx (size_of_heap h.w0))).trans (h.w0 x hx)⟩
theorem MLe.at {μ μ' : Mu} (h : MLe μ μ') {c : Nat} {o : Obj} (e : μ.w0.heap[c]? = some o) : μ'.w0.heap[c]? = some o := by
  rw [h.w0 c (Array.getElem?_eq_some_iff.1 e).1]; exact e

mutual
theorem VRel.mono {ex : Bool} {μ μ' : Mu} (h : MLe μ μ') : ∀ (a : AV) (v : Value), VRel ex μ a v → VRel ex μ' a v
  | .bool _, _, r => r
  | .int _ _, _, r => r
  | .float _, _, r => r
  | .complex _ _, _, r => r
  | .str _, _, r => r
  | .ptr none, _, r => r
  | .ptr (some _), _, r => by
    simp only [VRel] at r ⊢
    obtain ⟨c, z, hc, e⟩ := r
    exact ⟨c, z, h.pl _ _ _ hc, e⟩
  | .vptr l, _, r => by
    simp only [VRel] at r ⊢
    obtain ⟨c, o, arr, t, fz, e, h1, h2⟩ := r
    exact ⟨c, o, arr, t, fz, e, h.at h1, VRels.mono h l _ h2⟩
  | .slice none _ _, _, r => r
  | .slice (some _) _ _, _, r => by
    simp only [VRel] at r ⊢
    obtain ⟨c, z, hc, e⟩ := r
    exact ⟨c, z, h.pl _ _ _ hc, e⟩
  | .lst _ _ _ _ _, _, r => by
    simp only [VRel] at r ⊢
    obtain ⟨a, cap, e, h1, h2, h3, h4⟩ := r
    refine ⟨a, cap, e, h1, h2, h3, h4.imp id ?_⟩
    rintro ⟨c, z, hc, h5, h6⟩
    exact ⟨c, z, h.pl _ _ _ hc, h5, h6⟩
  | .view n s f, _, r => by
    simp only [VRel] at r ⊢
    obtain ⟨a, cap, e, h1, h4⟩ := r
    refine ⟨a, cap, e, h1, h4.imp id ?_⟩
    rintro ⟨c, o, arr, t, fz, e1, e2, e4, e3⟩
    exact ⟨c, o, arr, t, fz, e1, h.at e2, e4, fun i hi => ⟨VRels.mono h (f i) _ (e3 i hi).1, (e3 i hi).2⟩⟩
  | .nul, _, r => r
  | .top, _, r => r
  | .func f l q, v, r => by
    simp only [VRel] at r ⊢
    obtain ⟨l', r', e, h1, h2⟩ := r
    exact ⟨l', r', e, VRels.mono h l _ h1, VRels.mono h q _ h2⟩
  | .nilFunc, _, r => r
  | .iface t a, v, r => by
    simp only [VRel] at r ⊢
    obtain ⟨u, e, h1⟩ := r
    exact ⟨u, e, VRel.mono h a u h1⟩
  | .nilIface, _, r => r
  | .unk _, _, r => r
  | .alt q x y, v, r => by
    simp only [VRel] at r ⊢
    exact ⟨fun e => VRel.mono h x v (r.1 e), fun e => VRel.mono h y v (r.2 e)⟩
  | .agg l, v, r => by
    simp only [VRel] at r ⊢
    obtain ⟨l', e, h1⟩ := r
    exact ⟨l', e, VRels.mono h l _ h1⟩
  | .tup l, v, r => by
    simp only [VRel] at r ⊢
    obtain ⟨l', e, h1⟩ := r
    exact ⟨l', e, VRels.mono h l _ h1⟩
theorem VRels.mono {ex : Bool} {μ μ' : Mu} (h : MLe μ μ') : ∀ (l : List AV) (vs : List Value), VRels ex μ l vs → VRels ex μ' l vs
  | [], _, r => r
  | a :: l, vs, r => by
    simp only [VRels] at r ⊢
    obtain ⟨v, q, e, h1, h2⟩ := r
    exact ⟨v, q, e, VRel.mono h a v h1, VRels.mono h l q h2⟩
end

mutual
/-- It holds no pointer and no list. -/
def AV.flat : AV → Bool
  | .bool _ | .int .. | .float _ | .complex .. | .str _ | .ptr none | .slice none _ _ | .nilFunc | .nilIface | .nul | .unk _ => true
  | .ptr (some _) | .slice (some _) _ _ | .vptr _ | .view .. | .lst .. | .top => false
  | .func _ l r => AV.flats l && AV.flats r
  | .iface _ a => AV.flat a
  | .alt _ a b => AV.flat a && AV.flat b
  | .agg l => AV.flats l
  | .tup l => AV.flats l
def AV.flats : List AV → Bool
  | [] => true
  | a :: l => AV.flat a && AV.flats l
end
mutual
theorem VRel.flat {ex : Bool} {μ μ' : Mu} : ∀ (a : AV) (v : Value), a.flat = true → VRel ex μ a v → VRel ex μ' a v
  | .bool _, _, _, r => r
  | .int _ _, _, _, r => r
  | .float _, _, _, r => r
  | .complex _ _, _, _, r => r
  | .str _, _, _, r => r
  | .ptr none, _, _, r => r
  | .ptr (some _), _, f, _ => by simp [AV.flat] at f
  | .vptr _, _, f, _ => by simp [AV.flat] at f
  | .slice none _ _, _, _, r => r
  | .slice (some _) _ _, _, f, _ => by simp [AV.flat] at f
  | .lst _ _ _ _ _, _, f, _ => by simp [AV.flat] at f
  | .view _ _ _, _, f, _ => by simp [AV.flat] at f
  | .nul, _, _, r => r
  | .top, _, f, _ => by simp [AV.flat] at f
  | .func g l q, v, f, r => by
    simp only [AV.flat, Bool.and_eq_true] at f
    simp only [VRel] at r ⊢
    obtain ⟨l', r', e, h1, h2⟩ := r
    exact ⟨l', r', e, VRels.flat l _ f.1 h1, VRels.flat q _ f.2 h2⟩
  | .nilFunc, _, _, r => r
  | .iface t a, v, f, r => by
    simp only [AV.flat] at f
    simp only [VRel] at r ⊢
    obtain ⟨u, e, h1⟩ := r
    exact ⟨u, e, VRel.flat a u f h1⟩
  | .nilIface, _, _, r => r
  | .unk _, _, _, r => r
  | .alt q x y, v, f, r => by
    simp only [AV.flat, Bool.and_eq_true] at f
    simp only [VRel] at r ⊢
    exact ⟨fun e => VRel.flat x v f.1 (r.1 e), fun e => VRel.flat y v f.2 (r.2 e)⟩
  | .agg l, v, f, r => by
    simp only [AV.flat] at f
    simp only [VRel] at r ⊢
    obtain ⟨l', e, h1⟩ := r
    exact ⟨l', e, VRels.flat l _ f h1⟩
  | .tup l, v, f, r => by
    simp only [AV.flat] at f
    simp only [VRel] at r ⊢
    obtain ⟨l', e, h1⟩ := r
    exact ⟨l', e, VRels.flat l _ f h1⟩
theorem VRels.flat {ex : Bool} {μ μ' : Mu} : ∀ (l : List AV) (vs : List Value), AV.flats l = true → VRels ex μ l vs → VRels ex μ' l vs
  | [], _, _, r => r
  | a :: l, vs, f, r => by
    simp only [AV.flats, Bool.and_eq_true] at f
    simp only [VRels] at r ⊢
    obtain ⟨v, q, e, h1, h2⟩ := r
    exact ⟨v, q, e, VRel.flat a v f.1 h1, VRels.flat l q f.2 h2⟩
end

section
variable {ex : Bool} {μ : Mu}
theorem VRels.nil_iff {vs : List Value} : VRels ex μ [] vs ↔ vs = [] := by simp only [VRels]
theorem VRels.cons {a : AV} {l : List AV} {v : Value} {vs : List Value} (h : VRel ex μ a v) (h' : VRels ex μ l vs) : VRels ex μ (a :: l) (v :: vs) := by
  simp only [VRels]; exact ⟨v, vs, rfl, h, h'⟩
theorem VRels.nil : VRels ex μ [] [] := by simp only [VRels]
theorem VRels.uncons {a : AV} {l : List AV} {vs : List Value} (h : VRels ex μ (a :: l) vs) : ∃ v r, vs = v :: r ∧ VRel ex μ a v ∧ VRels ex μ l r := by
  simpa only [VRels] using h
theorem VRels.length : ∀ {l : List AV} {vs : List Value}, VRels ex μ l vs → vs.length = l.length
  | [], vs, h => by rw [VRels.nil_iff.1 h]; rfl
  | a :: l, vs, h => by
    obtain ⟨v, r, rfl, _, h2⟩ := h.uncons
    simp [VRels.length h2]
theorem VRels.get : ∀ {l : List AV} {vs : List Value}, VRels ex μ l vs → ∀ {i : Nat} {a : AV}, l[i]? = some a → ∃ v, vs[i]? = some v ∧ VRel ex μ a v
  | [], vs, h, i, a, e => by simp at e
  | b :: l, vs, h, i, a, e => by
    obtain ⟨v, r, rfl, h1, h2⟩ := h.uncons
    cases i with
    | zero => simp at e; subst e; exact ⟨v, by simp, h1⟩
    | succ i => simp at e; obtain ⟨u, hu, hr⟩ := VRels.get h2 e; exact ⟨u, by simpa using hu, hr⟩
theorem VRels.append : ∀ {l : List AV} {vs : List Value}, VRels ex μ l vs → ∀ {l' : List AV} {vs' : List Value}, VRels ex μ l' vs' → VRels ex μ (l ++ l') (vs ++ vs')
  | [], vs, h, l', vs', h' => by rw [VRels.nil_iff.1 h]; exact h'
  | a :: l, vs, h, l', vs', h' => by
    obtain ⟨v, r, rfl, h1, h2⟩ := h.uncons
    exact VRels.cons h1 (VRels.append h2 h')
theorem VRels.take : ∀ {l : List AV} {vs : List Value}, VRels ex μ l vs → ∀ (n : Nat), VRels ex μ (l.take n) (vs.take n)
  | [], vs, h, n => by rw [VRels.nil_iff.1 h]; simp [VRels.nil]
  | a :: l, vs, h, n => by
    obtain ⟨v, r, rfl, h1, h2⟩ := h.uncons
    cases n with
    | zero => simp [VRels.nil]
    | succ n => exact VRels.cons h1 (VRels.take h2 n)
theorem VRels.drop : ∀ {l : List AV} {vs : List Value}, VRels ex μ l vs → ∀ (n : Nat), VRels ex μ (l.drop n) (vs.drop n)
  | [], vs, h, n => by rw [VRels.nil_iff.1 h]; simp [VRels.nil]
  | a :: l, vs, h, n => by
    obtain ⟨v, r, rfl, h1, h2⟩ := h.uncons
    cases n with
    | zero => exact VRels.cons h1 h2
    | succ n => exact VRels.drop h2 n
theorem VRels.set : ∀ {l : List AV} {vs : List Value}, VRels ex μ l vs → ∀ {a : AV} {v : Value}, VRel ex μ a v → ∀ (n : Nat), VRels ex μ (l.set n a) (vs.set n v)
  | [], vs, h, a, v, h', n => by rw [VRels.nil_iff.1 h]; simp [VRels.nil]
  | b :: l, vs, h, a, v, h', n => by
    obtain ⟨u, r, rfl, h1, h2⟩ := h.uncons
    cases n with
    | zero => exact VRels.cons h' h2
    | succ n => exact VRels.cons h1 (VRels.set h2 h' n)
theorem VRels.replicate {a : AV} {v : Value} (h : VRel ex μ a v) : ∀ (n : Nat), VRels ex μ (List.replicate n a) (List.replicate n v)
  | 0 => VRels.nil
  | n + 1 => VRels.cons h (VRels.replicate h n)
theorem VRel.undef : VRel ex μ (.tup []) Go.undef := by
  simp only [VRel]; exact ⟨#[], rfl, VRels.nil⟩
theorem VRels.getD {l : List AV} {vs : List Value} (h : VRels ex μ l vs) (i : Nat) : VRel ex μ (l.getD i (.tup [])) (vs.getD i Go.undef) := by
  rw [List.getD_eq_getElem?_getD, List.getD_eq_getElem?_getD]
  cases e : l[i]? with
  | some a => obtain ⟨v, hv, hr⟩ := h.get e; rw [hv]; exact hr
  | none =>
    have : vs[i]? = none := by rw [List.getElem?_eq_none_iff] at e ⊢; rw [h.length]; exact e
    rw [this]; exact VRel.undef
theorem VRel.one {a : AV} {v : Value} (h : VRel ex μ a v) (h1 : a.one = true) : v.oneCell' = true ∧ v.cells = #[v] := by
  cases a with
  | ptr p => cases p <;> simp only [VRel] at h <;> (first | (subst h; exact ⟨rfl, rfl⟩) | (obtain ⟨c, z, _, rfl⟩ := h; exact ⟨rfl, rfl⟩))
  | vptr l => simp only [VRel] at h; obtain ⟨c, o, arr, t, fz, rfl, _⟩ := h; exact ⟨rfl, rfl⟩
  | slice p n k => cases p <;> simp only [VRel] at h <;> (first | (obtain ⟨_, _, rfl⟩ := h; exact ⟨rfl, rfl⟩) | (obtain ⟨c, z, _, rfl⟩ := h; exact ⟨rfl, rfl⟩))
  | lst b g s n lo => simp only [VRel] at h; obtain ⟨c, cap, rfl, _⟩ := h; exact ⟨rfl, rfl⟩
  | view n s f => simp only [VRel] at h; obtain ⟨c, cap, rfl, _⟩ := h; exact ⟨rfl, rfl⟩
  | nul => simp only [VRel] at h; obtain ⟨c, rfl⟩ := h; exact ⟨rfl, rfl⟩
  | top => cases h1
  | alt q x y => cases h1
  | agg l => cases h1
  | tup l => cases h1
  | float x => simp only [VRel] at h; obtain ⟨b, rfl, _⟩ := h; exact ⟨rfl, rfl⟩
  | complex x y => simp only [VRel] at h; obtain ⟨b, d, rfl, _⟩ := h; exact ⟨rfl, rfl⟩
  | func f l r => simp only [VRel] at h; obtain ⟨_, _, rfl, _⟩ := h; exact ⟨rfl, rfl⟩
  | iface t u => simp only [VRel] at h; obtain ⟨_, rfl, _⟩ := h; exact ⟨rfl, rfl⟩
  | unk n => simp only [VRel] at h; obtain ⟨_, rfl, _⟩ := h; exact ⟨rfl, rfl⟩
  | _ => simp only [VRel] at h; subst h; exact ⟨rfl, rfl⟩
theorem VRel.cells {a : AV} {v : Value} (h : VRel ex μ a v) {l : List AV} (hl : a.cells = some l) : VRels ex μ l v.cells.toList := by
  cases ha : a.one with
  | true =>
    rw [(h.one ha).2]
    have : a.cells = some [a] := by cases a <;> first | rfl | cases ha
    rw [this] at hl; cases hl
    exact VRels.cons h VRels.nil
  | false =>
    cases a with
    | agg l => simp only [VRel] at h; obtain ⟨l', rfl, h1⟩ := h; cases hl; exact h1
    | tup l => simp only [VRel] at h; obtain ⟨l', rfl, h1⟩ := h; cases hl; exact VRels.cons (by simp only [VRel]; exact ⟨l', rfl, h1⟩) VRels.nil
    | top => cases hl
    | alt q x y => cases hl
    | _ => cases ha
end

/-- A constant of the code as an abstract value. -/
def toAV : Nat → Value → Option AV
  | 0, _ => none
  | n + 1, v => match v with
    | .bool b => some (.bool b)
    | .int k i => some (.int k i)
    | .float .f64 b => cond (nanb b || !Nat.blt b 18446744073709551616) none (some (.float b))
    | .complex .f64 a b => cond (nanb a || !Nat.blt a 18446744073709551616 || (nanb b || !Nat.blt b 18446744073709551616)) none (some (.complex a b))
    | .string s => some (.str s)
    | .pointer none => some (.ptr none)
    | .slice none 0 0 => some (.slice none 0 0)
    | .nilFunc => some .nilFunc
    | .nilIface => some .nilIface
    | .agg cs => match cs.toList.mapM (toAV n) with | some l => some (.agg l) | none => none
    | .tuple cs => match cs.toList.mapM (toAV n) with | some l => some (.tup l) | none => none
    | _ => none
theorem FR.const {ex : Bool} {b : Nat} (h : nanb b = false) (hb : b < 2 ^ 64) : FR ex b b := by
  cases ex
  · exact ⟨hb, (cn_of_not h).symm⟩
  · exact ⟨hb, rfl⟩
theorem const_ok {b : Nat} (h : (nanb b || !Nat.blt b 18446744073709551616) = false) : nanb b = false ∧ b < 2 ^ 64 := by
  simp only [Bool.or_eq_false_iff, Bool.not_eq_false', Nat.blt_eq] at h
  exact ⟨h.1, h.2⟩
theorem toAVs_rel {ex : Bool} {μ : Mu} {f : Value → Option AV} (hf : ∀ v a, f v = some a → VRel ex μ a v) : ∀ (vs : List Value) (l : List AV), vs.mapM f = some l → VRels ex μ l vs
  | [], l, h => by simp at h; subst h; exact VRels.nil
  | v :: vs, l, h => by
    simp only [List.mapM_cons, Option.bind_eq_bind, Option.pure_def] at h
    cases h1 : f v with
    | none => simp [h1] at h
    | some a =>
      cases h2 : vs.mapM f with
      | none => simp [h1, h2] at h
      | some r => simp [h1, h2] at h; subst h; exact VRels.cons (hf v a h1) (toAVs_rel hf vs r h2)
theorem toAV_rel {ex : Bool} {μ : Mu} : ∀ (n : Nat) (v : Value) (a : AV), toAV n v = some a → VRel ex μ a v
  | 0, _, _, h => by simp [toAV] at h
  | n + 1, v, a, h => by
    unfold toAV at h
    split at h
    all_goals first
      | (cases h; simp only [VRel]; done)
      | (cases h; simp [VRel]; done)
      | (cases h; simp only [VRel]; exact ⟨rfl, rfl, rfl⟩)
      | (cases h; done)
      | skip
    case h_3 b =>
      cases hb : (nanb b || !Nat.blt b 18446744073709551616) <;> rw [hb] at h
      · cases h; simp only [VRel]; exact ⟨b, rfl, FR.const (const_ok hb).1 (const_ok hb).2⟩
      · cases h
    case h_4 x y =>
      cases hx : (nanb x || !Nat.blt x 18446744073709551616) <;> rw [hx] at h
      · cases hy : (nanb y || !Nat.blt y 18446744073709551616) <;> rw [hy] at h
        · cases h; simp only [VRel]; exact ⟨x, y, rfl, FR.const (const_ok hx).1 (const_ok hx).2, FR.const (const_ok hy).1 (const_ok hy).2⟩
        · cases h
      · cases h
    case h_10 cs =>
      split at h
      · rename_i l hl
        cases h; simp only [VRel]; exact ⟨cs, rfl, toAVs_rel (toAV_rel n) _ _ hl⟩
      · cases h
    case h_11 cs =>
      split at h
      · rename_i l hl
        cases h; simp only [VRel]; exact ⟨cs, rfl, toAVs_rel (toAV_rel n) _ _ hl⟩
      · cases h

/-- The cells of a block: each written down; or rows of s cells each, as many as n (the block may be longer). -/
inductive Cells where
  | flat (l : List AV)
  | sym (n s : Nat) (f : Nat → List AV)
def CRel (ex : Bool) (μ : Mu) : Cells → List Value → Prop
  | .flat l, vs => VRels ex μ l vs
  | .sym n s f, vs => n * s ≤ vs.length ∧ ∀ i, i < n → VRels ex μ (f i) ((vs.drop (i * s)).take s) ∧ ∀ u ∈ (vs.drop (i * s)).take s, u.oneCell' = true
theorem CRel.mono {ex : Bool} {μ μ' : Mu} (h : MLe μ μ') {c : Cells} {vs : List Value} (r : CRel ex μ c vs) : CRel ex μ' c vs := by
  cases c with
  | flat l => exact VRels.mono h _ _ r
  | sym n s f => exact ⟨r.1, fun i hi => ⟨VRels.mono h _ _ (r.2 i hi).1, (r.2 i hi).2⟩⟩
/-- A block of memory, as we see it: its cells, the type that the model marks it with, its generation. -/
structure Blk where
  cells : Cells
  ty : TypeId
  g : Nat
abbrev Heap := List Blk

def BRel (ex : Bool) (μ : Mu) (b : Blk) (w : World) (c z : Nat) : Prop :=
  ∃ arr : Array Value, w.heap[c]? = some (.cells arr b.ty (0, 0)) ∧ arr.size = z ∧ CRel ex μ b.cells arr.toList
/-- Of the blocks that have their place in memory; others may not have it yet. -/
structure HRel (ex : Bool) (μ : Mu) (H : Heap) (w : World) : Prop where
  blk : ∀ (i : Nat) (b : Blk) (c z : Nat), H[i]? = some b → μ.pl i b.g = some (c, z) → BRel ex μ b w c z
  inj : ∀ (i j : Nat) (b b' : Blk) (c z z' : Nat), H[i]? = some b → H[j]? = some b' → μ.pl i b.g = some (c, z) → μ.pl j b'.g = some (c, z') → i = j
  lt : ∀ i g c z, μ.pl i g = some (c, z) → μ.w0.heap.size ≤ c ∧ c < w.heap.size
  old : ∀ c, c < μ.w0.heap.size → w.heap[c]? = μ.w0.heap[c]?
structure Dom (μ : Mu) (H : Heap) : Prop where
  out : ∀ i g, H.length ≤ i → μ.pl i g = none
  gen : ∀ (i : Nat) (b : Blk) (g : Nat), H[i]? = some b → b.g < g → μ.pl i g = none
theorem Dom.lt {μ : Mu} {H : Heap} {i g : Nat} {c : Nat × Nat} (hd : Dom μ H) (h : μ.pl i g = some c) : i < H.length := by
  rcases Nat.lt_or_ge i H.length with h' | h'
  · exact h'
  · rw [hd.out i g h'] at h; cases h

/-- From (w0, H0, μ0) the run has come to (w, H, μ): what was there and is no block's is as it was, all else that is named is new. -/
structure Goes (ex : Bool) (w0 : World) (H0 : Heap) (μ0 : Mu) (w : World) (H : Heap) (μ : Mu) : Prop where
  rel : HRel ex μ H w
  mu : MLe μ0 μ
  stay : μ.w0 = μ0.w0
  fresh : ∀ i g c z, μ.pl i g = some (c, z) → (∃ g' z', μ0.pl i g' = some (c, z')) ∨ w0.heap.size ≤ c
  ext : H0.length ≤ H.length
  os : w.os = w0.os
  output : w.output = w0.output
  tape : w.tape = w0.tape
  size : w0.heap.size ≤ w.heap.size
  keep : ∀ c, c < w0.heap.size → (∀ i g z, μ0.pl i g ≠ some (c, z)) → w.heap[c]? = w0.heap[c]?

theorem Goes.refl {ex : Bool} {w : World} {H : Heap} {μ : Mu} (h : HRel ex μ H w) : Goes ex w H μ w H μ :=
  ⟨h, MLe.refl μ, rfl, fun _ g _ z e => .inl ⟨g, z, e⟩, Nat.le_refl _, rfl, rfl, rfl, Nat.le_refl _, fun _ _ _ => rfl⟩
theorem Goes.trans {ex : Bool} {w0 w1 w2 : World} {H0 H1 H2 : Heap} {μ0 μ1 μ2 : Mu}
    (a : Goes ex w0 H0 μ0 w1 H1 μ1) (b : Goes ex w1 H1 μ1 w2 H2 μ2) : Goes ex w0 H0 μ0 w2 H2 μ2 where
  rel := b.rel
  mu := a.mu.trans b.mu
  stay := b.stay.trans a.stay
  fresh := fun i g c z e => by
    rcases b.fresh i g c z e with ⟨g', z', h⟩ | h
    · exact a.fresh i g' c z' h
    · exact .inr (Nat.le_trans a.size h)
  ext := Nat.le_trans a.ext b.ext
  os := b.os.trans a.os
  output := b.output.trans a.output
  tape := b.tape.trans a.tape
  size := Nat.le_trans a.size b.size
  keep := fun c hc hn => by
    rw [b.keep c (Nat.lt_of_lt_of_le hc a.size) ?_, a.keep c hc hn]
    intro i g z hm
    rcases a.fresh i g c z hm with ⟨g', z', h⟩ | h
    · exact hn i g' z' h
    · omega
/-- The one is the other's beginning. -/
def HLe (H H' : Heap) : Prop := ∀ (i : Nat) (b : Blk), H[i]? = some b → H'[i]? = some b
theorem HLe.refl (H : Heap) : HLe H H := fun _ _ h => h
theorem HLe.trans {a b c : Heap} (h : HLe a b) (h' : HLe b c) : HLe a c := fun i x e => h' i x (h i x e)
theorem HLe.length {H H' : Heap} (h : HLe H H') : H.length ≤ H'.length := by
  rcases Nat.lt_or_ge H'.length H.length with hl | hl
  · have := h H'.length H[H'.length] (List.getElem?_eq_getElem hl)
    rw [List.getElem?_eq_none (Nat.le_refl _)] at this; cases this
  · exact hl
theorem HLe.back {H H' : Heap} (h : HLe H H') {μ : Mu} (hd : Dom μ H) {i g : Nat} {b : Blk} {c : Nat × Nat} (hb : H'[i]? = some b) (hc : μ.pl i g = some c) : H[i]? = some b := by
  have hi := hd.lt hc
  have := h i H[i] (List.getElem?_eq_getElem hi)
  rw [hb] at this; cases this
  exact List.getElem?_eq_getElem hi
theorem Dom.le {μ : Mu} {H H' : Heap} (hd : Dom μ H) (h : HLe H H') : Dom μ H' :=
  ⟨fun i g hi => hd.out i g (Nat.le_trans h.length hi), fun i b g hb hg => by
    cases hc : μ.pl i g with
    | none => rfl
    | some c => rw [hd.gen i b g (h.back hd hb hc) hg] at hc; cases hc⟩
theorem HRel.le {ex : Bool} {μ : Mu} {H H' : Heap} {w : World} (a : HRel ex μ H w) (hd : Dom μ H) (h : HLe H H') : HRel ex μ H' w :=
  ⟨fun i b c z hb hc => a.blk i b c z (h.back hd hb hc) hc, fun i j b b' c z z' hb hb' hc hc' => a.inj i j b b' c z z' (h.back hd hb hc) (h.back hd hb' hc') hc hc', a.lt, a.old⟩
/-- More blocks that have no place yet. -/
theorem Goes.more {ex : Bool} {w0 w : World} {H0 H H' : Heap} {μ0 μ : Mu} (a : Goes ex w0 H0 μ0 w H μ) (hd : Dom μ H) (h : HLe H H') : Goes ex w0 H0 μ0 w H' μ :=
  ⟨a.rel.le hd h, a.mu, a.stay, a.fresh, Nat.le_trans a.ext h.length, a.os, a.output, a.tape, a.size, a.keep⟩

theorem BRel.of_same {ex : Bool} {μ : Mu} {b : Blk} {w w' : World} {c z : Nat} (h : BRel ex μ b w c z) (e : w'.heap[c]? = w.heap[c]?) : BRel ex μ b w' c z := by
  obtain ⟨arr, h1, h2⟩ := h
  exact ⟨arr, by rw [e]; exact h1, h2⟩
theorem BRel.mono {ex : Bool} {μ μ' : Mu} (hm : MLe μ μ') {b : Blk} {w : World} {c z : Nat} (h : BRel ex μ b w c z) : BRel ex μ' b w c z := by
  obtain ⟨arr, h1, h2, h3⟩ := h
  exact ⟨arr, h1, h2, h3.mono hm⟩
/-- What leaves all old memory as it was. -/
theorem HRel.below {ex : Bool} {w w' : World} {H : Heap} {μ : Mu} (h : HRel ex μ H w) (hw : μ.w0.heap.size ≤ w.heap.size) (b : RowKit.Below w.heap.size w w') : HRel ex μ H w' :=
  ⟨fun i x c z hx hc => (h.blk i x c z hx hc).of_same (b.block c (h.lt i _ c z hc).2), h.inj, fun i g c z e => ⟨(h.lt i g c z e).1, Nat.lt_of_lt_of_le (h.lt i g c z e).2 b.size⟩, fun c hc => (b.block c (Nat.lt_of_lt_of_le hc hw)).trans (h.old c hc)⟩
theorem HRel.size {ex : Bool} {w : World} {H : Heap} {μ : Mu} (h : HRel ex μ H w) : μ.w0.heap.size ≤ w.heap.size := size_of_heap h.old
theorem Goes.of_below {ex : Bool} {w w' : World} {H : Heap} {μ : Mu} (h : HRel ex μ H w) (b : RowKit.Below w.heap.size w w') : Goes ex w H μ w' H μ :=
  ⟨h.below h.size b, MLe.refl μ, rfl, fun _ g _ z e => .inl ⟨g, z, e⟩, Nat.le_refl _, b.os, b.output, b.tape, b.size, fun c hc _ => b.block c hc⟩
theorem below_drawn (w : World) (n : Nat) : RowKit.Below w.heap.size w { w with drawn := w.drawn + n } := ⟨rfl, rfl, rfl, Nat.le_refl _, fun _ _ => rfl⟩

/-- The map with one place more. -/
def upd (μ : Mu) (n g : Nat) (c : Nat × Nat) : Mu := ⟨fun i k => if i = n ∧ k = g then some c else μ.pl i k, μ.w0⟩
theorem MLe.upd {μ : Mu} {n g : Nat} {c : Nat × Nat} (h : μ.pl n g = none) : MLe μ (upd μ n g c) := ⟨fun i k d e => by
  show (if i = n ∧ k = g then some c else μ.pl i k) = some d
  by_cases hi : i = n ∧ k = g
  · obtain ⟨rfl, rfl⟩ := hi; rw [h] at e; cases e
  · rw [if_neg hi]; exact e, fun _ _ => rfl⟩
theorem upd_self (μ : Mu) (n g : Nat) (c : Nat × Nat) : (upd μ n g c).pl n g = some c := by simp [upd]
theorem upd_cases {μ : Mu} {n g i k : Nat} {c d : Nat × Nat} (h : (upd μ n g c).pl i k = some d) : (i = n ∧ k = g ∧ d = c) ∨ (¬ (i = n ∧ k = g) ∧ μ.pl i k = some d) := by
  by_cases hi : i = n ∧ k = g
  · simp only [upd, if_pos hi] at h; cases h; exact .inl ⟨hi.1, hi.2, rfl⟩
  · simp only [upd, if_neg hi] at h; exact .inr ⟨hi, h⟩

/-- Block i of H is seen as b', of a generation that has no place yet: its place is a new one. -/
theorem Goes.place {ex : Bool} {w w' : World} {H H' : Heap} {μ : Mu} (h : HRel ex μ H w) (hd : Dom μ H) {i : Nat} {b' : Blk} (hb : H'[i]? = some b') (hlen : H.length ≤ H'.length) (hl2 : H'.length ≤ max H.length (i + 1))
    (hoth : ∀ j, j ≠ i → H'[j]? = H[j]?) (hg : ∀ g, b'.g ≤ g → μ.pl i g = none) {o : Obj} {arr : Array Value} (ho : o = .cells arr b'.ty (0, 0)) (hw : w' = w.alloc o) (hv : CRel ex μ b'.cells arr.toList) :
    Goes ex w H μ w' H' (upd μ i b'.g (w.heap.size, arr.size)) ∧ Dom (upd μ i b'.g (w.heap.size, arr.size)) H' := by
  subst hw; subst ho
  have hm : MLe μ (upd μ i b'.g (w.heap.size, arr.size)) := MLe.upd (hg _ (Nat.le_refl _))
  have old : ∀ c, c < w.heap.size → (w.alloc (.cells arr b'.ty)).heap[c]? = w.heap[c]? := fun c hc => heap_alloc_old w _ c hc
  have lt' : ∀ {j k c z}, μ.pl j k = some (c, z) → c < w.heap.size := fun e => (h.lt _ _ _ _ e).2
  refine ⟨⟨⟨?_, ?_, ?_, ?_⟩, hm, rfl, ?_, hlen, rfl, rfl, rfl, by simp, fun c hc _ => old c hc⟩, ⟨?_, ?_⟩⟩
  · intro j x c z hx hc
    rcases upd_cases hc with ⟨rfl, _, e⟩ | ⟨hn, hc⟩
    · rw [hb] at hx; cases hx
      cases e
      exact ⟨arr, heap_alloc_new w _, rfl, hv.mono hm⟩
    · by_cases hj : j = i
      · subst hj; rw [hb] at hx; cases hx; exact absurd ⟨rfl, rfl⟩ hn
      · rw [hoth j hj] at hx
        exact ((h.blk j x c z hx hc).of_same (old c (lt' hc))).mono hm
  · intro j k x y c z z' hx hy hj hk
    rcases upd_cases hj with ⟨h1, _, e⟩ | ⟨hn, pj⟩ <;> rcases upd_cases hk with ⟨h2, _, e'⟩ | ⟨hn', pk⟩
    · exact h1.trans h2.symm
    · cases e; exact absurd (lt' pk) (Nat.lt_irrefl _)
    · cases e'; exact absurd (lt' pj) (Nat.lt_irrefl _)
    · by_cases h1 : j = i
      · subst h1; rw [hb] at hx; cases hx; exact absurd ⟨rfl, rfl⟩ hn
      · by_cases h2 : k = i
        · subst h2; rw [hb] at hy; cases hy; exact absurd ⟨rfl, rfl⟩ hn'
        · rw [hoth j h1] at hx; rw [hoth k h2] at hy
          exact h.inj j k x y c z z' hx hy pj pk
  · intro j g c z e
    show μ.w0.heap.size ≤ c ∧ c < _
    simp only [World.size_alloc]
    rcases upd_cases e with ⟨_, _, e⟩ | ⟨_, e⟩
    · cases e; exact ⟨h.size, Nat.lt_succ_self _⟩
    · have := h.lt j g c z e; exact ⟨this.1, by omega⟩
  · intro c hc
    exact (old c (Nat.lt_of_lt_of_le hc h.size)).trans (h.old c hc)
  · intro j g c z e
    rcases upd_cases e with ⟨_, _, e⟩ | ⟨_, e⟩
    · cases e; exact .inr (Nat.le_refl _)
    · exact .inl ⟨g, z, e⟩
  · intro j g hj
    have hi : i < H'.length := (List.getElem?_eq_some_iff.1 hb).1
    cases e : (upd μ i b'.g (w.heap.size, arr.size)).pl j g with
    | none => rfl
    | some d =>
      rcases upd_cases e with ⟨rfl, _, _⟩ | ⟨_, e⟩
      · omega
      · rw [hd.out j g (by omega)] at e; cases e
  · intro j x g hx hlt
    cases e : (upd μ i b'.g (w.heap.size, arr.size)).pl j g with
    | none => rfl
    | some d =>
      rcases upd_cases e with ⟨rfl, hgg, _⟩ | ⟨hn, pe⟩
      · rw [hb] at hx; cases hx; omega
      · by_cases hj : j = i
        · subst hj; rw [hb] at hx; cases hx; rw [hg g (by omega)] at pe; cases pe
        · rw [hoth j hj] at hx; rw [hd.gen j x g hx hlt] at pe; cases pe

/-- A block of memory is written anew; it is seen as b', of its generation or of the next one. -/
theorem Goes.write {ex : Bool} {w : World} {H : Heap} {μ : Mu} (h : HRel ex μ H w) (hd : Dom μ H) {i c z : Nat} {b b' : Blk} (hb : H[i]? = some b) (hc : μ.pl i b.g = some (c, z)) (hg : b.g ≤ b'.g) (ht : b'.ty = b.ty)
    {old arr : Array Value} (ho : w.heap[c]? = some (.cells old b.ty (0, 0))) (hz : arr.size = z) (hv : CRel ex μ b'.cells arr.toList) :
    ∃ μ', Goes ex w H μ (w.setRow c arr) (H.set i b') μ' ∧ Dom μ' (H.set i b') ∧ μ'.pl i b'.g = some (c, z) := by
  have hlt : i < H.length := (List.getElem?_eq_some_iff.1 hb).1
  have hlt2 := h.lt i _ c z hc
  have hself : (H.set i b')[i]? = some b' := List.getElem?_set_self hlt
  have hoth : ∀ j, j ≠ i → (H.set i b')[j]? = H[j]? := fun j hj => List.getElem?_set_ne (fun e => hj e.symm)
  have hw : (w.setRow c arr).heap[c]? = some (.cells arr b'.ty (0, 0)) := by rw [ht]; exact setRow_heap w c old arr b.ty (0, 0) ho
  have oth : ∀ d, d ≠ c → (w.setRow c arr).heap[d]? = w.heap[d]? := fun d hd => setRow_other w c d arr hd
  rcases Nat.eq_or_lt_of_le hg with hgg | hgg
  · -- the same generation
    refine ⟨μ, ⟨⟨?_, ?_, fun j g d z' e => by simpa using h.lt j g d z' e, ?_⟩, MLe.refl μ, rfl, fun _ g _ z e => .inl ⟨g, z, e⟩, by simp, rfl, rfl, rfl, by simp, ?_⟩, ⟨fun j g hj => hd.out j g (by simpa using hj), ?_⟩, by rw [← hgg]; exact hc⟩
    · intro j x d z' hx hd'
      by_cases hj : j = i
      · subst hj
        rw [hself] at hx; cases hx
        rw [← hgg, hc] at hd'; cases hd'
        exact ⟨arr, hw, hz, hv⟩
      · rw [hoth j hj] at hx
        exact (h.blk j x d z' hx hd').of_same (oth d (fun e => hj (by subst e; exact h.inj j i x b d z' z hx hb hd' hc)))
    · intro j k x y d z1 z2 hx hy h1 h2
      by_cases hj : j = i
      · subst hj
        rw [hself] at hx; cases hx
        by_cases hk : k = j
        · exact hk.symm
        · rw [hoth k hk] at hy; rw [← hgg] at h1
          exact h.inj j k b y d z1 z2 hb hy h1 h2
      · rw [hoth j hj] at hx
        by_cases hk : k = i
        · subst hk
          rw [hself] at hy; cases hy; rw [← hgg] at h2
          exact h.inj j k x b d z1 z2 hx hb h1 h2
        · rw [hoth k hk] at hy
          exact h.inj j k x y d z1 z2 hx hy h1 h2
    · intro d hd'
      rw [oth d (fun e => by omega)]; exact h.old d hd'
    · intro d hd' hn
      exact oth d (fun e => hn i b.g z (by rw [e]; exact hc))
    · intro j x g hx hlt'
      by_cases hj : j = i
      · subst hj; rw [hself] at hx; cases hx; exact hd.gen j b g hb (by omega)
      · rw [hoth j hj] at hx; exact hd.gen j x g hx hlt'
  · have hn : μ.pl i b'.g = none := hd.gen i b _ hb hgg
    have hm : MLe μ (upd μ i b'.g (c, z)) := MLe.upd hn
    refine ⟨upd μ i b'.g (c, z), ⟨⟨?_, ?_, ?_, ?_⟩, hm, rfl, ?_, by simp, rfl, rfl, rfl, by simp, ?_⟩, ⟨?_, ?_⟩, upd_self _ _ _ _⟩
    · intro j x d z' hx hd'
      rcases upd_cases hd' with ⟨rfl, _, e⟩ | ⟨hne, pd⟩
      · rw [hself] at hx; cases hx; cases e
        exact ⟨arr, hw, hz, hv.mono hm⟩
      · by_cases hj : j = i
        · subst hj; rw [hself] at hx; cases hx; exact absurd ⟨rfl, rfl⟩ hne
        · rw [hoth j hj] at hx
          exact ((h.blk j x d z' hx pd).of_same (oth d (fun e => hj (by subst e; exact h.inj j i x b d z' z hx hb pd hc)))).mono hm
    · intro j k x y d z1 z2 hx hy h1 h2
      rcases upd_cases h1 with ⟨q1, _, e⟩ | ⟨hne, p1⟩ <;> rcases upd_cases h2 with ⟨q2, _, e'⟩ | ⟨hne', p2⟩
      · exact q1.trans q2.symm
      · cases e; subst q1
        by_cases hk : k = j
        · exact hk.symm
        · rw [hoth k hk] at hy
          exact h.inj j k b y c z z2 hb hy hc p2
      · cases e'; subst q2
        by_cases hj : j = k
        · exact hj
        · rw [hoth j hj] at hx
          exact h.inj j k x b c z1 z hx hb p1 hc
      · by_cases hj : j = i
        · subst hj; rw [hself] at hx; cases hx; exact absurd ⟨rfl, rfl⟩ hne
        · by_cases hk : k = i
          · subst hk; rw [hself] at hy; cases hy; exact absurd ⟨rfl, rfl⟩ hne'
          · rw [hoth j hj] at hx; rw [hoth k hk] at hy
            exact h.inj j k x y d z1 z2 hx hy p1 p2
    · intro j g d z' e
      show μ.w0.heap.size ≤ d ∧ d < _
      rcases upd_cases e with ⟨_, _, e⟩ | ⟨_, e⟩
      · cases e; simpa using hlt2
      · simpa using h.lt j g d z' e
    · intro d hd'
      rw [oth d (fun e => by have : d < μ.w0.heap.size := hd'; omega)]; exact h.old d hd'
    · intro j g d z' e
      rcases upd_cases e with ⟨rfl, _, e⟩ | ⟨_, e⟩
      · cases e; exact .inl ⟨b.g, z, hc⟩
      · exact .inl ⟨g, z', e⟩
    · intro d hd' hne
      exact oth d (fun e => hne i b.g z (by rw [e]; exact hc))
    · intro j g hj
      simp at hj
      cases e : (upd μ i b'.g (c, z)).pl j g with
      | none => rfl
      | some d =>
        rcases upd_cases e with ⟨rfl, _, _⟩ | ⟨_, e⟩
        · omega
        · rw [hd.out j g hj] at e; cases e
    · intro j x g hx hlt'
      cases e : (upd μ i b'.g (c, z)).pl j g with
      | none => rfl
      | some d =>
        rcases upd_cases e with ⟨rfl, h1, _⟩ | ⟨hne, pe⟩
        · rw [hself] at hx; cases hx; omega
        · by_cases hj : j = i
          · subst hj; rw [hself] at hx; cases hx; rw [hd.gen j b g hb (by omega)] at pe; cases pe
          · rw [hoth j hj] at hx; rw [hd.gen j x g hx hlt'] at pe; cases pe

/-- A block is seen as one of a later generation, that has no place. -/
theorem Goes.lose {ex : Bool} {w : World} {H : Heap} {μ : Mu} (h : HRel ex μ H w) (hd : Dom μ H) {i : Nat} {b b' : Blk} (hb : H[i]? = some b) (hg : b.g < b'.g) :
    Goes ex w H μ w (H.set i b') μ ∧ Dom μ (H.set i b') := by
  have hlt : i < H.length := (List.getElem?_eq_some_iff.1 hb).1
  have hself : (H.set i b')[i]? = some b' := List.getElem?_set_self hlt
  have hoth : ∀ j, j ≠ i → (H.set i b')[j]? = H[j]? := fun j hj => List.getElem?_set_ne (fun e => hj e.symm)
  have hn : μ.pl i b'.g = none := hd.gen i b _ hb hg
  have back : ∀ (j : Nat) (x : Blk) (c : Nat × Nat), (H.set i b')[j]? = some x → μ.pl j x.g = some c → H[j]? = some x := by
    intro j x c hx hc
    by_cases hj : j = i
    · subst hj; rw [hself] at hx; cases hx; rw [hn] at hc; cases hc
    · rw [hoth j hj] at hx; exact hx
  refine ⟨⟨⟨fun j x c z hx hc => h.blk j x c z (back j x _ hx hc) hc, fun j k x y c z z' hx hy h1 h2 => h.inj j k x y c z z' (back j x _ hx h1) (back k y _ hy h2) h1 h2, h.lt, h.old⟩, MLe.refl μ, rfl, fun _ g _ z e => .inl ⟨g, z, e⟩, by simp, rfl, rfl, rfl, Nat.le_refl _, fun _ _ _ => rfl⟩, ⟨fun j g hj => hd.out j g (by simpa using hj), fun j x g hx hlt' => ?_⟩⟩
  by_cases hj : j = i
  · subst hj; rw [hself] at hx; cases hx; exact hd.gen j b g hb (by omega)
  · rw [hoth j hj] at hx; exact hd.gen j x g hx hlt'

/-- What a whole call leaves to its caller. -/
theorem Goes.below {ex : Bool} {w0 w : World} {H0 H : Heap} {μ0 μ : Mu} (a : Goes ex w0 H0 μ0 w H μ) (hn : ∀ i g, μ0.pl i g = none) : RowKit.Below w0.heap.size w0 w :=
  ⟨a.os, a.tape, a.output, a.size, fun c hc => a.keep c hc fun i g z e => by rw [hn i g] at e; cases e⟩

/-- THE CONTRACT: called with values that stand for these, in a world that stands for H, it returns a value that stands for r, and leaves H'. -/
def Sim (P : Program) (ex : Bool) (f : FuncId) (args : List AV) (H : Heap) (r : AV) (H' : Heap) : Prop :=
  ∀ (μ : Mu) (vs : List Value) (w : World), VRels ex μ args vs → HRel ex μ H w → Dom μ H →
    Calls P f vs.toArray w fun e w' => ∃ v μ', e = .returned v ∧ VRel ex μ' r v ∧ Goes ex w H μ w' H' μ' ∧ Dom μ' H'
/-- The same of what only reads: all old memory is as it was. -/
def SimR (P : Program) (ex : Bool) (f : FuncId) (args : List AV) (H : Heap) (r : AV) : Prop :=
  ∀ (μ : Mu) (vs : List Value) (w : World), VRels ex μ args vs → HRel ex μ H w →
    Calls P f vs.toArray w fun e w' => ∃ v, e = .returned v ∧ VRel ex μ r v ∧ RowKit.Below w.heap.size w w'
/-- Nothing of our own is placed, all memory stays. -/
def still (w : World) : Mu := ⟨fun _ _ => none, w⟩
theorem still_rel (ex : Bool) (w : World) : HRel ex (still w) [] w := ⟨fun i b c z e _ => (by simp at e), fun i j b b' c z z' e => (by simp at e), fun i g c z e => (by cases e), fun _ _ => rfl⟩
theorem still_dom (w : World) : Dom (still w) [] := ⟨fun _ _ _ => rfl, fun _ _ _ _ _ => rfl⟩
/-- What no pointer goes into and none comes out of does not look at memory. -/
theorem Sim.pure {P : Program} {ex : Bool} {f : FuncId} {args : List AV} {r : AV} {G : Heap} (h : Sim P ex f args [] r G) (ha : AV.flats args = true) (hr : r.flat = true) (H : Heap) : SimR P ex f args H r := by
  intro μ vs w hv hH
  refine (h (still w) vs w (VRels.flat _ _ ha hv) (still_rel ex w) (still_dom w)).mono ?_
  rintro e w' ⟨v, μ', rfl, hr', g, _⟩
  exact ⟨v, rfl, VRel.flat _ _ hr hr', g.below fun _ _ => rfl⟩
theorem SimR.sim {P : Program} {ex : Bool} {f : FuncId} {args : List AV} {H : Heap} {r : AV} (h : SimR P ex f args H r) : Sim P ex f args H r H := by
  intro μ vs w hv hH hd
  refine (h μ vs w hv hH).mono ?_
  rintro e w' ⟨v, rfl, hr, hb⟩
  exact ⟨v, μ, rfl, hr, Goes.of_below hH hb, hd⟩
end Go.Lst
