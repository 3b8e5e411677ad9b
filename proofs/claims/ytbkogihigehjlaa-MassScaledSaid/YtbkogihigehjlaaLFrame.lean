/- A callee that writes, proved once, on the blocks that it is given: at a call the rest of memory stays. -/
import Derived.Test.YtbkogihigehjlaaLShape
namespace Go.Lst
mutual
/-- The blocks that a value leads into. -/
def refA : AV → List Nat
  | .ptr (some p) => [p.b]
  | .slice (some p) _ _ => [p.b]
  | .lst b _ _ _ _ => [b]
  | .func _ l r => refL l ++ refL r
  | .iface _ u => refA u
  | .alt _ x y => refA x ++ refA y
  | .agg l => refL l
  | .tup l => refL l
  | _ => []
def refL : List AV → List Nat
  | [] => []
  | a :: l => refA a ++ refL l
end
def inN (b : Nat) : List Nat → Bool
  | [] => false
  | c :: r => Nat.beq c b || inN b r
/-- All blocks that can be come to. -/
def reach (H : Heap) : Nat → List Nat → List Nat → List Nat
  | 0, _, dn => dn
  | _ + 1, [], dn => dn
  | n + 1, b :: r, dn => cond (inN b dn) (reach H n r dn)
    (match H[b]? with
    | some k => match k.cells with
      | .flat l => reach H n (refL l ++ r) (dn ++ [b])
      | .sym .. => reach H n r (dn ++ [b])
    | none => reach H n r dn)
def posN (b : Nat) : List Nat → Nat → Option Nat
  | [], _ => none
  | c :: r, i => cond (Nat.beq c b) (some i) (posN b r (i + 1))
def okN (n : Nat) : List Nat → Bool
  | [] => true
  | b :: r => Nat.blt b n && (!inN b r && okN n r)
theorem inN_of {b : Nat} : ∀ {l : List Nat} {i : Nat}, l[i]? = some b → inN b l = true
  | [], i, h => by simp at h
  | c :: r, 0, h => by simp at h; subst h; simp [inN]
  | c :: r, i + 1, h => by simp only [inN, inN_of (l := r) (i := i) (by simpa using h), Bool.or_true]
theorem okN_lt {n : Nat} : ∀ {l : List Nat}, okN n l = true → ∀ {i b : Nat}, l[i]? = some b → b < n
  | [], _, i, b, h => by simp at h
  | c :: r, hk, 0, b, h => by simp at h; subst h; simp only [okN, Bool.and_eq_true, Nat.blt_eq] at hk; exact hk.1
  | c :: r, hk, i + 1, b, h => by
    simp only [okN, Bool.and_eq_true] at hk
    exact okN_lt hk.2.2 (i := i) (by simpa using h)
theorem okN_inj {n : Nat} : ∀ {l : List Nat}, okN n l = true → ∀ {i j b : Nat}, l[i]? = some b → l[j]? = some b → i = j
  | [], _, i, j, b, h, _ => by simp at h
  | c :: r, _, 0, 0, b, _, _ => rfl
  | c :: r, hk, 0, j + 1, b, hi, hj => by
    simp at hi; subst hi
    simp only [okN, Bool.and_eq_true, Bool.not_eq_true'] at hk
    rw [inN_of (l := r) (i := j) (by simpa using hj)] at hk; cases hk.2.1
  | c :: r, hk, i + 1, 0, b, hi, hj => by
    simp at hj; subst hj
    simp only [okN, Bool.and_eq_true, Bool.not_eq_true'] at hk
    rw [inN_of (l := r) (i := i) (by simpa using hi)] at hk; cases hk.2.1
  | c :: r, hk, i + 1, j + 1, b, hi, hj => by
    simp only [okN, Bool.and_eq_true] at hk
    rw [okN_inj hk.2.2 (i := i) (j := j) (by simpa using hi) (by simpa using hj)]
theorem posN_some {b : Nat} : ∀ {l : List Nat} {i j : Nat}, posN b l i = some j → i ≤ j ∧ l[j - i]? = some b
  | [], i, j, h => by simp [posN] at h
  | c :: r, i, j, h => by
    simp only [posN] at h
    cases hc : Nat.beq c b with
    | true =>
      rw [hc, cond_true] at h
      cases h
      have := Nat.eq_of_beq_eq_true hc
      subst this
      exact ⟨Nat.le_refl _, by simp⟩
    | false =>
      rw [hc, cond_false] at h
      obtain ⟨h1, h2⟩ := posN_some h
      refine ⟨by omega, ?_⟩
      rw [show j - i = (j - (i + 1)) + 1 by omega]
      simpa using h2
theorem posN_none {b : Nat} : ∀ {l : List Nat} {i j : Nat}, posN b l i = none → l[j]? ≠ some b
  | [], i, j, _ => by simp
  | c :: r, i, j, h => by
    simp only [posN] at h
    cases hc : Nat.beq c b with
    | true => rw [hc, cond_true] at h; cases h
    | false =>
      rw [hc, cond_false] at h
      cases j with
      | zero => intro e; simp at e; subst e; rw [Nat.beq_refl] at hc; cases hc
      | succ j => simpa using posN_none (j := j) h
theorem posN_at {n : Nat} {b i : Nat} {l : List Nat} (hk : okN n l = true) (h : l[i]? = some b) : posN b l 0 = some i := by
  cases hp : posN b l 0 with
  | none => exact absurd h (posN_none hp)
  | some j =>
    obtain ⟨_, h2⟩ := posN_some hp
    have h2 : l[j]? = some b := by simpa using h2
    rw [okN_inj hk h2 h]

/-- From the caller's numbers to the callee's; and back, where the caller has n blocks. -/
def frR (H : Heap) (bs : List Nat) : Ren := fun b g => match posN b bs 0 with | some i => cond (gIs H b g) (some (i, 0)) none | none => none
def genAt (H : Heap) (b : Nat) : Nat := match H[b]? with | some k => k.g | none => 0
def frB (H : Heap) (bs : List Nat) : Ren := fun i g => match bs[i]? with | some b => some (b, genAt H b + g) | none => some (H.length + (i - bs.length), g)
def frH (H : Heap) (bs : List Nat) : List Nat → Heap
  | [] => []
  | b :: r => (match H[b]? with | some k => ⟨renC (frR H bs) k.cells, k.ty, 0⟩ | none => ⟨.flat [], 0, 0⟩) :: frH H bs r
mutual
/-- Does every way out of it lead into these blocks? -/
def clA (H : Heap) (bs : List Nat) : AV → Bool
  | .ptr (some p) => inN p.b bs && gIs H p.b p.g
  | .slice (some p) _ _ => inN p.b bs && gIs H p.b p.g
  | .lst b g _ _ _ => inN b bs && gIs H b g
  | .func _ l r => clL H bs l && clL H bs r
  | .iface _ u => clA H bs u
  | .alt _ x y => clA H bs x && clA H bs y
  | .agg l => clL H bs l
  | .tup l => clL H bs l
  | .vptr _ | .view .. | .top => false
  | _ => true
def clL (H : Heap) (bs : List Nat) : List AV → Bool
  | [] => true
  | a :: l => clA H bs a && clL H bs l
end
def clC (H : Heap) (bs : List Nat) : Cells → Bool
  | .flat l => clL H bs l
  | .sym .. => true
/-- Elements of rows are flat. -/
noncomputable def flC : Cells → Ob
  | .flat _ => .tt
  | .sym _ _ f => .bit (allB fun i => AV.flats (f i))
noncomputable def flH (H : Heap) : List Nat → Ob
  | [] => .tt
  | b :: r => Ob.both (match H[b]? with | some k => flC k.cells | none => .tt) (flH H r)
def stayB (H : Heap) (bs : List Nat) (d : HV) (i : Nat) (k : Blk) : Bool := vzero (lget d i) && clC H bs k.cells
def outB1 (H : Heap) (bs : List Nat) (H1 : Heap) (d : HV) (j : Nat) (k : Blk) : Blk :=
  match posN j bs 0 with
  | some i => match H1[i]? with
    | some x => cond (stayB H bs d i k) k ⟨renC (frB H bs) x.cells, x.ty, k.g + x.g⟩
    | none => k
  | none => k
def mapI (f : Nat → Blk → Blk) : Heap → Nat → Heap
  | [], _ => []
  | k :: r, j => f j k :: mapI f r (j + 1)
theorem mapI_get (f : Nat → Blk → Blk) : ∀ (H : Heap) (j i : Nat), (mapI f H j)[i]? = (H[i]?).map (f (j + i))
  | [], j, i => by simp [mapI]
  | k :: r, j, 0 => by simp [mapI]
  | k :: r, j, i + 1 => by simp only [mapI, List.getElem?_cons_succ, mapI_get f r (j + 1) i]; congr 2; omega
theorem mapI_length (f : Nat → Blk → Blk) : ∀ (H : Heap) (j : Nat), (mapI f H j).length = H.length
  | [], _ => rfl
  | k :: r, j => by simp [mapI, mapI_length f r (j + 1)]
def outF (H : Heap) (bs : List Nat) (H1 : Heap) (d : HV) : Heap := mapI (outB1 H bs H1 d) H 0 ++ (H1.drop bs.length).map fun x => ⟨renC (frB H bs) x.cells, x.ty, x.g⟩
def wideC : Cells → List Nat
  | .flat l => 1 :: List.replicate l.length 1
  | .sym .. => [1, 1]
def outV (H : Heap) (bs : List Nat) (d : HV) : Heap → Nat → HV
  | [], _ => []
  | k :: r, j => (match posN j bs 0 with | some i => cond (stayB H bs d i k) [] (wideC k.cells) | none => []) :: outV H bs d r (j + 1)
/-- The callee at a call. -/
noncomputable def frW (F : WFM) : WFM := fun args H =>
  match reach H 64 (refL args) [] with
  | bs => cond (okN H.length bs)
    (match F (renL (frR H bs) args) (frH H bs bs) with
    | some (o, v, H1, d) => some (Ob.both (flH H bs) o, renA (frB H bs) v, outF H bs H1 d, outV H bs d H 0)
    | none => none) none

section
variable {P : Program} {ex : Bool} {μ : Mu}
mutual
theorem ren_back {H : Heap} {bs : List Nat} : ∀ (a : AV), clA H bs a = true → renA (frB H bs) (renA (frR H bs) a) = a
  | .bool _, _ => rfl
  | .int _ _, _ => rfl
  | .float _, _ => rfl
  | .complex _ _, _ => rfl
  | .str _, _ => rfl
  | .ptr none, _ => rfl
  | .slice none _ _, _ => rfl
  | .nul, _ => rfl
  | .top, _ => rfl
  | .nilFunc, _ => rfl
  | .nilIface, _ => rfl
  | .unk _, _ => rfl
  | .vptr _, h => by simp [clA] at h
  | .view .., h => by simp [clA] at h
  | .ptr (some p), h => by
    simp only [clA, Bool.and_eq_true] at h
    obtain ⟨e1, e2⟩ := ref_back h.1 h.2
    simp only [renA, e1]
    simp only [e2]
  | .slice (some p) _ _, h => by
    simp only [clA, Bool.and_eq_true] at h
    obtain ⟨e1, e2⟩ := ref_back h.1 h.2
    simp only [renA, e1]
    simp only [e2]
  | .lst b g _ _ _, h => by
    simp only [clA, Bool.and_eq_true] at h
    obtain ⟨e1, e2⟩ := ref_back h.1 h.2
    simp only [renA, e1]
    simp only [e2]
  | .func _ l r, h => by
    simp only [clA, Bool.and_eq_true] at h
    simp only [renA, rens_back l h.1, rens_back r h.2]
  | .iface _ u, h => by simp only [clA] at h; simp only [renA, ren_back u h]
  | .alt _ x y, h => by
    simp only [clA, Bool.and_eq_true] at h
    simp only [renA, ren_back x h.1, ren_back y h.2]
  | .agg l, h => by simp only [clA] at h; simp only [renA, rens_back l h]
  | .tup l, h => by simp only [clA] at h; simp only [renA, rens_back l h]
theorem rens_back {H : Heap} {bs : List Nat} : ∀ (l : List AV), clL H bs l = true → renL (frB H bs) (renL (frR H bs) l) = l
  | [], _ => rfl
  | a :: l, h => by
    simp only [clL, Bool.and_eq_true] at h
    simp only [renL, ren_back a h.1, rens_back l h.2]
theorem ref_back {H : Heap} {bs : List Nat} {b g : Nat} (h1 : inN b bs = true) (h2 : gIs H b g = true) : frR H bs b g = some ((posN b bs 0).getD 0, 0) ∧ frB H bs ((posN b bs 0).getD 0) 0 = some (b, g) := by
  cases hp : posN b bs 0 with
  | none =>
    exfalso
    have : ∀ (l : List Nat) (i : Nat), posN b l i = none → inN b l = false := by
      intro l
      induction l with
      | nil => intro i _; rfl
      | cons c r ih =>
        intro i h
        simp only [posN] at h
        cases hc : Nat.beq c b with
        | true => rw [hc, cond_true] at h; cases h
        | false => rw [hc, cond_false] at h; simp only [inN, hc, Bool.false_or]; exact ih _ h
    rw [this bs 0 hp] at h1; cases h1
  | some i =>
    obtain ⟨_, h3⟩ := posN_some hp
    have h3' : bs[i]? = some b := by simpa using h3
    refine ⟨by simp only [frR, hp, h2, cond_true]; rfl, ?_⟩
    simp only [Option.getD_some, frB, h3']
    unfold gIs at h2
    unfold genAt
    cases hb : H[b]? with
    | none => rw [hb] at h2; cases h2
    | some k => rw [hb] at h2; simp only at h2 ⊢; rw [Nat.eq_of_beq_eq_true h2]; simp
end
mutual
theorem ren_flat (R : Ren) : ∀ (a : AV), a.flat = true → renA R a = a
  | .bool _, _ => rfl
  | .int _ _, _ => rfl
  | .float _, _ => rfl
  | .complex _ _, _ => rfl
  | .str _, _ => rfl
  | .ptr none, _ => rfl
  | .slice none _ _, _ => rfl
  | .nul, _ => rfl
  | .nilFunc, _ => rfl
  | .nilIface, _ => rfl
  | .unk _, _ => rfl
  | .top, h => by simp [AV.flat] at h
  | .vptr _, h => by simp [AV.flat] at h
  | .view .., h => by simp [AV.flat] at h
  | .ptr (some _), h => by simp [AV.flat] at h
  | .slice (some _) _ _, h => by simp [AV.flat] at h
  | .lst .., h => by simp [AV.flat] at h
  | .func _ l r, h => by
    simp only [AV.flat, Bool.and_eq_true] at h
    simp only [renA, rens_flat R l h.1, rens_flat R r h.2]
  | .iface _ u, h => by simp only [AV.flat] at h; simp only [renA, ren_flat R u h]
  | .alt _ x y, h => by
    simp only [AV.flat, Bool.and_eq_true] at h
    simp only [renA, ren_flat R x h.1, ren_flat R y h.2]
  | .agg l, h => by simp only [AV.flat] at h; simp only [renA, rens_flat R l h]
  | .tup l, h => by simp only [AV.flat] at h; simp only [renA, rens_flat R l h]
theorem rens_flat (R : Ren) : ∀ (l : List AV), AV.flats l = true → renL R l = l
  | [], _ => rfl
  | a :: l, h => by
    simp only [AV.flats, Bool.and_eq_true] at h
    simp only [renL, ren_flat R a h.1, rens_flat R l h.2]
end
theorem flH_get {H : Heap} : ∀ {l : List Nat}, (flH H l).ok = true → ∀ {i b : Nat} {k : Blk}, l[i]? = some b → H[b]? = some k → (flC k.cells).ok = true
  | [], _, i, b, k, h, _ => by simp at h
  | c :: r, hk, 0, b, k, h, hb => by
    simp at h; subst h
    simp only [flH, Ob.both_ok, Bool.and_eq_true, hb] at hk
    exact hk.1
  | c :: r, hk, i + 1, b, k, h, hb => by
    simp only [flH, Ob.both_ok, Bool.and_eq_true] at hk
    exact flH_get hk.2 (i := i) (by simpa using h) hb
theorem frH_get {H : Heap} {bs : List Nat} : ∀ (l : List Nat) (i : Nat), (frH H bs l)[i]? = (l[i]?).map fun b => match H[b]? with | some k => ⟨renC (frR H bs) k.cells, k.ty, 0⟩ | none => ⟨.flat [], 0, 0⟩
  | [], i => by simp [frH]
  | b :: r, 0 => by simp [frH]
  | b :: r, i + 1 => by simp only [frH, List.getElem?_cons_succ, frH_get r i]
theorem frH_length {H : Heap} {bs : List Nat} : ∀ (l : List Nat), (frH H bs l).length = l.length
  | [] => rfl
  | b :: r => by simp [frH, frH_length r]
/-- Closed cells, there and back. -/
theorem renC_back {H : Heap} {bs : List Nat} {c : Cells} (h : clC H bs c = true) (hf : (flC c).ok = true) : renC (frB H bs) (renC (frR H bs) c) = c := by
  cases c with
  | flat l => simp only [renC, rens_back l h]
  | sym m s f =>
    simp only [flC, Ob.ok] at hf
    have hf := allB_get hf
    simp only [renC]
    congr 1
    funext i
    rw [rens_flat _ _ (hf i), rens_flat _ _ (hf i)]
/-- The places of the callee's blocks; of the caller's behind the call. -/
def frMu (H : Heap) (bs : List Nat) (μ : Mu) : Mu :=
  ⟨fun i g => if g = 0 then (match bs[i]? with | some b => (match H[b]? with | some k => μ.pl b k.g | none => none) | none => none) else none, μ.w0⟩
def bkMu (H : Heap) (bs : List Nat) (μ μ' : Mu) : Mu :=
  ⟨fun j g => if j < H.length then (match posN j bs 0 with
      | some i => if genAt H j ≤ g then μ'.pl i (g - genAt H j) else μ.pl j g
      | none => μ.pl j g) else μ'.pl (j - H.length + bs.length) g, μ.w0⟩
theorem frMu_some {H : Heap} {bs : List Nat} {μ : Mu} {i g : Nat} {c : Nat × Nat} (h : (frMu H bs μ).pl i g = some c) : g = 0 ∧ ∃ b k, bs[i]? = some b ∧ H[b]? = some k ∧ μ.pl b k.g = some c := by
  simp only [frMu] at h
  split at h
  · rename_i hg
    refine ⟨hg, ?_⟩
    split at h
    · rename_i b hb
      split at h
      · rename_i k hk; exact ⟨b, k, hb, hk, h⟩
      · cases h
    · cases h
  · cases h
theorem genAt_eq {H : Heap} {b : Nat} {k : Blk} (h : H[b]? = some k) : genAt H b = k.g := by simp only [genAt, h]
theorem frR_pl {H : Heap} {bs : List Nat} {μ : Mu} (b g b' g' : Nat) (c : Nat × Nat) (h : frR H bs b g = some (b', g')) (hc : μ.pl b g = some c) : (frMu H bs μ).pl b' g' = some c := by
  simp only [frR] at h
  split at h
  · rename_i i hi
    obtain ⟨hg, h⟩ := cond_some h rfl
    cases h
    obtain ⟨_, h3⟩ := posN_some hi
    have h3' : bs[b']? = some b := by simpa using h3
    unfold gIs at hg
    cases hb : H[b]? with
    | none => rw [hb] at hg; cases hg
    | some k =>
      rw [hb] at hg
      have := Nat.eq_of_beq_eq_true hg
      subst this
      simp only [frMu, if_true, h3', hb]
      exact hc
  · cases h
theorem frH_rel {H : Heap} {bs : List Nat} {w : World} (hk : okN H.length bs = true) (hH : HRel ex μ H w) : HRel ex (frMu H bs μ) (frH H bs bs) w where
  blk := by
    intro i x c z hx hc
    obtain ⟨_, b, k, h1, h2, h3⟩ := frMu_some hc
    rw [frH_get, h1] at hx
    simp only [Option.map_some, h2, Option.some.injEq] at hx
    subst hx
    obtain ⟨arr, q1, q2, q3⟩ := hH.blk b k c z h2 h3
    exact ⟨arr, q1, q2, renC_rel (fun b g b' g' c => frR_pl b g b' g' c) rfl q3⟩
  inj := by
    intro i j x y c z z' _ _ hi hj
    obtain ⟨_, b, k, h1, h2, h3⟩ := frMu_some hi
    obtain ⟨_, b', k', h1', h2', h3'⟩ := frMu_some hj
    have := hH.inj b b' k k' c z z' h2 h2' h3 h3'
    subst this
    exact okN_inj hk h1 h1'
  lt := by
    intro i g c z hc
    obtain ⟨_, b, k, _, _, h3⟩ := frMu_some hc
    exact hH.lt b k.g c z h3
  old := hH.old
theorem fr_dom {H : Heap} {bs : List Nat} : Dom (frMu H bs μ) (frH H bs bs) where
  out := by
    intro i g hi
    rw [frH_length] at hi
    cases h : (frMu H bs μ).pl i g with
    | none => rfl
    | some c =>
      obtain ⟨_, b, k, h1, _⟩ := frMu_some h
      rw [List.getElem?_eq_none hi] at h1; cases h1
  gen := by
    intro i x g hx hg
    cases h : (frMu H bs μ).pl i g with
    | none => rfl
    | some c =>
      obtain ⟨rfl, _⟩ := frMu_some h
      omega
theorem bk_lt {H : Heap} {bs : List Nat} {μ' : Mu} {j g : Nat} (h : j < H.length) (hp : posN j bs 0 = none) : (bkMu H bs μ μ').pl j g = μ.pl j g := by
  simp only [bkMu, if_pos h, hp]
theorem bk_at {H : Heap} {bs : List Nat} {μ' : Mu} {j g i : Nat} (h : j < H.length) (hp : posN j bs 0 = some i) (hg : genAt H j ≤ g) : (bkMu H bs μ μ').pl j g = μ'.pl i (g - genAt H j) := by
  simp only [bkMu, if_pos h, hp, if_pos hg]
theorem bk_old {H : Heap} {bs : List Nat} {μ' : Mu} {j g i : Nat} (h : j < H.length) (hp : posN j bs 0 = some i) (hg : ¬ genAt H j ≤ g) : (bkMu H bs μ μ').pl j g = μ.pl j g := by
  simp only [bkMu, if_pos h, hp, if_neg hg]
theorem bk_ge {H : Heap} {bs : List Nat} {μ' : Mu} {j g : Nat} (h : H.length ≤ j) : (bkMu H bs μ μ').pl j g = μ'.pl (j - H.length + bs.length) g := by
  simp only [bkMu, if_neg (show ¬ j < H.length by omega)]
theorem outF_lt {H H1 : Heap} {bs : List Nat} {d : HV} {j : Nat} (h : j < H.length) : (outF H bs H1 d)[j]? = (H[j]?).map (outB1 H bs H1 d j) := by
  unfold outF
  rw [List.getElem?_append_left (by rw [mapI_length]; exact h), mapI_get]; simp
theorem outF_ge {H H1 : Heap} {bs : List Nat} {d : HV} {j : Nat} (h : H.length ≤ j) : (outF H bs H1 d)[j]? = (H1[bs.length + (j - H.length)]?).map fun x => ⟨renC (frB H bs) x.cells, x.ty, x.g⟩ := by
  unfold outF
  rw [List.getElem?_append_right (by rw [mapI_length]; exact h), mapI_length, List.getElem?_map, List.getElem?_drop]
theorem outF_length {H H1 : Heap} {bs : List Nat} {d : HV} : (outF H bs H1 d).length = H.length + (H1.length - bs.length) := by
  simp [outF, mapI_length]
/-- A block of the callee's, as the caller has it behind the call. -/
theorem out_at {H H1 : Heap} {bs : List Nat} {d : HV} (hfl : (flH H bs).ok = true) (hI : HInv (frH H bs bs) [] H1 d) {j i : Nat} {k y : Blk} (hp : posN j bs 0 = some i) (hj : H[j]? = some k) (hy : H1[i]? = some y) :
    outB1 H bs H1 d j k = ⟨renC (frB H bs) y.cells, y.ty, k.g + y.g⟩ := by
  obtain ⟨_, h3⟩ := posN_some hp
  have h3' : bs[i]? = some j := by simpa using h3
  simp only [outB1, hp, hy]
  cases hs : stayB H bs d i k with
  | false => rfl
  | true =>
    rw [cond_true]
    simp only [stayB, Bool.and_eq_true] at hs
    have hz := vzero_get _ hs.1
    have hx : (frH H bs bs)[i]? = some ⟨renC (frR H bs) k.cells, k.ty, 0⟩ := by rw [frH_get, h3']; simp only [Option.map_some, hj]
    obtain ⟨e1, e2⟩ := hI.same i _ y hx hy (by show vget (lget d i) 0 = vget (lget [] i) 0; rw [hz]; simp [lget])
    have e3 := e2.eq (fun q => by rw [hz]; simp [lget])
    have e4 := (hI.ty i _ y hx hy).1
    rw [e3, e4, e1, renC_back hs.2 (flH_get hfl h3' hj)]
    rfl
theorem Sim.frame {f : FuncId} {args : List AV} {H H1 : Heap} {bs : List Nat} {v : AV} {d : HV} (hk : okN H.length bs = true) (hfl : (flH H bs).ok = true)
    (hS : Sim P ex f (renL (frR H bs) args) (frH H bs bs) v H1) (hI : HInv (frH H bs bs) [] H1 d) : Sim P ex f args H (renA (frB H bs) v) (outF H bs H1 d) := by
  intro μ vs w hvs hH hd
  refine (hS (frMu H bs μ) vs w (rens_rel (fun b g b' g' c => frR_pl b g b' g' c) rfl _ _ hvs) (frH_rel hk hH) fr_dom).mono ?_
  rintro e w' ⟨u, μ', rfl, hr, hg, hd'⟩
  have hw0 : μ'.w0 = μ.w0 := hg.stay
  have hlen : bs.length ≤ H1.length := by have := hI.len; rw [frH_length] at this; exact this
  have pos_lt : ∀ {j i : Nat}, posN j bs 0 = some i → bs[i]? = some j ∧ j < H.length ∧ i < bs.length := by
    intro j i hp
    obtain ⟨_, h3⟩ := posN_some hp
    have h3' : bs[i]? = some j := by simpa using h3
    exact ⟨h3', okN_lt hk h3', (List.getElem?_eq_some_iff.1 h3').1⟩
  have hle : MLe μ (bkMu H bs μ μ') := by
    refine ⟨fun j g c hc => ?_, fun _ _ => rfl⟩
    have hj := hd.lt hc
    cases hp : posN j bs 0 with
    | none => rw [bk_lt hj hp]; exact hc
    | some i =>
      obtain ⟨h1, _, _⟩ := pos_lt hp
      obtain ⟨k, hb⟩ : ∃ k, H[j]? = some k := ⟨_, List.getElem?_eq_getElem hj⟩
      by_cases hgg : genAt H j ≤ g
      · rw [bk_at hj hp hgg]
        rw [genAt_eq hb] at hgg ⊢
        have : g = k.g := by
          rcases Nat.eq_or_lt_of_le hgg with h | h
          · exact h.symm
          · rw [hd.gen j k g hb h] at hc; cases hc
        subst this
        rw [Nat.sub_self]
        refine hg.mu.pl i 0 c ?_
        simp only [frMu, if_true, h1, hb]
        exact hc
      · rw [bk_old hj hp hgg]; exact hc
  have hq : ∀ i g b' g' c, frB H bs i g = some (b', g') → μ'.pl i g = some c → (bkMu H bs μ μ').pl b' g' = some c := by
    intro i g b' g' c h hc
    simp only [frB] at h
    split at h
    · rename_i b hb
      cases h
      rw [bk_at (okN_lt hk hb) (posN_at hk hb) (by omega), Nat.add_sub_cancel_left]
      exact hc
    · rename_i hb
      cases h
      have : bs.length ≤ i := by rw [List.getElem?_eq_none_iff] at hb; exact hb
      rw [bk_ge (by omega), show H.length + (i - bs.length) - H.length + bs.length = i by omega]
      exact hc
  -- what a place behind the call is
  have cls : ∀ {j : Nat} {x : Blk} {c z : Nat}, (outF H bs H1 d)[j]? = some x → (bkMu H bs μ μ').pl j x.g = some (c, z) →
      (j < H.length ∧ posN j bs 0 = none ∧ H[j]? = some x ∧ μ.pl j x.g = some (c, z)) ∨
      ∃ i y, H1[i]? = some y ∧ μ'.pl i y.g = some (c, z) ∧ x.cells = renC (frB H bs) y.cells ∧ x.ty = y.ty ∧ ((j < H.length ∧ bs[i]? = some j) ∨ (H.length ≤ j ∧ i = j - H.length + bs.length)) := by
    intro j x c z hx hc
    rcases Nat.lt_or_ge j H.length with hj | hj
    · rw [outF_lt hj] at hx
      obtain ⟨k, hb⟩ : ∃ k, H[j]? = some k := ⟨_, List.getElem?_eq_getElem hj⟩
      rw [hb, Option.map_some, Option.some.injEq] at hx
      cases hp : posN j bs 0 with
      | none =>
        simp only [outB1, hp] at hx
        subst hx
        rw [bk_lt hj hp] at hc
        exact .inl ⟨hj, rfl, hb, hc⟩
      | some i =>
        obtain ⟨h1, _, h2⟩ := pos_lt hp
        obtain ⟨y, hy⟩ : ∃ y, H1[i]? = some y := ⟨_, List.getElem?_eq_getElem (by omega)⟩
        rw [out_at hfl hI hp hb hy] at hx
        subst hx
        have hc : (bkMu H bs μ μ').pl j (k.g + y.g) = some (c, z) := hc
        rw [bk_at hj hp (by rw [genAt_eq hb]; omega), genAt_eq hb, Nat.add_sub_cancel_left] at hc
        exact .inr ⟨i, y, hy, hc, rfl, rfl, .inl ⟨hj, h1⟩⟩
    · rw [outF_ge hj] at hx
      cases hy : H1[bs.length + (j - H.length)]? with
      | none => rw [hy] at hx; cases hx
      | some y =>
        rw [hy, Option.map_some, Option.some.injEq] at hx
        subst hx
        rw [bk_ge hj] at hc
        rw [show bs.length + (j - H.length) = j - H.length + bs.length by omega] at hy
        exact .inr ⟨_, y, hy, hc, rfl, rfl, .inr ⟨hj, rfl⟩⟩
  -- a place that the callee does not know
  have hid : ∀ {j : Nat} {x : Blk} {c z : Nat}, posN j bs 0 = none → H[j]? = some x → μ.pl j x.g = some (c, z) → ∀ i g z', (frMu H bs μ).pl i g ≠ some (c, z') := by
    intro j x c z hp hx hc i g z' hn
    obtain ⟨_, b, k, h1, h2, h3⟩ := frMu_some hn
    have := hH.inj j b x k c z z' hx h2 hc h3
    subst this
    exact posN_none hp h1
  have big : ∀ {i : Nat} {y : Blk} {c z : Nat}, H1[i]? = some y → μ'.pl i y.g = some (c, z) → ∀ {j : Nat} {x : Blk} {z' : Nat}, posN j bs 0 = none → H[j]? = some x → μ.pl j x.g = some (c, z') → False := by
    intro i y c z _ hc j x z' hp hx hc'
    rcases hg.fresh i y.g c z hc with ⟨g', z'', h⟩ | h
    · exact hid hp hx hc' i g' z'' h
    · have := (hH.lt j x.g c z' hc').2; omega
  refine ⟨u, bkMu H bs μ μ', rfl, ren_rel hq (by show μ.w0 = μ'.w0; exact hw0.symm) _ _ hr, ⟨⟨?_, ?_, ?_, ?_⟩, hle, rfl, ?_, ?_, hg.os, hg.output, hg.tape, hg.size, ?_⟩, ⟨?_, ?_⟩⟩
  · intro j x c z hx hc
    rcases cls hx hc with ⟨hj, hp, hb, hc'⟩ | ⟨i, y, hy, hc', e1, e2, _⟩
    · refine BRel.mono hle ((hH.blk j x c z hb hc').of_same ?_)
      exact hg.keep c (hH.lt j x.g c z hc').2 (hid hp hb hc')
    · obtain ⟨arr, q1, q2, q3⟩ := hg.rel.blk i y c z hy hc'
      exact ⟨arr, by rw [e2]; exact q1, q2, by rw [e1]; exact renC_rel hq (by show μ.w0 = μ'.w0; exact hw0.symm) q3⟩
  · intro j j' x x' c z z' hx hx' hc hc'
    rcases cls hx hc with ⟨hj, hp, hb, h1⟩ | ⟨i, y, hy, h1, _, _, h2⟩ <;> rcases cls hx' hc' with ⟨hj', hp', hb', h1'⟩ | ⟨i', y', hy', h1', _, _, h2'⟩
    · exact hH.inj j j' x x' c z z' hb hb' h1 h1'
    · exact (big hy' h1' hp hb h1).elim
    · exact (big hy h1 hp' hb' h1').elim
    · have := hg.rel.inj i i' y y' c z z' hy hy' h1 h1'
      subst this
      rcases h2 with ⟨a1, a2⟩ | ⟨a1, a2⟩ <;> rcases h2' with ⟨b1, b2⟩ | ⟨b1, b2⟩
      · rw [a2] at b2; cases b2; rfl
      · have := (List.getElem?_eq_some_iff.1 a2).1; omega
      · have := (List.getElem?_eq_some_iff.1 b2).1; omega
      · omega
  · intro j g c z hc
    show μ.w0.heap.size ≤ c ∧ c < w'.heap.size
    have old : μ.pl j g = some (c, z) → μ.w0.heap.size ≤ c ∧ c < w'.heap.size := fun h => by
      have := hH.lt j g c z h; have := hg.size; omega
    have new : ∀ {i g : Nat}, μ'.pl i g = some (c, z) → μ.w0.heap.size ≤ c ∧ c < w'.heap.size := fun h => by
      have := hg.rel.lt _ _ c z h; rw [hw0] at this; exact this
    rcases Nat.lt_or_ge j H.length with hj | hj
    · cases hp : posN j bs 0 with
      | none => rw [bk_lt hj hp] at hc; exact old hc
      | some i =>
        by_cases hgg : genAt H j ≤ g
        · rw [bk_at hj hp hgg] at hc; exact new hc
        · rw [bk_old hj hp hgg] at hc; exact old hc
    · rw [bk_ge hj] at hc; exact new hc
  · intro c hc
    show w'.heap[c]? = μ.w0.heap[c]?
    have := hg.rel.old c (by rw [hw0]; exact hc)
    rw [hw0] at this; exact this
  · intro j g c z hc
    rcases Nat.lt_or_ge j H.length with hj | hj
    · cases hp : posN j bs 0 with
      | none => rw [bk_lt hj hp] at hc; exact .inl ⟨g, z, hc⟩
      | some i =>
        obtain ⟨h1, _, _⟩ := pos_lt hp
        by_cases hgg : genAt H j ≤ g
        · rw [bk_at hj hp hgg] at hc
          rcases hg.fresh i _ c z hc with ⟨g', z', h⟩ | h
          · obtain ⟨_, b, k, h2, h3, h4⟩ := frMu_some h
            rw [h1] at h2; cases h2
            exact .inl ⟨k.g, z', h4⟩
          · exact .inr h
        · rw [bk_old hj hp hgg] at hc; exact .inl ⟨g, z, hc⟩
    · rw [bk_ge hj] at hc
      rcases hg.fresh _ _ c z hc with ⟨g', z', h⟩ | h
      · obtain ⟨_, b, k, h2, _, _⟩ := frMu_some h
        have := (List.getElem?_eq_some_iff.1 h2).1; omega
      · exact .inr h
  · rw [outF_length]; omega
  · intro c hc hn
    refine hg.keep c hc fun i g z e => ?_
    obtain ⟨_, b, k, _, _, h4⟩ := frMu_some e
    exact hn b k.g z h4
  · intro j g hj
    rw [outF_length] at hj
    rw [bk_ge (by omega)]
    exact hd'.out _ g (by omega)
  · intro j x g hx hlt
    rcases Nat.lt_or_ge j H.length with hj | hj
    · rw [outF_lt hj] at hx
      obtain ⟨k, hb⟩ : ∃ k, H[j]? = some k := ⟨_, List.getElem?_eq_getElem hj⟩
      rw [hb, Option.map_some, Option.some.injEq] at hx
      cases hp : posN j bs 0 with
      | none =>
        simp only [outB1, hp] at hx
        subst hx
        rw [bk_lt hj hp]; exact hd.gen j k g hb hlt
      | some i =>
        obtain ⟨h1, _, h2⟩ := pos_lt hp
        obtain ⟨y, hy⟩ : ∃ y, H1[i]? = some y := ⟨_, List.getElem?_eq_getElem (by omega)⟩
        rw [out_at hfl hI hp hb hy] at hx
        subst hx
        have hlt : k.g + y.g < g := hlt
        rw [bk_at hj hp (by rw [genAt_eq hb]; omega), genAt_eq hb]
        exact hd'.gen i y _ hy (by omega)
    · rw [outF_ge hj] at hx
      cases hy : H1[bs.length + (j - H.length)]? with
      | none => rw [hy] at hx; cases hx
      | some y =>
        rw [hy, Option.map_some, Option.some.injEq] at hx
        subst hx
        rw [bk_ge hj]
        rw [show bs.length + (j - H.length) = j - H.length + bs.length by omega] at hy
        exact hd'.gen _ y g hy hlt
theorem outV_get {H : Heap} {bs : List Nat} {d : HV} : ∀ (r : Heap) (j i : Nat), lget (outV H bs d r j) i = match r[i]? with | some k => (match posN (j + i) bs 0 with | some q => cond (stayB H bs d q k) [] (wideC k.cells) | none => []) | none => []
  | [], j, i => by simp [outV]
  | k :: r, j, 0 => by simp only [outV, lget, List.getElem?_cons_zero, Nat.add_zero]
  | k :: r, j, i + 1 => by
    simp only [outV, lget, List.getElem?_cons_succ]
    rw [outV_get r (j + 1) i, show j + 1 + i = j + (i + 1) by omega]
theorem frame_inv {H H1 : Heap} {bs : List Nat} {d : HV} (hI : HInv (frH H bs bs) [] H1 d) : HInv H [] (outF H bs H1 d) (outV H bs d H 0) where
  len := by rw [outF_length]; omega
  le := fun i k => by show vget (lget [] i) k ≤ _; simp [lget]
  ty := by
    intro j z x hz hx
    have hj := (List.getElem?_eq_some_iff.1 hz).1
    rw [outF_lt hj, hz, Option.map_some, Option.some.injEq] at hx
    subst hx
    unfold outB1
    split
    · rename_i i hp
      obtain ⟨_, h3⟩ := posN_some hp
      have h3' : bs[i]? = some j := by simpa using h3
      split
      · rename_i y hy
        cases stayB H bs d i z with
        | true => exact ⟨rfl, Nat.le_refl _⟩
        | false =>
          rw [cond_false]
          have hx : (frH H bs bs)[i]? = some ⟨renC (frR H bs) z.cells, z.ty, 0⟩ := by rw [frH_get, h3']; simp only [Option.map_some, hz]
          exact ⟨(hI.ty i _ y hx hy).1, by simp⟩
      · exact ⟨rfl, Nat.le_refl _⟩
    · exact ⟨rfl, Nat.le_refl _⟩
  same := by
    intro j z x hz hx he
    have hj := (List.getElem?_eq_some_iff.1 hz).1
    rw [outF_lt hj, hz, Option.map_some, Option.some.injEq] at hx
    have he : vget (lget (outV H bs d H 0) j) 0 = vget (lget [] j) 0 := he
    rw [outV_get, hz, Nat.zero_add] at he
    have hv : lget (outV H bs d H 0) j = match posN j bs 0 with | some q => cond (stayB H bs d q z) [] (wideC z.cells) | none => [] := by rw [outV_get, hz, Nat.zero_add]
    subst hx
    cases hp : posN j bs 0 with
    | none =>
      rw [hp] at hv
      have e : outB1 H bs H1 d j z = z := by simp only [outB1, hp]
      rw [e, hv]
      exact ⟨rfl, CInv.refl _ _⟩
    | some i =>
      rw [hp] at he hv
      simp only at he hv
      cases hs : stayB H bs d i z with
      | true =>
        rw [hs, cond_true] at hv
        have e : outB1 H bs H1 d j z = z := by
          simp only [outB1, hp, hs, cond_true]
          split <;> rfl
        rw [e, hv]
        exact ⟨rfl, CInv.refl _ _⟩
      | false =>
        rw [hs, cond_false] at he
        cases hc : z.cells <;> rw [hc] at he <;> simp [wideC, vget, lget] at he
/-- The contract of a callee that writes, at any call. -/
theorem WOkM.frame {f : FuncId} {F : WFM} (h : WOkM P ex (f, F)) : WOkM P ex (f, frW F) where
  call := h.call
  sound := by
    intro args H o v H' d he
    simp only [frW] at he
    obtain ⟨hk, he⟩ := cond_some he rfl
    split at he
    · rename_i o' v' H1 d' hF
      cases he
      obtain ⟨hI, hS⟩ := h.sound _ _ _ _ _ _ hF
      refine ⟨frame_inv hI, fun hok => ?_⟩
      rw [Ob.both_ok, Bool.and_eq_true] at hok
      exact Sim.frame hk hok.1 (hS hok.2) hI
    · cases he
/-- A contract of a callee that writes: what it says of memory, and that the evaluation says the same where what has to hold does. -/
inductive HI : Heap → Heap → HV → Prop
  | nil {G : Heap} : HI [] G []
  | keep {b : Blk} {H G : Heap} {d : HV} : HI H G d → HI (b :: H) (b :: G) ([] :: d)
  | chg {b x : Blk} {H G : Heap} {d : HV} : x.ty = b.ty → b.g ≤ x.g → HI H G d → HI (b :: H) (x :: G) ([1] :: d)
theorem HI.inv {H G : Heap} {d : HV} (h : HI H G d) : HInv H [] G d := by
  induction h with
  | nil => exact ⟨Nat.zero_le _, fun i k => by simp [hget], fun i z x hz => by simp at hz, fun i z x hz => by simp at hz⟩
  | @keep b H G d _ ih =>
    refine ⟨Nat.succ_le_succ ih.len, fun i k => by show vget (lget [] i) k ≤ _; simp [lget], fun i z x hz hx => ?_, fun i z x hz hx he => ?_⟩
    · cases i with
      | zero => simp at hz hx; subst hz; subst hx; exact ⟨rfl, Nat.le_refl _⟩
      | succ i => exact ih.ty i z x (by simpa using hz) (by simpa using hx)
    · cases i with
      | zero => simp at hz hx; subst hz; subst hx; exact ⟨rfl, CInv.refl _ _⟩
      | succ i => exact ih.same i z x (by simpa using hz) (by simpa using hx) (by simpa [hget, lget] using he)
  | @chg b x H G d ht hg _ ih =>
    refine ⟨Nat.succ_le_succ ih.len, fun i k => by show vget (lget [] i) k ≤ _; simp [lget], fun i z y hz hy => ?_, fun i z y hz hy he => ?_⟩
    · cases i with
      | zero => simp at hz hy; subst hz; subst hy; exact ⟨ht, hg⟩
      | succ i => exact ih.ty i z y (by simpa using hz) (by simpa using hy)
    · cases i with
      | zero => simp [hget, lget, vget] at he
      | succ i => exact ih.same i z y (by simpa using hz) (by simpa using hy) (by simpa [hget, lget] using he)
theorem WOkM.full {M : EnvM} {N k0 : Nat} {lits fk : List Tmp} {A : Ann} {f : FuncId} {fn : Func} (hM : M.Ok P ex) (hf : P.funcs[f]? = some fn) (hA : FnOk P ex k0 fn A) (hc : ∀ (args : Array Value) (w : World), (callFunc f args).run P w = .ok (.enter f args) w)
    {S : WFM} (h : ∀ args H o v G d, S args H = some (o, v, G, d) → HInv H [] G d ∧ H.length ≤ k0 ∧ (o.ok = true → outS (evFnM P ex M lits fk N A fn args H) = some (true, v, G))) : WOkM P ex (f, S) where
  call := hc
  sound := by
    intro args H o v G d hS
    obtain ⟨h1, h2, h3⟩ := h args H o v G d hS
    refine ⟨h1, fun ho => ?_⟩
    obtain ⟨o', d', h4, h5⟩ := outS_some (h3 ho)
    exact evFnM_sim hM hf hA h4 h2 h5
/-- One contract, else another one. -/
def altS (F G : SFM) : SFM := fun args => match F args with | some r => some r | none => G args
def altW (F G : WFM) : WFM := fun args H => match F args H with | some r => some r | none => G args H
theorem SOkM.alt {f : FuncId} {F G : SFM} (hF : SOkM P ex (f, F)) (hG : SOkM P ex (f, G)) : SOkM P ex (f, altS F G) where
  call := hF.call
  sound := by
    intro args o v H h ho
    simp only [altS] at h
    split at h
    · rename_i r hr
      cases h
      exact hF.sound args o v H hr ho
    · exact hG.sound args o v H h ho
theorem WOkM.alt {f : FuncId} {F G : WFM} (hF : WOkM P ex (f, F)) (hG : WOkM P ex (f, G)) : WOkM P ex (f, altW F G) where
  call := hF.call
  sound := by
    intro args H o v H' d h
    simp only [altW] at h
    split at h
    · rename_i r hr
      cases h
      exact hF.sound args H o v H' d hr
    · exact hG.sound args H o v H' d h
/-- Blocks of which nothing is told any more. -/
def loseAt (i : Nat) (G : Heap) : Heap := match G[i]? with | some b => G.set i ⟨.flat [], 0, b.g + 1⟩ | none => G
def loseAll : List Nat → Heap → Heap
  | [], G => G
  | i :: r, G => loseAll r (loseAt i G)
theorem Sim.loseAt {f : FuncId} {args : List AV} {H G : Heap} {v : AV} (h : Sim P ex f args H v G) (i : Nat) : Sim P ex f args H v (loseAt i G) := by
  intro μ vs w hv hH hd
  refine (h μ vs w hv hH hd).mono ?_
  rintro e w' ⟨u, μ', rfl, r, g, d⟩
  unfold Lst.loseAt
  split
  · rename_i b hb
    obtain ⟨g2, d2⟩ := Goes.lose (b' := ⟨.flat [], 0, b.g + 1⟩) g.rel d hb (Nat.lt_succ_self _)
    exact ⟨u, μ', rfl, r, g.trans g2, d2⟩
  · exact ⟨u, μ', rfl, r, g, d⟩
theorem Sim.loseAll {f : FuncId} {args : List AV} {H : Heap} {v : AV} : ∀ (L : List Nat) {G : Heap}, Sim P ex f args H v G → Sim P ex f args H v (loseAll L G)
  | [], _, h => h
  | i :: r, _, h => Sim.loseAll r (h.loseAt i)
def outK (L : List Nat) (r : RM) : Option (Bool × AV × Heap) := match r with | some (o, v, G, _) => some (o.ok, v, loseAll L G) | none => none
theorem outK_some {L : List Nat} {r : RM} {b : Bool} {v : AV} {G : Heap} (h : outK L r = some (b, v, G)) : ∃ o d G0, r = some (o, v, G0, d) ∧ o.ok = b ∧ G = loseAll L G0 := by
  cases r with
  | none => cases h
  | some p => obtain ⟨p1, p2, p3, p4⟩ := p; cases h; exact ⟨p1, p4, p3, rfl, rfl, rfl⟩
theorem SOkM.fullL {M : EnvM} {N : Nat} {lits fk : List Tmp} {A : Ann} {f : FuncId} {fn : Func} (L : List Nat) (hM : M.Ok P ex) (hf : P.funcs[f]? = some fn) (hA : FnOk P ex 0 fn A) (hc : ∀ (args : Array Value) (w : World), (callFunc f args).run P w = .ok (.enter f args) w)
    {S : List AV → Option (Ob × AV × Heap)} (h : ∀ args o v G, S args = some (o, v, G) → o.ok = true → outK L (evFnM P ex M lits fk N A fn args []) = some (true, v, G)) : SOkM P ex (f, S) where
  call := hc
  sound := by
    intro args o v G hv ho
    obtain ⟨o', d, G0, h4, h5, rfl⟩ := outK_some (h args o v G hv ho)
    exact Sim.loseAll L (evFnM_sim hM hf hA h4 (Nat.le_refl _) h5)
theorem WOkM.fullL {M : EnvM} {N k0 : Nat} {lits fk : List Tmp} {A : Ann} {f : FuncId} {fn : Func} (L : List Nat) (hM : M.Ok P ex) (hf : P.funcs[f]? = some fn) (hA : FnOk P ex k0 fn A) (hc : ∀ (args : Array Value) (w : World), (callFunc f args).run P w = .ok (.enter f args) w)
    {S : WFM} (h : ∀ args H o v G d, S args H = some (o, v, G, d) → HInv H [] G d ∧ H.length ≤ k0 ∧ (o.ok = true → outK L (evFnM P ex M lits fk N A fn args H) = some (true, v, G))) : WOkM P ex (f, S) where
  call := hc
  sound := by
    intro args H o v G d hS
    obtain ⟨h1, h2, h3⟩ := h args H o v G d hS
    refine ⟨h1, fun ho => ?_⟩
    obtain ⟨o', d', G0, h4, h5, rfl⟩ := outK_some (h3 ho)
    exact Sim.loseAll L (evFnM_sim hM hf hA h4 h2 h5)
end
end Go.Lst
