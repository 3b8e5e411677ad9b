/- Loops of any number of rounds. -/
import Derived.Test.YtbkogihigehjlaaLFn
namespace Go.Lst
/-- Blocks by other numbers and generations. -/
abbrev Ren := Nat → Nat → Option (Nat × Nat)
mutual
def renA (R : Ren) : AV → AV
  | .ptr (some p) => match R p.b p.g with | some (b, g) => .ptr (some ⟨b, g, p.o⟩) | none => .top
  | .slice (some p) l c => match R p.b p.g with | some (b, g) => .slice (some ⟨b, g, p.o⟩) l c | none => .top
  | .lst b g s l lo => match R b g with | some (b', g') => .lst b' g' s l lo | none => .top
  | .view n s f => .view n s (fun i => renL R (f i))
  | .vptr l => .vptr (renL R l)
  | .func f l r => .func f (renL R l) (renL R r)
  | .iface t u => .iface t (renA R u)
  | .alt q x y => .alt q (renA R x) (renA R y)
  | .agg l => .agg (renL R l)
  | .tup l => .tup (renL R l)
  | a => a
def renL (R : Ren) : List AV → List AV
  | [] => []
  | a :: l => renA R a :: renL R l
end
theorem renL_length (R : Ren) : ∀ l, (renL R l).length = l.length
  | [] => rfl
  | a :: l => by simp [renL, renL_length R l]
def renC (R : Ren) : Cells → Cells
  | .flat l => .flat (renL R l)
  | .sym m s f => .sym m s (fun i => renL R (f i))
section
variable {ex : Bool} {μ μ' : Mu}
mutual
theorem ren_rel {R : Ren} (hp : ∀ b g b' g' c, R b g = some (b', g') → μ.pl b g = some c → μ'.pl b' g' = some c) (hw : μ'.w0 = μ.w0) : ∀ (a : AV) (v : Value), VRel ex μ a v → VRel ex μ' (renA R a) v
  | .ptr (some p), v, h => by
    unfold renA
    cases hb : R p.b p.g with
    | none => simp only [VRel]
    | some q =>
      obtain ⟨b', g'⟩ := q
      simp only [VRel] at h ⊢
      obtain ⟨c, z, h1, rfl⟩ := h
      exact ⟨c, z, hp _ _ _ _ _ hb h1, rfl⟩
  | .slice (some p) l c, v, h => by
    unfold renA
    cases hb : R p.b p.g with
    | none => simp only [VRel]
    | some q =>
      obtain ⟨b', g'⟩ := q
      simp only [VRel] at h ⊢
      obtain ⟨c, z, h1, rfl⟩ := h
      exact ⟨c, z, hp _ _ _ _ _ hb h1, rfl⟩
  | .lst b g s l lo, v, h => by
    unfold renA
    cases hb : R b g with
    | none => simp only [VRel]
    | some q =>
      obtain ⟨b', g'⟩ := q
      simp only [VRel] at h ⊢
      obtain ⟨a, cap, rfl, h1, h2, h3, h4⟩ := h
      refine ⟨a, cap, rfl, h1, h2, h3, h4.imp id ?_⟩
      rintro ⟨c, z, hc, h5⟩
      exact ⟨c, z, hp _ _ _ _ _ hb hc, h5⟩
  | .view n s f, v, h => by
    simp only [renA, VRel] at h ⊢
    obtain ⟨a, cap, rfl, h1, h2⟩ := h
    refine ⟨a, cap, rfl, h1, h2.imp id ?_⟩
    rintro ⟨c, o, arr, t, fz, rfl, h3, h4, h5⟩
    exact ⟨c, o, arr, t, fz, rfl, by rw [hw]; exact h3, h4, fun i hi => ⟨rens_rel hp hw (f i) _ (h5 i hi).1, (h5 i hi).2⟩⟩
  | .vptr l, v, h => by
    simp only [renA, VRel] at h ⊢
    obtain ⟨c, o, arr, t, fz, rfl, h1, h2⟩ := h
    exact ⟨c, o, arr, t, fz, rfl, by rw [hw]; exact h1, by rw [renL_length]; exact rens_rel hp hw l _ h2⟩
  | .func f l r, v, h => by
    simp only [renA, VRel] at h ⊢
    obtain ⟨l', r', rfl, h1, h2⟩ := h
    exact ⟨l', r', rfl, rens_rel hp hw l _ h1, rens_rel hp hw r _ h2⟩
  | .iface t u, v, h => by
    simp only [renA, VRel] at h ⊢
    obtain ⟨x, rfl, h1⟩ := h
    exact ⟨x, rfl, ren_rel hp hw u x h1⟩
  | .agg l, v, h => by
    simp only [renA, VRel] at h ⊢
    obtain ⟨l', rfl, h1⟩ := h
    exact ⟨l', rfl, rens_rel hp hw l _ h1⟩
  | .tup l, v, h => by
    simp only [renA, VRel] at h ⊢
    obtain ⟨l', rfl, h1⟩ := h
    exact ⟨l', rfl, rens_rel hp hw l _ h1⟩
  | .bool _, v, h => h
  | .int _ _, v, h => h
  | .float _, v, h => h
  | .complex _ _, v, h => h
  | .str _, v, h => h
  | .ptr none, v, h => h
  | .slice none _ _, v, h => h
  | .nul, v, h => h
  | .top, v, h => h
  | .nilFunc, v, h => h
  | .nilIface, v, h => h
  | .unk _, v, h => h
  | .alt q x y, v, h => by
    simp only [renA, VRel] at h ⊢
    exact ⟨fun e => ren_rel hp hw x v (h.1 e), fun e => ren_rel hp hw y v (h.2 e)⟩
theorem rens_rel {R : Ren} (hp : ∀ b g b' g' c, R b g = some (b', g') → μ.pl b g = some c → μ'.pl b' g' = some c) (hw : μ'.w0 = μ.w0) : ∀ (l : List AV) (vs : List Value), VRels ex μ l vs → VRels ex μ' (renL R l) vs
  | [], vs, h => by rw [VRels.nil_iff.1 h]; exact VRels.nil
  | a :: l, vs, h => by
    obtain ⟨v, r, rfl, h1, h2⟩ := h.uncons
    exact VRels.cons (ren_rel hp hw a v h1) (rens_rel hp hw l r h2)
end
theorem renC_rel {R : Ren} (hp : ∀ b g b' g' c, R b g = some (b', g') → μ.pl b g = some c → μ'.pl b' g' = some c) (hw : μ'.w0 = μ.w0) {c : Cells} {vs : List Value} (h : CRel ex μ c vs) : CRel ex μ' (renC R c) vs := by
  cases c with
  | flat l => exact rens_rel hp hw l _ h
  | sym m s f => exact ⟨h.1, fun j hj => ⟨rens_rel hp hw _ _ (h.2 j hj).1, (h.2 j hj).2⟩⟩
end
mutual
/-- A value, seen as loosely as the pattern says. -/
def alA : AV → AV → AV
  | .top, _ => .top
  | .lst b g s _ _, x => match x with
    | .slice none 0 0 => .lst b g s 0 0
    | .nul => .lst b g s 0 0
    | .lst b' g' s' n _ => .lst b' g' s' n n
    | y => y
  | .agg t, x => match x with | .agg l => .agg (alL t l) | y => y
  | .tup t, x => match x with | .tup l => .tup (alL t l) | y => y
  | _, x => x
def alL : List AV → List AV → List AV
  | t :: ts, x :: l => alA t x :: alL ts l
  | _, l => l
end
section
variable {ex : Bool} {μ : Mu}
mutual
theorem alA_rel : ∀ (t x : AV) (v : Value), VRel ex μ x v → VRel ex μ (alA t x) v
  | .top, x, v, h => by unfold alA; simp only [VRel]
  | .lst b g s n lo, x, v, h => by
    unfold alA
    split
    · simp only [VRel] at h ⊢
      obtain ⟨_, _, rfl⟩ := h
      exact ⟨none, 0, rfl, Nat.le_refl _, Nat.le_refl _, Nat.zero_le _, .inl rfl⟩
    · simp only [VRel] at h ⊢
      obtain ⟨a, rfl⟩ := h
      exact ⟨a, 0, rfl, Nat.le_refl _, Nat.le_refl _, Nat.zero_le _, .inl rfl⟩
    · simp only [VRel] at h ⊢
      obtain ⟨a, cap, rfl, h1, h2, h3, h4⟩ := h
      exact ⟨a, cap, rfl, h1, h1, h3, h4⟩
    · exact h
  | .agg t, x, v, h => by
    unfold alA
    split
    · simp only [VRel] at h ⊢
      obtain ⟨l', rfl, h1⟩ := h
      exact ⟨l', rfl, alL_rel t _ _ h1⟩
    · exact h
  | .tup t, x, v, h => by
    unfold alA
    split
    · simp only [VRel] at h ⊢
      obtain ⟨l', rfl, h1⟩ := h
      exact ⟨l', rfl, alL_rel t _ _ h1⟩
    · exact h
  | .ptr p, x, v, h => by unfold alA; exact h
  | .slice p l c, x, v, h => by unfold alA; exact h
  | .view n s f, x, v, h => by unfold alA; exact h
  | .vptr l, x, v, h => by unfold alA; exact h
  | .func f l r, x, v, h => by unfold alA; exact h
  | .iface t u, x, v, h => by unfold alA; exact h
  | .bool _, x, v, h => by unfold alA; exact h
  | .int _ _, x, v, h => by unfold alA; exact h
  | .float _, x, v, h => by unfold alA; exact h
  | .complex _ _, x, v, h => by unfold alA; exact h
  | .str _, x, v, h => by unfold alA; exact h
  | .nul, x, v, h => by unfold alA; exact h
  | .nilFunc, x, v, h => by unfold alA; exact h
  | .nilIface, x, v, h => by unfold alA; exact h
  | .unk _, x, v, h => by unfold alA; exact h
  | .alt _ _ _, x, v, h => by unfold alA; exact h
theorem alL_rel : ∀ (t l : List AV) (vs : List Value), VRels ex μ l vs → VRels ex μ (alL t l) vs
  | [], l, vs, h => by cases l <;> exact h
  | t :: ts, [], vs, h => h
  | t :: ts, x :: l, vs, h => by
    obtain ⟨v, r, rfl, h1, h2⟩ := h.uncons
    exact VRels.cons (alA_rel t x v h1) (alL_rel ts l r h2)
end
end
/-- How loosely the cells of a block are seen. -/
inductive CT where
  | keep
  | flat (l : List AV)
  | sym (s : Nat)
def alC : CT → Cells → Cells
  | .flat t, .flat l => .flat (alL t l)
  | .sym s, .flat l => cond (oneAll l) (.sym (l.length / s) s (rowsOf s (l.length / s) l)) (.flat l)
  | _, c => c
theorem alC_rel {ex : Bool} {μ : Mu} (t : CT) {c : Cells} {vs : List Value} (h : CRel ex μ c vs) : CRel ex μ (alC t c) vs := by
  cases t with
  | keep => cases c <;> exact h
  | flat t =>
    cases c with
    | flat l => exact alL_rel t l _ h
    | sym => exact h
  | sym s =>
    cases c with
    | sym => exact h
    | flat l =>
      simp only [alC]
      cases h1 : oneAll l with
      | false => exact h
      | true =>
        have h : VRels ex μ l vs := h
        have hl := h.length
        have hdiv := Nat.div_mul_le_self l.length s
        show CRel ex μ (.sym (l.length / s) s (rowsOf s (l.length / s) l)) vs
        refine ⟨by omega, fun i hi => ⟨?_, fun u hu => ?_⟩⟩
        · rw [rowsOf_eq s _ _ _ hi]; exact (h.drop _).take _
        · exact oneAll_rel h h1 u (List.mem_of_mem_drop (List.mem_of_mem_take hu))
def alH : List CT → Heap → Heap
  | t :: ts, b :: H => ⟨alC t b.cells, b.ty, b.g⟩ :: alH ts H
  | _, H => H
theorem alH_length : ∀ (ts : List CT) (H : Heap), (alH ts H).length = H.length
  | [], H => by cases H <;> rfl
  | t :: ts, [] => rfl
  | t :: ts, b :: H => by simp [alH, alH_length ts H]
theorem alH_get : ∀ (ts : List CT) (H : Heap) (i : Nat) (b' : Blk), (alH ts H)[i]? = some b' → ∃ b t, H[i]? = some b ∧ b' = ⟨alC t b.cells, b.ty, b.g⟩ ∧ (∀ u, ts[i]? = some u → t = u) ∧ (ts[i]? = none → t = .keep)
  | [], H, i, b', h => by
    have h : H[i]? = some b' := by cases H <;> exact h
    exact ⟨b', .keep, h, by cases hc : b'.cells <;> (cases b'; simp only at hc; subst hc; rfl), by simp, fun _ => rfl⟩
  | t :: ts, [], i, b', h => by simp [alH] at h
  | t :: ts, b :: H, 0, b', h => by simp [alH] at h; exact ⟨b, t, by simp, h.symm, by simp, by simp⟩
  | t :: ts, b :: H, i + 1, b', h => by
    obtain ⟨x, u, h1, h2, h3, h4⟩ := alH_get ts H i b' (by simpa [alH] using h)
    exact ⟨x, u, by simpa using h1, h2, by simpa using h3, by simpa using h4⟩
/-- Where a block of a loop's head comes from: its number before (none: there is nothing yet); its generation there; type and an element, where there is nothing yet. -/
structure Src where
  i : Option Nat
  g : Nat
  ty : TypeId
  row : List AV
def gIs (H : Heap) (i g : Nat) : Bool := match H[i]? with | some k => Nat.beq k.g g | none => false
def srcAt (H : Heap) (b g : Nat) : List Src → Nat → Option (Nat × Nat)
  | [], _ => none
  | x :: r, j => match x.i with
    | some i => cond (Nat.beq i b && gIs H i g) (some (j, x.g)) (srcAt H b g r (j + 1))
    | none => srcAt H b g r (j + 1)
def renB (H : Heap) (keep : Nat) (srcs : List Src) : Ren := fun b g => cond (Nat.blt b keep) (some (b, g)) (srcAt H b g srcs keep)
def phan (x : Src) : Blk := ⟨.sym 0 x.row.length (fun _ => x.row), x.ty, x.g⟩
def srcBlk (R : Ren) (H : Heap) (x : Src) : Blk := match x.i with
  | some i => match H[i]? with | some k => ⟨renC R k.cells, k.ty, x.g⟩ | none => phan x
  | none => phan x
def wkH (keep : Nat) (srcs : List Src) (H : Heap) : Heap :=
  (H.take keep).map (fun k => ⟨renC (renB H keep srcs) k.cells, k.ty, k.g⟩) ++ srcs.map (srcBlk (renB H keep srcs) H)
def memS (i : Nat) : List Src → Bool
  | [] => false
  | x :: r => (match x.i with | some j => Nat.beq i j | none => false) || memS i r
def srcsOk (keep n : Nat) : List Src → Bool
  | [] => true
  | x :: r => (match x.i with | some i => Nat.ble keep i && (Nat.blt i n && !memS i r) | none => true) && srcsOk keep n r
def wkOk (keep : Nat) (srcs : List Src) (H : Heap) : Bool := Nat.ble keep H.length && srcsOk keep H.length srcs
theorem srcAt_some {H : Heap} {b g : Nat} : ∀ {srcs : List Src} {j : Nat} {p : Nat × Nat}, srcAt H b g srcs j = some p → ∃ n x, srcs[n]? = some x ∧ x.i = some b ∧ gIs H b g = true ∧ p = (j + n, x.g)
  | [], j, p, h => by simp [srcAt] at h
  | x :: r, j, p, h => by
    simp only [srcAt] at h
    have go : srcAt H b g r (j + 1) = some p → ∃ n x', (x :: r)[n]? = some x' ∧ x'.i = some b ∧ gIs H b g = true ∧ p = (j + n, x'.g) := by
      intro h
      obtain ⟨n, y, h1, h2, h3, h4⟩ := srcAt_some h
      exact ⟨n + 1, y, by simpa using h1, h2, h3, by rw [h4]; congr 1; omega⟩
    split at h
    · rename_i i hi
      cases hc : (Nat.beq i b && gIs H i g) with
      | false => rw [hc] at h; exact go h
      | true =>
        rw [hc] at h
        cases h
        simp only [Bool.and_eq_true] at hc
        have := beq_eq hc.1
        subst this
        exact ⟨0, x, by simp, hi, hc.2, rfl⟩
    · exact go h
theorem memS_of {i : Nat} : ∀ {r : List Src} {n : Nat} {x : Src}, r[n]? = some x → x.i = some i → memS i r = true
  | [], n, x, h, _ => by simp at h
  | y :: r, 0, x, h, hi => by simp at h; subst h; simp [memS, hi]
  | y :: r, n + 1, x, h, hi => by simp [memS, memS_of (r := r) (n := n) (by simpa using h) hi]
theorem srcsOk_get {keep N : Nat} : ∀ {srcs : List Src}, srcsOk keep N srcs = true → ∀ {n : Nat} {x : Src} {i : Nat}, srcs[n]? = some x → x.i = some i → keep ≤ i ∧ i < N
  | [], _, n, x, i, h, _ => by simp at h
  | y :: r, hk, 0, x, i, h, hi => by
    simp at h; subst h
    simp only [srcsOk, hi, Bool.and_eq_true, Nat.ble_eq, Nat.blt_eq] at hk
    exact ⟨hk.1.1, hk.1.2.1⟩
  | y :: r, hk, n + 1, x, i, h, hi => by
    simp only [srcsOk, Bool.and_eq_true] at hk
    exact srcsOk_get hk.2 (n := n) (by simpa using h) hi
theorem srcsOk_inj {keep N : Nat} : ∀ {srcs : List Src}, srcsOk keep N srcs = true → ∀ {n m : Nat} {x y : Src} {i : Nat}, srcs[n]? = some x → srcs[m]? = some y → x.i = some i → y.i = some i → n = m
  | [], _, n, m, x, y, i, h, _, _, _ => by simp at h
  | z :: r, hk, 0, 0, x, y, i, _, _, _, _ => rfl
  | z :: r, hk, 0, m + 1, x, y, i, hx, hy, hi, hj => by
    simp at hx; subst hx
    simp only [srcsOk, hi, Bool.and_eq_true, Bool.not_eq_true'] at hk
    have := memS_of (r := r) (n := m) (by simpa using hy) hj
    rw [this] at hk; cases hk.1.2.2
  | z :: r, hk, n + 1, 0, x, y, i, hx, hy, hi, hj => by
    simp at hy; subst hy
    simp only [srcsOk, hj, Bool.and_eq_true, Bool.not_eq_true'] at hk
    have := memS_of (r := r) (n := n) (by simpa using hx) hi
    rw [this] at hk; cases hk.1.2.2
  | z :: r, hk, n + 1, m + 1, x, y, i, hx, hy, hi, hj => by
    simp only [srcsOk, Bool.and_eq_true] at hk
    rw [srcsOk_inj hk.2 (n := n) (m := m) (by simpa using hx) (by simpa using hy) hi hj]
theorem wkH_length {keep : Nat} {srcs : List Src} {H : Heap} (h : keep ≤ H.length) : (wkH keep srcs H).length = keep + srcs.length := by
  simp [wkH]; omega
/-- Where the blocks lie, seen by their new numbers. -/
def wkMu (keep : Nat) (srcs : List Src) (H : Heap) (μ : Mu) : Mu :=
  ⟨fun j g => if j < keep then μ.pl j g else match srcs[j - keep]? with
    | some x => if g = x.g then (match x.i with | some i => (match H[i]? with | some k => μ.pl i k.g | none => none) | none => none) else none
    | none => none, μ.w0⟩
theorem wkMu_lt {keep : Nat} {srcs : List Src} {H : Heap} {μ : Mu} {j g : Nat} (h : j < keep) : (wkMu keep srcs H μ).pl j g = μ.pl j g := by
  simp only [wkMu, if_pos h]
theorem wkMu_some {keep : Nat} {srcs : List Src} {H : Heap} {μ : Mu} {j g : Nat} {c : Nat × Nat} (h : (wkMu keep srcs H μ).pl j g = some c) :
    (j < keep ∧ μ.pl j g = some c) ∨ (keep ≤ j ∧ ∃ x i k, srcs[j - keep]? = some x ∧ g = x.g ∧ x.i = some i ∧ H[i]? = some k ∧ μ.pl i k.g = some c) := by
  simp only [wkMu] at h
  split at h
  · rename_i hj; exact .inl ⟨hj, h⟩
  · rename_i hj
    right
    refine ⟨by omega, ?_⟩
    split at h
    · rename_i x hx
      split at h
      · rename_i hg
        split at h
        · rename_i i hi
          split at h
          · rename_i k hk; exact ⟨x, i, k, hx, hg, hi, hk, h⟩
          · cases h
        · cases h
      · cases h
    · cases h
theorem wkH_get {keep : Nat} {srcs : List Src} {H : Heap} (hk : keep ≤ H.length) {j : Nat} {b : Blk} (h : (wkH keep srcs H)[j]? = some b) :
    (j < keep ∧ ∃ k, H[j]? = some k ∧ b = ⟨renC (renB H keep srcs) k.cells, k.ty, k.g⟩) ∨ (keep ≤ j ∧ ∃ x, srcs[j - keep]? = some x ∧ b = srcBlk (renB H keep srcs) H x) := by
  unfold wkH at h
  have hl : ((H.take keep).map (fun k => (⟨renC (renB H keep srcs) k.cells, k.ty, k.g⟩ : Blk))).length = keep := by simp; omega
  rcases Nat.lt_or_ge j keep with hj | hj
  · left
    rw [List.getElem?_append_left (by omega), List.getElem?_map, List.getElem?_take, if_pos hj] at h
    cases hb : H[j]? with
    | none => rw [hb] at h; cases h
    | some k => rw [hb] at h; simp at h; exact ⟨hj, k, rfl, h.symm⟩
  · right
    rw [List.getElem?_append_right (by omega), hl, List.getElem?_map] at h
    cases hb : srcs[j - keep]? with
    | none => rw [hb] at h; cases h
    | some x => rw [hb] at h; simp at h; exact ⟨hj, x, rfl, h.symm⟩
theorem wk_ends {ex : Bool} {keep : Nat} {srcs : List Src} {cts : List CT} {tpl : List AV} {tm : List AV} {H : Heap} (hok : wkOk keep srcs H = true) {w0 : World} {H0 : Heap} {μ0 : Mu} {a : Act} {w : World} (hd0 : Dom μ0 H0) (hl : H0.length ≤ keep)
    (h : Ends ex tm w0 H0 μ0 H a w) : Ends ex (alL tpl (renL (renB H keep srcs) tm)) w0 H0 μ0 (alH cts (wkH keep srcs H)) a w := by
  obtain ⟨μ, h1, h2, h3, h4⟩ := h
  simp only [wkOk, Bool.and_eq_true, Nat.ble_eq] at hok
  obtain ⟨hk, hsr⟩ := hok
  have hp : ∀ b g b' g' c, renB H keep srcs b g = some (b', g') → μ.pl b g = some c → (wkMu keep srcs H μ).pl b' g' = some c := by
    intro b g b' g' c hr hc
    unfold renB at hr
    cases hb : Nat.blt b keep with
    | true =>
      rw [hb] at hr; cases hr
      rw [wkMu_lt (by simpa using hb)]; exact hc
    | false =>
      rw [hb, cond_false] at hr
      obtain ⟨n, x, q1, q2, q3, q4⟩ := srcAt_some hr
      cases q4
      simp only [wkMu]
      rw [if_neg (by omega), Nat.add_sub_cancel_left, q1]
      simp only [if_true, q2]
      unfold gIs at q3
      split at q3
      · rename_i k hkk
        rw [beq_eq q3]; exact hc
      · cases q3
  have crel : ∀ {c : Cells} {vs : List Value} (t : CT), CRel ex μ c vs → CRel ex (wkMu keep srcs H μ) (alC t (renC (renB H keep srcs) c)) vs := fun t hc => alC_rel t (renC_rel hp rfl hc)
  -- a block of the head that has a place
  have blk : ∀ j b' c, (alH cts (wkH keep srcs H))[j]? = some b' → (wkMu keep srcs H μ).pl j b'.g = some c → ∃ i k, H[i]? = some k ∧ μ.pl i k.g = some c ∧ b'.ty = k.ty ∧ (∃ t, b'.cells = alC t (renC (renB H keep srcs) k.cells)) ∧ ((j < keep ∧ i = j) ∨ (keep ≤ j ∧ ∃ x, srcs[j - keep]? = some x ∧ x.i = some i)) := by
    intro j b' c hb hc
    obtain ⟨b, t, e1, rfl, _, _⟩ := alH_get cts _ _ _ hb
    rcases wkMu_some hc with ⟨hj, hq⟩ | ⟨hj, x, i, k, e2, e3, e4, e5, hq⟩
    · rcases wkH_get hk e1 with ⟨_, k, e2, rfl⟩ | ⟨hj', _⟩
      · exact ⟨j, k, e2, hq, rfl, ⟨t, rfl⟩, .inl ⟨hj, rfl⟩⟩
      · omega
    · rcases wkH_get hk e1 with ⟨hj', _⟩ | ⟨_, y, e6, e7⟩
      · omega
      · rw [e2] at e6; cases e6
        simp only [srcBlk, e4, e5] at e7
        subst e7
        exact ⟨i, k, e5, hq, rfl, ⟨t, rfl⟩, .inr ⟨hj, x, e2, e4⟩⟩
  refine ⟨wkMu keep srcs H μ, alL_rel _ _ _ (rens_rel hp rfl _ _ h1), h2, ⟨⟨?_, ?_, ?_, h3.rel.old⟩, ⟨?_, h3.mu.w0⟩, h3.stay, ?_, ?_, h3.os, h3.output, h3.tape, h3.size, h3.keep⟩, ⟨?_, ?_⟩⟩
  · intro j b' c z hb hc
    obtain ⟨i, k, e1, e2, e3, ⟨t, e4⟩, _⟩ := blk j b' (c, z) hb hc
    obtain ⟨arr, q1, q2, q3⟩ := h3.rel.blk i k c z e1 e2
    exact ⟨arr, by rw [e3]; exact q1, q2, by rw [e4]; exact crel t q3⟩
  · intro j j' b b' c z z' hb hb' hc hc'
    obtain ⟨i, k, e1, e2, _, _, e5⟩ := blk j b (c, z) hb hc
    obtain ⟨i', k', f1, f2, _, _, f5⟩ := blk j' b' (c, z') hb' hc'
    have hii := h3.rel.inj i i' k k' c z z' e1 f1 e2 f2
    subst hii
    rcases e5 with ⟨p1, p2⟩ | ⟨p1, x, p2, p3⟩ <;> rcases f5 with ⟨q1, q2⟩ | ⟨q1, y, q2, q3⟩
    · omega
    · have := (srcsOk_get hsr q2 q3).1; omega
    · have := (srcsOk_get hsr p2 p3).1; omega
    · have := srcsOk_inj hsr p2 q2 p3 q3; omega
  · intro j g c z hc
    rcases wkMu_some hc with ⟨_, hc⟩ | ⟨_, _, i, k, _, _, _, _, hc⟩ <;> exact h3.rel.lt _ _ c z hc
  · intro j g c hc
    have hj := hd0.lt hc
    rw [wkMu_lt (by omega)]; exact h3.mu.pl j g c hc
  · intro j g c z hc
    rcases wkMu_some hc with ⟨_, hc⟩ | ⟨_, x, i, k, e2, _, e4, _, hc⟩
    · exact h3.fresh _ _ c z hc
    · rcases h3.fresh _ _ c z hc with ⟨g', z', hh⟩ | hh
      · have h5 := hd0.lt hh
        have h6 := (srcsOk_get hsr e2 e4).1
        omega
      · exact .inr hh
  · rw [alH_length, wkH_length hk]; omega
  · intro j g hj
    rw [alH_length, wkH_length hk] at hj
    cases hc : (wkMu keep srcs H μ).pl j g with
    | none => rfl
    | some c =>
      rcases wkMu_some hc with ⟨hj', _⟩ | ⟨_, x, _, _, e2, _⟩
      · omega
      · have := (List.getElem?_eq_some_iff.1 e2).1; omega
  · intro j b' g hb hg
    obtain ⟨b, t, e1, rfl, _, _⟩ := alH_get cts _ _ _ hb
    simp only at hg
    cases hc : (wkMu keep srcs H μ).pl j g with
    | none => rfl
    | some c =>
      rcases wkMu_some hc with ⟨hj, hc⟩ | ⟨hj, x, i, k, e2, e3, e4, e5, hc⟩
      · rcases wkH_get hk e1 with ⟨_, k, e2, rfl⟩ | ⟨hj', _⟩
        · rw [h4.gen j k g e2 hg] at hc; cases hc
        · omega
      · rcases wkH_get hk e1 with ⟨hj', _⟩ | ⟨_, y, e6, e7⟩
        · omega
        · rw [e2] at e6; cases e6
          simp only [srcBlk, e4, e5] at e7
          subst e7
          simp only at hg; omega
/-- The state at a loop's head, as it is seen there: nothing that is not needed, and lists for what is still nil. -/
theorem ent_ends {ex : Bool} {phs : List Src} {cts : List CT} {tpl : List AV} {tm : List AV} {H : Heap} {w0 : World} {H0 : Heap} {μ0 : Mu} {a : Act} {w : World}
    (h : Ends ex tm w0 H0 μ0 H a w) : Ends ex (alL tpl tm) w0 H0 μ0 (alH cts (H ++ phs.map phan)) a w := by
  obtain ⟨μ, h1, h2, h3, h4⟩ := h
  have hle : HLe H (H ++ phs.map phan) := fun i b hb => by rw [List.getElem?_append_left (List.getElem?_eq_some_iff.1 hb).1]; exact hb
  have h5 := h3.more h4 hle
  have h6 := h4.le hle
  refine ⟨μ, alL_rel _ _ _ h1, h2, ⟨⟨?_, ?_, h5.rel.lt, h5.rel.old⟩, h5.mu, h5.stay, h5.fresh, by rw [alH_length]; exact h5.ext, h5.os, h5.output, h5.tape, h5.size, h5.keep⟩, ⟨?_, ?_⟩⟩
  · intro j b' c z hb hc
    obtain ⟨b, t, e1, rfl, _, _⟩ := alH_get cts _ _ _ hb
    obtain ⟨arr, q1, q2, q3⟩ := h5.rel.blk j b c z e1 hc
    exact ⟨arr, q1, q2, alC_rel t q3⟩
  · intro j j' b b' c z z' hb hb' hc hc'
    obtain ⟨x, t, e1, rfl, _, _⟩ := alH_get cts _ _ _ hb
    obtain ⟨y, u, e2, rfl, _, _⟩ := alH_get cts _ _ _ hb'
    exact h5.rel.inj j j' x y c z z' e1 e2 hc hc'
  · intro j g hj; rw [alH_length] at hj; exact h6.out j g hj
  · intro j b' g hb hg
    obtain ⟨b, t, e1, rfl, _, _⟩ := alH_get cts _ _ _ hb
    exact h6.gen j b g e1 hg

def goC : Ch → Bool
  | .last .normal _ => true
  | .last _ _ => false
  | .more .normal g _ r => cond g true (goC r)
  | .more _ g _ r => cond g false (goC r)
theorem goC_iff : ∀ c, goC c = true ↔ (sel c).1 = .normal
  | .last e s => by cases e <;> simp [goC, sel]
  | .more e g s r => by
    have ih := goC_iff r
    cases e <;> cases g <;> simp [goC, sel, ih]
def okC : Ch → Bool
  | .last _ s => s.ob.ok
  | .more _ g s r => mrgB g s.ob.ok (okC r)
theorem okC_eq : ∀ c, okC c = (sel c).2.ob.ok
  | .last _ _ => rfl
  | .more _ g s r => by rw [okC, mrgB_eq]; cases g <;> simp [sel, okC_eq r]
/-- The chain has one way on. -/
def oneN : Ch → Bool
  | .last .normal _ => true
  | .last _ _ => false
  | .more .normal _ _ r => !hasN r
  | .more _ _ _ r => oneN r
where hasN : Ch → Bool
  | .last .normal _ => true
  | .last _ _ => false
  | .more .normal _ _ _ => true
  | .more _ _ _ r => hasN r
def theN : Ch → St → St
  | .last .normal s, _ => s
  | .last _ _, d => d
  | .more .normal _ s _, _ => s
  | .more _ _ _ r, d => theN r d
theorem go_has : ∀ c, goC c = true → oneN.hasN c = true
  | .last e s, h => by cases e <;> simp_all [goC, oneN.hasN]
  | .more e g s r, h => by
    have ih := go_has r
    cases e <;> cases g <;> simp_all [goC, oneN.hasN]
theorem theN_sel (d : St) : ∀ c, oneN c = true → goC c = true → (sel c).2 = theN c d
  | .last e s, h1, h2 => by cases e <;> simp_all [goC, sel, theN]
  | .more e g s r, h1, h2 => by
    have ih := theN_sel d r
    have hh := go_has r
    cases e <;> cases g <;> simp_all [goC, sel, theN, oneN]
/-- The other ways out. -/
def outC (f : St → St) : Ch → Option Ch
  | .last .normal _ => none
  | .last e s => some (.last e (f s))
  | .more .normal _ _ r => outC f r
  | .more e g s r => match outC f r with
    | some c => some (.more e g (f s) c)
    | none => some (.last e (f s))
theorem outC_none (f : St → St) : ∀ c, outC f c = none → goC c = true
  | .last e s, h => by cases e <;> simp_all [outC, goC]
  | .more e g s r, h => by
    have ih := outC_none f r
    cases e <;> simp only [outC] at h
    case normal => cases g <;> simp_all [goC]
    all_goals (split at h <;> cases h)
theorem outC_sel (f : St → St) : ∀ c d, goC c = false → outC f c = some d → sel d = ((sel c).1, f (sel c).2)
  | .last e s, d, h1, h2 => by cases e <;> simp_all [outC, goC, sel] <;> (subst h2; rfl)
  | .more e g s r, d, h1, h2 => by
    have ih := outC_sel f r
    have hn := outC_none f r
    cases e <;> simp only [outC] at h2
    case normal =>
      cases g with
      | true => simp [goC] at h1
      | false => exact ih d h1 h2
    all_goals
      split at h2
      · rename_i c hc
        cases h2
        cases g with
        | true => rfl
        | false => exact ih c h1 hc
      · rename_i hc
        cases h2
        cases g with
        | true => rfl
        | false => have := hn hc; simp [goC, this] at h1
theorem outC_all {f : St → St} {y z : St} (hf : ∀ s, InvW y s → InvW z (f s)) : ∀ c d, AllI y c → outC f c = some d → AllI z d
  | .last e s, d, hy, h => by cases e <;> simp only [outC] at h <;> first | (cases h; done) | (cases h; exact hf s hy)
  | .more e g s r, d, hy, h => by
    have ih := outC_all hf r
    cases e <;> simp only [outC] at h
    case normal => exact ih d hy.2 h
    all_goals
      split at h
      · rename_i c hc; cases h; exact ⟨hf s hy.1, ih c hy.2 hc⟩
      · cases h; exact hf s hy.1
theorem theN_inv {y : St} (d : St) (hd : InvW y d) : ∀ c, AllI y c → InvW y (theN c d)
  | .last e s, h => by cases e <;> first | exact h | exact hd
  | .more e g s r, h => by
    have ih := theN_inv d hd r h.2
    cases e <;> first | exact h.1 | exact ih
section
variable {X : Type} (ok go : X → Bool) (step : X → X)
/-- The head of the last round. -/
def runL : Nat → X → X
  | 0, x => x
  | n + 1, x => cond (go x) (runL n (step x)) x
/-- Every round is fit, and there is a last one. -/
def oksL : Nat → X → Bool
  | 0, _ => false
  | n + 1, x => ok x && cond (go x) (oksL n (step x)) true
open Classical in
/-- Every round is fit, and there is a last one, however many there are. -/
noncomputable def endsL (x : X) : Bool := decide (∃ n, oksL ok go step n x = true)
open Classical in
noncomputable def fuelL (x : X) : Nat := if h : ∃ n, oksL ok go step n x = true then Classical.choose h else 0
/-- The head of the last round, however many there are. -/
noncomputable def lastL (x : X) : X := runL go step (fuelL ok go step x) x
variable {ok go step}
theorem oksL_fuel {x : X} (h : endsL ok go step x = true) : oksL ok go step (fuelL ok go step x) x = true := by
  have h' : ∃ n, oksL ok go step n x = true := by simpa [endsL] using h
  unfold fuelL
  rw [dif_pos h']; exact Classical.choose_spec h'
theorem endsL_of {x : X} {n : Nat} (h : oksL ok go step n x = true) : endsL ok go step x = true := by
  simp only [endsL, decide_eq_true_eq]; exact ⟨n, h⟩
theorem runL_more : ∀ {n m : Nat} {x : X}, oksL ok go step n x = true → oksL ok go step m x = true → runL go step n x = runL go step m x
  | 0, m, x, h, _ => by simp [oksL] at h
  | n + 1, 0, x, _, h => by simp [oksL] at h
  | n + 1, m + 1, x, h, h' => by
    simp only [oksL, Bool.and_eq_true] at h h'
    simp only [runL]
    cases hg : go x with
    | false => rfl
    | true =>
      rw [hg] at h h'
      exact runL_more h.2 h'.2
theorem lastL_eq {x : X} {n : Nat} (h : oksL ok go step n x = true) : lastL ok go step x = runL go step n x := runL_more (oksL_fuel (endsL_of h)) h
theorem endsL_step {x : X} (h : ok x = true) (hs : go x = true → endsL ok go step (step x) = true) : endsL ok go step x = true := by
  cases hg : go x with
  | false => exact endsL_of (n := 1) (by simp [oksL, h, hg])
  | true => exact endsL_of (n := fuelL ok go step (step x) + 1) (by simp [oksL, h, hg, oksL_fuel (hs hg)])
theorem endsL_go {x : X} (h : endsL ok go step x = true) : ok x = true ∧ (go x = true → endsL ok go step (step x) = true) := by
  have := oksL_fuel h
  cases hn : fuelL ok go step x with
  | zero => rw [hn] at this; simp [oksL] at this
  | succ n =>
    rw [hn] at this
    simp only [oksL, Bool.and_eq_true] at this
    refine ⟨this.1, fun hg => ?_⟩
    rw [hg] at this; exact endsL_of this.2
theorem lastL_stop {x : X} (h : endsL ok go step x = true) (hg : go x = false) : lastL ok go step x = x := by
  have := (endsL_go h).1
  rw [lastL_eq (n := 1) (by simp [oksL, this, hg])]
  simp [runL, hg]
theorem lastL_go {x : X} (h : endsL ok go step x = true) (hg : go x = true) : lastL ok go step x = lastL ok go step (step x) := by
  obtain ⟨h1, h2⟩ := endsL_go h
  have h3 := oksL_fuel (h2 hg)
  rw [lastL_eq (n := fuelL ok go step (step x) + 1) (by simp [oksL, h1, hg, h3])]
  simp [runL, hg, lastL]
/-- A loop by what stays and what grows less. -/
theorem loop_ind (I : X → Prop) (m : X → Nat) (hI : ∀ x, I x → ok x = true ∧ (go x = true → I (step x) ∧ m (step x) < m x)) :
    ∀ (n : Nat) (x : X), m x ≤ n → I x → endsL ok go step x = true ∧ I (lastL ok go step x) ∧ go (lastL ok go step x) = false
  | n, x, hm, hx => by
    obtain ⟨h1, h2⟩ := hI x hx
    cases hg : go x with
    | false =>
      have he : endsL ok go step x = true := endsL_step h1 fun e => by rw [hg] at e; cases e
      rw [lastL_stop he hg]
      exact ⟨he, hx, hg⟩
    | true =>
      obtain ⟨h3, h4⟩ := h2 hg
      cases n with
      | zero => omega
      | succ n =>
        obtain ⟨q1, q2, q3⟩ := loop_ind I m hI n (step x) (by omega) h3
        have he : endsL ok go step x = true := endsL_step h1 fun _ => q1
        rw [lastL_go he hg]
        exact ⟨he, q2, q3⟩
end
/-- Where the mark is set, the second's; else the first's. -/
def pickT : List Bool → List AV → List AV → List AV
  | false :: m, a :: l, _ :: r => a :: pickT m l r
  | true :: m, _ :: l, b :: r => b :: pickT m l r
  | _, _, r => r
def pickH : List Bool → Heap → Heap → Heap
  | false :: m, a :: l, _ :: r => a :: pickH m l r
  | true :: m, _ :: l, b :: r => b :: pickH m l r
  | _, _, r => r
theorem pickT_length : ∀ (m : List Bool) (l r : List AV), (pickT m l r).length = r.length
  | [], l, r => by cases l <;> cases r <;> rfl
  | b :: m, [], r => by cases b <;> cases r <;> rfl
  | b :: m, _ :: l, [] => by cases b <;> rfl
  | false :: m, a :: l, b :: r => by simp [pickT, pickT_length m l r]
  | true :: m, a :: l, b :: r => by simp [pickT, pickT_length m l r]
theorem pickH_length : ∀ (m : List Bool) (l r : Heap), (pickH m l r).length = r.length
  | [], l, r => by cases l <;> cases r <;> rfl
  | b :: m, [], r => by cases b <;> cases r <;> rfl
  | b :: m, _ :: l, [] => by cases b <;> rfl
  | false :: m, a :: l, b :: r => by simp [pickH, pickH_length m l r]
  | true :: m, a :: l, b :: r => by simp [pickH, pickH_length m l r]
theorem pickT_false : ∀ (m : List Bool) (l r : List AV) (i : Nat), m[i]? = some false → i < l.length → i < r.length → (pickT m l r)[i]? = l[i]?
  | [], l, r, i, h, _, _ => by simp at h
  | b :: m, [], r, i, _, h, _ => by simp at h
  | b :: m, _ :: l, [], i, _, _, h => by simp at h
  | false :: m, a :: l, b :: r, 0, _, _, _ => rfl
  | true :: m, a :: l, b :: r, 0, h, _, _ => by simp at h
  | false :: m, a :: l, b :: r, i + 1, h, h1, h2 => by simpa [pickT] using pickT_false m l r i (by simpa using h) (by simpa using h1) (by simpa using h2)
  | true :: m, a :: l, b :: r, i + 1, h, h1, h2 => by simpa [pickT] using pickT_false m l r i (by simpa using h) (by simpa using h1) (by simpa using h2)
theorem pickT_true : ∀ (m : List Bool) (l r : List AV) (i : Nat), m[i]? ≠ some false → (pickT m l r)[i]? = r[i]?
  | [], l, r, i, _ => by cases l <;> cases r <;> rfl
  | b :: m, [], r, i, _ => by cases b <;> cases r <;> rfl
  | b :: m, _ :: l, [], i, _ => by cases b <;> rfl
  | false :: m, a :: l, b :: r, 0, h => by simp at h
  | true :: m, a :: l, b :: r, 0, _ => rfl
  | false :: m, a :: l, b :: r, i + 1, h => by simpa [pickT] using pickT_true m l r i (by simpa using h)
  | true :: m, a :: l, b :: r, i + 1, h => by simpa [pickT] using pickT_true m l r i (by simpa using h)
theorem pickH_false : ∀ (m : List Bool) (l r : Heap) (i : Nat), m[i]? = some false → i < l.length → i < r.length → (pickH m l r)[i]? = l[i]?
  | [], l, r, i, h, _, _ => by simp at h
  | b :: m, [], r, i, _, h, _ => by simp at h
  | b :: m, _ :: l, [], i, _, _, h => by simp at h
  | false :: m, a :: l, b :: r, 0, _, _, _ => rfl
  | true :: m, a :: l, b :: r, 0, h, _, _ => by simp at h
  | false :: m, a :: l, b :: r, i + 1, h, h1, h2 => by simpa [pickH] using pickH_false m l r i (by simpa using h) (by simpa using h1) (by simpa using h2)
  | true :: m, a :: l, b :: r, i + 1, h, h1, h2 => by simpa [pickH] using pickH_false m l r i (by simpa using h) (by simpa using h1) (by simpa using h2)
theorem pickH_true : ∀ (m : List Bool) (l r : Heap) (i : Nat), m[i]? ≠ some false → (pickH m l r)[i]? = r[i]?
  | [], l, r, i, _ => by cases l <;> cases r <;> rfl
  | b :: m, [], r, i, _ => by cases b <;> cases r <;> rfl
  | b :: m, _ :: l, [], i, _ => by cases b <;> rfl
  | false :: m, a :: l, b :: r, 0, h => by simp at h
  | true :: m, a :: l, b :: r, 0, _ => rfl
  | false :: m, a :: l, b :: r, i + 1, h => by simpa [pickH] using pickH_true m l r i (by simpa using h)
  | true :: m, a :: l, b :: r, i + 1, h => by simpa [pickH] using pickH_true m l r i (by simpa using h)
/-- The versions of what a round may change. -/
def chgV : List Bool → List Nat
  | [] => []
  | b :: m => cond b 1 0 :: chgV m
def chgHV : List Bool → HV
  | [] => []
  | b :: m => cond b [1] [] :: chgHV m
theorem chgV_get : ∀ (m : List Bool) (i : Nat), vget (chgV m) i = 0 → m[i]? ≠ some true
  | [], i, _ => by simp
  | b :: m, 0, h => by cases b <;> simp_all [chgV, vget]
  | b :: m, i + 1, h => by simpa using chgV_get m i (by simpa [chgV, vget] using h)
theorem chgHV_get : ∀ (m : List Bool) (i : Nat), hget (chgHV m) i 0 = 0 → m[i]? ≠ some true
  | [], i, _ => by simp
  | b :: m, 0, h => by cases b <;> simp_all [chgHV, hget, lget, vget]
  | b :: m, i + 1, h => by simpa using chgHV_get m i (by simpa [chgHV, hget, lget] using h)
/-- What is not marked has its old version. -/
def verV : List Bool → List Nat → Bool
  | [], _ => true
  | _ :: _, [] => true
  | b :: m, v :: l => (b || Nat.beq v 0) && verV m l
def verHV : List Bool → HV → Bool
  | [], _ => true
  | _ :: _, [] => true
  | b :: m, v :: l => (b || vzero v) && verHV m l
theorem verV_get : ∀ (m : List Bool) (l : List Nat) (i : Nat), verV m l = true → m[i]? = some false → vget l i = 0
  | [], _, i, _, h => by simp at h
  | _ :: _, [], i, _, _ => by simp
  | b :: m, v :: l, 0, hv, h => by
    simp at h; subst h
    simp only [verV, Bool.false_or, Bool.and_eq_true] at hv
    exact beq_eq hv.1
  | b :: m, v :: l, i + 1, hv, h => by
    simp only [verV, Bool.and_eq_true] at hv
    exact verV_get m l i hv.2 (by simpa using h)
theorem verHV_get : ∀ (m : List Bool) (l : HV) (i : Nat), verHV m l = true → m[i]? = some false → ∀ k, hget l i k = 0
  | [], _, i, _, h, k => by simp at h
  | _ :: _, [], i, _, _, k => by simp [hget]
  | b :: m, v :: l, 0, hv, h, k => by
    simp at h; subst h
    simp only [verHV, Bool.false_or, Bool.and_eq_true] at hv
    exact vzero_get v hv.1 k
  | b :: m, v :: l, i + 1, hv, h, k => by
    simp only [verHV, Bool.and_eq_true] at hv
    exact verHV_get m l i hv.2 (by simpa using h) k
def verC (m mH : List Bool) : Ch → Bool
  | .last _ s => verV m s.tv && verHV mH s.hv
  | .more _ _ s r => (verV m s.tv && verHV mH s.hv) && verC m mH r
theorem verC_sel {m mH : List Bool} : ∀ {c : Ch}, verC m mH c = true → verV m (sel c).2.tv = true ∧ verHV mH (sel c).2.hv = true
  | .last _ s, h => by simp only [verC, Bool.and_eq_true] at h; exact h
  | .more _ g s r, h => by
    simp only [verC, Bool.and_eq_true] at h
    cases g with
    | true => exact h.1
    | false => have := verC_sel (c := r) h.2; exact this
/-- What is not marked is not seen more loosely. -/
def keptT : List Bool → List AV → Bool
  | [], _ => true
  | _ :: _, [] => true
  | b :: m, a :: l => (b || (match a with | .nul => true | _ => false)) && keptT m l
def keptH : List Bool → List CT → Bool
  | [], _ => true
  | _ :: _, [] => true
  | b :: m, a :: l => (b || (match a with | .keep => true | _ => false)) && keptH m l
theorem align_nul (a : AV) : alA .nul a = a := rfl
theorem kept_get : ∀ (m : List Bool) (t : List AV) (l : List AV) (i : Nat), keptT m t = true → m[i]? = some false → (alL t l)[i]? = l[i]?
  | [], _, _, i, _, h => by simp at h
  | _ :: _, [], l, i, _, _ => by cases l <;> rfl
  | b :: m, a :: t, [], i, _, _ => rfl
  | b :: m, a :: t, x :: l, 0, hk, h => by
    simp at h; subst h
    simp only [keptT, Bool.false_or, Bool.and_eq_true] at hk
    have : a = .nul := by cases a <;> simp_all
    subst this
    simp [alL, align_nul]
  | b :: m, a :: t, x :: l, i + 1, hk, h => by
    simp only [keptT, Bool.and_eq_true] at hk
    simpa [alL] using kept_get m t l i hk.2 (by simpa using h)
theorem keptH_get : ∀ (m : List Bool) (t : List CT) (l : Heap) (i : Nat), keptH m t = true → m[i]? = some false → (alH t l)[i]? = l[i]?
  | [], _, _, i, _, h => by simp at h
  | _ :: _, [], l, i, _, _ => by cases l <;> rfl
  | b :: m, a :: t, [], i, _, _ => rfl
  | b :: m, a :: t, x :: l, 0, hk, h => by
    simp at h; subst h
    simp only [keptH, Bool.false_or, Bool.and_eq_true] at hk
    have : a = .keep := by cases a <;> simp_all
    subst this
    simp [alH, alC]
  | b :: m, a :: t, x :: l, i + 1, hk, h => by
    simp only [keptH, Bool.and_eq_true] at hk
    simpa [alH] using keptH_get m t l i hk.2 (by simpa using h)
def hdr (H : Heap) : List (TypeId × Nat) := H.map fun b => (b.ty, b.g)
def headSt (p : List AV × Heap) : St := ⟨.tt, p.1, [], p.2, []⟩
section
variable {P : Program} {ex : Bool} {M : EnvM} {lits fk : List Tmp}
/-- The ways of a round. -/
def rawC (P : Program) (ex : Bool) (M : EnvM) (lits fk : List Tmp) (N : Nat) (A : Ann) (c : Code) (p : List AV × Heap) : Ch :=
  match evCodeM P ex M lits fk N c A (headSt p) with
  | some ch => ch
  | none => .last .outgrown (headSt p)
/-- One round: does it come about, has it one way on, is it taken, is it fit, can its end be seen by the head's numbers, how it is seen, does it change only what is marked? -/
def rnd (P : Program) (ex : Bool) (M : EnvM) (lits fk : List Tmp) (N : Nat) (A : Ann) (c : Code) (keep : Nat) (srcs : List Src) (tpl : List AV) (cts : List CT) (chg chgH : List Bool) (p : List AV × Heap) : Bool × Bool × Bool × Bool × Bool × (List AV × Heap) × Bool :=
  match evCodeM P ex M lits fk N c A (headSt p) with
  | some ch => (true, oneN ch, goC ch, okC ch, wkOk keep srcs (theN ch (headSt p)).H, (alL tpl (renL (renB (theN ch (headSt p)).H keep srcs) (theN ch (headSt p)).tm), alH cts (wkH keep srcs (theN ch (headSt p)).H)), verC chg chgH ch)
  | none => (false, false, false, false, false, p, false)
/-- What is proved of a loop, round by round: a family of states at its head. 'chg', 'chgH': which temporaries, which blocks a round may change; 'tpl', 'cts': how loosely the head is seen; 'keep', 'srcs': the blocks behind a round, by their numbers at the head. -/
structure Fam (P : Program) (ex : Bool) (M : EnvM) (lits fk : List Tmp) (N : Nat) (k0 : Nat) (A : Ann) (c : Code) (X : Type) where
  sh : X → List AV × Heap
  ok : X → Bool
  go : X → Bool
  step : X → X
  chg : List Bool
  chgH : List Bool
  tpl : List AV
  cts : List CT
  keep : Nat
  srcs : List Src
  ann : AnnOk P ex k0 c A
  le : Nat.ble k0 keep = true
  kept : keptT chg tpl = true
  keptB : keptH chgH cts = true
  all : ∀ x, rnd P ex M lits fk N A c keep srcs tpl cts chg chgH (sh x) = (true, true, go x, ok x, true, sh (step x), true)
  len : ∀ x, (sh x).1.length = chg.length
  head : ∀ x y, hdr (sh x).2 = hdr (sh y).2
  con : ∀ x y, pickT chg (sh x).1 (sh y).1 = (sh y).1
  conH : ∀ x y, pickH chgH (sh x).2 (sh y).2 = (sh y).2
variable {N k0 : Nat} {A : Ann} {c : Code} {X : Type}
theorem Fam.facts (F : Fam P ex M lits fk N k0 A c X) (x : X) : evCodeM P ex M lits fk N c A (headSt (F.sh x)) = some (rawC P ex M lits fk N A c (F.sh x)) ∧
    oneN (rawC P ex M lits fk N A c (F.sh x)) = true ∧ goC (rawC P ex M lits fk N A c (F.sh x)) = F.go x ∧ okC (rawC P ex M lits fk N A c (F.sh x)) = F.ok x ∧
    wkOk F.keep F.srcs (theN (rawC P ex M lits fk N A c (F.sh x)) (headSt (F.sh x))).H = true ∧
    (alL F.tpl (renL (renB (theN (rawC P ex M lits fk N A c (F.sh x)) (headSt (F.sh x))).H F.keep F.srcs) (theN (rawC P ex M lits fk N A c (F.sh x)) (headSt (F.sh x))).tm), alH F.cts (wkH F.keep F.srcs (theN (rawC P ex M lits fk N A c (F.sh x)) (headSt (F.sh x))).H)) = F.sh (F.step x) ∧
    verC F.chg F.chgH (rawC P ex M lits fk N A c (F.sh x)) = true := by
  have h := F.all x
  unfold rnd at h
  unfold rawC
  cases he : evCodeM P ex M lits fk N c A (headSt (F.sh x)) with
  | none => rw [he] at h; cases h
  | some ch =>
    rw [he] at h
    simp only [Prod.mk.injEq] at h
    obtain ⟨_, h1, h2, h3, h4, h5, h6⟩ := h
    refine ⟨rfl, h1, h2, h3, h4, ?_, h6⟩
    exact h5
theorem Fam.ev (F : Fam P ex M lits fk N k0 A c X) (x : X) : evCodeM P ex M lits fk N c A (headSt (F.sh x)) = some (rawC P ex M lits fk N A c (F.sh x)) := (F.facts x).1
theorem Fam.one (F : Fam P ex M lits fk N k0 A c X) (x : X) : oneN (rawC P ex M lits fk N A c (F.sh x)) = true := (F.facts x).2.1
theorem Fam.goes (F : Fam P ex M lits fk N k0 A c X) (x : X) : goC (rawC P ex M lits fk N A c (F.sh x)) = F.go x := (F.facts x).2.2.1
theorem Fam.oks (F : Fam P ex M lits fk N k0 A c X) (x : X) : okC (rawC P ex M lits fk N A c (F.sh x)) = F.ok x := (F.facts x).2.2.2.1
theorem Fam.wf (F : Fam P ex M lits fk N k0 A c X) (x : X) : wkOk F.keep F.srcs (theN (rawC P ex M lits fk N A c (F.sh x)) (headSt (F.sh x))).H = true := (F.facts x).2.2.2.2.1
theorem Fam.next (F : Fam P ex M lits fk N k0 A c X) (x : X) : (alL F.tpl (renL (renB (theN (rawC P ex M lits fk N A c (F.sh x)) (headSt (F.sh x))).H F.keep F.srcs) (theN (rawC P ex M lits fk N A c (F.sh x)) (headSt (F.sh x))).tm), alH F.cts (wkH F.keep F.srcs (theN (rawC P ex M lits fk N A c (F.sh x)) (headSt (F.sh x))).H)) = F.sh (F.step x) := (F.facts x).2.2.2.2.2.1
theorem Fam.ver (F : Fam P ex M lits fk N k0 A c X) (x : X) : verC F.chg F.chgH (rawC P ex M lits fk N A c (F.sh x)) = true := (F.facts x).2.2.2.2.2.2
theorem Fam.run (hM : M.Ok P ex) (F : Fam P ex M lits fk N k0 A c X) : ∀ (n : Nat) (x : X), oksL F.ok F.go F.step n x = true →
    goC (rawC P ex M lits fk N A c (F.sh (runL F.go F.step n x))) = false ∧ okC (rawC P ex M lits fk N A c (F.sh (runL F.go F.step n x))) = true ∧ (∀ l, (sel (rawC P ex M lits fk N A c (F.sh (runL F.go F.step n x)))).1 ≠ .goto l) ∧
      LoopSim P ex k0 c (F.sh x).1 (F.sh x).2 (sel (rawC P ex M lits fk N A c (F.sh (runL F.go F.step n x)))).1 (sel (rawC P ex M lits fk N A c (F.sh (runL F.go F.step n x)))).2.tm (sel (rawC P ex M lits fk N A c (F.sh (runL F.go F.step n x)))).2.H
  | 0, x, h => by simp [oksL] at h
  | n + 1, x, h => by
    simp only [oksL, Bool.and_eq_true] at h
    obtain ⟨h1, h2⟩ := h
    have hs := evCodeM_spec hM N c A _ _ F.ann (F.ev x)
    have hok : okC (rawC P ex M lits fk N A c (F.sh x)) = true := by rw [F.oks]; exact h1
    obtain ⟨_, hg, hC⟩ := hs.run (by rw [← okC_eq]; exact hok)
    simp only [runL]
    cases hgo : F.go x with
    | false =>
      rw [cond_false]
      have hgo' : goC (rawC P ex M lits fk N A c (F.sh x)) = false := by rw [F.goes]; exact hgo
      refine ⟨hgo', hok, hg, ?_⟩
      exact LoopSim.out hC (fun e => by have := (goC_iff _).2 e; rw [hgo'] at this; cases this)
    | true =>
      rw [cond_true]
      rw [hgo, cond_true] at h2
      obtain ⟨q1, q2, q3, q4⟩ := Fam.run hM F n (F.step x) h2
      refine ⟨q1, q2, q3, ?_⟩
      have hgo' : goC (rawC P ex M lits fk N A c (F.sh x)) = true := by rw [F.goes]; exact hgo
      have he := (goC_iff _).1 hgo'
      rw [he] at hC
      have hN := theN_sel (headSt (F.sh x)) (rawC P ex M lits fk N A c (F.sh x)) (F.one x) hgo'
      intro w0 H0 μ0 a w hd hE b it cs
      obtain ⟨e', a', w', ⟨rfl, hE'⟩, harr⟩ := hC w0 H0 μ0 a w hd hE b (.inLoop c :: it) cs
      rw [hN] at hE'
      have hE2 := wk_ends (cts := F.cts) (tpl := F.tpl) (F.wf x) hd.dom (Nat.le_trans hd.le (Nat.le_of_ble_eq_true F.le)) hE'
      have hn := F.next x
      rw [show alL F.tpl (renL (renB (theN (rawC P ex M lits fk N A c (F.sh x)) (headSt (F.sh x))).H F.keep F.srcs) (theN (rawC P ex M lits fk N A c (F.sh x)) (headSt (F.sh x))).tm) = (F.sh (F.step x)).1 from congrArg Prod.fst hn,
        show alH F.cts (wkH F.keep F.srcs (theN (rawC P ex M lits fk N A c (F.sh x)) (headSt (F.sh x))).H) = (F.sh (F.step x)).2 from congrArg Prod.snd hn] at hE2
      obtain ⟨a2, w2, hE3, harr2⟩ := q4 w0 H0 μ0 a' w' hd hE2 b it cs
      exact ⟨a2, w2, hE3, .of_steps (Steps.trans harr (.one step_inLoop)) harr2⟩
/-- A state at the end of the last round, seen from before the loop. -/
def Fam.fin (F : Fam P ex M lits fk N k0 A c X) (s : St) (q : Bool) (st : St) : St :=
  ⟨Ob.both s.ob (.bit q), pickT F.chg s.tm st.tm, sumV s.tv (chgV F.chg), pickH F.chgH s.H st.H, sumH s.hv (chgHV F.chgH)⟩
/-- The loop's ways out, from a state at its head. -/
noncomputable def Fam.out (F : Fam P ex M lits fk N k0 A c X) (s : St) (q : Bool) (x : X) : Option Ch :=
  outC (F.fin s (q && endsL F.ok F.go F.step x)) (rawC P ex M lits fk N A c (F.sh (lastL F.ok F.go F.step x)))
theorem CInv.same (c : Cells) (cv dv : List Nat) : CInv c cv c dv := by
  cases c with
  | flat l => exact ⟨rfl, fun _ _ => rfl⟩
  | sym n s f => exact ⟨rfl, rfl, fun _ => rfl⟩
theorem hdr_get {H H' : Heap} (h : hdr H = hdr H') {i : Nat} {b b' : Blk} (hb : H[i]? = some b) (hb' : H'[i]? = some b') : b'.ty = b.ty ∧ b'.g = b.g := by
  have : (hdr H)[i]? = (hdr H')[i]? := by rw [h]
  simp only [hdr, List.getElem?_map, hb, hb', Option.map_some, Option.some.injEq, Prod.mk.injEq] at this
  exact ⟨this.1.symm, this.2.symm⟩
theorem hdr_length {H H' : Heap} (h : hdr H = hdr H') : H.length = H'.length := by
  have := congrArg List.length h
  simpa [hdr] using this
theorem Fam.spec (hM : M.Ok P ex) (F : Fam P ex M lits fk N k0 A c X) {s : St} {q : Bool} {x : X} {ch : Ch} {phs : List Src}
    (hl : s.tm.length = F.chg.length) (hb : s.H.length = F.chgH.length) (hh : hdr (F.sh x).2 = hdr (s.H ++ phs.map phan))
    (hsh : q = true → F.sh x = (alL F.tpl s.tm, alH F.cts (s.H ++ phs.map phan))) (h : F.out s q x = some ch) : AllI s ch ∧ LoopSpec P ex k0 c s (sel ch) := by
  have hI := evCodeM_inv hM N c A _ _ F.ann (F.ev (lastL F.ok F.go F.step x))
  have hs0 := evCodeM_spec hM N c A _ _ F.ann (F.ev (lastL F.ok F.go F.step x))
  have hhd : hdr (F.sh (lastL F.ok F.go F.step x)).2 = hdr (s.H ++ phs.map phan) := (F.head _ x).trans hh
  have hlenH : s.H.length ≤ (F.sh (lastL F.ok F.go F.step x)).2.length := by rw [hdr_length hhd]; simp
  have hf : ∀ (q' : Bool) st, InvW (headSt (F.sh (lastL F.ok F.go F.step x))) st → Inv s (F.fin s q' st) := by
    intro q' st hst
    have htl : st.tm.length = s.tm.length := hst.tl.trans ((F.len _).trans hl.symm)
    have hhl : s.H.length ≤ st.H.length := Nat.le_trans hlenH hst.h.len
    have getH : ∀ (i : Nat) (z y : Blk), s.H[i]? = some z → (pickH F.chgH s.H st.H)[i]? = some y → (F.chgH[i]? = some false ∧ y = z) ∨ (F.chgH[i]? = some true ∧ st.H[i]? = some y) := by
      intro i z y hz hy
      have hi : i < F.chgH.length := by rw [← hb]; exact (List.getElem?_eq_some_iff.1 hz).1
      have hi2 : i < s.H.length := (List.getElem?_eq_some_iff.1 hz).1
      cases hc : F.chgH[i]? with
      | none => rw [List.getElem?_eq_none_iff] at hc; omega
      | some b =>
        cases b with
        | false => left; rw [pickH_false _ _ _ _ hc hi2 (by omega), hz] at hy; cases hy; exact ⟨rfl, rfl⟩
        | true => right; rw [pickH_true _ _ _ _ (by rw [hc]; simp)] at hy; exact ⟨rfl, hy⟩
    have getT : ∀ (i : Nat) (z y : Blk), s.H[i]? = some z → st.H[i]? = some y → y.ty = z.ty ∧ z.g ≤ y.g := by
      intro i z y hz hy
      have hi : i < (F.sh (lastL F.ok F.go F.step x)).2.length := Nat.lt_of_lt_of_le (List.getElem?_eq_some_iff.1 hz).1 hlenH
      have e1 : (s.H ++ phs.map phan)[i]? = some z := by rw [List.getElem?_append_left (List.getElem?_eq_some_iff.1 hz).1]; exact hz
      obtain ⟨p1, p2⟩ := hdr_get hhd (List.getElem?_eq_getElem hi) e1
      obtain ⟨p3, p4⟩ := hst.h.ty i _ y (List.getElem?_eq_getElem hi) hy
      exact ⟨p3.trans p1.symm, by rw [p2]; exact p4⟩
    refine ⟨?_, fun i => ?_, fun i e => ?_, ⟨?_, fun i k => ?_, fun i z y hz hy => ?_, fun i z y hz hy he => ?_⟩⟩
    · show (pickT _ _ _).length = _
      rw [pickT_length]; exact htl
    · show _ ≤ vget (sumV _ _) i
      rw [vget_sumV]; omega
    · have e : vget (sumV s.tv (chgV F.chg)) i = vget s.tv i := e
      rw [vget_sumV] at e
      have e' := chgV_get F.chg i (by omega)
      show (pickT F.chg s.tm st.tm)[i]? = s.tm[i]?
      rcases Nat.lt_or_ge i s.tm.length with hi | hi
      · cases hc : F.chg[i]? with
        | none => rw [List.getElem?_eq_none_iff] at hc; omega
        | some b =>
          cases b with
          | false => exact pickT_false _ _ _ _ hc hi (by omega)
          | true => rw [hc] at e'; exact absurd rfl e'
      · rw [List.getElem?_eq_none (by rw [pickT_length]; omega), List.getElem?_eq_none hi]
    · show s.H.length ≤ (pickH _ _ _).length
      rw [pickH_length]; exact hhl
    · show _ ≤ hget (sumH _ _) i k
      rw [hget_sumH]; omega
    · rcases getH i z y hz hy with ⟨_, rfl⟩ | ⟨_, hy⟩
      · exact ⟨rfl, Nat.le_refl _⟩
      · exact getT i z y hz hy
    · have he : hget (sumH s.hv (chgHV F.chgH)) i 0 = hget s.hv i 0 := he
      rw [hget_sumH] at he
      have e' := chgHV_get F.chgH i (by omega)
      rcases getH i z y hz hy with ⟨_, rfl⟩ | ⟨hc, _⟩
      · exact ⟨rfl, CInv.same _ _ _⟩
      · rw [hc] at e'; exact absurd rfl e'
  unfold Fam.out at h
  refine ⟨outC_all (fun st hst => (hf _ st hst).w) _ _ hI h, ?_⟩
  generalize hq' : (q && endsL F.ok F.go F.step x) = q' at h
  -- the choice
  have obq : ∀ c' d', outC (F.fin s q') c' = some d' → (sel d').2.ob = Ob.both s.ob (.bit q') := by
    intro c'
    induction c' with
    | last e st => intro d' hd; cases e <;> simp only [outC] at hd <;> first | (cases hd; done) | (cases hd; rfl)
    | more e g st r ih =>
      intro d' hd
      cases e <;> simp only [outC] at hd
      case normal => exact ih d' hd
      all_goals
        split at hd
        · rename_i c2 hc2; cases hd
          cases g with
          | true => rfl
          | false => exact ih c2 hc2
        · cases hd; rfl
  have hinv : Inv s (sel ch).2 := by
    have key : ∀ c' d', AllI (headSt (F.sh (lastL F.ok F.go F.step x))) c' → outC (F.fin s q') c' = some d' → Inv s (sel d').2 := by
      intro c'
      induction c' with
      | last e st => intro d' hA hd; cases e <;> simp only [outC] at hd <;> first | (cases hd; done) | (cases hd; exact hf _ st hA)
      | more e g st r ih =>
        intro d' hA hd
        cases e <;> simp only [outC] at hd
        case normal => exact ih d' hA.2 hd
        all_goals
          split at hd
          · rename_i c2 hc2; cases hd
            cases g with
            | true => exact hf _ st hA.1
            | false => exact ih c2 hA.2 hc2
          · cases hd; exact hf _ st hA.1
    exact key _ _ hI h
  refine ⟨hinv, fun hok => ?_⟩
  rw [obq _ _ h, Ob.both_ok, Bool.and_eq_true] at hok
  have hqq : q' = true := hok.2
  rw [hqq, Bool.and_eq_true] at hq'
  obtain ⟨hq, hends⟩ := hq'
  have hoks := oksL_fuel hends
  have hrun := Fam.run hM F _ x hoks
  rw [show runL F.go F.step (fuelL F.ok F.go F.step x) x = lastL F.ok F.go F.step x from rfl] at hrun
  obtain ⟨q1, _, q3, q4⟩ := hrun
  have hsel := outC_sel _ _ _ q1 h
  refine ⟨hok.1, by rw [hsel]; exact q3, ?_⟩
  rw [hsel]
  have hsx := hsh hq
  -- what is not marked is as it was
  have hsv := verC_sel (F.ver (lastL F.ok F.go F.step x))
  have hiv := hs0.inv
  generalize hst : (sel (rawC P ex M lits fk N A c (F.sh (lastL F.ok F.go F.step x)))).2 = st at hsv hiv
  have heT : pickT F.chg s.tm st.tm = st.tm := by
    apply List.ext_getElem?
    intro i
    cases hc : F.chg[i]? with
    | none => exact pickT_true _ _ _ _ (by rw [hc]; simp)
    | some b =>
      cases b with
      | true => exact pickT_true _ _ _ _ (by rw [hc]; simp)
      | false =>
        have hi : i < F.chg.length := (List.getElem?_eq_some_iff.1 hc).1
        have htl : st.tm.length = F.chg.length := hiv.tl.trans (F.len _)
        rw [pickT_false _ _ _ _ hc (by omega) (by omega)]
        have e1 : st.tm[i]? = (F.sh (lastL F.ok F.go F.step x)).1[i]? := hiv.teq i (by rw [verV_get _ _ _ hsv.1 hc]; simp [headSt])
        have e2 : (F.sh (lastL F.ok F.go F.step x)).1[i]? = (F.sh x).1[i]? := by
          rw [← F.con x (lastL F.ok F.go F.step x)]
          exact pickT_false _ _ _ _ hc (by rw [F.len]; exact hi) (by rw [F.len]; exact hi)
        have e3 : (F.sh x).1[i]? = s.tm[i]? := by
          rw [hsx]; exact kept_get _ _ _ _ F.kept hc
        rw [e1, e2, e3]
  have heH : pickH F.chgH s.H st.H = st.H := by
    apply List.ext_getElem?
    intro i
    cases hc : F.chgH[i]? with
    | none => exact pickH_true _ _ _ _ (by rw [hc]; simp)
    | some b =>
      cases b with
      | true => exact pickH_true _ _ _ _ (by rw [hc]; simp)
      | false =>
        have hi : i < F.chgH.length := (List.getElem?_eq_some_iff.1 hc).1
        have hi2 : i < s.H.length := by omega
        have hi3 : i < (F.sh (lastL F.ok F.go F.step x)).2.length := by omega
        have hi4 : i < st.H.length := Nat.lt_of_lt_of_le hi3 hiv.h.len
        rw [pickH_false _ _ _ _ hc hi2 hi4]
        have hv := verHV_get _ _ _ hsv.2 hc
        have e1 : st.H[i]? = (F.sh (lastL F.ok F.go F.step x)).2[i]? := by
          rw [List.getElem?_eq_getElem hi4, List.getElem?_eq_getElem hi3]
          obtain ⟨p1, p2⟩ := hiv.h.same i _ _ (List.getElem?_eq_getElem hi3) (List.getElem?_eq_getElem hi4) (by rw [hv]; simp [headSt, hget])
          obtain ⟨p3, _⟩ := hiv.h.ty i _ _ (List.getElem?_eq_getElem hi3) (List.getElem?_eq_getElem hi4)
          have p4 := p2.eq (fun k => by have := hv k; simp only [hget] at this; rw [this]; simp [headSt])
          cases hx : st.H[i] with
          | mk cc t r => rw [hx] at p1 p3 p4; simp only at p1 p3 p4; subst p1 p3 p4; rfl
        have e2 : (F.sh (lastL F.ok F.go F.step x)).2[i]? = (F.sh x).2[i]? := by
          rw [← F.conH x (lastL F.ok F.go F.step x)]
          have : (F.sh x).2.length = (F.sh (lastL F.ok F.go F.step x)).2.length := hdr_length (F.head _ _)
          exact pickH_false _ _ _ _ hc (by omega) hi3
        have e3 : (F.sh x).2[i]? = s.H[i]? := by
          rw [hsx]
          show (alH F.cts (s.H ++ phs.map phan))[i]? = _
          rw [keptH_get _ _ _ _ F.keptB hc, List.getElem?_append_left hi2]
        rw [e1, e2, e3]
  have q5 : LoopSim P ex k0 c s.tm s.H (sel (rawC P ex M lits fk N A c (F.sh (lastL F.ok F.go F.step x)))).1 st.tm st.H := by
    subst hst
    refine LoopSim.pre (tm0 := (F.sh x).1) (H0' := (F.sh x).2) ?_ q4
    intro w0 H0 μ0 a w hE
    rw [hsx]
    exact ent_ends hE
  show LoopSim P ex k0 c s.tm s.H _ (F.fin s q' st).tm (F.fin s q' st).H
  rw [show (F.fin s q' st).tm = st.tm from heT, show (F.fin s q' st).H = st.H from heH]
  exact q5
end
end Go.Lst
