/- 'append'. -/
import Derived.Test.YtbkogihigehjlaaLVec
namespace Go.Lst
/-- The rows of a list that is written down. -/
def rowsOf (s : Nat) : Nat → List AV → Nat → List AV
  | 0, _, _ => []
  | 1, l, _ => l.take s
  | n + 2, l, i => mergeL (Nat.beq i 0) (l.take s) (rowsOf s (n + 1) (l.drop s) (i - 1))
theorem rowsOf_eq (s : Nat) : ∀ (n : Nat) (l : List AV) (i : Nat), i < n → rowsOf s n l i = (l.drop (i * s)).take s
  | 0, l, i, h => by omega
  | 1, l, i, h => by
    have : i = 0 := by omega
    subst this; simp [rowsOf]
  | n + 2, l, i, h => by
    unfold rowsOf
    rw [mergeL_eq]
    cases hb : Nat.beq i 0 with
    | true => rw [beq_eq hb]; simp
    | false =>
      have hi : i ≠ 0 := fun e => by subst e; cases hb
      rw [cond_false, rowsOf_eq s (n + 1) _ _ (by omega), List.drop_drop]
      congr 2
      obtain ⟨j, rfl⟩ := Nat.exists_eq_succ_of_ne_zero hi
      simp [Nat.succ_mul, Nat.add_comm]
def roomMax : Nat := 140737488355328
/-- What is appended: what has to hold, how many, the elements. -/
def srcA (H : Heap) (s : Nat) : AV → Option (Ob × Nat × (Nat → List AV))
  | .view m z f => cond (Nat.beq z s) (some (.tt, m, f)) none
  | .nul => some (.tt, 0, fun _ => [])
  | .slice none 0 0 => some (.tt, 0, fun _ => [])
  | .lst b g z m _ => match H[b]? with
    | some k => cond (Nat.beq z s && Nat.beq g k.g) (match k.cells with
      | .sym n y f => cond (Nat.beq y s) (some (.bit (Nat.ble m n), m, f)) none
      | .flat l => cond (Nat.ble (m * s) l.length && oneAll l) (some (.tt, m, rowsOf s m l)) none) none
    | none => none
  | .slice (some p) m _ => match H[p.b]? with
    | some k => cond (Nat.beq p.g k.g) (match k.cells with
      | .flat l => cond (Nat.ble (p.o.val + m * s) l.length && oneAll l) (some (.tt, m, rowsOf s m (l.drop p.o.val))) none
      | .sym .. => none) none
    | none => none
  | _ => none
/-- The elements that are there. -/
def baseA (s n : Nat) : Cells → Option (Ob × (Nat → List AV))
  | .sym m y f => cond (Nat.beq y s) (some (.bit (Nat.ble n m), f)) none
  | .flat l => cond (Nat.ble (n * s) l.length && oneAll l) (some (.tt, rowsOf s n l)) none
def appA (P : Program) (t : TypeId) (H : Heap) (hv : HV) (s x : AV) : Option (Ob × AV × Heap × HV) :=
  match P.underlying t with
  | some (.slice elem) => match szT P elem, byT P elem, zeroC P elem with
    | some z, some by', some zc => cond (Nat.blt 0 z && (Nat.blt 0 by' && Nat.beq zc.length z))
      (match srcA H z x with
      | some (o1, m, f) => (match s with
        | .nul => some (Ob.both o1 (.bit (Nat.ble (m * by') roomMax)), .lst H.length 0 z m m, H ++ [⟨.sym m z f, elem, 0⟩], hv)
        | .slice none 0 0 => some (Ob.both o1 (.bit (Nat.ble (m * by') roomMax)), .lst H.length 0 z m m, H ++ [⟨.sym m z f, elem, 0⟩], hv)
        | .lst b g y n _ => (match H[b]? with
          | some k => cond (Nat.beq y z && (Nat.beq g k.g && Nat.beq k.ty elem))
            (match baseA z n k.cells with
            | some (o2, fb) => some (Ob.both o1 (Ob.both o2 (.bit (Nat.ble ((n + m) * by') roomMax))), .lst b (g + 1) z (n + m) (n + m), H.set b ⟨.sym (n + m) z (fun j => mergeL (Nat.blt j n) (fb j) (f (j - n))), elem, g + 1⟩, bumpH hv b 0 2)
            | none => none) none
          | none => none)
        | _ => none)
      | none => none) none
    | _, _, _ => none
  | _ => none

section
variable {P : Program} {ex : Bool} {μ : Mu}
/-- Elements that lie in memory, one behind the other. -/
def Laid (ex : Bool) (μ : Mu) (s m : Nat) (f : Nat → List AV) (vs : List Value) : Prop :=
  vs.length = m * s ∧ ∀ i, i < m → VRels ex μ (f i) ((vs.drop (i * s)).take s) ∧ ∀ u ∈ (vs.drop (i * s)).take s, u.oneCell' = true
theorem laid_rows {s m : Nat} {l : List AV} {vs : List Value} (h : VRels ex μ l vs) (hl : m * s ≤ l.length) (h1 : oneAll l = true) : Laid ex μ s m (rowsOf s m l) (vs.take (m * s)) := by
  have hlen := h.length
  have hone := oneAll_rel h h1
  refine ⟨by rw [List.length_take]; omega, fun i hi => ?_⟩
  have hm : (i + 1) * s ≤ m * s := Nat.mul_le_mul_right _ hi
  rw [Nat.add_mul, Nat.one_mul] at hm
  have e : ((vs.take (m * s)).drop (i * s)).take s = (vs.drop (i * s)).take s := by
    rw [List.drop_take, List.take_take, Nat.min_eq_left (by omega)]
  rw [e, rowsOf_eq s m l i hi]
  exact ⟨(h.drop _).take _, fun u hu => hone u (List.mem_of_mem_drop (List.mem_of_mem_take hu))⟩
theorem laid_cut {s n m : Nat} {f : Nat → List AV} {vs : List Value} (h : CRel ex μ (.sym n s f) vs) (hm : m ≤ n) : Laid ex μ s m f (vs.take (m * s)) := by
  obtain ⟨h1, h2⟩ := h
  have hle : m * s ≤ n * s := Nat.mul_le_mul_right _ hm
  refine ⟨by rw [List.length_take]; omega, fun i hi => ?_⟩
  have hi' : (i + 1) * s ≤ m * s := Nat.mul_le_mul_right _ hi
  rw [Nat.add_mul, Nat.one_mul] at hi'
  have e : ((vs.take (m * s)).drop (i * s)).take s = (vs.drop (i * s)).take s := by
    rw [List.drop_take, List.take_take, Nat.min_eq_left (by omega)]
  rw [e]
  exact h2 i (by omega)
theorem laid_one {s m : Nat} {f : Nat → List AV} {vs : List Value} (h : Laid ex μ s m f vs) (hs : 0 < s) : ∀ u ∈ vs, u.oneCell' = true := by
  intro u hu
  obtain ⟨k, hk, rfl⟩ := List.getElem_of_mem hu
  have hd : k / s < m := by
    rw [Nat.div_lt_iff_lt_mul hs]; rw [h.1] at hk; exact hk
  refine (h.2 (k / s) hd).2 _ ?_
  have e := Nat.div_add_mod k s
  have hm := Nat.mod_lt k hs
  have hdm : s * (k / s) = k / s * s := Nat.mul_comm _ _
  have : ((vs.drop (k / s * s)).take s)[k % s]? = some vs[k] := by
    rw [List.getElem?_take, if_pos hm, List.getElem?_drop, show k / s * s + k % s = k by omega]
    exact List.getElem?_eq_getElem hk
  exact List.mem_of_getElem? this
theorem laid_append {s n m : Nat} {fb f : Nat → List AV} {xs ys : List Value} (h : Laid ex μ s n fb xs) (g : Laid ex μ s m f ys) : Laid ex μ s (n + m) (fun j => mergeL (Nat.blt j n) (fb j) (f (j - n))) (xs ++ ys) := by
  refine ⟨by rw [List.length_append, h.1, g.1, Nat.add_mul], fun i hi => ?_⟩
  simp only [mergeL_eq]
  cases hb : Nat.blt i n with
  | true =>
    have hi' : i < n := by simpa using hb
    have hm : (i + 1) * s ≤ n * s := Nat.mul_le_mul_right _ hi'
    rw [Nat.add_mul, Nat.one_mul] at hm
    have e : ((xs ++ ys).drop (i * s)).take s = (xs.drop (i * s)).take s := by
      rw [List.drop_append_of_le_length (by rw [h.1]; omega), List.take_append_of_le_length (by rw [List.length_drop, h.1]; omega)]
    rw [e]; exact h.2 i hi'
  | false =>
    have hi' : n ≤ i := by
      rcases Nat.lt_or_ge i n with h' | h'
      · have : Nat.blt i n = true := by simpa using h'
        rw [this] at hb; cases hb
      · exact h'
    have e : ((xs ++ ys).drop (i * s)) = ys.drop ((i - n) * s) := by
      rw [List.drop_append, h.1, List.drop_eq_nil_of_le (by rw [h.1]; exact Nat.mul_le_mul_right _ hi'), Nat.sub_mul]; rfl
    rw [e]; exact g.2 (i - n) (by omega)
theorem laid_sym {s m : Nat} {f : Nat → List AV} {vs rest : List Value} (h : Laid ex μ s m f vs) : CRel ex μ (.sym m s f) (vs ++ rest) := by
  refine ⟨by rw [List.length_append, h.1]; omega, fun i hi => ?_⟩
  have hm : (i + 1) * s ≤ m * s := Nat.mul_le_mul_right _ hi
  rw [Nat.add_mul, Nat.one_mul] at hm
  have e : ((vs ++ rest).drop (i * s)).take s = (vs.drop (i * s)).take s := by
    rw [List.drop_append_of_le_length (by rw [h.1]; omega), List.take_append_of_le_length (by rw [List.length_drop, h.1]; omega)]
  rw [e]; exact h.2 i hi
theorem Laid.mono {s m : Nat} {f : Nat → List AV} {vs : List Value} {μ' : Mu} (hm : MLe μ μ') (h : Laid ex μ s m f vs) : Laid ex μ' s m f vs :=
  ⟨h.1, fun i hi => ⟨VRels.mono hm _ _ (h.2 i hi).1, (h.2 i hi).2⟩⟩
/-- The elements of a source, and where they lie. -/
theorem src_rel {H : Heap} {w : World} {s m : Nat} {x : AV} {v : Value} {ob : Ob} {f : Nat → List AV} (hH : HRel ex μ H w) (hx : VRel ex μ x v) (h : srcA H s x = some (ob, m, f)) (hok : ob.ok = true) :
    ∃ a cap vs, v = .slice a m cap ∧ Laid ex μ s m f vs ∧ (0 < m → ∃ ad, a = some ad ∧ ∀ j u, vs[j]? = some u → w.cell? (ad.add j) = some u) := by
  have mem : ∀ {c o k : Nat} {arr : Array Value} {t : TypeId} {fz : Nat × Nat}, w.heap[c]? = some (.cells arr t fz) → ∀ j u, ((arr.toList.drop o).take k)[j]? = some u → w.cell? ((⟨c, o, none⟩ : Addr).add j) = some u := by
    intro c o k arr t fz hw j u hu
    rw [addr_add, cell_of_row w c _ arr t fz hw]
    rw [List.getElem?_take] at hu
    split at hu
    · rw [List.getElem?_drop] at hu; simpa using hu
    · cases hu
  unfold srcA at h
  split at h
  · rename_i m' z g
    obtain ⟨hz, h2⟩ := cond_some h rfl
    clear h
    have hz := beq_eq hz; subst hz
    cases h2
    simp only [VRel] at hx
    obtain ⟨a, cap, rfl, hn, hx⟩ := hx
    by_cases h0 : m = 0
    · subst h0
      exact ⟨a, cap, [], rfl, ⟨by simp, fun i hi => by omega⟩, fun hp => by omega⟩
    · rcases hx with hx | ⟨c, o, arr, t, fz, rfl, hw, hle, hr⟩
      · exact absurd hx h0
      · have hlt := (Array.getElem?_eq_some_iff.1 hw).1
        have hw' : w.heap[c]? = some (.cells arr t fz) := by rw [hH.old c hlt]; exact hw
        have hls : arr.toList.length = arr.size := by simp
        refine ⟨_, cap, (arr.toList.drop o).take (m * z), rfl, ⟨by rw [List.length_take, List.length_drop]; omega, fun i hi => ?_⟩, fun _ => ⟨⟨c, o, none⟩, rfl, mem hw'⟩⟩
        have hm : (i + 1) * z ≤ m * z := Nat.mul_le_mul_right _ hi
        rw [Nat.add_mul, Nat.one_mul] at hm
        have e : (((arr.toList.drop o).take (m * z)).drop (i * z)).take z = (arr.toList.drop (o + i * z)).take z := by
          rw [List.drop_take, List.take_take, Nat.min_eq_left (by omega), List.drop_drop]
        rw [e]; exact hr i hi
  · cases h
    simp only [VRel] at hx
    obtain ⟨a, rfl⟩ := hx
    exact ⟨a, 0, [], rfl, ⟨by simp, fun i hi => by omega⟩, fun hp => by omega⟩
  · cases h
    simp only [VRel] at hx
    obtain ⟨_, _, rfl⟩ := hx
    exact ⟨none, 0, [], rfl, ⟨by simp, fun i hi => by omega⟩, fun hp => by omega⟩
  · rename_i b g z m' lo
    split at h
    · rename_i k hk
      obtain ⟨hc, h⟩ := cond_some h rfl
      obtain ⟨hz, hg⟩ := and_beq2 (by simpa using hc)
      subst hz
      simp only [VRel] at hx
      obtain ⟨a, cap, rfl, hn, _, _, hx⟩ := hx
      have key : ∀ {M : Nat} {F : Nat → List AV}, M = m' → (∀ (arr : Array Value), CRel ex μ k.cells arr.toList → Laid ex μ z m' F (arr.toList.take (m' * z))) →
          ∃ a' cap' vs, Value.slice a m' cap = .slice a' M cap' ∧ Laid ex μ z M F vs ∧ (0 < M → ∃ ad, a' = some ad ∧ ∀ j u, vs[j]? = some u → w.cell? (ad.add j) = some u) := by
        intro M F hM hF
        subst hM
        by_cases h0 : M = 0
        · subst h0
          exact ⟨a, cap, [], rfl, ⟨by simp, fun i hi => by omega⟩, fun hp => by omega⟩
        · rcases hx with hx | ⟨c, zz, hp, rfl, hsz⟩
          · omega
          · rw [hg] at hp
            obtain ⟨arr, hw, _, hr⟩ := hH.blk b k c zz hk hp
            exact ⟨_, cap, _, rfl, hF arr hr, fun _ => ⟨⟨c, 0, none⟩, rfl, by have := mem (o := 0) (k := M * z) hw; simpa using this⟩⟩
      split at h
      · rename_i n y F hF
        obtain ⟨hy, h2⟩ := cond_some h rfl
        clear h
        have hy := beq_eq hy; subst hy
        cases h2
        have hle : m ≤ n := by simpa [Ob.ok] using hok
        exact key rfl fun arr hr => by rw [hF] at hr; exact laid_cut hr hle
      · rename_i l hl
        obtain ⟨hy, h⟩ := cond_some h rfl
        simp only [Bool.and_eq_true, Nat.ble_eq] at hy
        cases h
        exact key rfl fun arr hr => by rw [hl] at hr; exact laid_rows hr hy.1 hy.2
    · cases h
  · rename_i p m' cp
    split at h
    · rename_i k hk
      obtain ⟨hg, h⟩ := cond_some h rfl
      have hg := beq_eq hg
      simp only [VRel] at hx
      obtain ⟨c, z, hp, rfl⟩ := hx
      rw [hg] at hp
      obtain ⟨arr, hw, _, hr⟩ := hH.blk p.b k c z hk hp
      split at h
      · rename_i l hl
        obtain ⟨hy, h⟩ := cond_some h rfl
        simp only [Bool.and_eq_true, Nat.ble_eq] at hy
        cases h
        rw [hl] at hr
        have hr : VRels ex μ l arr.toList := hr
        have h1 : oneAll (l.drop p.o.val) = true := by
          have : ∀ (k : Nat) (l : List AV), oneAll l = true → oneAll (l.drop k) = true := by
            intro k
            induction k with
            | zero => intro l h; exact h
            | succ k ih =>
              intro l h
              cases l with
              | nil => rfl
              | cons a l => simp only [oneAll, Bool.and_eq_true] at h; exact ih l h.2
          exact this _ _ hy.2
        have := laid_rows (s := s) (m := m) (hr.drop p.o.val) (by rw [List.length_drop]; omega) h1
        exact ⟨_, cp, _, rfl, this, fun _ => ⟨⟨c, p.o.val, none⟩, rfl, mem hw⟩⟩
      · cases h
    · cases h
  · cases h

theorem run_app_none {w : World} (t ty e : TypeId) (i : TypeInfo) (ht : P.underlying t = some (.slice e)) (hi : P.info? e = some i) (base a : Option Addr) (n cap c : Nat) (hn : n ≤ cap) :
    (Builtin.append_ #[t, t] ty #[.slice base n cap, .slice a 0 c]).run P w = .ok (.slice base n cap) w := by
  cases base <;> cases a <;> simp [Builtin.append_, run_underlying ht, sizeOf, typeInfo, hi, Builtin.lenOf, Builtin.firstCells, hn, loadCells, loadCellsFrom, storeCells]

/-- What was grown is a new block. -/
theorem grow_rel {w : World} {H H' : Heap} {by' : Nat} {z k old : Nat} {elem : TypeId} {zs : Value} {F : Nat → List AV} {vs : List Value} {b' : Blk} {i : Nat} (hH : HRel ex μ H w) (hd : Dom μ H) (hzs : zs.cells.size = z)
    (hb' : b'.cells = .sym k z F) (hty : b'.ty = elem) (hb : H'[i]? = some b') (hlen : H.length ≤ H'.length) (hl2 : H'.length ≤ max H.length (i + 1)) (hoth : ∀ j, j ≠ i → H'[j]? = H[j]?) (hg : ∀ g, b'.g ≤ g → μ.pl i g = none)
    (hv : Laid ex μ z k F vs) (h63 : k ≤ maxLen) (_hby : by' = by') {v' : Value} {w' : World}
    (hv' : v' = .slice (some ⟨w.heap.size, 0, none⟩) k (grownCap w k old elem)) (hw' : w' = w.drew.alloc (.cells (vs.toArray ++ Builtin.zeroCells zs.cells (grownCap w k old elem - k)) elem)) :
    ∃ μ', VRel ex μ' (.lst i b'.g z k k) v' ∧ Goes ex w H μ w' H' μ' ∧ Dom μ' H' := by
  have hge := grownCap_ge w k old elem
  have hcm : grownCap w k old elem ≤ maxLen := grownCap_le_maxLen w k old elem h63
  have g0 : Goes ex w H μ w.drew H μ := Goes.of_below hH (below_drawn w 1)
  have hm : MLe μ (upd μ i b'.g (w.drew.heap.size, (vs.toArray ++ Builtin.zeroCells zs.cells (grownCap w k old elem - k)).size)) := MLe.upd (hg _ (Nat.le_refl _))
  have g1 := Goes.place (w := w.drew) (w' := w') (o := .cells (vs.toArray ++ Builtin.zeroCells zs.cells (grownCap w k old elem - k)) elem) (arr := vs.toArray ++ Builtin.zeroCells zs.cells (grownCap w k old elem - k)) g0.rel hd hb hlen hl2 hoth hg (by rw [hty]) hw' (by
    rw [hb']
    have := laid_sym (rest := (Builtin.zeroCells zs.cells (grownCap w k old elem - k)).toList) hv
    simpa using this)
  refine ⟨_, ?_, g0.trans g1.1, g1.2⟩
  simp only [VRel]
  refine ⟨_, _, hv', hge, hge, hcm, .inr ⟨_, _, upd_self _ _ _ _, rfl, ?_⟩⟩
  simp only [Array.size_append, List.size_toArray, size_zeroCells, hzs, hv.1, ← Nat.add_mul]
  congr 1
  omega
theorem app_run {t : TypeId} {H H' : Heap} {hv hv' : HV} {s x r : AV} {ob : Ob} (h : appA P t H hv s x = some (ob, r, H', hv')) (hok : ob.ok = true) {w : World} (hH : HRel ex μ H w) (hd : Dom μ H) {v vx : Value} (hs : VRel ex μ s v) (hx : VRel ex μ x vx) (ty : TypeId) :
    ∃ v' w' μ', (Builtin.append_ #[t, t] ty #[v, vx]).run P w = .ok v' w' ∧ VRel ex μ' r v' ∧ Goes ex w H μ w' H' μ' ∧ Dom μ' H' := by
  unfold appA at h
  split at h
  · rename_i elem ht
    split at h
    · rename_i z by' zc hz hby hzc
      obtain ⟨hc, h⟩ := cond_some h rfl
      simp only [Bool.and_eq_true, Nat.blt_eq] at hc
      obtain ⟨hz0, hb0, hzl⟩ := hc
      have hzl := beq_eq hzl
      obtain ⟨i, zv, hi, hiz, hzr⟩ := zeroC_run (ex := ex) (μ := μ) hzc
      have hsize : i.size = z := by simpa [szT, hi] using hz
      have hbytes : i.bytes = by' := by simpa [byT, hi] using hby
      have hzs : zv.cells.size = z := by rw [← hzl, ← hzr.length]; simp
      split at h
      · rename_i o1 m f hsrc
        -- a list of no room: what was appended is all
        have fresh : ∀ (base : Option Addr), v = .slice base 0 0 → some (Ob.both o1 (.bit (Nat.ble (m * by') roomMax)), AV.lst H.length 0 z m m, H ++ [⟨.sym m z f, elem, 0⟩], hv) = some (ob, r, H', hv') →
            ∃ v' w' μ', (Builtin.append_ #[t, t] ty #[v, vx]).run P w = .ok v' w' ∧ VRel ex μ' r v' ∧ Goes ex w H μ w' H' μ' ∧ Dom μ' H' := by
          intro base hbase h
          cases h
          rw [Ob.both_ok, Bool.and_eq_true] at hok
          obtain ⟨a, c, vs, rfl, hl, hmem⟩ := src_rel hH hx hsrc hok.1
          have hroom : m * by' ≤ 140737488355328 := by have := hok.2; simpa [Ob.ok, roomMax] using this
          have hle : HLe H (H ++ [⟨.sym m z f, elem, 0⟩]) := fun j b e => by rw [List.getElem?_append_left (List.getElem?_eq_some_iff.1 e).1]; exact e
          subst hbase
          by_cases hm : m = 0
          · subst hm
            refine ⟨_, w, μ, run_app_none t ty elem i ht hi base a 0 0 c (Nat.le_refl _), ?_, (Goes.refl hH).more hd hle, hd.le hle⟩
            simp only [VRel]
            exact ⟨base, 0, rfl, Nat.le_refl _, Nat.le_refl _, Nat.zero_le _, .inl rfl⟩
          · obtain ⟨ad, rfl, hmm⟩ := hmem (by omega)
            clear hmem
            have hmem := hmm
            have hm63 : m ≤ 9223372036854775807 := by
              have := Nat.le_mul_of_pos_right m hb0; omega
            have hrun : (Builtin.append_ #[t, t] ty #[.slice base 0 0, .slice (some ad) m c]).run P w =
                .ok (.slice (some ⟨w.heap.size, 0, none⟩) m (grownCap w m 0 elem)) (w.drew.alloc (.cells (vs.toArray ++ Builtin.zeroCells zv.cells (grownCap w m 0 elem - m)) elem)) := by
              cases base with
              | none => exact run_append_nil w t ty elem i zv ht hi hiz ad m c vs (by rw [hsize]; exact hl.1) hmem (by omega) (by omega) (by rw [hbytes]; omega)
              | some b =>
                have := run_append_grow w t ty elem i zv ht hi hiz b 0 0 [] (by simp) (by simp) ad m c vs (by rw [hsize]; exact hl.1) hmem (by omega) (by omega) (by rw [hbytes]; exact growslice_fits (by omega) (by simpa using hroom))
                simpa using this
            obtain ⟨μ', h1, h2, h3⟩ := grow_rel (i := H.length) (old := 0) (by' := by') (zs := zv) (F := f) (k := m) (vs := vs) (b' := ⟨.sym m z f, elem, 0⟩) hH hd hzs rfl rfl (H' := H ++ [⟨.sym m z f, elem, 0⟩]) (by simp) (by simp) (by simp) (fun j hj => by
                rcases Nat.lt_or_ge j H.length with h' | h'
                · exact List.getElem?_append_left h'
                · rw [List.getElem?_eq_none (by simp; omega), List.getElem?_eq_none h']) (fun g _ => hd.out _ g (Nat.le_refl _)) hl (by simp only [maxLen]; omega) rfl rfl rfl
            exact ⟨_, _, μ', hrun, h1, h2, h3⟩
        split at h
        · simp only [VRel] at hs
          obtain ⟨a, rfl⟩ := hs
          exact fresh a rfl h
        · simp only [VRel] at hs
          obtain ⟨_, _, rfl⟩ := hs
          exact fresh none rfl h
        · rename_i b g y n lo _
          split at h
          · rename_i k hk
            obtain ⟨hc, h2⟩ := cond_some h rfl
            clear h fresh
            simp only [Bool.and_eq_true] at hc
            obtain ⟨hy, hg, hkt⟩ := hc
            have hy := beq_eq hy
            have hg := beq_eq hg
            have hkt := beq_eq hkt
            subst hy
            split at h2
            · rename_i o2 fb hbase
              cases h2
              rw [Ob.both_ok, Bool.and_eq_true] at hok
              obtain ⟨hok1, hok⟩ := hok
              rw [Ob.both_ok, Bool.and_eq_true] at hok
              obtain ⟨hok2, hok3⟩ := hok
              have hroom : (n + m) * by' ≤ 140737488355328 := by simpa [Ob.ok, roomMax] using hok3
              have hlt : b < H.length := (List.getElem?_eq_some_iff.1 hk).1
              have hn63 : n + m ≤ 9223372036854775807 := by
                have := Nat.le_mul_of_pos_right (n + m) hb0; omega
              obtain ⟨a, c, vs, rfl, hl, hmem⟩ := src_rel hH hx hsrc hok1
              simp only [VRel] at hs
              obtain ⟨base, cap, rfl, hnc, _, hcm, hs⟩ := hs
              -- what is there
              have there : 0 < n → ∃ cc zz arr, base = some ⟨cc, 0, none⟩ ∧ cap * y = zz ∧ μ.pl b k.g = some (cc, zz) ∧ w.heap[cc]? = some (.cells arr k.ty (0, 0)) ∧ arr.size = zz ∧ Laid ex μ y n fb (arr.toList.take (n * y)) := by
                intro hn
                rcases hs with hs | ⟨cc, zz, hp, hbb, hsz⟩
                · omega
                · rw [hg] at hp
                  obtain ⟨arr, hw, hz', hr⟩ := hH.blk b k cc zz hk hp
                  refine ⟨cc, zz, arr, hbb, hsz, hp, hw, hz', ?_⟩
                  unfold baseA at hbase
                  split at hbase
                  · rename_i mm yy F hF
                    obtain ⟨hyy, hb2⟩ := cond_some hbase rfl
                    have hyy := beq_eq hyy
                    simp only [Option.some.injEq, Prod.mk.injEq] at hb2
                    obtain ⟨rfl, rfl⟩ := hb2
                    subst hyy
                    rw [hF] at hr
                    exact laid_cut hr (by simpa [Ob.ok] using hok2)
                  · rename_i l hl'
                    obtain ⟨hyy, hb2⟩ := cond_some hbase rfl
                    simp only [Option.some.injEq, Prod.mk.injEq] at hb2
                    obtain ⟨rfl, rfl⟩ := hb2
                    simp only [Bool.and_eq_true, Nat.ble_eq] at hyy
                    rw [hl'] at hr
                    exact laid_rows hr hyy.1 hyy.2
              have laidB : ∃ olds, Laid ex μ y n fb olds ∧ (0 < n → ∃ cc zz arr, base = some ⟨cc, 0, none⟩ ∧ cap * y = zz ∧ μ.pl b k.g = some (cc, zz) ∧ w.heap[cc]? = some (.cells arr k.ty (0, 0)) ∧ arr.size = zz ∧ olds = arr.toList.take (n * y)) := by
                by_cases hn : n = 0
                · subst hn
                  exact ⟨[], ⟨by simp, fun i hi => by omega⟩, fun h => by omega⟩
                · obtain ⟨cc, zz, arr, q1, q2, q3, q4, q5, q6⟩ := there (by omega)
                  exact ⟨_, q6, fun _ => ⟨cc, zz, arr, q1, q2, q3, q4, q5, rfl⟩⟩
              obtain ⟨olds, hlo, hold⟩ := laidB
              have hall := laid_append hlo hl
              have hself : (H.set b ⟨.sym (n + m) y (fun j => mergeL (Nat.blt j n) (fb j) (f (j - n))), elem, g + 1⟩)[b]? = some ⟨.sym (n + m) y (fun j => mergeL (Nat.blt j n) (fb j) (f (j - n))), elem, g + 1⟩ := List.getElem?_set_self hlt
              by_cases hcap : n + m ≤ cap
              · -- in place
                rcases hs with hs | ⟨cc, zz, hp, hbb, hsz⟩
                · have hm0 : m = 0 := by omega
                  have hn0 : n = 0 := by omega
                  subst hm0; subst hn0; subst hs
                  obtain ⟨g1, g2⟩ := Goes.lose hH hd hk (b' := ⟨.sym (0 + 0) y (fun j => mergeL (Nat.blt j 0) (fb j) (f (j - 0))), elem, g + 1⟩) (by simp only; omega)
                  refine ⟨_, w, μ, run_app_none t ty elem i ht hi base a 0 0 c (Nat.le_refl _), ?_, g1, g2⟩
                  simp only [VRel]
                  exact ⟨base, 0, rfl, Nat.le_refl _, Nat.le_refl _, Nat.zero_le _, .inl rfl⟩
                · rw [hg] at hp
                  obtain ⟨arr, hw, hz', hr⟩ := hH.blk b k cc zz hk hp
                  subst hbb
                  have hls : arr.toList.length = arr.size := by simp
                  have hold' : olds = arr.toList.take (n * y) := by
                    by_cases hn : n = 0
                    · subst hn; have := hlo.1; simp at this; simp [this]
                    · obtain ⟨cc', zz', arr', q1, q2, q3, q4, q5, q6⟩ := hold (by omega)
                      cases q1; rw [hw] at q4; cases q4; exact q6
                  have hfit : (n + m) * y ≤ arr.size := by rw [hz', ← hsz]; exact Nat.mul_le_mul_right _ hcap
                  have hnm : (n + m) * y = n * y + m * y := Nat.add_mul _ _ _
                  have fin : ∀ (arr' : Array Value), arr'.toList = olds ++ vs ++ arr.toList.drop ((n + m) * y) → (Builtin.append_ #[t, t] ty #[.slice (some ⟨cc, 0, none⟩) n cap, .slice a m c]).run P w = .ok (.slice (some ⟨cc, 0, none⟩) (n + m) cap) (w.setRow cc arr') →
                      ∃ v' w' μ', (Builtin.append_ #[t, t] ty #[.slice (some ⟨cc, 0, none⟩) n cap, .slice a m c]).run P w = .ok v' w' ∧ VRel ex μ' (.lst b (g + 1) y (n + m) (n + m)) v' ∧ Goes ex w H μ w' (H.set b ⟨.sym (n + m) y (fun j => mergeL (Nat.blt j n) (fb j) (f (j - n))), elem, g + 1⟩) μ' ∧ Dom μ' (H.set b ⟨.sym (n + m) y (fun j => mergeL (Nat.blt j n) (fb j) (f (j - n))), elem, g + 1⟩) := by
                    intro arr' ha hrun
                    obtain ⟨μ', g1, g2, g3⟩ := Goes.write hH hd hk hp (b' := ⟨.sym (n + m) y (fun j => mergeL (Nat.blt j n) (fb j) (f (j - n))), elem, g + 1⟩) (by simp only; omega) hkt.symm (arr := arr') hw (by
                      have : arr'.toList.length = arr.toList.length := by
                        rw [ha]; simp only [List.length_append, List.length_drop, hlo.1, hl.1]; omega
                      simpa [hz'] using this) (by rw [ha]; exact laid_sym hall)
                    refine ⟨_, _, μ', hrun, ?_, g1, g2⟩
                    simp only [VRel]
                    exact ⟨_, cap, rfl, hcap, hcap, hcm, .inr ⟨cc, zz, g3, rfl, hsz⟩⟩
                  by_cases hm : m = 0
                  · subst hm
                    have hv0 : vs = [] := List.eq_nil_of_length_eq_zero (by simpa using hl.1)
                    subst hv0
                    refine fin arr (by rw [hold']; simp) ?_
                    have hset : w.setRow cc arr = w := by
                      obtain ⟨arr2, h1, h2⟩ := run_storeCells_at (P := P) cc k.ty 0 [] 0 arr w hw (by simp) (by simp)
                      have h3 : arr2 = arr := Array.toList_inj.1 (by simpa [setV] using h2)
                      subst h3
                      have h4 : (storeCells ⟨cc, 0, none⟩ [] 0).run P w = .ok () w := rfl
                      rw [h4] at h1
                      simp only [Result.ok.injEq] at h1
                      exact h1.2.symm
                    rw [hset]
                    exact run_app_none t ty elem i ht hi _ a n cap c hnc
                  · obtain ⟨ad, rfl, hmm⟩ := hmem (by omega)
                    clear hmem
                    have hmem := hmm
                    refine fin (arr.toList.take (n * i.size) ++ vs ++ arr.toList.drop (n * i.size + vs.length)).toArray (by
                      rw [hold', hsize, hl.1, hnm]) ?_
                    refine run_append_room w t ty elem i ht hi cc n cap arr (by rw [← hkt]; exact hw) ad m c vs (by rw [hsize]; exact hl.1) hmem (laid_one hl hz0) hcap (by rw [hsize, hl.1, ← hnm]; exact hfit)
              · -- grown
                have hm : 0 < m := by omega
                obtain ⟨ad, rfl, hmm⟩ := hmem hm
                clear hmem
                have hmem := hmm
                have hrun : (Builtin.append_ #[t, t] ty #[.slice base n cap, .slice (some ad) m c]).run P w =
                    .ok (.slice (some ⟨w.heap.size, 0, none⟩) (n + m) (grownCap w (n + m) cap elem)) (w.drew.alloc (.cells ((olds ++ vs).toArray ++ Builtin.zeroCells zv.cells (grownCap w (n + m) cap elem - (n + m))) elem)) := by
                  have hfits : Builtin.nextslicecap (n + m) cap * i.bytes ≤ 281474976710656 := by rw [hbytes]; exact growslice_fits (by omega) hroom
                  cases base with
                  | none =>
                    have hc0 : cap = 0 := by
                      rcases hs with hs | ⟨_, _, _, hbb, _⟩
                      · exact hs
                      · cases hbb
                    subst hc0
                    have hn0 : n = 0 := by omega
                    subst hn0
                    have ho0 : olds = [] := List.eq_nil_of_length_eq_zero (by simpa using hlo.1)
                    subst ho0
                    have := run_append_nil w t ty elem i zv ht hi hiz ad m c vs (by rw [hsize]; exact hl.1) hmem (by omega) (by omega) (by rw [hbytes]; simp at hroom; omega)
                    simpa using this
                  | some bb =>
                    have hcells : ∀ j u, olds[j]? = some u → w.cell? (bb.add j) = some u := by
                      intro j u hu
                      by_cases hn : n = 0
                      · subst hn
                        have ho0 : olds = [] := List.eq_nil_of_length_eq_zero (by simpa using hlo.1)
                        subst ho0; simp at hu
                      · obtain ⟨cc', zz', arr', q1, q2, q3, q4, q5, q6⟩ := hold (by omega)
                        cases q1
                        rw [addr_add, cell_of_row w cc' _ arr' k.ty (0, 0) q4]
                        rw [q6, List.getElem?_take] at hu
                        split at hu
                        · simpa using hu
                        · cases hu
                    have := run_append_grow w t ty elem i zv ht hi hiz bb n cap olds (by rw [hsize]; exact hlo.1) hcells ad m c vs (by rw [hsize]; exact hl.1) hmem (by omega) (by omega) hfits
                    simpa using this
                obtain ⟨μ', h1, h2, h3⟩ := grow_rel (i := b) (old := cap) (by' := by') (zs := zv) (k := n + m) (vs := olds ++ vs) (b' := ⟨.sym (n + m) y (fun j => mergeL (Nat.blt j n) (fb j) (f (j - n))), elem, g + 1⟩) hH hd hzs rfl rfl hself (by simp) (by simp; omega) (fun j hj => List.getElem?_set_ne (fun e => hj e.symm)) (fun g' hg' => hd.gen b k g' hk (by simp only at hg'; omega)) hall (by simp only [maxLen]; omega) rfl rfl rfl
                exact ⟨_, _, μ', hrun, h1, h2, h3⟩
            · cases h2
          · cases h
        · cases h
      · cases h
    · cases h
  · cases h
end
end Go.Lst
