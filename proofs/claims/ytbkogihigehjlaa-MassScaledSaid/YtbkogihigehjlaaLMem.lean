/- What the operations on memory do. -/
import Derived.Test.YtbkogihigehjlaaLOps
namespace Go.Lst
open Go.Sim (FR nanb cn fadd fsub fmul fdiv fneg feq flt fle fop fsqrt)
section
variable {P : Program} {ex : Bool} {μ : Mu}

theorem cond_some {α : Type} {b : Bool} {x y : Option α} {r : α} (h : cond b x y = some r) (hy : y = none) : b = true ∧ x = some r := by
  cases b
  · rw [hy] at h; cases h
  · exact ⟨rfl, h⟩
theorem cond_some' {α : Type} {b : Bool} {x y : Option α} {r : α} (h : cond b x y = some r) (hx : x = none) : b = false ∧ y = some r := by
  cases b
  · exact ⟨rfl, h⟩
  · rw [hx] at h; cases h

def setV : List Value → Nat → List Value → List Value
  | l, _, [] => l
  | l, o, v :: r => setV (l.set o v) (o + 1) r
theorem setR_rel : ∀ {r : List AV} {rs : List Value} (_ : VRels ex μ r rs) {l : List AV} {vs : List Value} (_ : VRels ex μ l vs) (o : Nat), VRels ex μ (setR l o r) (setV vs o rs)
  | [], rs, h, l, vs, h', o => by rw [VRels.nil_iff.1 h]; exact h'
  | a :: r, rs, h, l, vs, h', o => by
    obtain ⟨v, q, rfl, h1, h2⟩ := h.uncons
    exact setR_rel h2 (h'.set h1 o) (o + 1)
theorem setV_length : ∀ (r l : List Value) (o : Nat), (setV l o r).length = l.length
  | [], _, _ => rfl
  | v :: r, l, o => by simp only [setV, setV_length r]; simp
theorem foldl_set (off : Nat) : ∀ (vs : List Value) (k : Nat) (cells : Array Value),
    (List.foldl (fun (cs : Array Value) (x : Value × Nat) => cs.setIfInBounds (off + x.2) x.1) cells (vs.zipIdx k)).toList = setV cells.toList (off + k) vs
  | [], k, cells => by simp [setV]
  | v :: vs, k, cells => by
    simp only [List.zipIdx_cons, List.foldl_cons, setV]
    rw [foldl_set off vs (k + 1)]
    simp [Nat.add_assoc]
theorem foldl_set0 (off : Nat) (vs cells : Array Value) :
    (vs.zipIdx.foldl (fun cs (c, j) => cs.setIfInBounds (off + j) c) cells).toList = setV cells.toList off vs.toList := by
  rw [← Array.foldl_toList, Array.toList_zipIdx]
  exact foldl_set off vs.toList 0 cells

def PRels (ex : Bool) (μ : Mu) : List (Nat × AV) → List (Nat × Value) → Prop
  | [], vs => vs = []
  | (i, a) :: l, vs => ∃ v r, vs = (i, v) :: r ∧ VRel ex μ a v ∧ PRels ex μ l r
theorem fill_rel (place : Nat → Option (Nat × Nat)) : ∀ (ps : List (Nat × AV)) (qs : List (Nat × Value)), PRels ex μ ps qs → ∀ (l : List AV) (cells : Array Value), VRels ex μ l cells.toList →
    ∀ r, fillA place l ps = some r → ∃ cells', Instr.fill place cells qs = some cells' ∧ VRels ex μ r cells'.toList
  | [], qs, h, l, cells, hl, r, e => by
    simp only [PRels] at h; subst h
    simp only [fillA, Option.some.injEq] at e; subst e
    exact ⟨cells, rfl, hl⟩
  | (i, a) :: ps, qs, h, l, cells, hl, r, e => by
    simp only [PRels] at h
    obtain ⟨v, q, rfl, hv, hq⟩ := h
    simp only [fillA] at e
    split at e
    · rename_i off size cs hp hcs
      obtain ⟨hc, e⟩ := cond_some e rfl
      simp only [Bool.and_eq_true, Nat.ble_eq] at hc
      have hbeq := Nat.eq_of_beq_eq_true hc.1
      have hcr := hv.cells hcs
      have hlen : v.cells.size = cs.length := by rw [← hcr.length]; simp
      have hlen2 : cells.size = l.length := by rw [← hl.length]; simp
      simp only [Instr.fill, hp]
      rw [if_neg (by simp only [Bool.or_eq_true, decide_eq_true_eq]; omega)]
      exact fill_rel place ps q hq _ _ (by rw [foldl_set0]; exact setR_rel hcr hl off) r e
    · cases e

theorem zero_run {t : TypeId} {z : AV} (h : zeroA P t = some z) : ∃ i v, P.info? t = some i ∧ i.zero = some v ∧ VRel ex μ z v := by
  unfold zeroA at h
  split at h
  · rename_i i hi
    split at h
    · rename_i v hv
      exact ⟨i, v, hi, hv, toAV_rel 5 v z h⟩
    · cases h
  · cases h
theorem zeroC_run {t : TypeId} {z : List AV} (h : zeroC P t = some z) : ∃ i v, P.info? t = some i ∧ i.zero = some v ∧ VRels ex μ z v.cells.toList := by
  unfold zeroC at h
  split at h
  · rename_i y hy
    obtain ⟨i, v, h1, h2, h3⟩ := zero_run (ex := ex) (μ := μ) hy
    exact ⟨i, v, h1, h2, h3.cells h⟩
  · cases h
theorem run_zero (w : World) {t : TypeId} {i : TypeInfo} {v : Value} (hi : P.info? t = some i) (hz : i.zero = some v) : (zeroValue t).run P w = .ok v w := by
  simp [zeroValue, typeInfo, hi, hz]
theorem szT_run (w : World) {t : TypeId} {n : Nat} (h : szT P t = some n) : (sizeOf t).run P w = .ok n w := by
  unfold szT at h
  split at h
  · rename_i i hi; cases h; simp [sizeOf, typeInfo, hi]
  · cases h
theorem aggT_run (w : World) {t : TypeId} {b : Bool} (h : aggT P t = some b) : (isAgg t).run P w = .ok b w := by
  unfold aggT at h
  split at h
  · rename_i d hd
    cases h
    unfold isAgg
    rw [Sem.run_bind, run_underlying hd w]
    cases d <;> rfl
  · cases h
theorem places_eq : ∀ (fs : List Field) (l : List (Nat × Nat)), placesA P fs = some l → fs.mapM (fun f => (P.info? f.type).map fun i => (f.offset, i.size)) = some l
  | [], l, h => by simp only [placesA, Option.some.injEq] at h; subst h; rfl
  | f :: fs, l, h => by
    simp only [placesA] at h
    split at h
    · rename_i i r hi hr
      cases h
      simp [List.mapM_cons, hi, places_eq fs r hr]
    · cases h
theorem built_rel {t : TypeId} {ps : List (Nat × AV)} {qs : List (Nat × Value)} {l : List AV} (hp : PRels ex μ ps qs) (h : builtA P t ps = some l) :
    ∃ cells, P.built t qs = some cells ∧ VRels ex μ l cells.toList := by
  unfold builtA at h
  split at h
  · rename_i z n e hz hu
    obtain ⟨i, v, hi, hv, hr⟩ := zeroC_run (ex := ex) (μ := μ) hz
    split at h
    · rename_i s hs
      unfold szT at hs
      split at hs
      · rename_i ie hie
        cases hs
        obtain ⟨c, hc, hrel⟩ := fill_rel _ ps qs hp _ _ hr l h
        exact ⟨c, by simp only [Program.built, hi, hu, hv, hie]; exact hc, hrel⟩
      · cases hs
    · cases h
  · rename_i z fields hz hu
    obtain ⟨i, v, hi, hv, hr⟩ := zeroC_run (ex := ex) (μ := μ) hz
    split at h
    · rename_i pl hpl
      obtain ⟨c, hc, hrel⟩ := fill_rel _ ps qs hp _ _ hr l h
      refine ⟨c, ?_, hrel⟩
      simp only [Program.built, hi, hu, hv, places_eq _ _ hpl]
      simpa using hc
    · cases h
  · cases h

theorem part_run (w : World) {t : TypeId} {l : List AV} {cs : Array Value} {off : Nat} {a : AV} (hl : VRels ex μ l cs.toList) (h : partA P t l off = some a) :
    ∃ v, (part t cs off).run P w = .ok v w ∧ VRel ex μ a v := by
  unfold partA at h
  split at h
  · rename_i ha
    split at h
    · rename_i s hs
      cases h
      refine ⟨.agg (cs.extract off (off + s)), ?_, ?_⟩
      · simp [part, aggT_run w ha, szT_run w hs]
      · simp only [VRel]
        refine ⟨_, rfl, ?_⟩
        rw [Array.toList_extract]
        simp only [List.extract_eq_take_drop, Nat.add_sub_cancel_left]
        exact (hl.drop off).take s
    · cases h
  · rename_i ha
    obtain ⟨v, hv, hr⟩ := hl.get h
    exact ⟨v, by simp [part, aggT_run w ha, show cs[off]? = some v by simpa using hv], hr⟩
  · cases h

theorem addr_add (c o n : Nat) : (⟨c, o, none⟩ : Addr).add n = ⟨c, o + n, none⟩ := by
  unfold Addr.add; split <;> simp_all
theorem elt_val {s : Nat} {o : Off} (_h0 : 0 < s) (_hk : (eltA s o).2 < s) : (eltA s o).1 * s + (eltA s o).2 = o.val := by
  cases o with
  | lit n => simp only [eltA, Off.val]; rw [Nat.mul_comm]; exact Nat.div_add_mod n s
  | «at» i t k =>
    cases h : Nat.beq t s with
    | true => simp only [eltA, h, cond_true, Off.val]; rw [beq_eq h]
    | false => simp only [eltA, h, cond_false, Off.val]; rw [Nat.mul_comm]; exact Nat.div_add_mod _ s
  | idx i t k m => simp only [eltA, Off.val]; rw [Nat.mul_comm]; exact Nat.div_add_mod _ s
theorem elem_get {vs : List Value} {i s k : Nat} {v : Value} (h : ((vs.drop (i * s)).take s)[k]? = some v) : vs[i * s + k]? = some v := by
  rw [List.getElem?_take] at h
  split at h
  · rwa [List.getElem?_drop] at h
  · cases h
theorem load_agg {w : World} {c o s : Nat} {t : TypeId} {arr : Array Value} {ty : TypeId} {fz : Nat × Nat} (ha : aggT P t = some true) (hs : szT P t = some s) (hw : w.heap[c]? = some (.cells arr ty fz)) (hle : o + s ≤ arr.size) :
    (loadVar t ⟨c, o, none⟩).run P w = .ok (.agg ((arr.toList.drop o).take s).toArray) w := by
  have hl := run_loadCells_list (P := P) w ⟨c, o, none⟩ ((arr.toList.drop o).take s) (fun j v hv => by
    rw [addr_add, cell_of_row w c _ arr ty fz hw]
    rw [List.getElem?_take] at hv
    split at hv
    · rw [List.getElem?_drop] at hv; simpa using hv
    · cases hv)
  rw [show ((arr.toList.drop o).take s).length = s by simp; omega] at hl
  simp [loadVar, aggT_run w ha, szT_run w hs, hl]
theorem load_one {w : World} {c o : Nat} {t : TypeId} {arr : Array Value} {ty : TypeId} {fz : Nat × Nat} {v : Value} (ha : aggT P t = some false) (hw : w.heap[c]? = some (.cells arr ty fz)) (hv : arr.toList[o]? = some v) :
    (loadVar t ⟨c, o, none⟩).run P w = .ok v w := by
  have : w.cell? ⟨c, o, none⟩ = some v := by rw [cell_of_row w c _ arr ty fz hw]; simpa using hv
  simp [loadVar, aggT_run w ha, load, Sem.run, this]
theorem load_run {w : World} {H : Heap} {t : TypeId} {p : Pos} {c z : Nat} {ob : Ob} {a : AV} (hH : HRel ex μ H w) (hc : μ.pl p.b p.g = some (c, z)) (h : loadA P H t p = some (ob, a)) (hok : ob.ok = true) :
    ∃ v, (loadVar t ⟨c, p.o.val, none⟩).run P w = .ok v w ∧ VRel ex μ a v := by
  unfold loadA at h
  split at h
  · cases h
  · rename_i b hb
    obtain ⟨hg, h⟩ := cond_some h rfl
    have hg := beq_eq hg
    rw [hg] at hc
    obtain ⟨arr, hw, hsz, hr⟩ := hH.blk p.b b c z hb hc
    split at h
    · rename_i l hl
      rw [hl] at hr
      have hr : VRels ex μ l arr.toList := hr
      split at h
      · rename_i i s k n ho
        split at h
        · rename_i ag m ha hm
          obtain ⟨hle, h⟩ := cond_some h rfl
          simp only [Bool.and_eq_true, Nat.ble_eq] at hle
          cases h
          have hi : i < n := by simpa [Ob.ok] using hok
          have hlen : arr.size = l.length := by rw [← hr.length]; simp
          have hmul : (i + 1) * s ≤ n * s := Nat.mul_le_mul_right _ hi
          rw [Nat.add_mul, Nat.one_mul] at hmul
          have hv : p.o.val = i * s + k := by rw [ho]; rfl
          rw [pickA_eq i _ n 0 (by omega) (by omega), hv]
          cases ag with
          | true =>
            refine ⟨_, load_agg ha hm hw (by omega), ?_⟩
            simp only [rdA, cond_true, VRel]; exact ⟨_, rfl, by simpa using (hr.drop (i * s + k)).take m⟩
          | false =>
            have hlt : i * s + k < l.length := by omega
            obtain ⟨v, hv1, hr'⟩ := hr.get (List.getElem?_eq_getElem hlt)
            refine ⟨v, load_one ha hw hv1, ?_⟩
            simp only [rdA, cond_false, List.getElem?_eq_getElem hlt, Option.getD_some]
            exact hr'
        · cases h
      split at h
      · rename_i ha
        split at h
        · rename_i s hs
          obtain ⟨hle, h⟩ := cond_some h rfl
          simp only [Nat.ble_eq] at hle
          cases h
          have hlen : arr.size = l.length := by rw [← hr.length]; simp
          refine ⟨_, load_agg ha hs hw (by omega), ?_⟩
          simp only [VRel]; exact ⟨_, rfl, by simpa using (hr.drop p.o.val).take s⟩
        · cases h
      · rename_i ha
        split at h
        · rename_i u hu
          cases h
          obtain ⟨v, hv, hr'⟩ := hr.get hu
          exact ⟨v, load_one ha hw hv, hr'⟩
        · cases h
      · cases h
    · rename_i n s f hl
      rw [hl] at hr
      obtain ⟨hn, hr⟩ : n * s ≤ arr.toList.length ∧ _ := hr
      split at h
      · rename_i ha
        split at h
        · rename_i m hm
          obtain ⟨hle, h⟩ := cond_some h rfl
          simp only [Bool.and_eq_true, Nat.ble_eq, Nat.blt_eq] at hle
          cases h
          have hi : (eltA s p.o).1 < n := by simpa [Ob.ok] using hok
          obtain ⟨hr, _⟩ := hr _ hi
          have hv := elt_val (o := p.o) hle.1 hle.2.2
          have hmul : ((eltA s p.o).1 + 1) * s ≤ n * s := Nat.mul_le_mul_right _ hi
          rw [Nat.add_mul, Nat.one_mul] at hmul
          have hlen : arr.toList.length = arr.size := by simp
          refine ⟨_, load_agg ha hm hw (by omega), ?_⟩
          simp only [VRel]
          refine ⟨_, rfl, ?_⟩
          have h2 := (hr.drop (eltA s p.o).2).take m
          rw [List.drop_take, List.drop_drop, List.take_take, hv, Nat.min_eq_left (by omega)] at h2
          simpa using h2
        · cases h
      · rename_i ha
        split at h
        · rename_i u hu
          obtain ⟨hle, h⟩ := cond_some h rfl
          simp only [Bool.and_eq_true, Nat.blt_eq] at hle
          cases h
          have hi : (eltA s p.o).1 < n := by simpa [Ob.ok] using hok
          obtain ⟨hr, _⟩ := hr _ hi
          obtain ⟨v, hv, hr'⟩ := hr.get hu
          have hv := elem_get hv
          rw [elt_val hle.1 hle.2] at hv
          exact ⟨v, load_one ha hw hv, hr'⟩
        · cases h
      · cases h
theorem run_storeCells_at (c : Nat) (t : TypeId) (o : Nat) : ∀ (vs : List Value) (i : Nat) (cur : Array Value) (w : World), w.heap[c]? = some (.cells cur t (0, 0)) → o + i + vs.length ≤ cur.size → (∀ v ∈ vs, v.oneCell' = true) →
    ∃ arr : Array Value, (storeCells ⟨c, o, none⟩ vs i).run P w = .ok () (w.setRow c arr) ∧ arr.toList = setV cur.toList (o + i) vs
  | [], i, cur, w, hw, _, _ => by
    refine ⟨cur, ?_, rfl⟩
    have : w.setRow c cur = w := by
      unfold World.setRow
      have hlt := (Array.getElem?_eq_some_iff.1 hw).1
      have hv := (Array.getElem?_eq_some_iff.1 hw).2
      cases w with
      | mk heap tape drawn os output =>
        simp only [World.mk.injEq, and_self, and_true]
        apply Array.ext
        · simp
        · intro j h1 h2
          rw [Array.getElem_modify]
          split
          · rename_i hj; subst hj; simp only at hv ⊢; rw [hv]
          · rfl
    rw [this]; rfl
  | v :: vs, i, cur, w, hw, hle, h1 => by
    simp only [List.length_cons] at hle
    have hcell : w.cell? ((⟨c, o, none⟩ : Addr).add i) = some cur[o + i] := by
      rw [addr_add, cell_of_row w c _ cur t _ hw]; exact Array.getElem?_eq_getElem (by omega)
    have hfz : w.frozen? ((⟨c, o, none⟩ : Addr).add i) = false := by rw [addr_add]; exact frozen_of_row w c _ cur t hw
    have hst : (store ((⟨c, o, none⟩ : Addr).add i) v).run P w = .ok () (w.setCell ((⟨c, o, none⟩ : Addr).add i) v) := by
      rw [run_store P w _ v _ (h1 v (by simp)), hcell]; simp [hfz]
    have hset : w.setCell ((⟨c, o, none⟩ : Addr).add i) v = w.setRow c (cur.setIfInBounds (o + i) v) := by
      rw [addr_add]; exact setCell_eq_setRow w c (o + i) cur t _ v hw
    obtain ⟨arr, hrun, harr⟩ := run_storeCells_at c t o vs (i + 1) (cur.setIfInBounds (o + i) v) (w.setRow c (cur.setIfInBounds (o + i) v)) (setRow_heap w c cur _ t _ hw) (by simp; omega) (fun u hu => h1 u (by simp [hu]))
    refine ⟨arr, ?_, ?_⟩
    · simp only [storeCells, Sem.run_bind, hst, Result.andThen_ok, hset, hrun, setRow_setRow]
    · rw [harr]; simp [setV, Nat.add_assoc]
theorem oneAll_rel : ∀ {l : List AV} {vs : List Value}, VRels ex μ l vs → oneAll l = true → ∀ v ∈ vs, v.oneCell' = true
  | [], vs, h, _ => by rw [VRels.nil_iff.1 h]; simp
  | a :: l, vs, h, h1 => by
    obtain ⟨v, q, rfl, hv, hq⟩ := h.uncons
    simp only [oneAll, Bool.and_eq_true] at h1
    intro u hu
    rcases List.mem_cons.1 hu with rfl | hu
    · exact (hv.one h1.1).1
    · exact oneAll_rel hq h1.2 u hu
theorem setV_get : ∀ (r l : List Value) (o k : Nat), ¬ (o ≤ k ∧ k < o + r.length) → (setV l o r)[k]? = l[k]?
  | [], _, _, _, _ => rfl
  | v :: r, l, o, k, h => by
    simp at h
    rw [setV, setV_get r (l.set o v) (o + 1) k (by omega), List.getElem?_set_ne (by omega)]
theorem setV_off (l : List Value) : ∀ (r : List Value) (d o : Nat), (setV l (d + o) r).drop d = setV (l.drop d) o r
  | [], d, o => rfl
  | v :: r, d, o => by
    simp only [setV]
    rw [Nat.add_assoc, setV_off (l.set (d + o) v) r d (o + 1), List.drop_set, if_neg (by omega), Nat.add_sub_cancel_left]
theorem setV_take : ∀ (r l : List Value) (o s : Nat), o + r.length ≤ s → (setV l o r).take s = setV (l.take s) o r
  | [], l, o, s, _ => rfl
  | v :: r, l, o, s, h => by
    simp at h
    simp only [setV]
    rw [setV_take r (l.set o v) (o + 1) s (by omega), List.take_set]
theorem setV_mem : ∀ (r l : List Value) (o : Nat) (u : Value), u ∈ setV l o r → u ∈ l ∨ u ∈ r
  | [], l, o, u, h => .inl h
  | v :: r, l, o, u, h => by
    simp only [setV] at h
    rcases setV_mem r (l.set o v) (o + 1) u h with h1 | h1
    · rcases List.mem_or_eq_of_mem_set h1 with h2 | h2
      · exact .inl h2
      · exact .inr (by simp [h2])
    · exact .inr (by simp [h1])
theorem setV_far (l r : List Value) (o d s : Nat) (h : d + s ≤ o ∨ o + r.length ≤ d) : ((setV l o r).drop d).take s = (l.drop d).take s := by
  apply List.ext_getElem?
  intro k
  rw [List.getElem?_take, List.getElem?_take]
  split
  · rw [List.getElem?_drop, List.getElem?_drop]
    exact setV_get r l o (d + k) (by omega)
  · rfl
/-- An element of a row of elements is written to. -/
theorem sym_set {n z i k : Nat} {f : Nat → List AV} {vs cs' : List Value} {cs : List AV} (h : CRel ex μ (.sym n z f) vs) (hi : i < n) (hk : k + cs.length ≤ z) (hc : VRels ex μ cs cs') (h1 : ∀ u ∈ cs', u.oneCell' = true) :
    CRel ex μ (.sym n z (fun j => setM (Nat.beq j i) (f j) k cs)) (setV vs (i * z + k) cs') := by
  obtain ⟨hn, hr⟩ := h
  have hcl : cs'.length = cs.length := hc.length
  refine ⟨by rw [setV_length]; exact hn, fun j hj => ?_⟩
  by_cases hji : j = i
  · subst hji
    simp only [Nat.beq_refl, setM_true]
    rw [setV_off, setV_take _ _ _ _ (by omega)]
    obtain ⟨h2, h3⟩ := hr j hj
    refine ⟨setR_rel hc h2 k, fun u hu => ?_⟩
    rcases setV_mem _ _ _ _ hu with h4 | h4
    · exact h3 u h4
    · exact h1 u h4
  · have hb : Nat.beq j i = false := by
      cases hb : Nat.beq j i with
      | false => rfl
      | true => exact absurd (beq_eq hb) hji
    simp only [hb, setM_false]
    rw [setV_far]
    · exact hr j hj
    · rcases Nat.lt_or_gt_of_ne hji with h4 | h4
      · left
        have : (j + 1) * z ≤ i * z := Nat.mul_le_mul_right _ h4
        rw [Nat.add_mul, Nat.one_mul] at this; omega
      · right
        have : (i + 1) * z ≤ j * z := Nat.mul_le_mul_right _ h4
        rw [Nat.add_mul, Nat.one_mul] at this; omega
theorem store_run {w : World} {H H' : Heap} {t : TypeId} {p : Pos} {c z : Nat} {a : AV} {v : Value} {ob : Ob} (hH : HRel ex μ H w) (hd : Dom μ H) (hc : μ.pl p.b p.g = some (c, z)) (hv : VRel ex μ a v) (h : storeA P H t p a = some (ob, H')) (hok : ob.ok = true) :
    ∃ w' μ', (storeVar t ⟨c, p.o.val, none⟩ v).run P w = .ok () w' ∧ Goes ex w H μ w' H' μ' ∧ Dom μ' H' := by
  unfold storeA at h
  split at h
  · rename_i b s cs hb hs hcs
    obtain ⟨hcc, h⟩ := cond_some h rfl
    simp only [Bool.and_eq_true] at hcc
    obtain ⟨hg, hsz, hone⟩ := hcc
    have hg := beq_eq hg
    have hsz := beq_eq hsz
    rw [hg] at hc
    obtain ⟨arr, hw, hz, hr⟩ := hH.blk p.b b c z hb hc
    have hcr := hv.cells hcs
    have hlen : v.cells.size = cs.length := by rw [← hcr.length]; simp
    have hl1 : v.cells.toList.length = cs.length := hcr.length
    have hone' := oneAll_rel hcr hone
    have fin : ∀ (cl : Cells), p.o.val + s ≤ arr.size → CRel ex μ cl (setV arr.toList p.o.val v.cells.toList) →
        ∃ w' μ', (storeVar t ⟨c, p.o.val, none⟩ v).run P w = .ok () w' ∧ Goes ex w H μ w' (H.set p.b ⟨cl, b.ty, b.g⟩) μ' ∧ Dom μ' (H.set p.b ⟨cl, b.ty, b.g⟩) := by
      intro cl hfit hrel
      obtain ⟨arr', hrun, harr⟩ := run_storeCells_at (P := P) c b.ty p.o.val v.cells.toList 0 arr w hw (by simp; omega) hone'
      obtain ⟨μ', h1, h2, _⟩ := Goes.write hH hd (b' := ⟨cl, b.ty, b.g⟩) hb hc (Nat.le_refl _) rfl (arr := arr') hw (by
        have : arr'.toList.length = arr.toList.length := by rw [harr, setV_length]
        simpa [hz] using this) (by rw [harr]; exact hrel)
      refine ⟨_, μ', ?_, h1, h2⟩
      simp only [storeVar, Sem.run_bind, szT_run w hs, Result.andThen_ok]
      rw [if_neg (by omega)]
      exact hrun
    split at h
    · rename_i l hl
      rw [hl] at hr
      have hr : VRels ex μ l arr.toList := hr
      have hlen2 : arr.size = l.length := by rw [← hr.length]; simp
      split at h
      · rename_i i y k n ho
        obtain ⟨hle, h⟩ := cond_some h rfl
        simp only [Nat.ble_eq] at hle
        cases h
        have hi : i < n := by simpa [Ob.ok] using hok
        have hmul : (i + 1) * y ≤ n * y := Nat.mul_le_mul_right _ hi
        rw [Nat.add_mul, Nat.one_mul] at hmul
        have hv : p.o.val = i * y + k := by rw [ho]; rfl
        rw [setP_eq, if_pos hi, ← hv]
        exact fin _ (by omega) (setR_rel hcr hr _)
      obtain ⟨hle, h⟩ := cond_some h rfl
      simp only [Nat.ble_eq] at hle
      cases h
      exact fin _ (by omega) (setR_rel hcr hr _)
    · rename_i n y f hl
      rw [hl] at hr
      obtain ⟨hle, h⟩ := cond_some h rfl
      simp only [Bool.and_eq_true, Nat.ble_eq, Nat.blt_eq] at hle
      cases h
      have hi : (eltA y p.o).1 < n := by simpa [Ob.ok] using hok
      have he := elt_val (o := p.o) hle.1 hle.2.2
      have hmul : ((eltA y p.o).1 + 1) * y ≤ n * y := Nat.mul_le_mul_right _ hi
      rw [Nat.add_mul, Nat.one_mul] at hmul
      have hn : n * y ≤ arr.toList.length := hr.1
      have hlen2 : arr.toList.length = arr.size := by simp
      refine fin _ (by omega) ?_
      rw [← he]
      exact sym_set hr hi (by omega) hcr hone'
  · cases h
end
end Go.Lst
