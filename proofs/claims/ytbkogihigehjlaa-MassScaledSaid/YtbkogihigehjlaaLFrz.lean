/- A call of what only reads: all memory counts as still; what is new comes behind what is there. -/
import Derived.Test.YtbkogihigehjlaaLApp
namespace Go.Lst
/-- So many cells has an element of a slice that goes to the end of its block; where it does not, any number will do. -/
def sizeIn (n m : Nat) : Nat := cond (Nat.beq n 0) 1 (m / n)
/-- A value, where all memory is still: lists of our own say what lies in them. 'tp': what has to hold is asked for elsewhere. -/
def freezeN : Nat → Bool → Heap → AV → AV
  | 0, _, _, a => cond a.flat a .top
  | d + 1, tp, H, a => match a with
    | .agg l => .agg (l.map (freezeN d tp H))
    | .tup l => .tup (l.map (freezeN d tp H))
    | .iface t u => .iface t (freezeN d tp H u)
    | .func f l r => .func f (l.map (freezeN d tp H)) (r.map (freezeN d tp H))
    | .vptr l => .vptr (l.map (freezeN d false H))
    | .view n s f => .view n s (fun i => (f i).map (freezeN d false H))
    | .lst b g s n _ => match H[b]? with
      | some k => cond (Nat.beq g k.g) (match k.cells with
        | .sym m y f => cond (Nat.beq y s && (tp || Nat.ble n m)) (.view n s (fun i => (f i).map (freezeN d false H))) .top
        | .flat l => cond (Nat.ble (n * s) l.length && oneAll l) (.view n s (fun i => (rowsOf s n l i).map (freezeN d false H))) .top) .top
      | none => .top
    | .ptr (some p) => match H[p.b]? with
      | some k => cond (Nat.beq p.g k.g) (match k.cells with
        | .flat l => .vptr ((l.drop p.o.val).map (freezeN d tp H))
        | .sym .. => .top) .top
      | none => .top
    | .slice (some p) n c => match H[p.b]? with
      | some k => cond (Nat.beq p.g k.g) (match k.cells with
        | .flat l => cond (Nat.ble n c && (Nat.ble 1 (sizeIn n (l.drop p.o.val).length) && (Nat.ble (n * sizeIn n (l.drop p.o.val).length) (l.drop p.o.val).length && oneAll (l.drop p.o.val)))) (.view n (sizeIn n (l.drop p.o.val).length) (fun i => (rowsOf (sizeIn n (l.drop p.o.val).length) n (l.drop p.o.val) i).map (freezeN d false H))) .top
        | .sym .. => .top) .top
      | none => .top
    | .alt _ _ _ => .top
    | a => a
def freezeOb : Nat → Heap → AV → Ob
  | 0, _, _ => .tt
  | d + 1, H, a => match a with
    | .agg l => l.foldr (fun a o => Ob.both (freezeOb d H a) o) .tt
    | .tup l => l.foldr (fun a o => Ob.both (freezeOb d H a) o) .tt
    | .iface _ u => freezeOb d H u
    | .func _ l r => Ob.both (l.foldr (fun a o => Ob.both (freezeOb d H a) o) .tt) (r.foldr (fun a o => Ob.both (freezeOb d H a) o) .tt)
    | .lst b _ _ n _ => match H[b]? with
      | some k => match k.cells with
        | .sym m _ _ => .bit (Nat.ble n m)
        | .flat _ => .tt
      | none => .tt
    | .ptr (some p) => match H[p.b]? with
      | some k => match k.cells with
        | .flat l => (l.drop p.o.val).foldr (fun a o => Ob.both (freezeOb d H a) o) .tt
        | .sym .. => .tt
      | none => .tt
    | _ => .tt
theorem foldr_ok {H : Heap} {d : Nat} : ∀ {l : List AV}, (l.foldr (fun a o => Ob.both (freezeOb d H a) o) .tt).ok = true → ∀ a ∈ l, (freezeOb d H a).ok = true
  | [], _, a, h => by simp at h
  | b :: l, h, a, ha => by
    simp only [List.foldr_cons, Ob.both_ok, Bool.and_eq_true] at h
    rcases List.mem_cons.1 ha with rfl | ha
    · exact h.1
    · exact foldr_ok h.2 a ha
section
variable {P : Program} {ex : Bool} {μ : Mu}
theorem map_rel {μ' : Mu} {f : AV → AV} : ∀ {l : List AV} {vs : List Value}, (∀ a ∈ l, ∀ v, VRel ex μ a v → VRel ex μ' (f a) v) → VRels ex μ l vs → VRels ex μ' (l.map f) vs
  | [], vs, _, h => by rw [VRels.nil_iff.1 h]; exact VRels.nil
  | a :: l, vs, hf, h => by
    obtain ⟨v, r, rfl, h1, h2⟩ := h.uncons
    exact VRels.cons (hf a (by simp) v h1) (map_rel (fun b hb => hf b (by simp [hb])) h2)
theorem freeze_rel {H : Heap} {w : World} (hH : HRel ex μ H w) : ∀ (d : Nat) (tp : Bool) (a : AV) (v : Value), (tp = true → (freezeOb d H a).ok = true) → VRel ex μ a v → VRel ex (still w) (freezeN d tp H a) v
  | 0, tp, a, v, _, h => by
    unfold freezeN
    cases hf : a.flat with
    | true => exact VRel.flat a v hf h
    | false => simp only [cond_false, VRel]
  | d + 1, tp, a, v, ho, h => by
    have ih := freeze_rel hH d
    have quiet : ∀ (l : List AV) (vs : List Value), VRels ex μ l vs → VRels ex (still w) (l.map (freezeN d false H)) vs := fun l vs => map_rel fun a _ v hv => ih false a v (fun e => by cases e) hv
    have loud : ∀ (l : List AV) (vs : List Value), (tp = true → (l.foldr (fun a o => Ob.both (freezeOb d H a) o) .tt).ok = true) → VRels ex μ l vs → VRels ex (still w) (l.map (freezeN d tp H)) vs := fun l vs hl =>
      map_rel fun a ha v hv => ih tp a v (fun e => foldr_ok (hl e) a ha) hv
    have old : ∀ {c : Nat} {o : Obj}, μ.w0.heap[c]? = some o → w.heap[c]? = some o := fun {c} {o} e => by
      rw [hH.old c (Array.getElem?_eq_some_iff.1 e).1]; exact e
    unfold freezeN
    split
    · rename_i l
      simp only [VRel] at h ⊢
      obtain ⟨l', rfl, h1⟩ := h
      exact ⟨l', rfl, loud _ _ ho h1⟩
    · rename_i l
      simp only [VRel] at h ⊢
      obtain ⟨l', rfl, h1⟩ := h
      exact ⟨l', rfl, loud _ _ ho h1⟩
    · rename_i t u
      simp only [VRel] at h ⊢
      obtain ⟨x, rfl, h1⟩ := h
      exact ⟨x, rfl, ih tp u x ho h1⟩
    · rename_i f l r
      simp only [VRel] at h ⊢
      obtain ⟨l', r', rfl, h1, h2⟩ := h
      refine ⟨l', r', rfl, loud _ _ (fun e => ?_) h1, loud _ _ (fun e => ?_) h2⟩
      · have := ho e; simp only [freezeOb, Ob.both_ok, Bool.and_eq_true] at this; exact this.1
      · have := ho e; simp only [freezeOb, Ob.both_ok, Bool.and_eq_true] at this; exact this.2
    · rename_i l
      simp only [VRel] at h ⊢
      obtain ⟨c, o, arr, t, fz, rfl, h1, h2⟩ := h
      exact ⟨c, o, arr, t, fz, rfl, old h1, by rw [List.length_map]; exact quiet _ _ h2⟩
    · rename_i n s f
      simp only [VRel] at h ⊢
      obtain ⟨a, cap, rfl, h1, h2⟩ := h
      refine ⟨a, cap, rfl, h1, h2.imp id ?_⟩
      rintro ⟨c, o, arr, t, fz, rfl, h3, h4, h5⟩
      exact ⟨c, o, arr, t, fz, rfl, old h3, h4, fun i hi => ⟨quiet _ _ (h5 i hi).1, (h5 i hi).2⟩⟩
    · rename_i b g s n lo
      split
      · rename_i k hk
        cases hg : Nat.beq g k.g with
        | false => simp only [cond_false, VRel]
        | true =>
          have hg := beq_eq hg
          simp only [VRel] at h
          obtain ⟨a, cap, rfl, h1, h2, _, h3⟩ := h
          have key : ∀ (f : Nat → List AV), (∀ arr : Array Value, CRel ex μ k.cells arr.toList → n * s ≤ arr.size ∧ ∀ i, i < n → VRels ex (still w) (f i) ((arr.toList.drop (i * s)).take s) ∧ ∀ u ∈ (arr.toList.drop (i * s)).take s, u.oneCell' = true) → VRel ex (still w) (.view n s f) (.slice a n cap) := by
            intro f hf
            simp only [VRel]
            refine ⟨a, cap, rfl, h1, ?_⟩
            rcases h3 with h3 | ⟨c, z, hp, rfl, hz⟩
            · left; omega
            · right
              rw [hg] at hp
              obtain ⟨arr, hw, _, hr⟩ := hH.blk b k c z hk hp
              obtain ⟨q1, q2⟩ := hf arr hr
              exact ⟨c, 0, arr, k.ty, (0, 0), rfl, hw, by rw [Nat.zero_add]; exact q1, fun i hi => by rw [Nat.zero_add]; exact q2 i hi⟩
          simp only [cond_true]
          split
          · rename_i m y f hf
            cases hy : (Nat.beq y s && (tp || Nat.ble n m)) with
            | false => simp only [cond_false, VRel]
            | true =>
              simp only [Bool.and_eq_true] at hy
              have hys := beq_eq hy.1
              have hnm : n ≤ m := by
                cases tp with
                | true => have := ho rfl; simpa [freezeOb, hk, hf, Ob.ok] using this
                | false => simpa using hy.2
              refine key _ fun arr hr => ?_
              rw [hf, hys] at hr
              obtain ⟨r1, r2⟩ := hr
              have hls : arr.toList.length = arr.size := by simp
              have := Nat.mul_le_mul_right s hnm
              exact ⟨by omega, fun i hi => ⟨quiet _ _ (r2 i (by omega)).1, (r2 i (by omega)).2⟩⟩
          · rename_i l hl
            cases hy : (Nat.ble (n * s) l.length && oneAll l) with
            | false => simp only [cond_false, VRel]
            | true =>
              simp only [Bool.and_eq_true, Nat.ble_eq] at hy
              refine key _ fun arr hr => ?_
              rw [hl] at hr
              have hr : VRels ex μ l arr.toList := hr
              have hlen : arr.size = l.length := by rw [← hr.length]; simp
              have h1 := oneAll_rel hr hy.2
              refine ⟨by omega, fun i hi => ⟨?_, fun u hu => h1 u (List.mem_of_mem_drop (List.mem_of_mem_take hu))⟩⟩
              rw [rowsOf_eq s n l i hi]
              exact quiet _ _ ((hr.drop _).take _)
      · simp only [VRel]
    · rename_i p
      split
      · rename_i k hk
        cases hg : Nat.beq p.g k.g with
        | false => simp only [cond_false, VRel]
        | true =>
          have hg := beq_eq hg
          simp only [VRel] at h
          obtain ⟨c, z, hp, rfl⟩ := h
          rw [hg] at hp
          obtain ⟨arr, hw, _, hr⟩ := hH.blk p.b k c z hk hp
          simp only [cond_true]
          split
          · rename_i l hl
            rw [hl] at hr
            have hr : VRels ex μ l arr.toList := hr
            simp only [VRel]
            refine ⟨c, p.o.val, arr, k.ty, (0, 0), rfl, hw, ?_⟩
            have h5 := hr.drop p.o.val
            have h6 : (arr.toList.drop p.o.val).take ((l.drop p.o.val).map (freezeN d tp H)).length = arr.toList.drop p.o.val := by
              rw [List.length_map, ← h5.length, List.take_length]
            rw [h6]
            refine loud _ _ (fun e => ?_) h5
            have := ho e
            simpa [freezeOb, hk, hl] using this
          · simp only [VRel]
      · simp only [VRel]
    · rename_i p n cc
      split
      · rename_i k hk
        cases hg : Nat.beq p.g k.g with
        | false => simp only [cond_false, VRel]
        | true =>
          have hg := beq_eq hg
          simp only [VRel] at h
          obtain ⟨c, z, hp, rfl⟩ := h
          rw [hg] at hp
          obtain ⟨arr, hw, _, hr⟩ := hH.blk p.b k c z hk hp
          simp only [cond_true]
          split
          · rename_i l hl
            rw [hl] at hr
            have hr : VRels ex μ l arr.toList := hr
            have h5 := hr.drop p.o.val
            have hlen := h5.length
            rw [List.length_drop, List.length_drop] at hlen
            have harr : arr.toList.length = arr.size := by simp
            have hsz := hr.length
            generalize sizeIn n (l.drop p.o.val).length = s
            cases hy : (Nat.ble n cc && (Nat.ble 1 s && (Nat.ble (n * s) (l.drop p.o.val).length && oneAll (l.drop p.o.val)))) with
            | false => simp only [cond_false, VRel]
            | true =>
              simp only [Bool.and_eq_true, Nat.ble_eq, List.length_drop] at hy
              obtain ⟨y1, hs, y2, y3⟩ := hy
              have h1 := oneAll_rel h5 y3
              simp only [cond_true, VRel]
              refine ⟨_, cc, rfl, y1, ?_⟩
              by_cases hn : n = 0
              · exact .inl hn
              have hpos : 1 ≤ n * s := Nat.mul_pos (by omega) (by omega)
              refine .inr ⟨c, p.o.val, arr, k.ty, (0, 0), rfl, hw, by omega, fun i hi => ?_⟩
              rw [rowsOf_eq s n _ i hi, ← List.drop_drop]
              exact ⟨quiet _ _ ((h5.drop _).take _), fun u hu => h1 u (List.mem_of_mem_drop (List.mem_of_mem_take hu))⟩
          · simp only [VRel]
      · simp only [VRel]
    · simp only [VRel]
    · rename_i n1 n2 n3 n4 n5 n6 n7 n8 n9 n10
      cases a with
      | agg l => exact (n1 l rfl).elim
      | tup l => exact (n2 l rfl).elim
      | iface t u => exact (n3 t u rfl).elim
      | func f l r => exact (n4 f l r rfl).elim
      | vptr l => exact (n5 l rfl).elim
      | view n s f => exact (n6 n s f rfl).elim
      | lst b g s n lo => exact (n7 b g s n lo rfl).elim
      | ptr p =>
        cases p with
        | none => exact VRel.flat _ v rfl h
        | some p => exact (n8 p rfl).elim
      | slice p n k =>
        cases p with
        | none => exact VRel.flat _ v rfl h
        | some p => exact (n9 p n k rfl).elim
      | top => simp only [VRel]
      | alt q x y => exact (n10 q x y rfl).elim
      | _ => exact VRel.flat _ v rfl h

mutual
/-- The blocks have other numbers. -/
def shiftA (n : Nat) : AV → AV
  | .ptr (some p) => .ptr (some ⟨p.b + n, p.g, p.o⟩)
  | .slice (some p) l c => .slice (some ⟨p.b + n, p.g, p.o⟩) l c
  | .lst b g s l lo => .lst (b + n) g s l lo
  | .vptr _ => .top
  | .view _ _ _ => .top
  | .func f l r => .func f (shiftL n l) (shiftL n r)
  | .iface t u => .iface t (shiftA n u)
  | .alt q x y => .alt q (shiftA n x) (shiftA n y)
  | .agg l => .agg (shiftL n l)
  | .tup l => .tup (shiftL n l)
  | a => a
def shiftL (n : Nat) : List AV → List AV
  | [] => []
  | a :: l => shiftA n a :: shiftL n l
end
def shiftC (n : Nat) : Cells → Cells
  | .flat l => .flat (shiftL n l)
  | .sym m s f => .sym m s (fun i => shiftL n (f i))
def shiftH (n : Nat) (G : Heap) : Heap := G.map fun b => ⟨shiftC n b.cells, b.ty, b.g⟩
mutual
theorem shift_rel {μ' : Mu} {n : Nat} (hp : ∀ i g c, μ.pl i g = some c → μ'.pl (i + n) g = some c) : ∀ (a : AV) (v : Value), VRel ex μ a v → VRel ex μ' (shiftA n a) v
  | .ptr (some p), v, h => by
    simp only [shiftA, VRel] at h ⊢
    obtain ⟨c, z, h1, rfl⟩ := h
    exact ⟨c, z, hp _ _ _ h1, rfl⟩
  | .slice (some p) l c, v, h => by
    simp only [shiftA, VRel] at h ⊢
    obtain ⟨c, z, h1, rfl⟩ := h
    exact ⟨c, z, hp _ _ _ h1, rfl⟩
  | .lst b g s l lo, v, h => by
    simp only [shiftA, VRel] at h ⊢
    obtain ⟨a, cap, rfl, h1, h2, h3, h4⟩ := h
    refine ⟨a, cap, rfl, h1, h2, h3, h4.imp id ?_⟩
    rintro ⟨c, z, hc, h5⟩
    exact ⟨c, z, hp _ _ _ hc, h5⟩
  | .vptr _, v, h => by simp only [shiftA, VRel]
  | .view _ _ _, v, h => by simp only [shiftA, VRel]
  | .top, v, h => by simp only [shiftA, VRel]
  | .func f l r, v, h => by
    simp only [shiftA, VRel] at h ⊢
    obtain ⟨l', r', rfl, h1, h2⟩ := h
    exact ⟨l', r', rfl, shifts_rel hp l _ h1, shifts_rel hp r _ h2⟩
  | .iface t u, v, h => by
    simp only [shiftA, VRel] at h ⊢
    obtain ⟨x, rfl, h1⟩ := h
    exact ⟨x, rfl, shift_rel hp u x h1⟩
  | .agg l, v, h => by
    simp only [shiftA, VRel] at h ⊢
    obtain ⟨l', rfl, h1⟩ := h
    exact ⟨l', rfl, shifts_rel hp l _ h1⟩
  | .tup l, v, h => by
    simp only [shiftA, VRel] at h ⊢
    obtain ⟨l', rfl, h1⟩ := h
    exact ⟨l', rfl, shifts_rel hp l _ h1⟩
  | .bool _, v, h => h
  | .int _ _, v, h => h
  | .float _, v, h => h
  | .complex _ _, v, h => h
  | .str _, v, h => h
  | .ptr none, v, h => h
  | .slice none _ _, v, h => h
  | .nul, v, h => h
  | .nilFunc, v, h => h
  | .nilIface, v, h => h
  | .unk _, v, h => h
  | .alt q x y, v, h => by
    simp only [shiftA, VRel] at h ⊢
    exact ⟨fun e => shift_rel hp x v (h.1 e), fun e => shift_rel hp y v (h.2 e)⟩
theorem shifts_rel {μ' : Mu} {n : Nat} (hp : ∀ i g c, μ.pl i g = some c → μ'.pl (i + n) g = some c) : ∀ (l : List AV) (vs : List Value), VRels ex μ l vs → VRels ex μ' (shiftL n l) vs
  | [], vs, h => by rw [VRels.nil_iff.1 h]; exact VRels.nil
  | a :: l, vs, h => by
    obtain ⟨v, r, rfl, h1, h2⟩ := h.uncons
    exact VRels.cons (shift_rel hp a v h1) (shifts_rel hp l r h2)
end
/-- Blocks that are new come to their places, which were free. -/
theorem news_place {H : Heap} {w w' : World} {μ' : Mu} {B : Nat} {G : Heap} {v : Value} {r : AV} (hH : HRel ex μ H w) (hd : Dom μ H) (hb : ∀ (k : Nat) (b : Blk), G[k]? = some b → H[B + k]? = some ⟨shiftC B b.cells, b.ty, b.g⟩)
    (hn : ∀ k g, k < G.length → μ.pl (B + k) g = none) (g : Goes ex w [] (still w) w' G μ') (hd' : Dom μ' G) (hr : VRel ex μ' r v) :
    ∃ μ2, Goes ex w H μ w' H μ2 ∧ Dom μ2 H ∧ VRel ex μ2 (shiftA B r) v ∧ ∀ i k, ¬ (B ≤ i ∧ i < B + G.length) → μ2.pl i k = μ.pl i k := by
  have hbe : RowKit.Below w.heap.size w w' := g.below fun _ _ => rfl
  let μ2 : Mu := ⟨fun i k => if B ≤ i ∧ i < B + G.length then μ'.pl (i - B) k else μ.pl i k, μ.w0⟩
  have hlo : ∀ i k, ¬ (B ≤ i ∧ i < B + G.length) → μ2.pl i k = μ.pl i k := fun i k hi => by show (if _ then _ else _) = _; rw [if_neg hi]
  have hhi : ∀ i k, B ≤ i ∧ i < B + G.length → μ2.pl i k = μ'.pl (i - B) k := fun i k hi => by show (if _ then _ else _) = _; rw [if_pos hi]
  have hm : MLe μ μ2 := ⟨fun i k c e => by
    by_cases hi : B ≤ i ∧ i < B + G.length
    · have := hn (i - B) k (by omega)
      rw [show B + (i - B) = i by omega, e] at this; cases this
    · rw [hlo i k hi]; exact e, fun _ _ => rfl⟩
  have hp : ∀ i k c, μ'.pl i k = some c → μ2.pl (i + B) k = some c := fun i k c e => by
    have := hd'.lt e
    rw [hhi _ _ (by omega), Nat.add_sub_cancel]; exact e
  have new : ∀ i k c z, μ'.pl i k = some (c, z) → w.heap.size ≤ c ∧ c < w'.heap.size := fun i k c z e => by
    have := g.rel.lt i k c z e
    rw [g.stay] at this
    exact this
  have gget : ∀ (i : Nat) (b : Blk), H[i]? = some b → B ≤ i ∧ i < B + G.length → ∃ b0, G[i - B]? = some b0 ∧ b = ⟨shiftC B b0.cells, b0.ty, b0.g⟩ := by
    intro i b hb' hi
    obtain ⟨b0, hb0⟩ : ∃ b0, G[i - B]? = some b0 := ⟨_, List.getElem?_eq_getElem (by omega)⟩
    have := hb _ b0 hb0
    rw [show B + (i - B) = i by omega, hb'] at this; cases this
    exact ⟨b0, hb0, rfl⟩
  refine ⟨μ2, ⟨⟨?_, ?_, ?_, ?_⟩, hm, rfl, ?_, Nat.le_refl _, hbe.os, hbe.output, hbe.tape, hbe.size, fun c hc _ => hbe.block c hc⟩, ⟨?_, ?_⟩, shift_rel hp r v hr, hlo⟩
  · intro i b c z hi hc
    by_cases h1 : B ≤ i ∧ i < B + G.length
    · rw [hhi _ _ h1] at hc
      obtain ⟨b0, hb0, rfl⟩ := gget _ _ hi h1
      obtain ⟨arr, hw, hz, hr⟩ := g.rel.blk _ b0 c z hb0 hc
      refine ⟨arr, hw, hz, ?_⟩
      cases hcl : b0.cells with
      | flat l => rw [hcl] at hr; simp only [shiftC]; exact shifts_rel hp l _ hr
      | sym m s f => rw [hcl] at hr; simp only [shiftC]; exact ⟨hr.1, fun j hj => ⟨shifts_rel hp _ _ (hr.2 j hj).1, (hr.2 j hj).2⟩⟩
    · rw [hlo _ _ h1] at hc
      exact ((hH.blk i b c z hi hc).of_same (hbe.block c (hH.lt _ _ _ _ hc).2)).mono hm
  · intro i j b b' c z z' hi hj h1 h2
    by_cases hi' : B ≤ i ∧ i < B + G.length <;> by_cases hj' : B ≤ j ∧ j < B + G.length
    · rw [hhi _ _ hi'] at h1
      rw [hhi _ _ hj'] at h2
      obtain ⟨b0, hb0, rfl⟩ := gget _ _ hi hi'
      obtain ⟨b1, hb1, rfl⟩ := gget _ _ hj hj'
      have := g.rel.inj _ _ b0 b1 c z z' hb0 hb1 h1 h2
      omega
    · rw [hhi _ _ hi'] at h1
      rw [hlo _ _ hj'] at h2
      have := (hH.lt _ _ _ _ h2).2
      have := (new _ _ _ _ h1).1
      omega
    · rw [hlo _ _ hi'] at h1
      rw [hhi _ _ hj'] at h2
      have := (hH.lt _ _ _ _ h1).2
      have := (new _ _ _ _ h2).1
      omega
    · rw [hlo _ _ hi'] at h1
      rw [hlo _ _ hj'] at h2
      exact hH.inj i j b b' c z z' hi hj h1 h2
  · intro i k c z e
    by_cases h1 : B ≤ i ∧ i < B + G.length
    · rw [hhi _ _ h1] at e
      have := new _ _ _ _ e
      exact ⟨Nat.le_trans hH.size this.1, this.2⟩
    · rw [hlo _ _ h1] at e
      have := hH.lt _ _ _ _ e
      exact ⟨this.1, Nat.lt_of_lt_of_le this.2 hbe.size⟩
  · intro c hc
    exact (hbe.block c (Nat.lt_of_lt_of_le hc hH.size)).trans (hH.old c hc)
  · intro i k c z e
    by_cases h1 : B ≤ i ∧ i < B + G.length
    · rw [hhi _ _ h1] at e; exact .inr (new _ _ _ _ e).1
    · rw [hlo _ _ h1] at e; exact .inl ⟨k, z, e⟩
  · intro i k hi
    by_cases h1 : B ≤ i ∧ i < B + G.length
    · obtain ⟨b0, hb0⟩ : ∃ b0, G[i - B]? = some b0 := ⟨_, List.getElem?_eq_getElem (by omega)⟩
      have := hb _ b0 hb0
      rw [show B + (i - B) = i by omega, List.getElem?_eq_none hi] at this; cases this
    · rw [hlo _ _ h1]; exact hd.out _ _ hi
  · intro i b k hi hk
    by_cases h1 : B ≤ i ∧ i < B + G.length
    · obtain ⟨b0, hb0, rfl⟩ := gget _ _ hi h1
      rw [hhi _ _ h1]; exact hd'.gen _ b0 k hb0 hk
    · rw [hlo _ _ h1]; exact hd.gen i b k hi hk
theorem shiftH_get {n : Nat} {G : Heap} {k : Nat} {b : Blk} (h : G[k]? = some b) : (shiftH n G)[k]? = some ⟨shiftC n b.cells, b.ty, b.g⟩ := by
  unfold shiftH; rw [List.getElem?_map, h]; rfl
/-- What a call of what only reads leaves: a value, and what is new. -/
theorem Sim.frozenN {f : FuncId} {d : Nat} {args : List AV} {H : Heap} {r : AV} {G : Heap} (h : Sim P ex f (args.map (freezeN d true H)) [] r G) (ho : (args.foldr (fun a o => Ob.both (freezeOb d H a) o) .tt).ok = true)
    {vs : List Value} {w : World} (hv : VRels ex μ args vs) (hH : HRel ex μ H w) : Calls P f vs.toArray w fun e w' => ∃ v μ', e = .returned v ∧ VRel ex μ' r v ∧ Goes ex w [] (still w) w' G μ' ∧ Dom μ' G :=
  h (still w) vs w (map_rel (fun a ha v hv => freeze_rel hH d true a v (fun _ => foldr_ok ho a ha) hv) hv) (still_rel ex w) (still_dom w)
/-- The same, where nothing that leads into memory comes out. -/
theorem Sim.frozenR {f : FuncId} {d : Nat} {args : List AV} {H : Heap} {r : AV} {G : Heap} (h : Sim P ex f (args.map (freezeN d true H)) [] r G) (ho : (args.foldr (fun a o => Ob.both (freezeOb d H a) o) .tt).ok = true) (hr : r.flat = true) : SimR P ex f args H r := by
  intro μ vs w hv hH
  have hv' : VRels ex (still w) (args.map (freezeN d true H)) vs := map_rel (fun a ha v hv => freeze_rel hH d true a v (fun _ => foldr_ok ho a ha) hv) hv
  refine (h (still w) vs w hv' (still_rel ex w) (still_dom w)).mono ?_
  rintro e w' ⟨v, μ', rfl, hr', g, _⟩
  exact ⟨v, rfl, VRel.flat _ _ hr hr', g.below fun _ _ => rfl⟩
end
end Go.Lst
