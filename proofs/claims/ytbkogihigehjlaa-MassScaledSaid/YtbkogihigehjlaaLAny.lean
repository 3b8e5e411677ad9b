/- Whatever order the edges of a region allow, it ends as in the order of the text. -/
import Derived.Test.YtbkogihigehjlaaLReg
namespace Go.Lst
section
variable {P : Program} {ex : Bool}

theorem VRels.of_get {μ : Mu} : ∀ {l : List AV} {vs : List Value}, vs.length = l.length → (∀ (i : Nat) (a : AV) (v : Value), l[i]? = some a → vs[i]? = some v → VRel ex μ a v) → VRels ex μ l vs
  | [], vs, h, _ => by cases vs with | nil => exact VRels.nil | cons v r => simp at h
  | a :: l, [], h, _ => by simp at h
  | a :: l, v :: vs, h, hg => VRels.cons (hg 0 a v rfl rfl) (VRels.of_get (by simpa using h) fun i x y hx hy => hg (i + 1) x y (by simpa using hx) (by simpa using hy))

def Listed (listed : Array Bool) (j : Nat) : Prop := listed[j]? = some true

variable {ops : Array Oper} {C : Nat → Nat → Prop} {full : Nat → Bool} {vals : Nat → AV} {tms : Nat → List AV} {Hs : Nat → Heap}

theorem tm_spec (hD : Draws ops.toList C full) (hput : ∀ (i : Nat) (o : Oper), ops.toList[i]? = some o → putA (tms i) o.dst (vals i) = some (tms (i + 1))) : ∀ i, i ≤ ops.size →
    (tms i).length = (tms 0).length ∧ (∀ t j o, j < i → ops.toList[j]? = some o → o.dst = some t → (tms i)[t]? = some (vals j)) ∧
      (∀ t, (∀ j o, j < i → ops.toList[j]? = some o → o.dst ≠ some t) → (tms i)[t]? = (tms 0)[t]?)
  | 0, _ => ⟨rfl, fun _ _ _ h => by omega, fun _ _ => rfl⟩
  | i + 1, hi => by
    obtain ⟨h1, h2, h3⟩ := tm_spec hD hput i (by omega)
    have ho : ops.toList[i]? = some ops[i] := by simp
    obtain ⟨p1, p2, p3⟩ := putA_get (hput i ops[i] ho)
    refine ⟨by rw [p1, h1], ?_, ?_⟩
    · intro t j o hj hoj hd
      by_cases hji : j = i
      · subst hji
        rw [ho] at hoj; cases hoj
        exact p3 t hd
      · rw [p2 t (fun e => hji (hD.dst j i o ops[i] t hoj ho hd e))]
        exact h2 t j o (by omega) hoj hd
    · intro t hn
      rw [p2 t (hn i ops[i] (by omega) ho)]
      exact h3 t fun j o hj => hn j o (by omega)

theorem heap_grows (hdo : ∀ i o, ops.toList[i]? = some o → Does P ex ops.toList (full i) o (tms i) (Hs i) (vals i) (Hs (i + 1))) (p : Nat) : ∀ q, p ≤ q → q ≤ ops.size → (∀ j, p ≤ j → j < q → full j = false) → ∃ e, Hs q = Hs p ++ e
  | 0, h, _, _ => by
    have : p = 0 := by omega
    subst this; exact ⟨[], by simp⟩
  | q + 1, h, hq, hn => by
    by_cases hp : p = q + 1
    · subst hp; exact ⟨[], by simp⟩
    · obtain ⟨e, he⟩ := heap_grows hdo p q (by omega) (by omega) fun j h1 h2 => hn j h1 (by omega)
      have hf := hn q (by omega) (by omega)
      rcases (hdo q ops[q] (by simp)).1 with ⟨_, hd⟩ | ⟨_, _, _, hd⟩
      · generalize vals q = v at hd
        generalize hH1 : Hs (q + 1) = H1 at hd ⊢
        cases hd with
        | ro _ => exact ⟨e, he⟩
        | @new b m _ => exact ⟨e ++ [b], by rw [he]; simp⟩
        | @news v G _ => exact ⟨e ++ shiftH (Hs q).length G, by rw [← List.append_assoc, ← he]⟩
        | any hf' _ => rw [hf] at hf'; cases hf'
      · exact ⟨e, by rw [hd]; exact he⟩

/-- Is it quiet? -/
def qa (ops : Array Oper) (j : Nat) : Bool := match ops.toList[j]? with | some o => calmO o | none => true
theorem qa_at {j : Nat} {o : Oper} (h : ops.toList[j]? = some o) : qa ops j = calmO o := by unfold qa; rw [h]
theorem quiet_same (hdo : ∀ i o, ops.toList[i]? = some o → Does P ex ops.toList (full i) o (tms i) (Hs i) (vals i) (Hs (i + 1))) (p : Nat) : ∀ q, p ≤ q → q ≤ ops.size → (∀ j, p ≤ j → j < q → qa ops j = true) → Hs q = Hs p
  | 0, h, _, _ => by
    have : p = 0 := by omega
    subst this; rfl
  | q + 1, h, hq, hn => by
    by_cases hp : p = q + 1
    · subst hp; rfl
    · have e := quiet_same hdo p q (by omega) (by omega) fun j h1 h2 => hn j h1 (by omega)
      have hf := hn q (by omega) (by omega)
      rw [qa_at (o := ops[q]) (by simp)] at hf
      rw [((hdo q ops[q] (by simp)).2 hf).2.1, e]
theorem keep_blk (hdo : ∀ i o, ops.toList[i]? = some o → Does P ex ops.toList (full i) o (tms i) (Hs i) (vals i) (Hs (i + 1))) {b : Nat} {x : Blk} (p : Nat) : ∀ q, p ≤ q → q ≤ ops.size →
    (∀ j, p ≤ j → j < q → full j = true → (Hs j)[b]? = some x → (Hs (j + 1))[b]? = some x) → (Hs p)[b]? = some x → (Hs q)[b]? = some x
  | 0, h, _, _, hx => by
    have : p = 0 := by omega
    subst this; exact hx
  | q + 1, h, hq, hf, hx => by
    by_cases hp : p = q + 1
    · subst hp; exact hx
    · have e := keep_blk hdo p q (by omega) (by omega) (fun j h1 h2 => hf j h1 (by omega)) hx
      cases hfq : full q with
      | true => exact hf q (by omega) (by omega) hfq e
      | false =>
        obtain ⟨r, hr⟩ := heap_grows (P := P) (ex := ex) hdo q (q + 1) (by omega) hq fun j h1 h2 => by
          have : j = q := by omega
          rw [this]; exact hfq
        rw [hr, List.getElem?_append_left (List.getElem?_eq_some_iff.1 e).1]; exact e
/-- No operation that changes memory changes what a load looks at that it is not ordered against. -/
def Apart (ops : Array Oper) (C : Nat → Nat → Prop) (full : Nat → Bool) (tms : Nat → List AV) (Hs : Nat → Heap) : Prop :=
  ∀ (q j : Nat) (oj : Oper) (b : Nat) (x : Blk), q < ops.size → full q = true → ops.toList[j]? = some oj → readsA (opA (tms j)) oj.op = some b → q ≠ j → ¬ C q j → ¬ C j q → (Hs q)[b]? = some x → (Hs (q + 1))[b]? = some x
structure AnyInv (ex : Bool) (ops : Array Oper) (C : Nat → Nat → Prop) (vals : Nat → AV) (tms : Nat → List AV) (Hs : Nat → Heap) (w0 : World) (H0 : Heap) (μ0 : Mu)
    (listed : Array Bool) (a : Act) (w : World) (m : Nat) (μ : Mu) : Prop where
  size : listed.size = ops.size
  below : ∀ j, Listed listed j → qa ops j = false → j < m
  top : m ≤ ops.size ∧ (m = 0 ∨ (Listed listed (m - 1) ∧ qa ops (m - 1) = false))
  closed : ∀ j i, Listed listed j → C j i → Listed listed i
  tsize : a.tmps.size = (tms 0).length
  done : ∀ (j : Nat) (o : Oper) (t : Tmp) (v : Value), ops.toList[j]? = some o → o.dst = some t → Listed listed j → a.tmps[t]? = some v → VRel ex μ (vals j) v
  old : ∀ (t : Tmp) (v : Value), (∀ (j : Nat) (o : Oper), ops.toList[j]? = some o → o.dst = some t → ¬ Listed listed j) → a.tmps[t]? = some v → VRel ex μ ((tms 0).getD t (.tup [])) v
  defers : a.defers = []
  goes : Goes ex w0 H0 μ0 w (Hs m) μ
  dom : Dom μ (Hs m)
  free : ∀ j, j < m → ¬ Listed listed j → ∀ k, (Hs j).length ≤ k → k < (Hs (j + 1)).length → ∀ g, μ.pl k g = none

theorem listed_set {listed : Array Bool} {i j : Nat} (hi : i < listed.size) : Listed (listed.setIfInBounds i true) j ↔ j = i ∨ Listed listed j := by
  unfold Listed
  by_cases h : i = j
  · subst h; simp [hi]
  · rw [Array.getElem?_setIfInBounds_ne h]
    constructor
    · exact .inr
    · rintro (h' | h')
      · exact absurd h'.symm h
      · exact h'

theorem put_get {a : Act} {dst : Option Tmp} {v : Value} {t : Tmp} {u : Value} (h : (a.put dst v).tmps[t]? = some u) : (dst = some t ∧ u = v) ∨ (dst ≠ some t ∧ a.tmps[t]? = some u) := by
  cases dst with
  | none => exact .inr ⟨by simp, h⟩
  | some d =>
    simp only [Act.put] at h
    by_cases hd : d = t
    · subst hd
      rw [Array.getElem?_setIfInBounds_self] at h
      split at h
      · cases h; exact .inl ⟨rfl, rfl⟩
      · cases h
    · rw [Array.getElem?_setIfInBounds_ne hd] at h
      exact .inr ⟨by simpa using hd, h⟩

theorem fullListed {w0 : World} {H0 : Heap} {μ0 : Mu} {listed : Array Bool} {a : Act} {w : World} {m : Nat} {μ : Mu} (hD : Draws ops.toList C full) (I : AnyInv ex ops C vals tms Hs w0 H0 μ0 listed a w m μ)
    {q : Nat} (h2 : q < m) (hf : full q = true) : Listed listed q := by
  have hm := I.top.1
  have hlast := I.top.2.resolve_left (by omega)
  by_cases hqm : q = m - 1
  · rw [hqm]; exact hlast.1
  · rcases hD.full q (m - 1) ops[m - 1] hf (by simp) (by rw [← qa_at (ops := ops) (j := m - 1) (by simp)]; exact hlast.2) (by omega) with h | h
    · have := hD.lt q ops[q] (m - 1) (by simp) h; omega
    · exact I.closed _ _ hlast.1 h
/-- Of an operation that has not come up there is none behind it, among those that have, that may do whatever it likes. -/
theorem nofull {w0 : World} {H0 : Heap} {μ0 : Mu} {listed : Array Bool} {a : Act} {w : World} {m : Nat} {μ : Mu} (hD : Draws ops.toList C full) (I : AnyInv ex ops C vals tms Hs w0 H0 μ0 listed a w m μ)
    {j : Nat} (_hj : j < m) (hqj : qa ops j = false) (hn : ¬ Listed listed j) : ∀ q, j ≤ q → q < m → full q = false := by
  intro q h1 h2
  have hm := I.top.1
  cases hf : full q with
  | false => rfl
  | true =>
    exfalso
    have get : ∀ i, i < ops.size → ∃ o, ops.toList[i]? = some o := fun i hi => ⟨ops[i], by simp⟩
    have hlast := I.top.2.resolve_left (by omega)
    -- q against m - 1
    have hq : Listed listed q := by
      by_cases hqm : q = m - 1
      · rw [hqm]; exact hlast.1
      · obtain ⟨ol, hol⟩ := get (m - 1) (by omega)
        rcases hD.full q (m - 1) ol hf hol (by rw [← qa_at hol]; exact hlast.2) (by omega) with h | h
        · obtain ⟨o, ho⟩ := get q (by omega)
          have := hD.lt q o (m - 1) ho h; omega
        · exact I.closed _ _ hlast.1 h
    by_cases hjq : j = q
    · subst hjq; exact hn hq
    · obtain ⟨oj, hoj⟩ := get j (by omega)
      rcases hD.full q j oj hf hoj (by rw [← qa_at hoj]; exact hqj) hjq with h | h
      · exact hn (I.closed _ _ hq h)
      · obtain ⟨o, ho⟩ := get j (by omega)
        have := hD.lt j o q ho h; omega

theorem any_next {w0 : World} {H0 : Heap} {μ0 : Mu} {listed : Array Bool} {a : Act} {w : World} {m : Nat} {μ : Mu} (hD : Draws ops.toList C full) (I : AnyInv ex ops C vals tms Hs w0 H0 μ0 listed a w m μ)
    {i : Nat} {o : Oper} (ho : ops.toList[i]? = some o) (hni : ¬ Listed listed i) (hpre : ∀ j, C i j → Listed listed j) {v' : Value} {w' : World} {m' : Nat} {μ' : Mu} (hm' : m' = cond (qa ops i) m (max m (i + 1))) (hv : VRel ex μ' (vals i) v') (hmu : MLe μ μ')
    (hg : Goes ex w0 H0 μ0 w' (Hs m') μ') (hd : Dom μ' (Hs m')) (hf : ∀ j, j < m' → j ≠ i → ¬ Listed listed j → ∀ k, (Hs j).length ≤ k → k < (Hs (j + 1)).length → ∀ g, μ'.pl k g = none) :
    AnyInv ex ops C vals tms Hs w0 H0 μ0 (listed.setIfInBounds i true) (a.put o.dst v') w' m' μ' := by
  have hi : i < ops.size := by
    have := (List.getElem?_eq_some_iff.1 ho).1; simpa using this
  have hls : i < listed.size := by rw [I.size]; exact hi
  have hL := fun j => @listed_set listed i j hls
  refine ⟨by simp [I.size], ?_, ?_, ?_, ?_, ?_, ?_, ?_, hg, hd, ?_⟩
  · intro j hj hqj
    rcases (hL j).1 hj with rfl | hj
    · rw [hqj, cond_false] at hm'; omega
    · have := I.below j hj hqj; cases hq : qa ops i <;> rw [hq] at hm' <;> simp only [cond_true, cond_false] at hm' <;> omega
  · cases hq : qa ops i with
    | true =>
      rw [hq, cond_true] at hm'
      subst hm'
      exact ⟨I.top.1, I.top.2.imp id fun h => ⟨(hL _).2 (.inr h.1), h.2⟩⟩
    | false =>
    rw [hq, cond_false] at hm'
    refine ⟨by have := I.top.1; omega, .inr ?_⟩
    rw [hL]
    rcases Nat.lt_or_ge i m with h | h
    · have : m' = m := by omega
      rw [this]; have := I.top.2.resolve_left (by omega); exact ⟨.inr this.1, this.2⟩
    · have : m' = i + 1 := by omega
      have h2 : m' - 1 = i := by omega
      rw [h2]; exact ⟨.inl rfl, hq⟩
  · intro j x hj hc
    rw [hL]
    rcases (hL j).1 hj with rfl | hj
    · exact .inr (hpre x hc)
    · exact .inr (I.closed j x hj hc)
  · rw [← I.tsize]; cases o.dst <;> simp [Act.put]
  · intro j oj t u hoj hdj hj hu
    rcases put_get hu with ⟨h1, rfl⟩ | ⟨h1, h2⟩
    · have := hD.dst i j o oj t ho hoj h1 hdj
      subst this; exact hv
    · have hji : j ≠ i := by rintro rfl; rw [ho] at hoj; cases hoj; exact h1 hdj
      rcases (hL j).1 hj with h | h
      · exact absurd h hji
      · exact VRel.mono hmu _ _ (I.done j oj t u hoj hdj h h2)
  · intro t u hn hu
    rcases put_get hu with ⟨h1, rfl⟩ | ⟨h1, h2⟩
    · exact absurd ((hL i).2 (.inl rfl)) (hn i o ho h1)
    · exact VRel.mono hmu _ _ (I.old t u (fun j oj h3 h4 h5 => hn j oj h3 h4 ((hL j).2 (.inr h5))) h2)
  · rw [← I.defers]; cases o.dst <;> rfl
  · intro j hj hn
    refine hf j hj ?_ (fun h => hn ((hL j).2 (.inr h)))
    rintro rfl; exact hn ((hL j).2 (.inl rfl))

theorem prefix_get {H e : Heap} {i : Nat} {b : Blk} (h : H[i]? = some b) : (H ++ e)[i]? = some b := by
  rw [List.getElem?_append_left (List.getElem?_eq_some_iff.1 h).1]; exact h

theorem prefix_le {H e : Heap} : HLe H (H ++ e) := fun _ _ h => prefix_get h
theorem HRel.pre {μ : Mu} {H e : Heap} {w : World} (a : HRel ex μ (H ++ e) w) : HRel ex μ H w :=
  ⟨fun i b c z hb hc => a.blk i b c z (prefix_get hb) hc, fun i j b b' c z z' hb hb' hc hc' => a.inj i j b b' c z z' (prefix_get hb) (prefix_get hb') hc hc', a.lt, a.old⟩
theorem any_step {w0 : World} {H0 : Heap} {μ0 : Mu} {listed : Array Bool} {a : Act} {w : World} {m : Nat} {μ : Mu} (hD : Draws ops.toList C full)
    (htr : ∀ i o, ops.toList[i]? = some o → Does P ex ops.toList (full i) o (tms i) (Hs i) (vals i) (Hs (i + 1)) ∧ putA (tms i) o.dst (vals i) = some (tms (i + 1)))
    (hA : Apart ops C full tms Hs) (I : AnyInv ex ops C vals tms Hs w0 H0 μ0 listed a w m μ) {i : Nat} (hr : i ∈ Region.ready .any ops listed) {K : Act → World → Prop} {Q : Exit → Act → World → Prop}
    (hK : ∀ a' w' m' μ', AnyInv ex ops C vals tms Hs w0 H0 μ0 (listed.setIfInBounds i true) a' w' m' μ' → K a' w') : wpOp P ops Q i K a w := by
  obtain ⟨hun, o, hoA, hall⟩ := mem_ready.1 hr
  have ho : ops.toList[i]? = some o := by simpa using hoA
  have hi : i < ops.size := (Array.getElem?_eq_some_iff.1 hoA).1
  have hni : ¬ Listed listed i := by
    intro h
    unfold Listed at h
    simp [h] at hun
  have hpre : ∀ j, C i j → Listed listed j := by
    intro j hc
    obtain ⟨e, he, hb, h⟩ := hD.clo i o j ho hc
    have h1 := hall e (by simpa using he) hb
    have h2 : Listed listed e.on := by
      unfold Listed
      cases hq : listed[e.on]? with
      | none => simp [hq] at h1
      | some b => simp [hq] at h1; rw [h1]
    rcases h with rfl | h
    · exact h2
    · exact I.closed _ _ h2 h
  have hdo : ∀ i o, ops.toList[i]? = some o → Does P ex ops.toList (full i) o (tms i) (Hs i) (vals i) (Hs (i + 1)) := fun i o h => (htr i o h).1
  have hput : ∀ i o, ops.toList[i]? = some o → putA (tms i) o.dst (vals i) = some (tms (i + 1)) := fun i o h => (htr i o h).2
  obtain ⟨tl, td, tn⟩ := tm_spec hD hput i (by omega)
  have hmn := I.top.1
  -- what the temporaries hold that it looks at
  have look : ∀ (t : Tmp), (∃ (j : Nat) (oj : Oper), ops.toList[j]? = some oj ∧ oj.dst = some t ∧ (C i j ∨ C j i)) ∨ (∀ (j : Nat) (oj : Oper), ops.toList[j]? = some oj → oj.dst ≠ some t) → ∀ (v : Value), a.tmps[t]? = some v → VRel ex μ ((tms i).getD t (.tup [])) v := by
    intro t ht v hv
    rw [List.getD_eq_getElem?_getD]
    rcases ht with ⟨j, oj, hoj, hdj, hc | hc⟩ | ht
    · have hji := hD.lt i o j ho hc
      rw [td t j oj hji hoj hdj]
      exact I.done j oj t v hoj hdj (hpre j hc) hv
    · have hij := hD.lt j oj i hoj hc
      rw [tn t (fun q oq hq hoq hdq => by have := hD.dst j q oj oq t hoj hoq hdj hdq; omega)]
      rw [← List.getD_eq_getElem?_getD]
      refine I.old t v (fun q oq hoq hdq hq => ?_) hv
      have := hD.dst j q oj oq t hoj hoq hdj hdq
      subst this
      exact hni (I.closed _ _ hq hc)
    · rw [tn t (fun q oq _ hoq => ht q oq hoq), ← List.getD_eq_getElem?_getD]
      exact I.old t v (fun q oq hoq hdq _ => ht q oq hoq hdq) hv
  have hops : OpsRel ex μ o.op (opA (tms i)) a := by
    intro x hx u hu
    cases x with
    | tmp t =>
      simp only [opA, Option.some.injEq] at hu; subst hu
      have hcase : (∃ (j : Nat) (oj : Oper), ops.toList[j]? = some oj ∧ oj.dst = some t ∧ (C i j ∨ C j i)) ∨ (∀ (j : Nat) (oj : Oper), ops.toList[j]? = some oj → oj.dst ≠ some t) := by
        by_cases h : ∃ (j : Nat) (oj : Oper), ops.toList[j]? = some oj ∧ oj.dst = some t
        · obtain ⟨j, oj, h1, h2⟩ := h
          exact .inl ⟨j, oj, h1, h2, hD.op i j o oj t ho h1 hx h2⟩
        · exact .inr fun j oj h1 h2 => h ⟨j, oj, h1, h2⟩
      simp only [Act.eval]
      cases hv : a.tmps[t]? with
      | some v =>
        have := look t hcase v hv
        simpa [hv] using this
      | none =>
        have h1 : (tms i)[t]? = none := by
          rw [List.getElem?_eq_none_iff, tl, ← I.tsize]
          exact Array.getElem?_eq_none_iff.1 hv
        rw [List.getD_eq_getElem?_getD, h1]
        simpa [hv] using VRel.undef
    | const c => exact toAV_rel 4 c u hu
    | func f => simp only [opA, Option.some.injEq] at hu; subst hu; simp only [Act.eval, VRel]; exact ⟨#[], #[], rfl, VRels.nil, VRels.nil⟩
    | global g => cases hu
  have hwant : sureA ops.toList o (tms i) = true → Region.wanted o (yielded ops a.tmps) = wantedA ops.toList o (tms i) := by
    refine wanted_iff (ex := ex) (μ := μ) (fun g b og d hg hog hdg hlt => ?_) (by rw [I.tsize, tl])
    have hc := hD.guard i o g b ho hg
    have hog' : ops.toList[g]? = some og := by simpa using hog
    have hlt' : d < a.tmps.size := by rw [I.tsize, ← tl]; exact hlt
    have := look d (.inl ⟨g, og, hog', hdg, .inl hc⟩) a.tmps[d] (Array.getElem?_eq_getElem hlt')
    refine ⟨_, a.tmps[d], List.getElem?_eq_getElem hlt, Array.getElem?_eq_getElem hlt', ?_⟩
    rw [List.getD_eq_getElem?_getD, List.getElem?_eq_getElem hlt] at this
    exact this
  -- one that looks at no memory
  cases hqi : qa ops i with
  | true =>
    have hqo : calmO o = true := by rw [← qa_at ho]; exact hqi
    obtain ⟨hw, _, hro⟩ := (hdo i o ho).2 hqo
    unfold wpOp
    rw [hoA]
    simp only [hwant (sure_of hw)]
    rw [hw, if_pos rfl]
    left
    have hG : HRel ex μ (Hs m ++ (Hs i).drop (Hs m).length) w := I.goes.rel.le I.dom prefix_le
    refine hro (Hs m ++ (Hs i).drop (Hs m).length) ?_ μ a w hops hG _ _ ?_
    · intro b x hb hx
      rcases Nat.lt_or_ge b (Hs m).length with hbm | hbm
      · rw [List.getElem?_append_left hbm]
        rcases Nat.lt_or_ge m i with hmi | hmi
        · obtain ⟨y, hy⟩ : ∃ y, (Hs m)[b]? = some y := ⟨_, List.getElem?_eq_getElem hbm⟩
          have := keep_blk (P := P) (ex := ex) hdo m i (by omega) (by omega) (fun q h1 h2 hfq hq => hA q i o b y (by omega) hfq ho hb (by omega) (fun hc => by have := hD.lt q ops[q] i (by simp) hc; omega) (fun hc => by
            have := I.below q (hpre q hc) (by rw [qa_at (o := ops[q]) (by simp)]; exact hD.loud q ops[q] hfq (by simp)); omega) hq) hy
          rw [hx] at this; cases this; exact hy
        · exact keep_blk (P := P) (ex := ex) hdo i m hmi hmn (fun q h1 h2 hfq hq => hA q i o b x (by omega) hfq ho hb (by rintro rfl; have := hD.loud q o hfq ho; rw [hqo] at this; cases this) (fun hc => hni (I.closed _ _ (fullListed hD I h2 hfq) hc)) (fun hc => by have := hD.lt i o q ho hc; omega) hq) hx
      · rw [List.getElem?_append_right hbm, List.getElem?_drop, show (Hs m).length + (b - (Hs m).length) = b by omega]; exact hx
    intro v' w' hv hb
    exact hK _ _ m μ (any_next hD I ho hni hpre (by rw [hqi]; rfl) hv (MLe.refl μ) (Goes.trans I.goes (Goes.of_below I.goes.rel hb)) I.dom fun j h1 _ h3 => I.free j h1 h3)
  | false =>
  -- from m up to i nothing may do whatever it likes
  have nf2 : ∀ q, m ≤ q → q < i → full q = false := by
    intro q h1 h2
    cases hf : full q with
    | false => rfl
    | true =>
      exfalso
      rcases hD.full q i o hf ho (by rw [← qa_at ho]; exact hqi) (by omega) with h | h
      · have := hD.lt q ops[q] i (by simp) h; omega
      · have := I.below q (hpre q h) (by rw [qa_at (o := ops[q]) (by simp)]; exact hD.loud q ops[q] hf (by simp)); omega
  have len_mono : ∀ p q, p ≤ q → q ≤ ops.size → (∀ j, p ≤ j → j < q → full j = false) → (Hs p).length ≤ (Hs q).length := by
    intro p q h1 h2 h3
    obtain ⟨e, he⟩ := heap_grows (P := P) (ex := ex) hdo p q h1 h2 h3
    rw [he]; simp
  -- the heap at i against the heap at m
  have hHi : HRel ex μ (Hs i) w := by
    rcases Nat.lt_or_ge i m with h | h
    · obtain ⟨e, he⟩ := heap_grows (P := P) (ex := ex) hdo i m (by omega) hmn (nofull hD I h hqi hni)
      have := I.goes.rel
      rw [he] at this
      exact this.pre
    · obtain ⟨e, he⟩ := heap_grows (P := P) (ex := ex) hdo m i h (by omega) nf2
      rw [he]
      exact I.goes.rel.le I.dom prefix_le
  -- nothing that may do whatever it likes stands between what has not come up and i
  have nf3 : ∀ j, j < max m (i + 1) → qa ops j = false → ¬ Listed listed j → ∀ q, j ≤ q → q < max m i → full q = false := by
    intro j hj hqj hn q h1 h2
    rcases Nat.lt_or_ge q m with h3 | h3
    · exact nofull hD I (by omega) hqj hn q h1 h3
    · exact nf2 q h3 (by omega)
  have hm' : ∃ m', m' = max m (i + 1) := ⟨_, rfl⟩
  obtain ⟨m', hm'⟩ := hm'
  -- from the heap at m to that at m', where i itself does not do whatever it likes
  have up : full i = false → ∃ e, Hs m' = Hs m ++ e := by
    intro hfi
    refine heap_grows (P := P) (ex := ex) hdo m m' (by omega) (by omega) fun j h1 h2 => ?_
    by_cases hji : j = i
    · rw [hji]; exact hfi
    · exact nf2 j h1 (by omega)
  have upi : full i = false → ∃ e, Hs m' = Hs (i + 1) ++ e := by
    intro hfi
    refine heap_grows (P := P) (ex := ex) hdo (i + 1) m' (by omega) (by omega) fun j h1 h2 => ?_
    exact nofull hD I (j := i) (by omega) hqi hni j (by omega) (by omega)
  have free' : full i = false → ∀ j, j < m' → j ≠ i → ¬ Listed listed j → ∀ k, (Hs j).length ≤ k → k < (Hs (j + 1)).length → ∀ g, μ.pl k g = none := by
    intro hfi j h1 h2 h3 k h4 h4'
    rcases Nat.lt_or_ge j m with h | h
    · exact I.free j h h3 k h4 h4'
    · exact fun g => I.dom.out _ g (Nat.le_trans (len_mono m j h (by omega) fun q h5 h6 => nf2 q h5 (by omega)) h4)
  -- what grows is not quiet
  have loudg : ∀ j, j < ops.size → (Hs j).length < (Hs (j + 1)).length → qa ops j = false := by
    intro j hj hg
    cases hq : qa ops j with
    | false => rfl
    | true =>
      rw [qa_at (o := ops[j]) (by simp)] at hq
      rw [((hdo j ops[j] (by simp)).2 hq).2.1] at hg; omega
  have hmc : m' = cond (qa ops i) m (max m (i + 1)) := by rw [hqi]; exact hm'
  unfold wpOp
  rw [hoA]
  rcases (hdo i o ho).1 with ⟨hw1, hdoes⟩ | ⟨hw1, hsu, hv, hH⟩
  · simp only [hwant (sure_of hw1)]
    rw [hw1, if_pos rfl]
    left
    rcases Bool.eq_false_or_eq_true (full i) with hfi | hfi
    · -- it may do whatever it likes: all ahead of it have come up, nothing else
      have hmi : m ≤ i := by
        rcases Nat.lt_or_ge i m with h | h
        · have := nofull hD I h hqi hni i (by omega) h
          rw [hfi] at this; cases this
        · exact h
      have hallj : ∀ j, j < i → qa ops j = false → Listed listed j := by
        intro j hj hqj
        rcases hD.full i j ops[j] hfi (by simp) (by rw [← qa_at (ops := ops) (j := j) (by simp)]; exact hqj) (by omega) with h | h
        · exact hpre j h
        · have := hD.lt j ops[j] i (by simp) h; omega
      have hsame : Hs i = Hs m := quiet_same (P := P) (ex := ex) hdo m i hmi (by omega) fun j h1 h2 => by
        cases hq : qa ops j with
        | true => rfl
        | false => have := I.below j (hallj j h2 hq) hq; omega
      have hm2 : m' = i + 1 := by omega
      have hgm := I.goes
      have hdm := I.dom
      rw [← hsame] at hgm hdm
      refine hdoes.toAny μ a w hops hgm.rel hdm _ _ ?_
      intro v' w' μ' hv hg hd
      refine hK _ _ m' μ' (any_next hD I ho hni hpre hmc hv hg.mu ?_ ?_ ?_)
      · rw [hm2]; exact Goes.trans hgm hg
      · rw [hm2]; exact hd
      · intro j h1 h2 h3 k h4 h4'
        exact absurd (hallj j (by omega) (loudg j (by omega) (Nat.lt_of_le_of_lt h4 h4'))) h3
    · generalize hvi : vals i = vi at hdoes
      generalize hHi1 : Hs (i + 1) = H1 at hdoes
      cases hdoes with
      | ro hro =>
        refine hro μ a w hops hHi _ _ ?_
        intro v' w' hv hb
        obtain ⟨e, he⟩ := up hfi
        have hg1 : Goes ex w0 H0 μ0 w' (Hs m) μ := Goes.trans I.goes (Goes.of_below I.goes.rel hb)
        have hle : HLe (Hs m) (Hs m') := by rw [he]; exact prefix_le
        exact hK _ _ m' μ (any_next hD I ho hni hpre hmc (by rw [hvi]; exact hv) (MLe.refl μ) (hg1.more I.dom hle) (I.dom.le hle) (free' hfi))
      | @new b mm hnew =>
        obtain ⟨hrw, hnew⟩ := hnew
        obtain ⟨arr, harr, hfit, hrun⟩ := hnew μ a w hops
        unfold Oper.wp
        rw [hrun]
        obtain ⟨e, he⟩ := up hfi
        obtain ⟨e2, he2⟩ := upi hfi
        have hgrow : (Hs i).length < (Hs (i + 1)).length := by rw [hHi1]; simp
        have hnone : ∀ g, μ.pl (Hs i).length g = none := by
          rcases Nat.lt_or_ge i m with h | h
          · exact I.free i h hni _ (Nat.le_refl _) hgrow
          · exact fun g => I.dom.out _ g (len_mono m i h (by omega) nf2)
        have hblk : (Hs m')[(Hs i).length]? = some b := by
          rw [he2, hHi1]; exact prefix_get (by simp)
        have hle : HLe (Hs m) (Hs m') := by rw [he]; exact prefix_le
        have hg1 : Goes ex w0 H0 μ0 w (Hs m') μ := I.goes.more I.dom hle
        obtain ⟨hg2, hd2⟩ := new_place I.goes.rel (I.dom.le hle) hle I.dom hblk hrw hnone harr
        have hlen : (Hs m).length ≤ (Hs m').length := by rw [he]; simp
        have hlen2 : (Hs (i + 1)).length ≤ (Hs m').length := by rw [he2]; simp
        rw [hrw] at hg2 hd2
        refine hK _ _ m' _ (any_next hD I ho hni hpre hmc (by rw [hvi]; exact mk_rel (upd_self _ _ _ _) hfit) hg2.mu (Goes.trans hg1 hg2) hd2 ?_)
        intro j h1 h2 h3 k hk hk' g
        have h4 : (Hs j).length < (Hs (j + 1)).length := Nat.lt_of_le_of_lt hk hk'
        have h5 := free' hfi j h1 h2 h3 k hk hk' g
        cases e : (upd μ (Hs i).length 0 (w.heap.size, arr.size)).pl k g with
        | none => rfl
        | some d =>
          rcases upd_cases e with ⟨hh, _, _⟩ | ⟨_, e⟩
          · exfalso
            rcases Nat.lt_or_gt_of_ne h2 with h | h
            · have := len_mono (j + 1) i (by omega) (by omega) fun q h6 h7 => nf3 j (by omega) (loudg j (by omega) h4) h3 q (by omega) (by omega)
              omega
            · have := len_mono (i + 1) j (by omega) (by omega) fun q h6 h7 => nf3 i (by omega) hqi hni q (by omega) (by omega)
              omega
          · rw [h5] at e; cases e
      | @news v G hnews =>
        refine hnews.2 μ a w hops hHi _ _ ?_
        intro v' w' μ1 hv hg1 hd1
        obtain ⟨e, he⟩ := up hfi
        obtain ⟨e2, he2⟩ := upi hfi
        have hle : HLe (Hs m) (Hs m') := by rw [he]; exact prefix_le
        have hln : (shiftH (Hs i).length G).length = G.length := by simp [shiftH]
        have hli : (Hs (i + 1)).length = (Hs i).length + G.length := by rw [hHi1, List.length_append, hln]
        have hblk : ∀ (k : Nat) (b : Blk), G[k]? = some b → (Hs m')[(Hs i).length + k]? = some ⟨shiftC (Hs i).length b.cells, b.ty, b.g⟩ := by
          intro k b hb
          rw [he2, hHi1]
          exact prefix_get (by rw [List.getElem?_append_right (by omega), Nat.add_sub_cancel_left]; exact shiftH_get hb)
        have hnone : ∀ k g, k < G.length → μ.pl ((Hs i).length + k) g = none := by
          intro k g hk
          rcases Nat.lt_or_ge i m with h | h
          · exact I.free i h hni _ (by omega) (by omega) g
          · exact I.dom.out _ g (by have := len_mono m i h (by omega) nf2; omega)
        obtain ⟨μ2, g2, d2, r2, same⟩ := news_place (I.goes.rel.le I.dom hle) (I.dom.le hle) hblk hnone hg1 hd1 hv
        refine hK _ _ m' μ2 (any_next hD I ho hni hpre hmc (by rw [hvi]; exact r2) g2.mu (Goes.trans (I.goes.more I.dom hle) g2) d2 ?_)
        intro j h1 h2 h3 k hk hk' g
        have h4 : (Hs j).length < (Hs (j + 1)).length := Nat.lt_of_le_of_lt hk hk'
        rw [same k g ?_]
        · exact free' hfi j h1 h2 h3 k hk hk' g
        · rcases Nat.lt_or_gt_of_ne h2 with h | h
          · have := len_mono (j + 1) i (by omega) (by omega) fun q h6 h7 => nf3 j (by omega) (loudg j (by omega) h4) h3 q (by omega) (by omega)
            omega
          · have := len_mono (i + 1) j (by omega) (by omega) fun q h6 h7 => nf3 i (by omega) hqi hni q (by omega) (by omega)
            omega
      | any hf _ => rw [hfi] at hf; cases hf
  · simp only [hwant hsu]
    rw [hw1, if_neg (by simp)]
    -- passed over
    have hstep : Hs (i + 1) = Hs i := hH
    have up' : ∃ e, Hs m' = Hs m ++ e ∧ (m' = m ∨ (m' = i + 1 ∧ m ≤ i)) := by
      rcases Nat.lt_or_ge i m with h | h
      · exact ⟨[], by rw [show m' = m by omega]; simp, .inl (by omega)⟩
      · obtain ⟨e, he⟩ := heap_grows (P := P) (ex := ex) hdo m i h (by omega) nf2
        exact ⟨e, by rw [show m' = i + 1 by omega, hstep, he], .inr ⟨by omega, h⟩⟩
    obtain ⟨e, he, hcase⟩ := up'
    have hle : HLe (Hs m) (Hs m') := by rw [he]; exact prefix_le
    refine hK _ _ m' μ (any_next hD I ho hni hpre hmc (by rw [hv]; exact VRel.undef) (MLe.refl μ) (I.goes.more I.dom hle) (I.dom.le hle) ?_)
    intro j h1 h2 h3 k h4 h4'
    rcases Nat.lt_or_ge j m with h | h
    · exact I.free j h h3 k h4 h4'
    · exact fun g => I.dom.out _ g (Nat.le_trans (len_mono m j h (by omega) fun q h5 h6 => nf2 q h5 (by omega)) h4)

def unl (listed : Array Bool) : Nat := (listed.toList.filter fun b => !b).length
theorem filter_set : ∀ (l : List Bool) (i : Nat), l[i]? = some false → ((l.set i true).filter fun b => !b).length + 1 = (l.filter fun b => !b).length
  | [], i, h => by simp at h
  | b :: l, 0, h => by simp at h; subst h; simp
  | b :: l, i + 1, h => by
    have := filter_set l i (by simpa using h)
    cases b <;> simp_all
theorem unl_set {listed : Array Bool} {i : Nat} (h : listed[i]? = some false) : unl (listed.setIfInBounds i true) + 1 = unl listed := by
  unfold unl
  rw [Array.toList_setIfInBounds]
  exact filter_set _ i (by simpa using h)
theorem unl_zero {listed : Array Bool} (h : unl listed = 0) {j : Nat} (hj : j < listed.size) : Listed listed j := by
  unfold unl at h
  have h1 : (listed.toList.filter fun b => !b) = [] := List.length_eq_zero_iff.1 h
  rw [List.filter_eq_nil_iff] at h1
  have := h1 listed[j] (by simp)
  unfold Listed
  rw [Array.getElem?_eq_getElem hj]
  simpa using this

theorem all_listed (hD : Draws ops.toList C full) {listed : Array Bool} (hs : listed.size = ops.size) (hr : Region.ready .any ops listed = []) : ∀ j, j < ops.size → Listed listed j := by
  intro j
  induction j using Nat.strongRecOn with
  | _ j ih =>
    intro hj
    have hjl : j < listed.size := by omega
    cases hb : listed[j]'hjl with
    | true => unfold Listed; rw [Array.getElem?_eq_getElem hjl, hb]
    | false =>
      exfalso
      have : j ∈ Region.ready .any ops listed := by
        refine mem_ready.2 ⟨by simp [Array.getElem?_eq_getElem hjl, hb], ops[j], Array.getElem?_eq_getElem hj, ?_⟩
        intro e he hbd
        have hc := hD.edge j ops[j] e (by simp) (by simpa using he) hbd
        have hlt := hD.lt j ops[j] e.on (by simp) hc
        have := ih e.on hlt (by omega)
        unfold Listed at this
        simp [this]
      rw [hr] at this
      cases this

theorem any_end {w0 : World} {H0 : Heap} {μ0 : Mu} {listed : Array Bool} {a : Act} {w : World} {m : Nat} {μ : Mu} (hD : Draws ops.toList C full)
    (hdo : ∀ i o, ops.toList[i]? = some o → Does P ex ops.toList (full i) o (tms i) (Hs i) (vals i) (Hs (i + 1)))
    (hput : ∀ (i : Nat) (o : Oper), ops.toList[i]? = some o → putA (tms i) o.dst (vals i) = some (tms (i + 1)))
    (I : AnyInv ex ops C vals tms Hs w0 H0 μ0 listed a w m μ) (hl : ∀ j, j < ops.size → Listed listed j) : Ends ex (tms ops.size) w0 H0 μ0 (Hs ops.size) a w := by
  have hsame : Hs ops.size = Hs m := quiet_same (P := P) (ex := ex) hdo m ops.size I.top.1 (Nat.le_refl _) fun j h1 h2 => by
    cases hq : qa ops j with
    | true => rfl
    | false => have := I.below j (hl j h2) hq; omega
  rw [hsame]
  obtain ⟨tl, td, tn⟩ := tm_spec hD hput ops.size (Nat.le_refl _)
  refine ⟨μ, VRels.of_get (by simp [I.tsize, tl]) ?_, I.defers, I.goes, I.dom⟩
  intro t u v hu hv
  have hv' : a.tmps[t]? = some v := by simpa using hv
  by_cases h : ∃ (j : Nat) (oj : Oper), ops.toList[j]? = some oj ∧ oj.dst = some t
  · obtain ⟨j, oj, h1, h2⟩ := h
    have hj : j < ops.size := by have := (List.getElem?_eq_some_iff.1 h1).1; simpa using this
    rw [td t j oj hj h1 h2] at hu; cases hu
    exact I.done j oj t v h1 h2 (hl j hj) hv'
  · have hn : ∀ (j : Nat) (o : Oper), ops.toList[j]? = some o → o.dst ≠ some t := fun j o h1 h2 => h ⟨j, o, h1, h2⟩
    rw [tn t (fun j o _ => hn j o)] at hu
    have := I.old t v (fun j o h1 h2 _ => hn j o h1 h2) hv'
    rw [List.getD_eq_getElem?_getD, hu] at this
    exact this

theorem any_sound {w0 : World} {H0 : Heap} {μ0 : Mu} (hD : Draws ops.toList C full)
    (htr : ∀ i o, ops.toList[i]? = some o → Does P ex ops.toList (full i) o (tms i) (Hs i) (vals i) (Hs (i + 1)) ∧ putA (tms i) o.dst (vals i) = some (tms (i + 1)))
    (hA : Apart ops C full tms Hs)
    {Q : Exit → Act → World → Prop} (hQ : ∀ a w, Ends ex (tms ops.size) w0 H0 μ0 (Hs ops.size) a w → Q .normal a w) :
    ∀ (fuel : Nat) (listed : Array Bool) (a : Act) (w : World) (m : Nat) (μ : Mu), unl listed ≤ fuel → AnyInv ex ops C vals tms Hs w0 H0 μ0 listed a w m μ → wpAny P .any ops Q fuel listed a w
  | 0, listed, a, w, m, μ, hf, I => by
    have hl : ∀ j, j < ops.size → Listed listed j := fun j hj => unl_zero (by omega) (by rw [I.size]; exact hj)
    refine ⟨?_, hQ a w (any_end hD (fun i o h => (htr i o h).1) (fun i o h => (htr i o h).2) I hl)⟩
    rw [List.eq_nil_iff_forall_not_mem]
    intro i hi
    obtain ⟨hun, o, ho, _⟩ := mem_ready.1 hi
    have := hl i (Array.getElem?_eq_some_iff.1 ho).1
    unfold Listed at this
    simp [this] at hun
  | fuel + 1, listed, a, w, m, μ, hf, I => by
    refine ⟨fun hr => hQ a w (any_end hD (fun i o h => (htr i o h).1) (fun i o h => (htr i o h).2) I (all_listed hD I.size hr)), fun i hi => ?_⟩
    refine any_step hD htr hA I hi fun a' w' m' μ' I' => ?_
    refine any_sound hD htr hA hQ fuel _ a' w' m' μ' ?_ I'
    obtain ⟨hun, o, ho, _⟩ := mem_ready.1 hi
    have hlt : i < listed.size := by rw [I.size]; exact (Array.getElem?_eq_some_iff.1 ho).1
    have hfalse : listed[i]? = some false := by
      rw [Array.getElem?_eq_getElem hlt]
      simpa [hlt] using hun
    have := unl_set hfalse
    omega
end
end Go.Lst
