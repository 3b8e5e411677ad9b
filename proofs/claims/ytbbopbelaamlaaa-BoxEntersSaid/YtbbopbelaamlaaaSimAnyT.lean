/- Regions that draw their order and store: the run in any order. -/
import Derived.Test.YtbbopbelaamlaaaSimAnyS
namespace Go.Sim
section
variable {P : Program} {ex : Bool} {ops : Array Oper} {Cs : List Nat} {full : Nat → Bool} {vals : Nat → AV} {tms : Nat → List AV} {Hs : Nat → Heap} {ft : Nat → Foot}

/-- What the walk in the order of the text tells. -/
structure TraceS (P : Program) (ex : Bool) (ops : Array Oper) (Cs : List Nat) (vals : Nat → AV) (tms : Nat → List AV) (Hs : Nat → Heap) (ft : Nat → Foot) : Prop where
  kind : ∀ (i : Nat) (o : Oper), ops.toList[i]? = some o → KindS P ex o (opA (tms i)) (Hs i) (vals i) (Hs (i + 1)) (ft i)
  put : ∀ (i : Nat) (o : Oper), ops.toList[i]? = some o → putA (tms i) o.dst (vals i) = some (tms (i + 1))
  guard : ∀ (i : Nat) (o : Oper), ops.toList[i]? = some o → o.guard = none
  pair : ∀ i j, i < ops.size → j < ops.size → pairF Cs i (ft i) j (ft j) = true

theorem kind_step {o : Oper} {ρ : Operand → Option AV} {H H' : Heap} {v : AV} {f : Foot} (h : KindS P ex o ρ H v H' f) {b : Nat} {x : Blk} (hx : H[b]? = some x) :
    ∃ y, H'[b]? = some y ∧ y.ty = x.ty ∧ y.rw = x.rw ∧ y.cells.length = x.cells.length ∧ ∀ k, (∀ o n, f = .wr b o n → ¬ (o ≤ k ∧ k < o + n)) → y.cells[k]? = x.cells[k]? := by
  have hb := (List.getElem?_eq_some_iff.1 hx).1
  cases h with
  | ro h e => subst e; exact ⟨x, hx, rfl, rfl, rfl, fun _ _ => rfl⟩
  | ld hz h e => subst e; exact ⟨x, hx, rfl, rfl, rfl, fun _ _ => rfl⟩
  | nw h e ev => subst e; exact ⟨x, by rw [List.getElem?_append_left hb]; exact hx, rfl, rfl, rfl, fun _ _ => rfl⟩
  | @st b' off vs z hz hrw hl e ev h =>
    subst e
    by_cases hbb : b' = b
    · subst hbb
      rw [hx] at hz; cases hz
      refine ⟨_, List.getElem?_set_self hb, rfl, rfl, setR_length' _ _ _, fun k hk => ?_⟩
      exact setR_get _ _ _ _ (hk off vs.length rfl)
    · exact ⟨x, by rw [List.getElem?_set_ne hbb]; exact hx, rfl, rfl, rfl, fun _ _ => rfl⟩
theorem TraceS.shape (T : TraceS P ex ops Cs vals tms Hs ft) {p : Nat} {b : Nat} {x : Blk} (hx : (Hs p)[b]? = some x) : ∀ q, p ≤ q → q ≤ ops.size →
    ∃ y, (Hs q)[b]? = some y ∧ y.ty = x.ty ∧ y.rw = x.rw ∧ y.cells.length = x.cells.length ∧ ∀ k, (∀ j, p ≤ j → j < q → ¬ Cov ft j b k) → y.cells[k]? = x.cells[k]?
  | 0, h, _ => by
    have : p = 0 := by omega
    subst this; exact ⟨x, hx, rfl, rfl, rfl, fun _ _ => rfl⟩
  | q + 1, h, hq => by
    by_cases hp : p = q + 1
    · subst hp; exact ⟨x, hx, rfl, rfl, rfl, fun _ _ => rfl⟩
    · obtain ⟨y, h1, h2, h3, h4, h5⟩ := T.shape hx q (by omega) (by omega)
      obtain ⟨z, g1, g2, g3, g4, g5⟩ := kind_step (T.kind q ops[q] (by simp)) h1
      refine ⟨z, g1, g2.trans h2, g3.trans h3, g4.trans h4, fun k hk => ?_⟩
      rw [g5 k (fun o n e hc => hk q (by omega) (by omega) ⟨o, n, e, hc.1, hc.2⟩), h5 k (fun j h6 h7 => hk j h6 (by omega))]
theorem TraceS.mono (T : TraceS P ex ops Cs vals tms Hs ft) {p q : Nat} (h : p ≤ q) (hq : q ≤ ops.size) : (Hs p).length ≤ (Hs q).length := by
  rcases Nat.lt_or_ge (Hs q).length (Hs p).length with hl | hl
  · obtain ⟨y, hy, _⟩ := T.shape (List.getElem?_eq_getElem hl) q h hq
    rw [List.getElem?_eq_none (Nat.le_refl _)] at hy; cases hy
  · exact hl
theorem TraceS.uniq (T : TraceS P ex ops Cs vals tms Hs ft) {i j b k : Nat} (hi : i < ops.size) (hj : j < ops.size) (h : Cov ft i b k) (g : Cov ft j b k) : i = j := by
  obtain ⟨o, n, e, h1, h2⟩ := h
  obtain ⟨o', n', e', g1, g2⟩ := g
  have := T.pair i j hi hj
  unfold pairF at this
  rw [e, e'] at this
  simp only [Bool.or_eq_true] at this
  rcases this with h | h
  · exact Nat.eq_of_beq_eq_true h
  · exfalso
    unfold disjF at h
    rw [Nat.beq_refl] at h
    simp only [Bool.not_true, Bool.false_or, Bool.or_eq_true, Nat.ble_eq] at h
    omega
def CC (Cs : List Nat) (i j : Nat) : Prop := (Cs.getD i 0).testBit j = true

structure InvS (ex : Bool) (ops : Array Oper) (Cs : List Nat) (vals : Nat → AV) (tms : Nat → List AV) (Hs : Nat → Heap) (ft : Nat → Foot) (w0 : World) (H0 : Heap) (μ0 : Nat → Option Nat)
    (listed : Array Bool) (a : Act) (w : World) (G : Heap) (μ : Nat → Option Nat) : Prop where
  size : listed.size = ops.size
  closed : ∀ j i, Listed listed j → CC Cs j i → Listed listed i
  tsize : a.tmps.size = (tms 0).length
  done : ∀ (j : Nat) (o : Oper) (t : Tmp) (v : Value), ops.toList[j]? = some o → o.dst = some t → Listed listed j → a.tmps[t]? = some v → VRel ex μ (vals j) v
  old : ∀ (t : Tmp) (v : Value), (∀ (j : Nat) (o : Oper), ops.toList[j]? = some o → o.dst = some t → ¬ Listed listed j) → a.tmps[t]? = some v → VRel ex μ ((tms 0).getD t (.tup [])) v
  defers : a.defers = []
  goes : Goes ex w0 H0 μ0 w G μ
  glen : G.length = (Hs ops.size).length
  gsh : ∀ (b : Nat) (x y : Blk), G[b]? = some x → (Hs ops.size)[b]? = some y → x.ty = y.ty ∧ x.rw = y.rw ∧ x.cells.length = y.cells.length
  gnew : ∀ (b : Nat) (x y : Blk) (k : Nat), G[b]? = some x → (Hs ops.size)[b]? = some y → (∀ j, j < ops.size → Cov ft j b k → Listed listed j) → x.cells[k]? = y.cells[k]?
  gold : ∀ (b : Nat) (x : Blk) (k j : Nat) (z : Blk), G[b]? = some x → j < ops.size → Cov ft j b k → ¬ Listed listed j → (Hs j)[b]? = some z → x.cells[k]? = z.cells[k]?
  dom : Dom μ G
  free : ∀ j, j < ops.size → ¬ Listed listed j → ft j = .nw (Hs j).length → μ (Hs j).length = none

/-- What an operation that is ready finds in a cell is what the walk in the order of the text finds. -/
theorem InvS.agree (T : TraceS P ex ops Cs vals tms Hs ft) (hD : Draws ops.toList (CC Cs) full) {w0 : World} {H0 : Heap} {μ0 : Nat → Option Nat} {listed : Array Bool} {a : Act} {w : World} {G : Heap} {μ : Nat → Option Nat}
    (I : InvS ex ops Cs vals tms Hs ft w0 H0 μ0 listed a w G μ) {i p : Nat} (hi : i < ops.size) (hni : ¬ Listed listed i) (hpre : ∀ j, CC Cs i j → Listed listed j) (hp : p = i ∨ p = i + 1) {b k : Nat} {x z : Blk} (hx : G[b]? = some x) (hz : (Hs p)[b]? = some z)
    (hlink : ∀ j, j < ops.size → Cov ft j b k → (CC Cs i j ∧ p = i) ∨ (CC Cs j i)) : x.cells[k]? = z.cells[k]? := by
  obtain ⟨y, y1, _, _, _, y5⟩ := T.shape hz ops.size (by omega) (Nat.le_refl _)
  by_cases hc : ∃ j, j < ops.size ∧ Cov ft j b k
  · obtain ⟨j, hj, hcov⟩ := hc
    rcases hlink j hj hcov with ⟨h, hpi⟩ | h
    · have hji := hD.lt i ops[i] j (by simp) h
      rw [I.gnew b x y k hx y1 (fun j' h1 h2 => by rw [T.uniq h1 hj h2 hcov]; exact hpre j h)]
      exact y5 k (fun j' h1 h2 h3 => by have := T.uniq (by omega) hj h3 hcov; omega)
    · have hij := hD.lt j ops[j] i (by simp) h
      have hnj : ¬ Listed listed j := fun hl => hni (I.closed j i hl h)
      obtain ⟨u, u1, _, _, _, u5⟩ := T.shape hz j (by omega) (by omega)
      rw [I.gold b x k j u hx hj hcov hnj u1]
      exact u5 k (fun j' h1 h2 h3 => by have := T.uniq (by omega) hj h3 hcov; omega)
  · rw [I.gnew b x y k hx y1 (fun j' h1 h2 => absurd ⟨j', h1, h2⟩ hc)]
    exact y5 k (fun j' h1 h2 h3 => hc ⟨j', by omega, h3⟩)

theorem anyS_step (T : TraceS P ex ops Cs vals tms Hs ft) (hD : Draws ops.toList (CC Cs) full) {w0 : World} {H0 : Heap} {μ0 : Nat → Option Nat} (hd0 : Dom μ0 H0) {listed : Array Bool} {a : Act} {w : World} {G : Heap} {μ : Nat → Option Nat}
    (I : InvS ex ops Cs vals tms Hs ft w0 H0 μ0 listed a w G μ) {i : Nat} (hr : i ∈ Region.ready .any ops listed) {K : Act → World → Prop} {Q : Exit → Act → World → Prop}
    (hK : ∀ a' w' G' μ', InvS ex ops Cs vals tms Hs ft w0 H0 μ0 (listed.setIfInBounds i true) a' w' G' μ' → K a' w') : wpOp P ops Q i K a w := by
  obtain ⟨hun, o, hoA, hall⟩ := mem_ready.1 hr
  have ho : ops.toList[i]? = some o := by simpa using hoA
  have hi : i < ops.size := (Array.getElem?_eq_some_iff.1 hoA).1
  have hni : ¬ Listed listed i := by
    intro h
    unfold Listed at h
    simp [h] at hun
  have hls : i < listed.size := by rw [I.size]; exact hi
  have hL := fun j => @listed_set listed i j hls
  have hpre : ∀ j, CC Cs i j → Listed listed j := by
    intro j hc
    obtain ⟨e, he, hb, h⟩ := hD.clo i o j ho hc
    have h1 := hall e (by simpa using he) hb
    have h2 : Listed listed e.on := by
      unfold Listed
      cases hq : listed[e.on]? with
      | none => simp [hq] at h1
      | some b => simp [hq] at h1; rw [h1]
    rcases h with rfl | h
    · exact h2
    · exact I.closed _ _ h2 h
  obtain ⟨tl, td, tn⟩ := tm_spec hD T.put i (by omega)
  have look : ∀ (t : Tmp), (∃ (j : Nat) (oj : Oper), ops.toList[j]? = some oj ∧ oj.dst = some t ∧ (CC Cs i j ∨ CC Cs j i)) ∨ (∀ (j : Nat) (oj : Oper), ops.toList[j]? = some oj → oj.dst ≠ some t) → ∀ (v : Value), a.tmps[t]? = some v → VRel ex μ ((tms i).getD t (.tup [])) v := by
    intro t ht v hv
    rw [List.getD_eq_getElem?_getD]
    rcases ht with ⟨j, oj, hoj, hdj, hc | hc⟩ | ht
    · have hji := hD.lt i o j ho hc
      rw [td t j oj hji hoj hdj]
      exact I.done j oj t v hoj hdj (hpre j hc) hv
    · have hij := hD.lt j oj i hoj hc
      rw [tn t (fun q oq hq hoq hdq => by have := hD.dst j q oj oq t hoj hoq hdj hdq; omega)]
      rw [← List.getD_eq_getElem?_getD]
      refine I.old t v (fun q oq hoq hdq hq => ?_) hv
      have := hD.dst j q oj oq t hoj hoq hdj hdq
      subst this
      exact hni (I.closed _ _ hq hc)
    · rw [tn t (fun q oq _ hoq => ht q oq hoq), ← List.getD_eq_getElem?_getD]
      exact I.old t v (fun q oq hoq hdq _ => ht q oq hoq hdq) hv
  have hops : OpsRel ex μ o.op (opA (tms i)) a := by
    intro x hx u hu
    cases x with
    | tmp t =>
      simp only [opA, Option.some.injEq] at hu; subst hu
      have hcase : (∃ (j : Nat) (oj : Oper), ops.toList[j]? = some oj ∧ oj.dst = some t ∧ (CC Cs i j ∨ CC Cs j i)) ∨ (∀ (j : Nat) (oj : Oper), ops.toList[j]? = some oj → oj.dst ≠ some t) := by
        by_cases h : ∃ (j : Nat) (oj : Oper), ops.toList[j]? = some oj ∧ oj.dst = some t
        · obtain ⟨j, oj, h1, h2⟩ := h
          exact .inl ⟨j, oj, h1, h2, hD.op i j o oj t ho h1 hx h2⟩
        · exact .inr fun j oj h1 h2 => h ⟨j, oj, h1, h2⟩
      simp only [Act.eval]
      cases hv : a.tmps[t]? with
      | some v =>
        have := look t hcase v hv
        simpa [hv] using this
      | none =>
        have h1 : (tms i)[t]? = none := by
          rw [List.getElem?_eq_none_iff, tl, ← I.tsize]
          exact Array.getElem?_eq_none_iff.1 hv
        rw [List.getD_eq_getElem?_getD, h1]
        simpa [hv] using VRel.undef
    | const c => exact toAV_rel 4 c u hu
    | func f => simp only [opA, Option.some.injEq] at hu; subst hu; simp only [Act.eval, VRel]; exact ⟨#[], #[], rfl, VRels.nil, VRels.nil⟩
    | global g => cases hu
  -- the temporaries and the list behind it
  have next : ∀ (v' : Value) (w' : World) (G' : Heap) (μ' : Nat → Option Nat), VRel ex μ' (vals i) v' → MLe μ μ' → Goes ex w0 H0 μ0 w' G' μ' → Dom μ' G' → G'.length = (Hs ops.size).length →
      (∀ (b : Nat) (x y : Blk), G'[b]? = some x → (Hs ops.size)[b]? = some y → x.ty = y.ty ∧ x.rw = y.rw ∧ x.cells.length = y.cells.length) →
      (∀ (b : Nat) (x y : Blk) (k : Nat), G'[b]? = some x → (Hs ops.size)[b]? = some y → (∀ j, j < ops.size → Cov ft j b k → j = i ∨ Listed listed j) → x.cells[k]? = y.cells[k]?) →
      (∀ (b : Nat) (x : Blk) (k j : Nat) (z : Blk), G'[b]? = some x → j < ops.size → Cov ft j b k → j ≠ i → ¬ Listed listed j → (Hs j)[b]? = some z → x.cells[k]? = z.cells[k]?) →
      (∀ j, j < ops.size → j ≠ i → ¬ Listed listed j → ft j = .nw (Hs j).length → μ' (Hs j).length = none) →
      InvS ex ops Cs vals tms Hs ft w0 H0 μ0 (listed.setIfInBounds i true) (a.put o.dst v') w' G' μ' := by
    intro v' w' G' μ' hv hmu hg hd hlen hsh hnew hold hfree
    refine ⟨by simp [I.size], ?_, ?_, ?_, ?_, ?_, hg, hlen, hsh, ?_, ?_, hd, ?_⟩
    · intro j x hj hc
      rw [hL]
      rcases (hL j).1 hj with rfl | hj
      · exact .inr (hpre x hc)
      · exact .inr (I.closed j x hj hc)
    · rw [← I.tsize]; cases o.dst <;> simp [Act.put]
    · intro j oj t u hoj hdj hj hu
      rcases put_get hu with ⟨h1, rfl⟩ | ⟨h1, h2⟩
      · have := hD.dst i j o oj t ho hoj h1 hdj
        subst this; exact hv
      · have hji : j ≠ i := by rintro rfl; rw [ho] at hoj; cases hoj; exact h1 hdj
        rcases (hL j).1 hj with h | h
        · exact absurd h hji
        · exact VRel.mono hmu _ _ (I.done j oj t u hoj hdj h h2)
    · intro t u hn hu
      rcases put_get hu with ⟨h1, rfl⟩ | ⟨h1, h2⟩
      · exact absurd ((hL i).2 (.inl rfl)) (hn i o ho h1)
      · exact VRel.mono hmu _ _ (I.old t u (fun j oj h3 h4 h5 => hn j oj h3 h4 ((hL j).2 (.inr h5))) h2)
    · rw [← I.defers]; cases o.dst <;> rfl
    · intro b x y k hx hy hj
      exact hnew b x y k hx hy fun j h1 h2 => (hL j).1 (hj j h1 h2)
    · intro b x k j z hx hj hc hn hz
      exact hold b x k j z hx hj hc (fun e => hn ((hL j).2 (.inl e))) (fun e => hn ((hL j).2 (.inr e))) hz
    · intro j hj hn hf
      exact hfree j hj (fun e => hn ((hL j).2 (.inl e))) (fun e => hn ((hL j).2 (.inr e))) hf
  -- where nothing is stored
  have still : (∀ b k, ¬ Cov ft i b k) → ∀ (v' : Value) (w' : World) (μ' : Nat → Option Nat), VRel ex μ' (vals i) v' → MLe μ μ' → Goes ex w0 H0 μ0 w' G μ' → Dom μ' G →
      (∀ j, j < ops.size → j ≠ i → ¬ Listed listed j → ft j = .nw (Hs j).length → μ' (Hs j).length = none) →
      InvS ex ops Cs vals tms Hs ft w0 H0 μ0 (listed.setIfInBounds i true) (a.put o.dst v') w' G μ' := by
    intro hc v' w' μ' hv hmu hg hd hfree
    refine next v' w' G μ' hv hmu hg hd I.glen I.gsh ?_ ?_ hfree
    · intro b x y k hx hy hj
      refine I.gnew b x y k hx hy fun j h1 h2 => ?_
      rcases hj j h1 h2 with rfl | h
      · exact absurd h2 (hc b k)
      · exact h
    · intro b x k j z hx hj hcov _ hn hz
      exact I.gold b x k j z hx hj hcov hn hz
  unfold wpOp
  rw [hoA]
  have hwant : Region.wanted o (yielded ops a.tmps) = true := by simp [Region.wanted, T.guard i o ho]
  simp only [hwant, if_true]
  left
  have hkind := T.kind i o ho
  generalize hv : vals i = v0 at hkind
  generalize hH1 : Hs (i + 1) = H1 at hkind
  generalize hfi : ft i = f0 at hkind
  cases hkind with
  | ro h e =>
    refine h G μ a w hops I.goes.rel _ _ ?_
    intro v' w' hv' hb
    exact hK _ _ G μ (still (fun b k hc => by obtain ⟨_, _, e, _⟩ := hc; rw [hfi] at e; cases e) v' w' μ (by rw [hv]; exact hv') (MLe.refl μ) (Goes.trans hd0 I.goes (Goes.of_below I.goes.rel hb)) I.dom (fun j h1 _ h3 h4 => I.free j h1 h3 h4))
  | @ld b off n z hz h e =>
    have hb : b < G.length := by
      rw [I.glen]
      exact Nat.lt_of_lt_of_le (List.getElem?_eq_some_iff.1 hz).1 (T.mono (by omega) (Nat.le_refl _))
    obtain ⟨y, y1, y2, y3, y4, _⟩ := T.shape hz ops.size (by omega) (Nat.le_refl _)
    have hx := List.getElem?_eq_getElem hb
    refine h G G[b] hx ((I.gsh b _ y hx y1).2.2.trans y4) (fun k h1 h2 => ?_) μ a w hops I.goes.rel _ _ ?_
    · refine I.agree T hD hi hni hpre (.inl rfl) hx hz fun j hj hcov => ?_
      obtain ⟨o', n', e', g1, g2⟩ := hcov
      have := T.pair i j hi hj
      unfold pairF at this
      rw [hfi, e'] at this
      simp only [Bool.or_eq_true] at this
      rcases this with hij | hl | hdis
      · have := Nat.eq_of_beq_eq_true hij; subst this; rw [hfi] at e'; cases e'
      · rcases linked_iff hl with h5 | h5
        · exact .inl ⟨h5, rfl⟩
        · exact .inr h5
      · exfalso
        unfold disjF at hdis
        rw [Nat.beq_refl] at hdis
        simp only [Bool.not_true, Bool.false_or, Bool.or_eq_true, Nat.ble_eq] at hdis
        omega
    · intro v' w' hv' hb'
      exact hK _ _ G μ (still (fun b k hc => by obtain ⟨_, _, e, _⟩ := hc; rw [hfi] at e; cases e) v' w' μ (by rw [hv]; exact hv') (MLe.refl μ) (Goes.trans hd0 I.goes (Goes.of_below I.goes.rel hb')) I.dom (fun j h1 _ h3 h4 => I.free j h1 h3 h4))
  | @st b off vs z hz hrw hl e ev h =>
    have hb : b < G.length := by
      rw [I.glen]
      exact Nat.lt_of_lt_of_le (List.getElem?_eq_some_iff.1 hz).1 (T.mono (by omega) (Nat.le_refl _))
    obtain ⟨y, y1, y2, y3, y4, y5⟩ := T.shape hz ops.size (by omega) (Nat.le_refl _)
    have hx := List.getElem?_eq_getElem hb
    obtain ⟨s1, s2, s3⟩ := I.gsh b _ y hx y1
    obtain ⟨w', hrun, hg⟩ := h G G[b] hx (by rw [s2, y3]; exact hrw) (s3.trans y4) μ a w hops I.goes.rel
    unfold Oper.wp
    rw [hrun]
    have hcov : ∀ k, off ≤ k → k < off + vs.length → Cov ft i b k := fun k h1 h2 => ⟨off, vs.length, hfi, h1, h2⟩
    -- the walk's own store
    have hz1 : (Hs (i + 1))[b]? = some { z with cells := setR z.cells off vs } := by
      rw [hH1, e]; exact List.getElem?_set_self (List.getElem?_eq_some_iff.1 hz).1
    obtain ⟨q, q1, q2, q3, q4, q5⟩ := T.shape hz1 ops.size (by omega) (Nat.le_refl _)
    rw [y1] at q1; cases q1
    have inr : ∀ (l l' : List AV) (k : Nat), l.length = l'.length → off ≤ k → k < off + vs.length → off + vs.length ≤ l.length → (setR l off vs)[k]? = (setR l' off vs)[k]? := by
      intro l l' k hll h1 h2 h3
      have : ∀ (vs l l' : List AV) (off : Nat), l.length = l'.length → off ≤ k → k < off + vs.length → off + vs.length ≤ l.length → (setR l off vs)[k]? = (setR l' off vs)[k]? := by
        intro vs
        induction vs with
        | nil => intro l l' off _ h1 h2 _; simp at h2; omega
        | cons u r ih =>
          intro l l' off hl h1 h2 h3
          simp only [setR]
          simp at h2 h3
          by_cases hk : k = off
          · subst hk
            rw [setR_get r _ _ _ (by omega), setR_get r _ _ _ (by omega), List.getElem?_set_self (by omega), List.getElem?_set_self (by omega)]
          · exact ih _ _ (off + 1) (by simp; exact hl) (by omega) (by omega) (by simp; omega)
      exact this vs l l' off hll h1 h2 h3
    refine hK _ _ _ μ (next undef w' _ μ (by rw [hv, ev]; exact VRel.undef) (MLe.refl μ) (Goes.trans hd0 I.goes hg) ?_ (by simp [I.glen]) ?_ ?_ ?_ (fun j h1 _ h3 h4 => I.free j h1 h3 h4))
    · intro j hj; exact I.dom j (by simpa using hj)
    · intro b' x y' hx' hy'
      by_cases hbb : b = b'
      · subst hbb
        rw [List.getElem?_set_self hb] at hx'
        cases hx'
        rw [y1] at hy'; cases hy'
        exact ⟨s1, s2, by simp only [setR_length']; exact s3⟩
      · rw [List.getElem?_set_ne hbb] at hx'
        exact I.gsh b' x y' hx' hy'
    · intro b' x y' k hx' hy' hj
      by_cases hbb : b = b'
      · subst hbb
        rw [List.getElem?_set_self hb] at hx'
        cases hx'
        rw [y1] at hy'; cases hy'
        by_cases hk : off ≤ k ∧ k < off + vs.length
        · rw [q5 k (fun j h1 h2 h3 => by have := T.uniq (by omega) hi h3 (hcov k hk.1 hk.2); omega)]
          exact inr _ _ k (s3.trans y4) hk.1 hk.2 (by rw [s3, y4]; exact hl)
        · rw [setR_get _ _ _ _ hk]
          refine I.gnew b _ y k hx y1 fun j h1 h2 => ?_
          rcases hj j h1 h2 with rfl | h
          · obtain ⟨_, _, e', g1, g2⟩ := h2
            rw [hfi] at e'; cases e'
            exact absurd ⟨g1, g2⟩ hk
          · exact h
      · rw [List.getElem?_set_ne hbb] at hx'
        refine I.gnew b' x y' k hx' hy' fun j h1 h2 => ?_
        rcases hj j h1 h2 with rfl | h
        · obtain ⟨_, _, e', g1, g2⟩ := h2
          rw [hfi] at e'; cases e'
          exact absurd rfl hbb
        · exact h
    · intro b' x k j u hx' hj hcj hne hn hu
      by_cases hbb : b = b'
      · subst hbb
        rw [List.getElem?_set_self hb] at hx'
        cases hx'
        by_cases hk : off ≤ k ∧ k < off + vs.length
        · exact absurd (T.uniq hj hi hcj (hcov k hk.1 hk.2)) hne
        · rw [setR_get _ _ _ _ hk]
          exact I.gold b _ k j u hx hj hcj hn hu
      · rw [List.getElem?_set_ne hbb] at hx'
        exact I.gold b' x k j u hx' hj hcj hn hu
  | @nw blk m h e ev =>
    obtain ⟨hrw, hnew⟩ := h
    obtain ⟨arr, harr, hrun⟩ := hnew μ a w hops
    unfold Oper.wp
    rw [hrun]
    have hz : (Hs (i + 1))[(Hs i).length]? = some blk := by rw [hH1, e]; simp
    have hb : (Hs i).length < G.length := by
      rw [I.glen]
      exact Nat.lt_of_lt_of_le (List.getElem?_eq_some_iff.1 hz).1 (T.mono (p := i + 1) (by omega) (Nat.le_refl _))
    obtain ⟨y, y1, y2, y3, y4, _⟩ := T.shape hz ops.size (by omega) (Nat.le_refl _)
    have hx := List.getElem?_eq_getElem hb
    obtain ⟨s1, s2, s3⟩ := I.gsh _ _ y hx y1
    have hcells : G[(Hs i).length].cells = blk.cells := by
      apply List.ext_getElem?
      intro k
      refine I.agree T hD hi hni hpre (.inr rfl) hx hz fun j hj hcov => ?_
      obtain ⟨o', n', e', g1, g2⟩ := hcov
      have := T.pair i j hi hj
      unfold pairF at this
      rw [hfi, e'] at this
      simp only [Bool.or_eq_true] at this
      rcases this with hij | hl | hl
      · have := Nat.eq_of_beq_eq_true hij; subst this; rw [hfi] at e'; cases e'
      · rw [Nat.beq_refl] at hl; cases hl
      · exact .inr hl
    have hblk : G[(Hs i).length]? = some blk := by
      rw [hx]
      refine congrArg some ?_
      have h1 := s1.trans y2
      have h2 := s2.trans y3
      cases hG : G[(Hs i).length] with
      | mk c t r => rw [hG] at hcells h1 h2; simp only at hcells h1 h2; subst hcells h1 h2; rfl
    have hnone := I.free i hi hni (by rw [hfi])
    have hg2 := Goes.alloc I.goes.rel hnone hblk harr
    refine hK _ _ G _ (still (fun b k hc => by obtain ⟨_, _, e, _⟩ := hc; rw [hfi] at e; cases e) _ _ _ (by rw [hv, ev]; exact mk_rel (upd_self _ _ _)) hg2.mu (Goes.trans hd0 I.goes hg2) ?_ ?_)
    · intro q hq
      unfold upd
      rw [if_neg (by omega)]
      exact I.dom q hq
    · intro j h1 h2 h3 h4
      unfold upd
      rw [if_neg ?_]
      · exact I.free j h1 h3 h4
      · rcases Nat.lt_or_gt_of_ne h2 with h | h
        · have hk := T.kind j ops[j] (by simp)
          rw [h4] at hk
          have : (Hs (j + 1)).length = (Hs j).length + 1 := by
            generalize Hs (j + 1) = Hj at hk
            generalize hF : Foot.nw (Hs j).length = F at hk
            cases hk with
            | nw _ e _ => rw [e]; simp
            | _ => cases hF
          have := T.mono (p := j + 1) (q := i) (by omega) (by omega)
          omega
        · have : (Hs (i + 1)).length = (Hs i).length + 1 := by rw [hH1, e]; simp
          have := T.mono (p := i + 1) (q := j) (by omega) (by omega)
          omega

theorem anyS_end (T : TraceS P ex ops Cs vals tms Hs ft) (hD : Draws ops.toList (CC Cs) full) {w0 : World} {H0 : Heap} {μ0 : Nat → Option Nat} {listed : Array Bool} {a : Act} {w : World} {G : Heap} {μ : Nat → Option Nat}
    (I : InvS ex ops Cs vals tms Hs ft w0 H0 μ0 listed a w G μ) (hl : ∀ j, j < ops.size → Listed listed j) : Ends ex (tms ops.size) w0 H0 μ0 (Hs ops.size) a w := by
  have hG : G = Hs ops.size := by
    apply List.ext_getElem?
    intro b
    by_cases hb : b < G.length
    · have hb' : b < (Hs ops.size).length := by rw [← I.glen]; exact hb
      rw [List.getElem?_eq_getElem hb, List.getElem?_eq_getElem hb']
      refine congrArg some ?_
      have hx := List.getElem?_eq_getElem hb
      have hy := List.getElem?_eq_getElem hb'
      obtain ⟨h1, h2, _⟩ := I.gsh b _ _ hx hy
      have hc : G[b].cells = (Hs ops.size)[b].cells := List.ext_getElem? fun k => I.gnew b _ _ k hx hy fun j hj _ => hl j hj
      cases hg : G[b] with
      | mk c t r =>
        cases hh : (Hs ops.size)[b] with
        | mk c' t' r' => rw [hg, hh] at hc h1 h2; simp only at hc h1 h2; subst hc h1 h2; rfl
    · rw [List.getElem?_eq_none (by omega), List.getElem?_eq_none (by rw [← I.glen]; omega)]
  subst hG
  obtain ⟨tl, td, tn⟩ := tm_spec hD T.put ops.size (Nat.le_refl _)
  refine ⟨μ, VRels.of_get (by simp [I.tsize, tl]) ?_, I.defers, I.goes, I.dom⟩
  intro t u v hu hv
  have hv' : a.tmps[t]? = some v := by simpa using hv
  by_cases h : ∃ (j : Nat) (oj : Oper), ops.toList[j]? = some oj ∧ oj.dst = some t
  · obtain ⟨j, oj, h1, h2⟩ := h
    have hj : j < ops.size := by have := (List.getElem?_eq_some_iff.1 h1).1; simpa using this
    rw [td t j oj hj h1 h2] at hu; cases hu
    exact I.done j oj t v h1 h2 (hl j hj) hv'
  · have hn : ∀ (j : Nat) (o : Oper), ops.toList[j]? = some o → o.dst ≠ some t := fun j o h1 h2 => h ⟨j, o, h1, h2⟩
    rw [tn t (fun j o _ => hn j o)] at hu
    have := I.old t v (fun j o h1 h2 _ => hn j o h1 h2) hv'
    rw [List.getD_eq_getElem?_getD, hu] at this
    exact this
theorem anyS_sound (T : TraceS P ex ops Cs vals tms Hs ft) (hD : Draws ops.toList (CC Cs) full) {w0 : World} {H0 : Heap} {μ0 : Nat → Option Nat} (hd0 : Dom μ0 H0)
    {Q : Exit → Act → World → Prop} (hQ : ∀ a w, Ends ex (tms ops.size) w0 H0 μ0 (Hs ops.size) a w → Q .normal a w) :
    ∀ (fuel : Nat) (listed : Array Bool) (a : Act) (w : World) (G : Heap) (μ : Nat → Option Nat), unl listed ≤ fuel → InvS ex ops Cs vals tms Hs ft w0 H0 μ0 listed a w G μ → wpAny P .any ops Q fuel listed a w
  | 0, listed, a, w, G, μ, hf, I => by
    have hl : ∀ j, j < ops.size → Listed listed j := fun j hj => unl_zero (by omega) (by rw [I.size]; exact hj)
    refine ⟨?_, hQ a w (anyS_end T hD I hl)⟩
    rw [List.eq_nil_iff_forall_not_mem]
    intro i hi
    obtain ⟨hun, o, ho, _⟩ := mem_ready.1 hi
    have := hl i (Array.getElem?_eq_some_iff.1 ho).1
    unfold Listed at this
    simp [this] at hun
  | fuel + 1, listed, a, w, G, μ, hf, I => by
    refine ⟨fun hr => hQ a w (anyS_end T hD I (all_listed hD I.size hr)), fun i hi => ?_⟩
    refine anyS_step T hD hd0 I hi fun a' w' G' μ' I' => ?_
    refine anyS_sound T hD hd0 hQ fuel _ a' w' G' μ' ?_ I'
    obtain ⟨hun, o, ho, _⟩ := mem_ready.1 hi
    have hlt : i < listed.size := by rw [I.size]; exact (Array.getElem?_eq_some_iff.1 ho).1
    have hfalse : listed[i]? = some false := by
      rw [Array.getElem?_eq_getElem hlt]
      cases hb : listed[i] with
      | false => rfl
      | true => simp [Array.getElem?_eq_getElem hlt, hb] at hun
    have := unl_set hfalse
    omega

/-- At the start: what is stored is not yet there. -/
theorem anyS_start (T : TraceS P ex ops Cs vals tms Hs ft) : ∀ n, n ≤ ops.size → ∃ G : Heap, G.length = (Hs n).length ∧ (∀ (b : Nat) (x : Blk), (Hs 0)[b]? = some x → G[b]? = some x) ∧
    (∀ (b : Nat) (x y : Blk), G[b]? = some x → (Hs n)[b]? = some y → x.ty = y.ty ∧ x.rw = y.rw ∧ x.cells.length = y.cells.length) ∧
    (∀ (b : Nat) (x y : Blk) (k : Nat), G[b]? = some x → (Hs n)[b]? = some y → (∀ j, j < n → ¬ Cov ft j b k) → x.cells[k]? = y.cells[k]?) ∧
    (∀ (b : Nat) (x : Blk) (k j : Nat) (z : Blk), G[b]? = some x → j < n → Cov ft j b k → (Hs j)[b]? = some z → x.cells[k]? = z.cells[k]?)
  | 0, _ => ⟨Hs 0, rfl, fun _ _ h => h, fun b x y h h' => by rw [h] at h'; cases h'; exact ⟨rfl, rfl, rfl⟩, fun b x y k h h' _ => by rw [h] at h'; cases h'; rfl, fun b x k j z _ hj => by omega⟩
  | n + 1, hn => by
    obtain ⟨G, g1, g2, g3, g4, g5⟩ := anyS_start T n (by omega)
    have hk := T.kind n ops[n] (by simp)
    -- nothing new
    have old : (Hs (n + 1)).length = (Hs n).length → ∃ G : Heap, G.length = (Hs (n + 1)).length ∧ (∀ (b : Nat) (x : Blk), (Hs 0)[b]? = some x → G[b]? = some x) ∧
        (∀ (b : Nat) (x y : Blk), G[b]? = some x → (Hs (n + 1))[b]? = some y → x.ty = y.ty ∧ x.rw = y.rw ∧ x.cells.length = y.cells.length) ∧
        (∀ (b : Nat) (x y : Blk) (k : Nat), G[b]? = some x → (Hs (n + 1))[b]? = some y → (∀ j, j < n + 1 → ¬ Cov ft j b k) → x.cells[k]? = y.cells[k]?) ∧
        (∀ (b : Nat) (x : Blk) (k j : Nat) (z : Blk), G[b]? = some x → j < n + 1 → Cov ft j b k → (Hs j)[b]? = some z → x.cells[k]? = z.cells[k]?) := by
      intro hl
      refine ⟨G, g1.trans hl.symm, g2, ?_, ?_, ?_⟩
      · intro b x y hx hy
        have hb : b < (Hs n).length := by rw [← g1]; exact (List.getElem?_eq_some_iff.1 hx).1
        have hz := List.getElem?_eq_getElem hb
        obtain ⟨y', p1, p2, p3, p4, _⟩ := kind_step hk hz
        rw [hy] at p1; cases p1
        obtain ⟨q1, q2, q3⟩ := g3 b x _ hx hz
        exact ⟨q1.trans p2.symm, q2.trans p3.symm, q3.trans p4.symm⟩
      · intro b x y k hx hy hc
        have hb : b < (Hs n).length := by rw [← g1]; exact (List.getElem?_eq_some_iff.1 hx).1
        have hz := List.getElem?_eq_getElem hb
        obtain ⟨y', p1, p2, p3, p4, p5⟩ := kind_step hk hz
        rw [hy] at p1; cases p1
        rw [p5 k (fun o m e h => hc n (by omega) ⟨o, m, e, h.1, h.2⟩)]
        exact g4 b x _ k hx hz fun j hj => hc j (by omega)
      · intro b x k j z hx hj hc hz
        by_cases hjn : j = n
        · subst hjn
          refine g4 b x z k hx hz fun j' hj' hc' => ?_
          have := T.uniq (by omega) (by omega) hc hc'; omega
        · exact g5 b x k j z hx (by omega) hc hz
    generalize hf0 : ft n = f0 at hk
    generalize hH1 : Hs (n + 1) = H1 at hk
    cases hk with
    | ro h e => rw [← hH1] at e; rw [hH1] at old; exact old (by rw [← hH1, e])
    | ld hz h e => rw [← hH1] at e; rw [hH1] at old; exact old (by rw [← hH1, e])
    | st hz hrw hl e ev h => rw [← hH1] at e; rw [hH1] at old; exact old (by rw [← hH1, e]; simp)
    | @nw blk m h e ev =>
      subst e
      refine ⟨G ++ [blk], by simp [g1], ?_, ?_, ?_, ?_⟩
      · intro b x hx
        have := g2 b x hx
        rw [List.getElem?_append_left (List.getElem?_eq_some_iff.1 this).1]; exact this
      · intro b x y hx hy
        by_cases hb : b < G.length
        · rw [List.getElem?_append_left hb] at hx
          rw [List.getElem?_append_left (by omega)] at hy
          exact g3 b x y hx hy
        · rw [List.getElem?_append_right (by omega)] at hx
          rw [List.getElem?_append_right (by omega)] at hy
          rw [← g1] at hy
          rw [hx] at hy; cases hy; exact ⟨rfl, rfl, rfl⟩
      · intro b x y k hx hy hc
        by_cases hb : b < G.length
        · rw [List.getElem?_append_left hb] at hx
          rw [List.getElem?_append_left (by omega)] at hy
          exact g4 b x y k hx hy fun j hj => hc j (by omega)
        · rw [List.getElem?_append_right (by omega)] at hx
          rw [List.getElem?_append_right (by omega)] at hy
          rw [← g1] at hy
          rw [hx] at hy; cases hy; rfl
      · intro b x k j z hx hj hc hz
        have hjn : j ≠ n := by
          rintro rfl
          obtain ⟨_, _, e, _⟩ := hc
          rw [hf0] at e; cases e
        have hzb : b < (Hs j).length := (List.getElem?_eq_some_iff.1 hz).1
        have hb : b < G.length := by rw [g1]; exact Nat.lt_of_lt_of_le hzb (T.mono (by omega) (by omega))
        rw [List.getElem?_append_left hb] at hx
        exact g5 b x k j z hx (by omega) hc hz
end

section
variable {P : Program} {ex : Bool} {M : EnvM}
theorem evOpsS_trace (hM : M.Ok P ex) : ∀ (l : List Oper) (s s' : St) (fs : List Foot), evOpsS P ex M l s = some (s', fs) → Inv s s' ∧ (s'.ob.ok = true → s.ob.ok = true ∧ fs.length = l.length ∧
    ∃ (vals : Nat → AV) (tms : Nat → List AV) (Hs : Nat → Heap), tms 0 = s.tm ∧ Hs 0 = s.H ∧ tms l.length = s'.tm ∧ Hs l.length = s'.H ∧
      ∀ (i : Nat) (o : Oper), l[i]? = some o → o.guard = none ∧ putA (tms i) o.dst (vals i) = some (tms (i + 1)) ∧ ∃ f, fs[i]? = some f ∧ KindS P ex o (opA (tms i)) (Hs i) (vals i) (Hs (i + 1)) f)
  | [], s, s', fs, h => by
    simp only [evOpsS, Option.some.injEq, Prod.mk.injEq] at h
    obtain ⟨rfl, rfl⟩ := h
    exact ⟨Inv.refl _, fun hok => ⟨hok, rfl, fun _ => .tup [], fun _ => s.tm, fun _ => s.H, rfl, rfl, rfl, rfl, fun i o e => by simp at e⟩⟩
  | o :: r, s, s', fs, h => by
    simp only [evOpsS] at h
    split at h
    · cases h
    · rename_i hg
      split at h
      · rename_i f ob' v H' hv' hf he
        split at h
        · rename_i tm' hp
          split at h
          · rename_i s2 fs2 hr
            cases h
            obtain ⟨q1, q2, q3⟩ := bump_inv hp
            have hi : Inv s ⟨Ob.both ob' s.ob, tm', bumpD s.tv o.dst, H', hv'⟩ := ⟨q1, q2, q3, evOpM_inv hM he⟩
            obtain ⟨h1, h2⟩ := evOpsS_trace hM r _ _ _ hr
            refine ⟨hi.trans h1, fun hok => ?_⟩
            obtain ⟨p1, p2, vals, tms, Hs, e1, e2, e3, e4, e5⟩ := h2 hok
            rw [Ob.both_ok, Bool.and_eq_true] at p1
            refine ⟨p1.2, by simp [p2], fun | 0 => v | i + 1 => vals i, fun | 0 => s.tm | i + 1 => tms i, fun | 0 => s.H | i + 1 => Hs i, rfl, rfl, e3, e4, ?_⟩
            intro i x hx
            cases i with
            | zero =>
              simp at hx; subst hx
              refine ⟨hg, by show putA s.tm o.dst v = some (tms 0); rw [e1]; exact hp, f, rfl, ?_⟩
              show KindS P ex o (opA s.tm) s.H v (Hs 0) f
              rw [e2]
              exact kind_of hM hM.rall hf he p1.1
            | succ i =>
              simp at hx
              exact e5 i x hx
          · cases h
        · cases h
      · cases h
def evRegS (P : Program) (ex : Bool) (M : EnvM) (ops : List Oper) (s : St) : Option St :=
  cond (drawOk ops (cloA ops []) && P.follows .mixedOrders)
    (match evOpsS P ex M ops s with | some (s', fs) => cond (footsOk (cloA ops []) fs) (some s') none | none => none) none
theorem evRegS_spec (hM : M.Ok P ex) {id : Nat} {ops : Array Oper} {s s' : St} (h : evRegS P ex M ops.toList s = some s') : Inv s s' ∧ (s'.ob.ok = true → s.ob.ok = true ∧
    ∀ (w0 : World) (H0 : Heap) (μ0 : Nat → Option Nat) (a : Act) (w : World), Dom μ0 H0 → Ends ex s.tm w0 H0 μ0 s.H a w → (Code.region id ops true).wp P (fun e' a' w' => e' = .normal ∧ Ends ex s'.tm w0 H0 μ0 s'.H a' w') a w) := by
  unfold evRegS at h
  obtain ⟨hc, h⟩ := cond_some h rfl
  simp only [Bool.and_eq_true] at hc
  obtain ⟨hdr, hmix⟩ := hc
  split at h
  · rename_i s2 fs he
    obtain ⟨hfo, h⟩ := cond_some h rfl
    cases h
    obtain ⟨h1, h2⟩ := evOpsS_trace hM _ _ _ _ he
    refine ⟨h1, fun hok => ?_⟩
    obtain ⟨p1, p2, vals, tms, Hs, e1, e2, e3, e4, e5⟩ := h2 hok
    refine ⟨p1, fun w0 H0 μ0 a w hd hE => ?_⟩
    have hlen : fs.length = ops.size := by rw [p2]; simp
    have fget : ∀ i, i < ops.size → fs[i]? = some (fs.getD i .no) := by
      intro i hi
      rw [List.getD_eq_getElem?_getD, List.getElem?_eq_getElem (by omega)]; rfl
    have T : TraceS P ex ops (cloA ops.toList []) vals tms Hs (fun i => fs.getD i .no) := by
      refine ⟨fun i o ho => ?_, fun i o ho => (e5 i o ho).2.1, fun i o ho => (e5 i o ho).1, fun i j hi hj => ?_⟩
      · obtain ⟨_, _, f, hf, hk⟩ := e5 i o ho
        have : fs.getD i .no = f := by rw [List.getD_eq_getElem?_getD, hf]; rfl
        show KindS P ex o (opA (tms i)) (Hs i) (vals i) (Hs (i + 1)) (fs.getD i .no)
        rw [this]; exact hk
      · have := allFrom_get hfo (fget i hi)
        simp only [Nat.zero_add] at this
        have := allFrom_get this (fget j hj)
        simpa using this
    have hD : Draws ops.toList (CC (cloA ops.toList [])) _ := draws_of hdr
    refine wp_region_any hmix ?_
    obtain ⟨μ, ht, hdef, hg, hdm⟩ := hE
    rw [← e1] at ht
    rw [← e2] at hg hdm
    have hts : a.tmps.size = (tms 0).length := by rw [← ht.length]; simp
    obtain ⟨G, g1, g2, g3, g4, g5⟩ := anyS_start T ops.size (Nat.le_refl _)
    have hnl : ∀ j, ¬ Listed (Array.replicate ops.size false) j := by
      intro j hj; unfold Listed at hj; rw [Array.getElem?_replicate] at hj; split at hj <;> simp at hj
    have hl0 : (Hs 0).length ≤ G.length := by rw [g1]; exact T.mono (Nat.zero_le _) (Nat.le_refl _)
    refine anyS_sound (w0 := w0) T hD hd (fun a' w' hE' => ⟨rfl, ?_⟩) ops.size _ a _ G μ (by unfold unl; simp) ?_
    rotate_left
    · rw [← e3, ← e4]; simpa using hE'
    · refine ⟨by simp, fun j i hj => absurd hj (hnl j), hts, fun j o t v _ _ hj => absurd hj (hnl j), ?_, hdef, ?_, g1, g3, ?_, ?_, ?_, ?_⟩
      · intro t v _ hv
        have h5 := ht.getD t
        have h6 : a.tmps.toList[t]? = some v := by simpa using hv
        rw [List.getD_eq_getElem?_getD (l := a.tmps.toList), h6] at h5
        exact h5
      · have hg1 : Goes ex w0 H0 μ0 { w with drawn := w.drawn + 1 } (Hs 0) μ := ⟨⟨hg.rel.blk, hg.rel.inj, hg.rel.lt⟩, hg.mu, hg.fresh, hg.ext, hg.os, hg.output, hg.tape, hg.size, hg.keep⟩
        refine hg1.more g2 fun i b c hb hc => ?_
        have hi := hdm.lt hc
        have := g2 i _ (List.getElem?_eq_getElem hi)
        rw [hb] at this; cases this
        exact List.getElem?_eq_getElem hi
      · intro b x y k hx hy hj
        exact g4 b x y k hx hy fun j h1 h2 => hnl j (hj j h1 h2)
      · intro b x k j z hx hj hc _ hz
        exact g5 b x k j z hx hj hc hz
      · intro i hi; exact hdm i (by omega)
      · intro j hj _ _
        exact hdm _ (T.mono (Nat.zero_le _) (by omega))
  · cases h
end
end Go.Sim
