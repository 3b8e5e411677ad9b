/- The evaluator over the model's own code, and what one operation does to whatever stands for its operands. -/
import Derived.Test.YtbbopbelaamlaaaSimSound
namespace Go.Sim

abbrev Res := AV × Heap
/-- What is known of callees: those without a body; those that only read; the others. -/
structure Env where
  X : FuncId → Option (List AV → Option (Bool × AV))
  R : FuncId → Option (List AV → Heap → (AV → Option Res) → Option Res)
  W : FuncId → Option (List AV → Heap → (AV → Heap → Option Res) → Option Res)
structure Env.Ok (P : Program) (ex : Bool) (Φ : Env) : Prop where
  x : ∀ f F, Φ.X f = some F → ∀ args r, F args = some (true, r) → ∀ (μ : Nat → Option Nat) (vs : List Value) (w : World), VRels ex μ args vs →
    ∃ v n, (callFunc f vs.toArray).run P w = .ok (.value v) { w with drawn := w.drawn + n } ∧ VRel ex μ r v
  rc : ∀ f F, Φ.R f = some F → ∀ (args : Array Value) (w : World), (callFunc f args).run P w = .ok (.enter f args) w
  r : ∀ f F, Φ.R f = some F → ∀ args H k o, F args H k = some o → ∃ v, k v = some o ∧ SimR P ex f args H v
  wc : ∀ f F, Φ.W f = some F → ∀ (args : Array Value) (w : World), (callFunc f args).run P w = .ok (.enter f args) w
  w : ∀ f F, Φ.W f = some F → ∀ args H k o, F args H k = some o → ∃ v H', k v H' = some o ∧ Sim P ex f args H v H'

section defs
variable (P : Program) (ex : Bool) (Φ : Env)

def opA (tm : List AV) : Operand → Option AV
  | .tmp t => some (tm.getD t (.tup []))
  | .const v => toAV 4 v
  | .func f => some (.func f [] [])
  | .global _ => none

def biA (b : Builtin) (ts : Array TypeId) (args : List AV) : Option AV :=
  match b, args with
  | .complex, [.float a, .float b] => some (.complex a b)
  | .real, [.complex a _] => some (.float a)
  | .imag, [.complex _ b] => some (.float b)
  | .len, [.slice _ n _] => match ts[0]? with
    | some t => match P.underlying t with | some (.slice _) => some (.int .i64 n) | _ => none
    | none => none
  | .len, [.agg _] => match ts[0]? with
    | some t => match P.underlying t with | some (.array n _) => some (.int .i64 n) | _ => none
    | none => none
  | .max, [.int k x, .int _ y] => some (.int k (if y > x then y else x))
  | .min, [.int k x, .int _ y] => some (.int k (if y < x then y else x))
  | _, _ => none
def evCall (full : Bool) (H : Heap) (f : FuncId) (args : List AV) (k : AV → Heap → Option Res) : Option Res :=
  match Φ.X f with
  | some F => match F args with | some (g, v) => cond g (k v H) none | none => none
  | none => match Φ.R f with
    | some F => F args H (fun v => k v H)
    | none => match Φ.W f with
      | some F => cond full (F args H k) none
      | none => none
def evOp (full : Bool) (o : Go.Op) (ρ : Operand → Option AV) (H : Heap) (k : AV → Heap → Option Res) : Option Res :=
  match o with
  | .pick c x y => match ρ c, ρ x, ρ y with
    | some (.bool q), some u, some v => cond q (k u H) (k v H)
    | _, _, _ => none
  | .call c => match c.callee with
    | .value f => match ρ f, opsA ρ c.args.toList with
      | some (.func g first cap), some args => evCall Φ full H g (first ++ args ++ cap) k
      | _, _ => none
    | .builtin b => match opsA ρ c.args.toList with
      | some args => match biA P b c.argTypes args with | some v => k v H | none => none
      | none => none
    | .invoke _ _ => none
  | op => match stepOp P ex op ρ H with
    | some (.ro v) => k v H
    | some (.newP b) => k (.ptr (some (H.length, 0))) (H ++ [b])
    | some (.newS b len cap) => k (.slice (some (H.length, 0)) len cap) (H ++ [b])
    | some (.wr H') => cond full (k (.tup []) H') none
    | none => none
def setF : List AV → Nat → AV → Option (List AV)
  | [], _, _ => none
  | _ :: r, 0, v => some (v :: r)
  | a :: r, i + 1, v => match setF r i v with | some r' => some (a :: r') | none => none
def putA (tm : List AV) (dst : Option Tmp) (v : AV) : Option (List AV) :=
  match dst with
  | none => some tm
  | some d => setF tm d v
def yieldA (ops : List Oper) (tm : List AV) (j : Nat) : Option Bool :=
  match ops[j]? with
  | some o => match o.dst with
    | some d => match tm[d]? with | some (.bool b) => some b | _ => none
    | none => none
  | none => none
/-- A temporary whose truth is known by now. -/
def litT (tm : List AV) (d : Tmp) (b : Bool) : List AV := match setF tm d (.bool b) with | some tm' => tm' | none => tm
def litA (ops : List Oper) (tm : List AV) (j : Nat) (b : Bool) : List AV :=
  match ops[j]? with
  | some o => match o.dst with | some d => litT tm d b | none => tm
  | none => tm
/-- The operations of a region in the order of the text; 'fs': which may do whatever they like. -/
def evOps (ops : List Oper) : List Oper → List Bool → List AV → Heap → (List AV → Heap → Option Res) → Option Res
  | [], _, tm, H, k => k tm H
  | o :: rest, fs, tm, H, k =>
    match o.guard with
    | none => evOp P ex Φ (fs.headD false) o.op (opA tm) H (fun v H' => match putA tm o.dst v with | some tm' => evOps ops rest fs.tail tm' H' k | none => none)
    | some (j, want) => match yieldA ops tm j with
      | some b => cond (cond want b (!b))
          (evOp P ex Φ (fs.headD false) o.op (opA (litA ops tm j want)) H (fun v H' => match putA (litA ops tm j want) o.dst v with | some tm' => evOps ops rest fs.tail tm' H' k | none => none))
          (match putA (litA ops tm j (!want)) o.dst (.tup []) with | some tm' => evOps ops rest fs.tail tm' H k | none => none)
      | none => match putA tm o.dst (.tup []) with | some tm' => evOps ops rest fs.tail tm' H k | none => none
theorem setF_same : ∀ {l : List AV} {i : Nat} {v : AV}, l[i]? = some v → setF l i v = some l
  | [], i, v, h => by simp at h
  | a :: r, 0, v, h => by simp at h; subst h; rfl
  | a :: r, i + 1, v, h => by simp at h; simp only [setF]; rw [setF_same h]
theorem litT_same {tm : List AV} {d : Tmp} {b : Bool} (h : tm[d]? = some (.bool b)) : litT tm d b = tm := by
  unfold litT; rw [setF_same h]
theorem litA_same {ops : List Oper} {tm : List AV} {j : Nat} {b : Bool} (h : yieldA ops tm j = some b) : litA ops tm j b = tm := by
  unfold yieldA at h
  unfold litA
  cases ho : ops[j]? with
  | none => rfl
  | some o =>
    rw [ho] at h
    simp only at h ⊢
    cases hd : o.dst with
    | none => rfl
    | some d =>
      rw [hd] at h
      simp only at h ⊢
      split at h
      · rename_i q hq; cases h; exact litT_same hq
      · cases h
end defs

section sound
variable {P : Program} {ex : Bool} {Φ : Env}

theorem opA_rel {μ : Nat → Option Nat} {tm : List AV} {a : Act} (h : VRels ex μ tm a.tmps.toList) (x : Operand) (u : AV) (e : opA tm x = some u) : VRel ex μ u (a.eval x) := by
  cases x with
  | tmp t =>
    simp only [opA, Option.some.injEq] at e; subst e
    have := h.getD t
    simpa [Act.eval] using this
  | const v => exact toAV_rel 4 v u e
  | func f => simp only [opA, Option.some.injEq] at e; subst e; simp only [VRel]; exact ⟨#[], #[], rfl, VRels.nil, VRels.nil⟩
  | global g => cases e

/-- What stands for an operation's operands. -/
def OpsRel (ex : Bool) (μ : Nat → Option Nat) (o : Go.Op) (ρ : Operand → Option AV) (a : Act) : Prop := ∀ x ∈ o.operands, ∀ u, ρ x = some u → VRel ex μ u (a.eval x)
def OpRo (P : Program) (ex : Bool) (o : Oper) (ρ : Operand → Option AV) (H : Heap) (v : AV) : Prop :=
  ∀ (μ : Nat → Option Nat) (a : Act) (w : World), OpsRel ex μ o.op ρ a → HRel ex μ H w → ∀ (K : Act → World → Prop) (Q : Exit → Act → World → Prop),
    (∀ v' w', VRel ex μ v v' → RowKit.Below w.heap.size w w' → K (a.put o.dst v') w') → o.wp P a w K Q
def mkV (m : Option (Nat × Nat)) (c : Nat) : Value := match m with | none => .pointer (some ⟨c, 0, none⟩) | some (l, k) => .slice (some ⟨c, 0, none⟩) l k
def mkA (m : Option (Nat × Nat)) (i : Nat) : AV := match m with | none => .ptr (some (i, 0)) | some (l, k) => .slice (some (i, 0)) l k
def OpNew (P : Program) (ex : Bool) (o : Oper) (ρ : Operand → Option AV) (b : Blk) (m : Option (Nat × Nat)) : Prop :=
  b.rw = true ∧ ∀ (μ : Nat → Option Nat) (a : Act) (w : World), OpsRel ex μ o.op ρ a →
    ∃ arr : Array Value, VRels ex μ b.cells arr.toList ∧ (execOp a.eval o).run P w = .ok (.value (mkV m w.heap.size)) (w.alloc (.cells arr b.ty))
def OpAny (P : Program) (ex : Bool) (o : Oper) (ρ : Operand → Option AV) (H : Heap) (v : AV) (H' : Heap) : Prop :=
  ∀ (μ : Nat → Option Nat) (a : Act) (w : World), OpsRel ex μ o.op ρ a → HRel ex μ H w → Dom μ H → ∀ (K : Act → World → Prop) (Q : Exit → Act → World → Prop),
    (∀ v' w' μ', VRel ex μ' v v' → Goes ex w H μ w' H' μ' → Dom μ' H' → K (a.put o.dst v') w') → o.wp P a w K Q
inductive OpDoes (P : Program) (ex : Bool) (full : Bool) (o : Oper) (ρ : Operand → Option AV) (H : Heap) : AV → Heap → Prop
  | ro {v : AV} (h : OpRo P ex o ρ H v) : OpDoes P ex full o ρ H v H
  | new {b : Blk} {m : Option (Nat × Nat)} (h : OpNew P ex o ρ b m) : OpDoes P ex full o ρ H (mkA m H.length) (H ++ [b])
  | any {v : AV} {H' : Heap} (hf : full = true) (h : OpAny P ex o ρ H v H') : OpDoes P ex full o ρ H v H'

theorem dom_upd {μ : Nat → Option Nat} {H : Heap} {b : Blk} {c : Nat} (h : Dom μ H) : Dom (upd μ H.length c) (H ++ [b]) := by
  intro i hi
  simp at hi
  unfold upd
  rw [if_neg (by omega)]
  exact h i (by omega)
theorem mk_rel {m : Option (Nat × Nat)} {μ : Nat → Option Nat} {n c : Nat} (h : μ n = some c) : VRel ex μ (mkA m n) (mkV m c) := by
  cases m with
  | none => simp only [mkA, mkV, VRel]; exact ⟨c, h, rfl⟩
  | some p => simp only [mkA, mkV, VRel]; exact ⟨c, h, rfl⟩
theorem upd_self (μ : Nat → Option Nat) (n c : Nat) : upd μ n c n = some c := by simp [upd]
theorem HRel.more {μ : Nat → Option Nat} {H H' : Heap} {w : World} (h : HRel ex μ H w) (hn : ∀ (i : Nat) (b : Blk) (c : Nat), H'[i]? = some b → μ i = some c → H[i]? = some b) : HRel ex μ H' w :=
  ⟨fun i b c hb hc => h.blk i b c (hn i b c hb hc) hc, h.inj, h.lt⟩
theorem OpDoes.toAny {full : Bool} {o : Oper} {ρ : Operand → Option AV} {H H' : Heap} {v : AV} (h : OpDoes P ex full o ρ H v H') : OpAny P ex o ρ H v H' := by
  cases h with
  | ro h =>
    intro μ a w ho hH hd K Q hK
    exact h μ a w ho hH K Q fun v' w' hv hb => hK v' w' μ hv (Goes.of_below hH hb) hd
  | @new b m h =>
    intro μ a w ho hH hd K Q hK
    obtain ⟨hrw, h⟩ := h
    obtain ⟨arr, hv, hrun⟩ := h μ a w ho
    unfold Oper.wp
    rw [hrun]
    have hn : μ H.length = none := hd _ (Nat.le_refl _)
    have hH' : HRel ex μ (H ++ [b]) w := hH.more fun i x c hx hc => by
      rw [List.getElem?_append_left (hd.lt hc)] at hx; exact hx
    have g := Goes.alloc hH' hn (b := b) (by simp) hv
    refine hK _ _ (upd μ H.length w.heap.size) (mk_rel (upd_self _ _ _)) ?_ (dom_upd hd)
    exact ⟨g.rel, g.mu, g.fresh, fun i x e => ⟨x, by rw [List.getElem?_append_left (List.getElem?_eq_some_iff.1 e).1]; exact e, rfl⟩, g.os, g.output, g.tape, g.size, fun c hc hx => g.keep c hc fun i x e hw hm => by
      have hi : i < H.length := hd.lt hm
      rw [List.getElem?_append_left hi] at e
      exact hx i x e hw hm⟩
  | any _ h => exact h

theorem ro_of_run {o : Oper} {ρ : Operand → Option AV} {H : Heap} {v : AV}
    (h : ∀ (μ : Nat → Option Nat) (a : Act) (w : World), OpsRel ex μ o.op ρ a → HRel ex μ H w → ∃ v' n, (execOp a.eval o).run P w = .ok (.value v') { w with drawn := w.drawn + n } ∧ VRel ex μ v v') : OpRo P ex o ρ H v := by
  intro μ a w ho hH K Q hK
  obtain ⟨v', n, hrun, hv⟩ := h μ a w ho hH
  unfold Oper.wp
  rw [hrun]
  exact hK v' _ hv (below_drawn w n)

theorem parts_rel {μ : Nat → Option Nat} {ρ : Operand → Option AV} {a : Act} : ∀ (l : List (Nat × Operand)) (ps : List (Nat × AV)), (∀ x ∈ l.map (·.2), ∀ u, ρ x = some u → VRel ex μ u (a.eval x)) → partsA ρ l = some ps →
    PRels ex μ ps (l.map fun p => (p.1, a.eval p.2))
  | [], ps, _, h => by simp only [partsA, Option.some.injEq] at h; subst h; simp only [PRels, List.map_nil]
  | (i, x) :: r, ps, ho, h => by
    simp only [partsA] at h
    split at h
    · rename_i v l hv hl
      cases h
      simp only [PRels, List.map_cons]
      exact ⟨_, _, rfl, ho x (by simp) v hv, parts_rel r l (fun y hy => ho y (by simp at hy ⊢; exact .inr hy)) hl⟩
    · cases h
theorem ops_rel {μ : Nat → Option Nat} {ρ : Operand → Option AV} {a : Act} : ∀ (l : List Operand) (ps : List AV), (∀ x ∈ l, ∀ u, ρ x = some u → VRel ex μ u (a.eval x)) → opsA ρ l = some ps →
    VRels ex μ ps (l.map a.eval)
  | [], ps, _, h => by simp only [opsA, Option.some.injEq] at h; subst h; exact VRels.nil
  | x :: r, ps, ho, h => by
    simp only [opsA] at h
    split at h
    · rename_i v l hv hl
      cases h
      exact VRels.cons (ho x (by simp) v hv) (ops_rel r l (fun y hy => ho y (by simp [hy])) hl)
    · cases h

theorem ix_rel {μ : Nat → Option Nat} {iv : AV} {n : Nat} {v : Value} (h : ixA iv = some n) (hv : VRel ex μ iv v) : ∃ k, v = .int k (n : Int) := by
  unfold ixA at h
  split at h
  · cases h; simp only [VRel] at hv; exact ⟨_, hv⟩
  · cases h
theorem bound_run {μ : Nat → Option Nat} {iv : AV} {n y : Nat} {v : Value} (w : World) (code : BoundsCode) (h : ixA iv = some n) (hv : VRel ex μ iv v) (hle : n ≤ y) : (Instr.sliceBound v y code).run P w = .ok n w := by
  obtain ⟨k, rfl⟩ := ix_rel h hv
  have : (n : Int) ≤ (y : Int) := by omega
  simp [Instr.sliceBound, asIntOf, this]
theorem opt_rel {μ : Nat → Option Nat} {ρ : Operand → Option AV} {a : Act} {x : Option Operand} {lo : Option AV} (ho : ∀ y, x = some y → ∀ u, ρ y = some u → VRel ex μ u (a.eval y)) (h : optA ρ x = some lo) :
    (lo = none ∧ x.map a.eval = none) ∨ ∃ u v, lo = some u ∧ x.map a.eval = some v ∧ VRel ex μ u v := by
  cases x with
  | none => simp only [optA, Option.some.injEq] at h; exact .inl ⟨h.symm, rfl⟩
  | some y =>
    simp only [optA] at h
    split at h
    · rename_i u hu
      cases h
      exact .inr ⟨u, a.eval y, rfl, rfl, ho y rfl u hu⟩
    · cases h
theorem bounds_run {μ : Nat → Option Nat} (w : World) (isS : Bool) {len cap l h m : Nat} {lo hi mx : Option AV} {vl vh vm : Option Value}
    (rl : (lo = none ∧ vl = none) ∨ ∃ u v, lo = some u ∧ vl = some v ∧ VRel ex μ u v) (rh : (hi = none ∧ vh = none) ∨ ∃ u v, hi = some u ∧ vh = some v ∧ VRel ex μ u v)
    (rm : (mx = none ∧ vm = none) ∨ ∃ u v, mx = some u ∧ vm = some v ∧ VRel ex μ u v) (e : boundsA len cap lo hi mx = some (l, h, m)) :
    (Instr.sliceBounds isS len cap vl vh vm).run P w = .ok (l, h, m) w := by
  unfold boundsA at e
  split at e
  · cases e
  · rename_i m' hm
    split at e
    · cases e
    · rename_i h' hh
      split at e
      · cases e
      · rename_i l' hl
        obtain ⟨hc, e⟩ := cond_some e rfl
        cases e
        simp only [Bool.and_eq_true, Nat.ble_eq] at hc
        obtain ⟨⟨⟨h1, h2⟩, h3⟩, h4⟩ := hc
        rcases rm with ⟨rfl, rfl⟩ | ⟨um, vm, rfl, rfl, rm⟩
        · simp only [Option.some.injEq] at hm; subst hm
          rcases rh with ⟨rfl, rfl⟩ | ⟨uh, vh, rfl, rfl, rh⟩
          · simp only [Option.some.injEq] at hh; subst hh
            rcases rl with ⟨rfl, rfl⟩ | ⟨ul, vl, rfl, rfl, rl⟩
            · simp only [Option.some.injEq] at hl; subst hl
              simp [Instr.sliceBounds]
            · simp [Instr.sliceBounds, bound_run w _ hl rl h1]
          · rcases rl with ⟨rfl, rfl⟩ | ⟨ul, vl, rfl, rfl, rl⟩
            · simp only [Option.some.injEq] at hl; subst hl
              simp [Instr.sliceBounds, bound_run w _ hh rh h2]
            · simp [Instr.sliceBounds, bound_run w _ hh rh h2, bound_run w _ hl rl h1]
        · rcases rh with ⟨rfl, rfl⟩ | ⟨uh, vh, rfl, rfl, rh⟩
          · simp at h4
          · rcases rl with ⟨rfl, rfl⟩ | ⟨ul, vl, rfl, rfl, rl⟩
            · simp only [Option.some.injEq] at hl; subst hl
              simp [Instr.sliceBounds, bound_run w _ hm rm h3, bound_run w _ hh rh h2]
            · simp [Instr.sliceBounds, bound_run w _ hm rm h3, bound_run w _ hh rh h2, bound_run w _ hl rl h1]
end sound
end Go.Sim
