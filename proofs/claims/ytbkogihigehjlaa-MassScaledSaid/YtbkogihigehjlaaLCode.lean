/- The operations of a region: what each yields, and that the model does the same. -/
import Derived.Test.YtbkogihigehjlaaLFrz
namespace Go.Lst
abbrev RM := Option (Ob × AV × Heap × HV)
/-- What is known of callees: those without a body; those that only read (of values as they lie in still memory: what they yield, and what is new); those that are walked into. -/
structure EnvM where
  X : FuncId → Option (List AV → Option (Ob × AV))
  S : FuncId → Option (List AV → Option (Ob × AV × Heap))
  W : FuncId → Option (List AV → Heap → RM)
structure EnvM.Ok (P : Program) (ex : Bool) (M : EnvM) : Prop where
  x : ∀ f F, M.X f = some F → ∀ args o r, F args = some (o, r) → o.ok = true → ∀ (μ : Mu) (vs : List Value) (w : World), VRels ex μ args vs →
    ∃ v n, (callFunc f vs.toArray).run P w = .ok (.value v) { w with drawn := w.drawn + n } ∧ VRel ex μ r v
  sc : ∀ f F, M.S f = some F → ∀ (args : Array Value) (w : World), (callFunc f args).run P w = .ok (.enter f args) w
  s : ∀ f F, M.S f = some F → ∀ args o v G, F args = some (o, v, G) → o.ok = true → Sim P ex f args [] v G
  wc : ∀ f F, M.W f = some F → ∀ (args : Array Value) (w : World), (callFunc f args).run P w = .ok (.enter f args) w
  w : ∀ f F, M.W f = some F → ∀ args H o v H' d, F args H = some (o, v, H', d) → o.ok = true → Sim P ex f args H v H'
  inv : ∀ f F, M.W f = some F → ∀ args H o v H' d, F args H = some (o, v, H', d) → HInv H [] H' d
/-- How deep lists of lists are looked into. -/
def deep : Nat := 6

section defs
variable (P : Program) (ex : Bool) (M : EnvM)

def opA (tm : List AV) : Operand → Option AV
  | .tmp t => some (tm.getD t (.tup []))
  | .const v => toAV 4 v
  | .func f => some (.func f [] [])
  | .global _ => none

def biA (b : Builtin) (ts : Array TypeId) (args : List AV) : Option AV :=
  match b, args with
  | .complex, [.float a, .float b] => some (.complex a b)
  | .real, [.complex a _] => some (.float a)
  | .imag, [.complex _ b] => some (.float b)
  | .len, [.slice _ n _] => match ts[0]? with
    | some t => match P.underlying t with | some (.slice _) => some (.int .i64 n) | _ => none
    | none => none
  | .len, [.lst _ _ _ n _] => match ts[0]? with
    | some t => match P.underlying t with | some (.slice _) => some (.int .i64 n) | _ => none
    | none => none
  | .len, [.view n _ _] => match ts[0]? with
    | some t => match P.underlying t with | some (.slice _) => some (.int .i64 n) | _ => none
    | none => none
  | .len, [.nul] => match ts[0]? with
    | some t => match P.underlying t with | some (.slice _) => some (.int .i64 0) | _ => none
    | none => none
  | .len, [.agg _] => match ts[0]? with
    | some t => match P.underlying t with | some (.array n _) => some (.int .i64 n) | _ => none
    | none => none
  | .max, [.int k x, .int _ y] => some (.int k (if y > x then y else x))
  | .min, [.int k x, .int _ y] => some (.int k (if y < x then y else x))
  | _, _ => none
/-- The method of a type, where it is declared for the type itself, by value. -/
def methA (t : TypeId) (m : String) : Option FuncId :=
  match P.info? t, P.underlying t with
  | some _, some (.pointer _) => none
  | some i, some _ => match i.methods.find? (fun x => x.name == m) with
    | some r => match r.path.toList, r.func with
      | [], some (f, false) => some f
      | _, _ => none
    | none => none
  | _, _ => none
def evCallM (full : Bool) (H : Heap) (hv : HV) (f : FuncId) (args : List AV) : RM :=
  match M.X f with
  | some F => match F args with | some (g, v) => some (g, v, H, hv) | none => none
  | none => match (match M.S f with | some F => F (args.map (freezeN deep true H)) | none => none) with
    | some (g, v, G) => cond v.flat (some (Ob.both (args.foldr (fun a o => Ob.both (freezeOb deep H a) o) .tt) g, v, H, hv))
      (some (Ob.both (args.foldr (fun a o => Ob.both (freezeOb deep H a) o) .tt) g, shiftA H.length v, H ++ shiftH H.length G, hv))
    | none => match M.W f with
      | some F => cond full (match F args H with | some (g, v, H', d) => some (g, v, H', sumH hv d) | none => none) none
      | none => none
/-- A call of what only reads, and yields nothing that leads into memory. -/
def evPureM (H : Heap) (f : FuncId) (args : List AV) : Option (Ob × AV) :=
  match M.X f with
  | some F => F args
  | none => match (match M.S f with | some F => F (args.map (freezeN deep true H)) | none => none) with
    | some (g, v, _) => cond v.flat (some (Ob.both (args.foldr (fun a o => Ob.both (freezeOb deep H a) o) .tt) g, v)) none
    | none => none
def isNilI : AV → Bool
  | .nilIface => true
  | _ => false
/-- The one or the other; of nil there is no method. -/
def altJ (q nx ny : Bool) (X Y : Option (Ob × AV)) : Option (Ob × AV) :=
  cond ny (match X with | some (o, v) => some (.ite q o (.bit false), v) | none => none)
    (cond nx (match Y with | some (o, v) => some (.ite q (.bit false) o, v) | none => none)
      (match X, Y with | some (o, v), some (o', v') => some (.ite q o o', mergeAV q v v') | _, _ => none))
/-- A method of what may be of several kinds. -/
def evAltM (H : Heap) (m : String) (args : List AV) : AV → Option (Ob × AV)
  | .iface t u => match methA P t m with
    | some g => evPureM M H g (u :: args)
    | none => none
  | .alt q x y => altJ q (isNilI x) (isNilI y) (evAltM H m args x) (evAltM H m args y)
  | _ => none
def mkA (m : Option (Nat × Nat × Nat)) (i : Nat) : AV := match m with | none => .ptr (some ⟨i, 0, .lit 0⟩) | some (s, l, k) => .lst i 0 s l k
/-- The cells of a block that a store changes: first version, how many. -/
def wideS (H : Heap) (p : Pos) (n : Nat) : Nat × Nat :=
  match H[p.b]? with
  | some b => match b.cells with
    | .flat _ => match p.o with | .idx _ z k m => (k + 1, m * z + n) | _ => (p.o.val + 1, n)
    | .sym .. => (1, 1)
  | none => (0, 0)
def evOpM (full : Bool) (o : Go.Op) (ρ : Operand → Option AV) (H : Heap) (hv : HV) : RM :=
  match o with
  | .pick c x y => match ρ c, ρ x, ρ y with
    | some (.bool q), some u, some v => some (.tt, mergeAV q u v, H, hv)
    | _, _, _ => none
  | .call c => match c.callee with
    | .value f => match ρ f, opsA ρ c.args.toList with
      | some (.func g first cap), some args => evCallM M full H hv g (first ++ args ++ cap)
      | _, _ => none
    | .builtin .append => match opsA ρ c.args.toList, c.argTypes.toList with
      | some [s, x], [t, u] => cond (full && Nat.beq t u) (appA P t H hv s x) none
      | _, _ => none
    | .builtin b => match opsA ρ c.args.toList with
      | some args => match maxF b args with
        | some m => cond ex none (some (.tt, .float m, H, hv))
        | none => match biA P b c.argTypes args with | some v => some (.tt, v, H, hv) | none => none
      | none => none
    | .invoke x m => match ρ x, opsA ρ c.args.toList with
      | some (.iface t u), some args => match methA P t m with
        | some g => evCallM M full H hv g (u :: args)
        | none => none
      | some (.alt q a b), some args => match evAltM P M H m args (.alt q a b) with
        | some (o, v) => some (o, v, H, hv)
        | none => none
      | _, _ => none
  | .store t x y => match ρ x, ρ y with
    | some (.ptr (some p)), some v => match v.cells, storeA P H t p v with
      | some cs, some (ob, H') => cond full (some (ob, .tup [], H', bumpH hv p.b (wideS H p cs.length).1 (wideS H p cs.length).2)) none
      | _, _ => none
    | _, _ => none
  | op => match stepOp P ex op ρ H with
    | some (ob, .ro v) => some (ob, v, H, hv)
    | some (ob, .new b m) => some (ob, mkA m H.length, H ++ [b], hv)
    | some (_, .wr _) => none
    | none => none
def setF : List AV → Nat → AV → Option (List AV)
  | [], _, _ => none
  | _ :: r, 0, v => some (v :: r)
  | a :: r, i + 1, v => match setF r i v with | some r' => some (a :: r') | none => none
def putA (tm : List AV) (dst : Option Tmp) (v : AV) : Option (List AV) :=
  match dst with
  | none => some tm
  | some d => setF tm d v
def yieldA (ops : List Oper) (tm : List AV) (j : Nat) : Option Bool :=
  match ops[j]? with
  | some o => match o.dst with
    | some d => match tm[d]? with | some (.bool b) => some b | _ => none
    | none => none
  | none => none
/-- A temporary whose truth is known by now. -/
def litT (tm : List AV) (d : Tmp) (b : Bool) : List AV := match setF tm d (.bool b) with | some tm' => tm' | none => tm
def litA (ops : List Oper) (tm : List AV) (j : Nat) (b : Bool) : List AV :=
  match ops[j]? with
  | some o => match o.dst with | some d => litT tm d b | none => tm
  | none => tm
theorem setF_same : ∀ {l : List AV} {i : Nat} {v : AV}, l[i]? = some v → setF l i v = some l
  | [], i, v, h => by simp at h
  | a :: r, 0, v, h => by simp at h; subst h; rfl
  | a :: r, i + 1, v, h => by simp at h; simp only [setF]; rw [setF_same h]
theorem litT_same {tm : List AV} {d : Tmp} {b : Bool} (h : tm[d]? = some (.bool b)) : litT tm d b = tm := by
  unfold litT; rw [setF_same h]
theorem litA_same {ops : List Oper} {tm : List AV} {j : Nat} {b : Bool} (h : yieldA ops tm j = some b) : litA ops tm j b = tm := by
  unfold yieldA at h
  unfold litA
  cases ho : ops[j]? with
  | none => rfl
  | some o =>
    rw [ho] at h
    simp only at h ⊢
    cases hd : o.dst with
    | none => rfl
    | some d =>
      rw [hd] at h
      simp only at h ⊢
      split at h
      · rename_i q hq; cases h; exact litT_same hq
      · cases h
end defs


section sound
variable {P : Program} {ex : Bool} {M : EnvM}
theorem opA_rel {μ : Mu} {tm : List AV} {a : Act} (h : VRels ex μ tm a.tmps.toList) (x : Operand) (u : AV) (e : opA tm x = some u) : VRel ex μ u (a.eval x) := by
  cases x with
  | tmp t =>
    simp only [opA, Option.some.injEq] at e; subst e
    have := h.getD t
    simpa [Act.eval] using this
  | const v => exact toAV_rel 4 v u e
  | func f => simp only [opA, Option.some.injEq] at e; subst e; simp only [VRel]; exact ⟨#[], #[], rfl, VRels.nil, VRels.nil⟩
  | global g => cases e

/-- What stands for an operation's operands. -/
def OpsRel (ex : Bool) (μ : Mu) (o : Go.Op) (ρ : Operand → Option AV) (a : Act) : Prop := ∀ x ∈ o.operands, ∀ u, ρ x = some u → VRel ex μ u (a.eval x)
def OpRo (P : Program) (ex : Bool) (o : Oper) (ρ : Operand → Option AV) (H : Heap) (v : AV) : Prop :=
  ∀ (μ : Mu) (a : Act) (w : World), OpsRel ex μ o.op ρ a → HRel ex μ H w → ∀ (K : Act → World → Prop) (Q : Exit → Act → World → Prop),
    (∀ v' w', VRel ex μ v v' → RowKit.Below w.heap.size w w' → K (a.put o.dst v') w') → o.wp P a w K Q
def mkV (m : Option (Nat × Nat × Nat)) (c : Nat) : Value := match m with | none => .pointer (some ⟨c, 0, none⟩) | some (_, l, k) => .slice (some ⟨c, 0, none⟩) l k
def mFit (m : Option (Nat × Nat × Nat)) (z : Nat) : Prop := match m with | none => True | some (s, l, k) => l ≤ k ∧ k ≤ maxN ∧ k * s = z
def OpNew (P : Program) (ex : Bool) (o : Oper) (ρ : Operand → Option AV) (b : Blk) (m : Option (Nat × Nat × Nat)) : Prop :=
  b.g = 0 ∧ ∀ (μ : Mu) (a : Act) (w : World), OpsRel ex μ o.op ρ a →
    ∃ arr : Array Value, CRel ex μ b.cells arr.toList ∧ mFit m arr.size ∧ (execOp a.eval o).run P w = .ok (.value (mkV m w.heap.size)) (w.alloc (.cells arr b.ty))
def OpAny (P : Program) (ex : Bool) (o : Oper) (ρ : Operand → Option AV) (H : Heap) (v : AV) (H' : Heap) : Prop :=
  ∀ (μ : Mu) (a : Act) (w : World), OpsRel ex μ o.op ρ a → HRel ex μ H w → Dom μ H → ∀ (K : Act → World → Prop) (Q : Exit → Act → World → Prop),
    (∀ v' w' μ', VRel ex μ' v v' → Goes ex w H μ w' H' μ' → Dom μ' H' → K (a.put o.dst v') w') → o.wp P a w K Q
/-- A call that yields a value and blocks of its own (numbered from nought); what was there stays. -/
def OpNews (P : Program) (ex : Bool) (o : Oper) (ρ : Operand → Option AV) (H : Heap) (v : AV) (G : Heap) : Prop :=
  (∃ c, o.op = .call c) ∧ ∀ (μ : Mu) (a : Act) (w : World), OpsRel ex μ o.op ρ a → HRel ex μ H w → ∀ (K : Act → World → Prop) (Q : Exit → Act → World → Prop),
    (∀ v' w' μ', VRel ex μ' v v' → Goes ex w [] (still w) w' G μ' → Dom μ' G → K (a.put o.dst v') w') → o.wp P a w K Q
inductive OpDoes (P : Program) (ex : Bool) (full : Bool) (o : Oper) (ρ : Operand → Option AV) (H : Heap) : AV → Heap → Prop
  | ro {v : AV} (h : OpRo P ex o ρ H v) : OpDoes P ex full o ρ H v H
  | new {b : Blk} {m : Option (Nat × Nat × Nat)} (h : OpNew P ex o ρ b m) : OpDoes P ex full o ρ H (mkA m H.length) (H ++ [b])
  | news {v : AV} {G : Heap} (h : OpNews P ex o ρ H v G) : OpDoes P ex full o ρ H (shiftA H.length v) (H ++ shiftH H.length G)
  | any {v : AV} {H' : Heap} (hf : full = true) (h : OpAny P ex o ρ H v H') : OpDoes P ex full o ρ H v H'
theorem mk_rel {m : Option (Nat × Nat × Nat)} {μ : Mu} {n c z : Nat} (h : μ.pl n 0 = some (c, z)) (hf : mFit m z) : VRel ex μ (mkA m n) (mkV m c) := by
  cases m with
  | none => simp only [mkA, mkV, VRel]; exact ⟨c, z, h, rfl⟩
  | some p =>
    obtain ⟨s, l, k⟩ := p
    simp only [mkA, mkV, VRel]
    exact ⟨_, k, rfl, hf.1, Nat.le_refl _, hf.2.1, .inr ⟨c, z, h, rfl, hf.2.2⟩⟩
theorem new_place {w : World} {H H' : Heap} {μ : Mu} {i : Nat} {b : Blk} (hH : HRel ex μ H w) (hd : Dom μ H') (hle : HLe H H') (hdH : Dom μ H) (hb : H'[i]? = some b) (_hg : b.g = 0) (hn : ∀ g, μ.pl i g = none) {arr : Array Value} (hv : CRel ex μ b.cells arr.toList) :
    Goes ex w H' μ (w.alloc (.cells arr b.ty)) H' (upd μ i b.g (w.heap.size, arr.size)) ∧ Dom (upd μ i b.g (w.heap.size, arr.size)) H' := by
  have hi : i < H'.length := (List.getElem?_eq_some_iff.1 hb).1
  exact Goes.place (hH.le hdH hle) hd hb (Nat.le_refl _) (by omega) (fun _ _ => rfl) (fun g _ => hn g) rfl rfl hv
theorem OpDoes.toAny {full : Bool} {o : Oper} {ρ : Operand → Option AV} {H H' : Heap} {v : AV} (h : OpDoes P ex full o ρ H v H') : OpAny P ex o ρ H v H' := by
  cases h with
  | ro h =>
    intro μ a w ho hH hd K Q hK
    exact h μ a w ho hH K Q fun v' w' hv hb => hK v' w' μ hv (Goes.of_below hH hb) hd
  | @new b m h =>
    intro μ a w ho hH hd K Q hK
    obtain ⟨hg, h⟩ := h
    obtain ⟨arr, hv, hf, hrun⟩ := h μ a w ho
    unfold Oper.wp
    rw [hrun]
    have hle : HLe H (H ++ [b]) := fun i x e => by rw [List.getElem?_append_left (List.getElem?_eq_some_iff.1 e).1]; exact e
    obtain ⟨g1, g2⟩ := new_place (i := H.length) (b := b) hH (hd.le hle) hle hd (by simp) hg (fun g => hd.out _ g (Nat.le_refl _)) hv
    have g0 : Goes ex w H μ w (H ++ [b]) μ := (Goes.refl hH).more hd hle
    rw [hg] at g1 g2
    exact hK _ _ _ (mk_rel (upd_self μ H.length 0 (w.heap.size, arr.size)) hf) (g0.trans g1) g2
  | @news v G h =>
    intro μ a w ho hH hd K Q hK
    refine h.2 μ a w ho hH K Q fun v' w' μ' hv hg hd' => ?_
    have hle : HLe H (H ++ shiftH H.length G) := fun i x e => by rw [List.getElem?_append_left (List.getElem?_eq_some_iff.1 e).1]; exact e
    obtain ⟨μ2, g2, d2, r2, _⟩ := news_place (B := H.length) (hH.le hd hle) (hd.le hle) (fun k b hb => by
      rw [List.getElem?_append_right (by omega), Nat.add_sub_cancel_left]; exact shiftH_get hb) (fun k g _ => hd.out _ g (by omega)) hg hd' hv
    exact hK v' w' μ2 r2 (((Goes.refl hH).more hd hle).trans g2) d2
  | any _ h => exact h
theorem ro_of_run {o : Oper} {ρ : Operand → Option AV} {H : Heap} {v : AV}
    (h : ∀ (μ : Mu) (a : Act) (w : World), OpsRel ex μ o.op ρ a → HRel ex μ H w → ∃ v' n, (execOp a.eval o).run P w = .ok (.value v') { w with drawn := w.drawn + n } ∧ VRel ex μ v v') : OpRo P ex o ρ H v := by
  intro μ a w ho hH K Q hK
  obtain ⟨v', n, hrun, hv⟩ := h μ a w ho hH
  unfold Oper.wp
  rw [hrun]
  exact hK v' _ hv (below_drawn w n)

theorem parts_rel {μ : Mu} {ρ : Operand → Option AV} {a : Act} : ∀ (l : List (Nat × Operand)) (ps : List (Nat × AV)), (∀ x ∈ l.map (·.2), ∀ u, ρ x = some u → VRel ex μ u (a.eval x)) → partsA ρ l = some ps →
    PRels ex μ ps (l.map fun p => (p.1, a.eval p.2))
  | [], ps, _, h => by simp only [partsA, Option.some.injEq] at h; subst h; simp only [PRels, List.map_nil]
  | (i, x) :: r, ps, ho, h => by
    simp only [partsA] at h
    split at h
    · rename_i v l hv hl
      cases h
      simp only [PRels, List.map_cons]
      exact ⟨_, _, rfl, ho x (by simp) v hv, parts_rel r l (fun y hy => ho y (by simp at hy ⊢; exact .inr hy)) hl⟩
    · cases h
theorem ops_rel {μ : Mu} {ρ : Operand → Option AV} {a : Act} : ∀ (l : List Operand) (ps : List AV), (∀ x ∈ l, ∀ u, ρ x = some u → VRel ex μ u (a.eval x)) → opsA ρ l = some ps →
    VRels ex μ ps (l.map a.eval)
  | [], ps, _, h => by simp only [opsA, Option.some.injEq] at h; subst h; exact VRels.nil
  | x :: r, ps, ho, h => by
    simp only [opsA] at h
    split at h
    · rename_i v l hv hl
      cases h
      exact VRels.cons (ho x (by simp) v hv) (ops_rel r l (fun y hy => ho y (by simp [hy])) hl)
    · cases h


theorem ix_rel {μ : Mu} {iv : AV} {ob : Ob} {n : Nat} {v : Value} (h : ixA iv = some (ob, n)) (hok : ob.ok = true) (hv : VRel ex μ iv v) : ∃ k, v = .int k (n : Int) := by
  unfold ixA at h
  split at h
  · rename_i k x
    cases h
    simp only [VRel] at hv
    have h0 : 0 ≤ x := by simpa [Ob.ok, ile] using hok
    exact ⟨k, by rw [hv, Int.toNat_of_nonneg h0]⟩
  · cases h
theorem lit_rel {μ : Mu} {iv : AV} {n : Nat} {v : Value} (h : numA iv = some n) (hv : VRel ex μ iv v) : ∃ k, v = .int k (n : Int) := by
  unfold numA at h
  split at h
  · cases h; simp only [VRel] at hv; exact ⟨_, hv⟩
  · cases h
theorem bound_at {k : IntKind} {n y : Nat} (w : World) (code : BoundsCode) (hle : n ≤ y) : (Instr.sliceBound (.int k (n : Int)) y code).run P w = .ok n w := by
  have : (n : Int) ≤ (y : Int) := by omega
  simp [Instr.sliceBound, asIntOf, this]
theorem opt_rel {μ : Mu} {ρ : Operand → Option AV} {a : Act} {x : Option Operand} {lo : Option AV} (ho : ∀ y, x = some y → ∀ u, ρ y = some u → VRel ex μ u (a.eval y)) (h : optA ρ x = some lo) :
    (lo = none ∧ x.map a.eval = none) ∨ ∃ u v, lo = some u ∧ x.map a.eval = some v ∧ VRel ex μ u v := by
  cases x with
  | none => simp only [optA, Option.some.injEq] at h; exact .inl ⟨h.symm, rfl⟩
  | some y =>
    simp only [optA] at h
    split at h
    · rename_i u hu
      cases h
      exact .inr ⟨u, a.eval y, rfl, rfl, ho y rfl u hu⟩
    · cases h
theorem bound_run {μ : Mu} {iv : AV} {n y : Nat} {v : Value} (w : World) (code : BoundsCode) (h : numA iv = some n) (hv : VRel ex μ iv v) (hle : n ≤ y) : (Instr.sliceBound v y code).run P w = .ok n w := by
  obtain ⟨k, rfl⟩ := lit_rel h hv
  exact bound_at w code hle
theorem bounds_run {μ : Mu} (w : World) (isS : Bool) {len cap l h m : Nat} {lo hi mx : Option AV} {vl vh vm : Option Value}
    (rl : (lo = none ∧ vl = none) ∨ ∃ u v, lo = some u ∧ vl = some v ∧ VRel ex μ u v) (rh : (hi = none ∧ vh = none) ∨ ∃ u v, hi = some u ∧ vh = some v ∧ VRel ex μ u v)
    (rm : (mx = none ∧ vm = none) ∨ ∃ u v, mx = some u ∧ vm = some v ∧ VRel ex μ u v) (e : boundsA len cap lo hi mx = some (l, h, m)) :
    (Instr.sliceBounds isS len cap vl vh vm).run P w = .ok (l, h, m) w := by
  unfold boundsA at e
  split at e
  · cases e
  · rename_i m' hm
    split at e
    · cases e
    · rename_i h' hh
      split at e
      · cases e
      · rename_i l' hl
        obtain ⟨hc, e⟩ := cond_some e rfl
        cases e
        simp only [Bool.and_eq_true, Nat.ble_eq] at hc
        obtain ⟨⟨⟨h1, h2⟩, h3⟩, h4⟩ := hc
        rcases rm with ⟨rfl, rfl⟩ | ⟨um, vm, rfl, rfl, rm⟩
        · simp only [Option.some.injEq] at hm; subst hm
          rcases rh with ⟨rfl, rfl⟩ | ⟨uh, vh, rfl, rfl, rh⟩
          · simp only [Option.some.injEq] at hh; subst hh
            rcases rl with ⟨rfl, rfl⟩ | ⟨ul, vl, rfl, rfl, rl⟩
            · simp only [Option.some.injEq] at hl; subst hl
              simp [Instr.sliceBounds]
            · simp [Instr.sliceBounds, bound_run w _ hl rl h1]
          · rcases rl with ⟨rfl, rfl⟩ | ⟨ul, vl, rfl, rfl, rl⟩
            · simp only [Option.some.injEq] at hl; subst hl
              simp [Instr.sliceBounds, bound_run w _ hh rh h2]
            · simp [Instr.sliceBounds, bound_run w _ hh rh h2, bound_run w _ hl rl h1]
        · rcases rh with ⟨rfl, rfl⟩ | ⟨uh, vh, rfl, rfl, rh⟩
          · simp at h4
          · rcases rl with ⟨rfl, rfl⟩ | ⟨ul, vl, rfl, rfl, rl⟩
            · simp only [Option.some.injEq] at hl; subst hl
              simp [Instr.sliceBounds, bound_run w _ hm rm h3, bound_run w _ hh rh h2]
            · simp [Instr.sliceBounds, bound_run w _ hm rm h3, bound_run w _ hh rh h2, bound_run w _ hl rl h1]
end sound
end Go.Lst
