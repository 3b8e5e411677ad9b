/- A region: in the order of the text, or in whatever order the edges allow. -/
import Derived.Orders
import Derived.Test.YtbkogihigehjlaaLNew
namespace Go.Lst

section defs
/-- Bit j of word i: operation j comes before operation i. -/
def combA (C : List Nat) (o : Oper) : Nat :=
  o.after.toList.foldr (fun e m => cond (Region.binds .any e) (m ||| (1 <<< e.on) ||| C.getD e.on 0) m) 0
def cloA : List Oper → List Nat → List Nat
  | [], C => C
  | o :: r, C => cloA r (C ++ [combA C o])
def allFrom {α : Type} (p : Nat → α → Bool) : Nat → List α → Bool
  | _, [] => true
  | i, a :: r => p i a && allFrom p (i + 1) r
def tmpsOf : List Operand → List Tmp
  | [] => []
  | .tmp t :: r => t :: tmpsOf r
  | _ :: r => tmpsOf r
def memN (t : Nat) : List Nat → Bool
  | [] => false
  | u :: r => Nat.beq t u || memN t r
def linked (C : List Nat) (i j : Nat) : Bool := (C.getD i 0).testBit j || (C.getD j 0).testBit i
/-- Whoever writes what i looks at is ordered against i; no two write one temporary. -/
def pairOk (C : List Nat) (i : Nat) (oi : Oper) (j : Nat) (oj : Oper) : Bool :=
  Nat.beq i j ||
  (match oj.dst with
   | none => true
   | some d => (match oi.dst with | some d' => !Nat.beq d d' | none => true) && (!memN d (tmpsOf oi.op.operands.toList) || linked C i j))
def selfOk (oi : Oper) : Bool :=
  match oi.dst with
  | some d => !memN d (tmpsOf oi.op.operands.toList)
  | none => true
def guardOk (C : List Nat) (i : Nat) (oi : Oper) : Bool :=
  match oi.guard with
  | none => true
  | some (g, _) => (C.getD i 0).testBit g
def drawOk (ops : List Oper) (C : List Nat) : Bool :=
  allFrom (fun i oi => Nat.beq (C.getD i 0) (combA C oi) && Nat.blt (C.getD i 0) (2 ^ i) && guardOk C i oi && selfOk oi && allFrom (fun j oj => pairOk C i oi j oj) 0 ops) 0 ops
/-- It looks at no memory and changes none, and is always carried out. -/
def quietO (o : Oper) : Bool :=
  match o.guard, o.op with
  | none, .move _ => true
  | none, .assign _ => true
  | none, .extract _ _ => true
  | none, .fieldAddr _ _ _ => true
  | none, .build _ _ => true
  | none, .indexAddr _ _ _ => true
  | none, .field _ _ _ => true
  | none, .nilCheck _ => true
  | none, .binOp _ _ _ _ _ => true
  | none, .unOp _ _ _ => true
  | none, .convert _ _ _ => true
  | _, _ => false
/-- It loads, and is always carried out. -/
def loadO (o : Oper) : Bool :=
  match o.guard, o.op with
  | none, .load _ _ => true
  | _, _ => false
def calmO (o : Oper) : Bool := quietO o || loadO o
def storeO (o : Oper) : Bool :=
  match o.op with
  | .store _ _ _ => true
  | _ => false
/-- The block of our own that a load looks at. -/
def readsA (ρ : Operand → Option AV) : Go.Op → Option Nat
  | .load _ x => match ρ x with
    | some (.ptr (some p)) => some p.b
    | _ => none
  | _ => none
/-- Operation i has all others ahead of it or behind it, but for those of Q. -/
def allBut (Q : List Bool) (C : List Nat) (i : Nat) : Bool := allFrom (fun j q => Nat.beq i j || (linked C i j || q)) 0 Q
/-- Which operations may change memory: not calm; all but quiet ones linked, for a store all but calm ones. -/
def fullsA (ops : List Oper) (C : List Nat) : Nat → List Oper → List Bool
  | _, [] => []
  | i, o :: r => (!(calmO o) && (allBut (ops.map quietO) C i || (storeO o && allBut (ops.map calmO) C i))) :: fullsA ops C (i + 1) r
/-- Is there no store that stands beside loads? -/
def plainF (ops : List Oper) (C : List Nat) : Bool := allFrom (fun i o => !(storeO o) || (allBut (ops.map quietO) C i || !(allBut (ops.map calmO) C i))) 0 ops
def writesA (ρ : Operand → Option AV) : Go.Op → Option Nat
  | .store _ x _ => match ρ x with
    | some (.ptr (some p)) => some p.b
    | _ => none
  | _ => none
def apart1 : Option Nat → Option Nat → Bool
  | _, none => true
  | some b, some c => !Nat.beq b c
  | none, some _ => false
/-- No load looks at what a store writes that it is not ordered against. -/
def apartB (ops : List Oper) (C : List Nat) (fs : List (Option Nat × Option Nat)) : Bool :=
  allFrom (fun q o => !(storeO o) || allFrom (fun j fj => Nat.beq q j || (linked C q j || apart1 (fs.getD q (none, none)).2 fj.1)) 0 fs) 0 ops
end defs

theorem allFrom_get {α : Type} {p : Nat → α → Bool} : ∀ {l : List α} {i : Nat}, allFrom p i l = true → ∀ {k : Nat} {a : α}, l[k]? = some a → p (i + k) a = true
  | [], _, _, k, a, e => by simp at e
  | b :: r, i, h, k, a, e => by
    simp only [allFrom, Bool.and_eq_true] at h
    cases k with
    | zero => simp at e; subst e; exact h.1
    | succ k => simp at e; have := allFrom_get h.2 e; rw [show i + 1 + k = i + (k + 1) by omega] at this; exact this
theorem memN_of {t : Nat} : ∀ {l : List Nat}, t ∈ l → memN t l = true
  | [], h => by simp at h
  | u :: r, h => by
    simp only [memN, Bool.or_eq_true]
    rcases List.mem_cons.1 h with rfl | h
    · exact .inl (Nat.beq_refl t)
    · exact .inr (memN_of h)
theorem tmpsOf_of {t : Tmp} : ∀ {l : List Operand}, Operand.tmp t ∈ l → t ∈ tmpsOf l
  | [], h => by simp at h
  | x :: r, h => by
    rcases List.mem_cons.1 h with rfl | h
    · simp [tmpsOf]
    · have := tmpsOf_of h
      cases x <;> simp [tmpsOf, this]
theorem combA_bit {C : List Nat} : ∀ (l : List Edge) (j : Nat), (l.foldr (fun e m => cond (Region.binds .any e) (m ||| (1 <<< e.on) ||| C.getD e.on 0) m) 0).testBit j = true →
    ∃ e ∈ l, Region.binds .any e = true ∧ (e.on = j ∨ (C.getD e.on 0).testBit j = true)
  | [], j, h => by simp at h
  | e :: l, j, h => by
    simp only [List.foldr_cons] at h
    cases hb : Region.binds .any e
    · rw [hb] at h
      obtain ⟨e', h1, h2⟩ := combA_bit l j h
      exact ⟨e', by simp [h1], h2⟩
    · rw [hb] at h
      simp only [cond_true, Nat.testBit_or, Bool.or_eq_true] at h
      rcases h with (h | h) | h
      · obtain ⟨e', h1, h2⟩ := combA_bit l j h
        exact ⟨e', by simp [h1], h2⟩
      · refine ⟨e, by simp, hb, .inl ?_⟩
        rw [Nat.testBit_shiftLeft] at h
        simp only [Bool.and_eq_true, decide_eq_true_eq] at h
        have h3 := h.2
        rcases Nat.lt_or_ge e.on j with hl | hl
        · rw [Nat.testBit_lt_two_pow (by have := Nat.one_lt_two_pow (n := j - e.on) (by omega); omega)] at h3
          cases h3
        · omega
      · exact ⟨e, by simp, hb, .inr h⟩
theorem combA_has {C : List Nat} : ∀ (l : List Edge) (e : Edge), e ∈ l → Region.binds .any e = true → (l.foldr (fun e m => cond (Region.binds .any e) (m ||| (1 <<< e.on) ||| C.getD e.on 0) m) 0).testBit e.on = true
  | [], e, h, _ => by simp at h
  | x :: l, e, h, hb => by
    simp only [List.foldr_cons]
    rcases List.mem_cons.1 h with rfl | h
    · rw [hb]
      simp only [cond_true, Nat.testBit_or, Bool.or_eq_true]
      refine .inl (.inr ?_)
      rw [Nat.testBit_shiftLeft]
      simp
    · have := combA_has (C := C) l e h hb
      cases Region.binds .any x
      · exact this
      · simp only [cond_true, Nat.testBit_or, Bool.or_eq_true]
        exact .inl (.inl this)

/-- The orders of a region, as facts. -/
structure Draws (l : List Oper) (C : Nat → Nat → Prop) (full : Nat → Bool) : Prop where
  edge : ∀ (i : Nat) (o : Oper) (e : Edge), l[i]? = some o → e ∈ o.after.toList → Region.binds .any e = true → C i e.on
  clo : ∀ (i : Nat) (o : Oper) (j : Nat), l[i]? = some o → C i j → ∃ e ∈ o.after.toList, Region.binds .any e = true ∧ (e.on = j ∨ C e.on j)
  lt : ∀ (i : Nat) (o : Oper) (j : Nat), l[i]? = some o → C i j → j < i
  guard : ∀ (i : Nat) (o : Oper) (g : Nat) (b : Bool), l[i]? = some o → o.guard = some (g, b) → C i g
  dst : ∀ (i j : Nat) (oi oj : Oper) (d : Tmp), l[i]? = some oi → l[j]? = some oj → oi.dst = some d → oj.dst = some d → i = j
  op : ∀ (i j : Nat) (oi oj : Oper) (t : Tmp), l[i]? = some oi → l[j]? = some oj → Operand.tmp t ∈ oi.op.operands → oj.dst = some t → C i j ∨ C j i
  loud : ∀ (i : Nat) (o : Oper), full i = true → l[i]? = some o → calmO o = false
  full : ∀ (i j : Nat) (oj : Oper), full i = true → l[j]? = some oj → calmO oj = false → j ≠ i → C i j ∨ C j i

theorem linked_iff {C : List Nat} {i j : Nat} (h : linked C i j = true) : (C.getD i 0).testBit j = true ∨ (C.getD j 0).testBit i = true := by
  simpa [linked] using h
theorem allBut_get {Q : List Bool} {C : List Nat} {i : Nat} (h : allBut Q C i = true) {j : Nat} (hj : Q[j]? = some false) (hne : j ≠ i) : (C.getD i 0).testBit j = true ∨ (C.getD j 0).testBit i = true := by
  have := allFrom_get h hj
  simp only [Nat.zero_add, Bool.or_eq_true] at this
  rcases this with h1 | h1 | h1
  · exact absurd (Nat.eq_of_beq_eq_true h1).symm hne
  · exact linked_iff h1
  · cases h1
theorem fullsA_get (ops : List Oper) (C : List Nat) : ∀ (r : List Oper) (i q : Nat), (fullsA ops C i r).getD q false = true → ∃ o, r[q]? = some o ∧ calmO o = false ∧ (allBut (ops.map quietO) C (i + q) = true ∨ (storeO o = true ∧ allBut (ops.map calmO) C (i + q) = true))
  | [], i, q, h => by simp [fullsA] at h
  | o :: r, i, 0, h => by
    simp only [fullsA, List.getD_cons_zero, Bool.and_eq_true, Bool.not_eq_true', Bool.or_eq_true] at h
    exact ⟨o, rfl, h.1, h.2⟩
  | o :: r, i, q + 1, h => by
    simp only [fullsA, List.getD_cons_succ] at h
    obtain ⟨o', h1, h2, h3⟩ := fullsA_get ops C r (i + 1) q h
    rw [show i + 1 + q = i + (q + 1) by omega] at h3
    exact ⟨o', by simpa using h1, h2, h3⟩
theorem calm_quiet {o : Oper} (h : calmO o = false) : quietO o = false := by
  unfold calmO at h; simp only [Bool.or_eq_false_iff] at h; exact h.1
theorem draws_of {l : List Oper} {C : List Nat} (h : drawOk l C = true) : Draws l (fun i j => (C.getD i 0).testBit j = true) (fun i => (fullsA l C 0 l).getD i false) := by
  have key : ∀ i o, l[i]? = some o → C.getD i 0 = combA C o ∧ C.getD i 0 < 2 ^ i ∧ guardOk C i o = true ∧ selfOk o = true ∧ allFrom (fun j oj => pairOk C i o j oj) 0 l = true := by
    intro i o hi
    have := allFrom_get h hi
    simp only [Nat.zero_add, Bool.and_eq_true, Nat.blt_eq] at this
    obtain ⟨⟨⟨⟨h1, h2⟩, h3⟩, h4⟩, h5⟩ := this
    exact ⟨Nat.eq_of_beq_eq_true h1, h2, h3, h4, h5⟩
  have pair : ∀ i j oi oj, l[i]? = some oi → l[j]? = some oj → pairOk C i oi j oj = true := by
    intro i j oi oj hi hj
    have := allFrom_get (key i oi hi).2.2.2.2 hj
    simpa using this
  refine ⟨?_, ?_, ?_, ?_, ?_, ?_, ?_, ?_⟩
  · intro i o e hi he hb
    show (C.getD i 0).testBit e.on = true
    rw [(key i o hi).1]
    exact combA_has _ e he hb
  · intro i o j hi hc
    have hc' : (C.getD i 0).testBit j = true := hc
    rw [(key i o hi).1] at hc'
    exact combA_bit _ j hc'
  · intro i o j hi hc
    rcases Nat.lt_or_ge j i with hl | hl
    · exact hl
    · have h2 := (key i o hi).2.1
      have hc' : (C.getD i 0).testBit j = true := hc
      rw [Nat.testBit_lt_two_pow (Nat.lt_of_lt_of_le h2 (Nat.pow_le_pow_right (by omega) hl))] at hc'
      cases hc'
  · intro i o g b hi hg
    have h3 := (key i o hi).2.2.1
    unfold guardOk at h3
    rw [hg] at h3
    exact h3
  · intro i j oi oj d hi hj hdi hdj
    have h1 := pair i j oi oj hi hj
    unfold pairOk at h1
    rw [hdi, hdj] at h1
    simp only [Bool.or_eq_true, Bool.and_eq_true] at h1
    rcases h1 with h1 | ⟨h1, _⟩
    · exact Nat.eq_of_beq_eq_true h1
    · rw [Nat.beq_refl] at h1; cases h1
  · intro i j oi oj t hi hj ht hd
    have hm : memN t (tmpsOf oi.op.operands.toList) = true := memN_of (tmpsOf_of (by simpa using ht))
    by_cases hij : i = j
    · subst hij
      rw [hi] at hj; cases hj
      have h4 := (key i oi hi).2.2.2.1
      unfold selfOk at h4
      rw [hd] at h4
      simp [hm] at h4
    · have h1 := pair i j oi oj hi hj
      unfold pairOk at h1
      rw [hd] at h1
      simp only [Bool.or_eq_true, Bool.and_eq_true] at h1
      rcases h1 with h1 | ⟨_, h1⟩
      · exact absurd (Nat.eq_of_beq_eq_true h1) hij
      · rcases h1 with h1 | h1
        · simp [hm] at h1
        · exact linked_iff h1
  · intro i o hf hi
    obtain ⟨o', h1, h2, _⟩ := fullsA_get _ C l 0 i hf
    rw [hi] at h1; cases h1; exact h2
  · intro i j oj hf hj hq hne
    obtain ⟨o', h1, h2, h3⟩ := fullsA_get _ C l 0 i hf
    rw [Nat.zero_add] at h3
    rcases h3 with h3 | ⟨_, h3⟩
    · exact allBut_get h3 (by simp [hj, calm_quiet hq]) hne
    · exact allBut_get h3 (by simp [hj, hq]) hne

theorem reads_load {ρ : Operand → Option AV} {o : Oper} {b : Nat} (h : readsA ρ o.op = some b) : quietO o = false := by
  obtain ⟨dst, op, ty, pos, after, guard⟩ := o
  unfold quietO
  cases op <;> first | (simp [readsA] at h; done) | (cases guard <;> rfl)
theorem plain_all {ops : List Oper} {C : List Nat} (h : plainF ops C = true) {q : Nat} (hf : (fullsA ops C 0 ops).getD q false = true) : allBut (ops.map quietO) C q = true := by
  obtain ⟨o, h1, _, h3⟩ := fullsA_get ops C ops 0 q hf
  rw [Nat.zero_add] at h3
  rcases h3 with h3 | ⟨h3, h4⟩
  · exact h3
  · have := allFrom_get h h1
    rw [Nat.zero_add] at this
    simp only [Bool.or_eq_true, Bool.not_eq_true', h3, h4] at this
    rcases this with h | h | h
    · cases h
    · exact h
    · cases h
section sound
variable {P : Program} {ex : Bool}

def wantedA (ops : List Oper) (o : Oper) (tm : List AV) : Bool :=
  match o.guard with
  | none => true
  | some (j, want) => match yieldA ops tm j with
    | some b => cond want b (!b)
    | none => false
/-- Is what the guard looks at known? -/
def sureA (ops : List Oper) (o : Oper) (tm : List AV) : Bool :=
  match o.guard with
  | none => true
  | some (j, _) => match ops[j]? with
    | some og => match og.dst with
      | some d => match tm[d]? with | some .top => false | some (.unk _) => false | some (.alt _ _ _) => false | _ => true
      | none => true
    | none => true
theorem sure_of {ops : List Oper} {o : Oper} {tm : List AV} (h : wantedA ops o tm = true) : sureA ops o tm = true := by
  unfold wantedA at h
  unfold sureA
  split
  · rfl
  · rename_i j w hg
    rw [hg] at h
    simp only at h
    unfold yieldA at h
    split
    · rename_i og ho
      rw [ho] at h
      simp only at h
      split
      · rename_i d hd
        rw [hd] at h
        simp only at h
        split
        · rename_i ht; rw [ht] at h; cases h
        · rename_i ht; rw [ht] at h; cases h
        · rename_i ht; rw [ht] at h; cases h
        · rfl
      · rfl
    · rfl
/-- What operation o does at (tm, H): it is carried out, or passed over. -/
def Does (P : Program) (ex : Bool) (ops : List Oper) (full : Bool) (o : Oper) (tm : List AV) (H : Heap) (v : AV) (H' : Heap) : Prop :=
  ((wantedA ops o tm = true ∧ OpDoes P ex full o (opA tm) H v H') ∨ (wantedA ops o tm = false ∧ sureA ops o tm = true ∧ v = .tup [] ∧ H' = H)) ∧
    (calmO o = true → wantedA ops o tm = true ∧ H' = H ∧ ∀ G, (∀ b x, readsA (opA tm) o.op = some b → H[b]? = some x → G[b]? = some x) → OpRo P ex o (opA tm) G v)
theorem quiet_guard {o : Oper} (h : quietO o = true) : o.guard = none := by
  unfold quietO at h
  split at h <;> first | assumption | cases h
theorem wanted_quiet {ops : List Oper} {o : Oper} {tm : List AV} (h : quietO o = true) : wantedA ops o tm = true := by
  unfold wantedA; rw [quiet_guard h]
theorem quiet_ev {M : EnvM} {full : Bool} {o : Oper} {ρ : Operand → Option AV} {H H' : Heap} {hv hv' : HV} {ob : Ob} {v : AV} (hq : quietO o = true) (h : evOpM P ex M full o.op ρ H hv = some (ob, v, H', hv')) :
    H' = H ∧ ∀ G, evOpM P ex M false o.op ρ G hv = some (ob, v, G, hv) := by
  obtain ⟨dst, op, ty, pos, after, guard⟩ := o
  simp only at h ⊢
  unfold quietO at hq
  simp only at hq
  split at hq
  · simp only [evOpM, stepOp] at h ⊢
    split at h
    · rename_i ob' v' he; cases h
      split at he
      · cases he; exact ⟨rfl, fun _ => rfl⟩
      · cases he
    · rename_i he; split at he <;> cases he
    · cases h
    · cases h
  · simp only [evOpM, stepOp] at h ⊢
    split at h
    · rename_i ob' v' he; cases h
      split at he
      · cases he; exact ⟨rfl, fun _ => rfl⟩
      · cases he
    · rename_i he; split at he <;> cases he
    · cases h
    · cases h
  · simp only [evOpM, stepOp] at h ⊢
    split at h
    · rename_i ob' v' he; cases h
      exact ⟨rfl, fun _ => rfl⟩
    · rename_i he; split at he
      · split at he <;> cases he
      · cases he
    · cases h
    · cases h
  · rename_i s x f
    simp only [evOpM] at h ⊢
    cases hs : stepOp P ex (.fieldAddr s x f) ρ H with
    | none => rw [hs] at h; cases h
    | some r =>
      obtain ⟨ob', st⟩ := r
      have hro : ∃ v', st = .ro v' := by
        simp only [stepOp] at hs
        repeat' split at hs
        all_goals first | (obtain ⟨_, hs⟩ := cond_some hs rfl; cases hs; exact ⟨_, rfl⟩) | (cases hs; exact ⟨_, rfl⟩) | cases hs
      obtain ⟨v', rfl⟩ := hro
      rw [hs] at h; cases h
      exact ⟨rfl, fun G => by rw [show stepOp P ex (.fieldAddr s x f) ρ G = stepOp P ex (.fieldAddr s x f) ρ H from rfl, hs]⟩
  · rename_i t parts
    simp only [evOpM] at h ⊢
    cases hs : stepOp P ex (.build t parts) ρ H with
    | none => rw [hs] at h; cases h
    | some r =>
      obtain ⟨ob', st⟩ := r
      have hro : ∃ v', st = .ro v' := by
        simp only [stepOp] at hs
        repeat' split at hs
        all_goals first | (obtain ⟨_, hs⟩ := cond_some hs rfl; cases hs; exact ⟨_, rfl⟩) | (cases hs; exact ⟨_, rfl⟩) | cases hs
      obtain ⟨v', rfl⟩ := hro
      rw [hs] at h; cases h
      exact ⟨rfl, fun G => by rw [show stepOp P ex (.build t parts) ρ G = stepOp P ex (.build t parts) ρ H from rfl, hs]⟩
  · rename_i t x ix
    simp only [evOpM] at h ⊢
    cases hs : stepOp P ex (.indexAddr t x ix) ρ H with
    | none => rw [hs] at h; cases h
    | some r =>
      obtain ⟨ob', st⟩ := r
      have hro : ∃ v', st = .ro v' := by
        simp only [stepOp] at hs
        repeat' split at hs
        all_goals first | (obtain ⟨_, hs⟩ := cond_some hs rfl; cases hs; exact ⟨_, rfl⟩) | (cases hs; exact ⟨_, rfl⟩) | cases hs
      obtain ⟨v', rfl⟩ := hro
      rw [hs] at h; cases h
      exact ⟨rfl, fun G => by rw [show stepOp P ex (.indexAddr t x ix) ρ G = stepOp P ex (.indexAddr t x ix) ρ H from rfl, hs]⟩
  · rename_i s x f
    simp only [evOpM] at h ⊢
    cases hs : stepOp P ex (.field s x f) ρ H with
    | none => rw [hs] at h; cases h
    | some r =>
      obtain ⟨ob', st⟩ := r
      have hro : ∃ v', st = .ro v' := by
        simp only [stepOp] at hs
        repeat' split at hs
        all_goals first | (obtain ⟨_, hs⟩ := cond_some hs rfl; cases hs; exact ⟨_, rfl⟩) | (cases hs; exact ⟨_, rfl⟩) | cases hs
      obtain ⟨v', rfl⟩ := hro
      rw [hs] at h; cases h
      exact ⟨rfl, fun G => by rw [show stepOp P ex (.field s x f) ρ G = stepOp P ex (.field s x f) ρ H from rfl, hs]⟩
  · rename_i x
    simp only [evOpM] at h ⊢
    cases hs : stepOp P ex (.nilCheck x) ρ H with
    | none => rw [hs] at h; cases h
    | some r =>
      obtain ⟨ob', st⟩ := r
      have hro : ∃ v', st = .ro v' := by
        simp only [stepOp] at hs
        repeat' split at hs
        all_goals first | (cases hs; exact ⟨_, rfl⟩) | cases hs
      obtain ⟨v', rfl⟩ := hro
      rw [hs] at h; cases h
      exact ⟨rfl, fun G => by rw [show stepOp P ex (.nilCheck x) ρ G = stepOp P ex (.nilCheck x) ρ H from rfl, hs]⟩
  · rename_i b t x y ck
    simp only [evOpM] at h ⊢
    cases hs : stepOp P ex (.binOp b t x y ck) ρ H with
    | none => rw [hs] at h; cases h
    | some r =>
      obtain ⟨ob', st⟩ := r
      have hro : ∃ v', st = .ro v' := by
        simp only [stepOp] at hs
        repeat' split at hs
        all_goals first | (cases hs; exact ⟨_, rfl⟩) | cases hs
      obtain ⟨v', rfl⟩ := hro
      rw [hs] at h; cases h
      exact ⟨rfl, fun G => by rw [show stepOp P ex (.binOp b t x y ck) ρ G = stepOp P ex (.binOp b t x y ck) ρ H from rfl, hs]⟩
  · rename_i u t x
    simp only [evOpM] at h ⊢
    cases hs : stepOp P ex (.unOp u t x) ρ H with
    | none => rw [hs] at h; cases h
    | some r =>
      obtain ⟨ob', st⟩ := r
      have hro : ∃ v', st = .ro v' := by
        simp only [stepOp] at hs
        repeat' split at hs
        all_goals first | (cases hs; exact ⟨_, rfl⟩) | cases hs
      obtain ⟨v', rfl⟩ := hro
      rw [hs] at h; cases h
      exact ⟨rfl, fun G => by rw [show stepOp P ex (.unOp u t x) ρ G = stepOp P ex (.unOp u t x) ρ H from rfl, hs]⟩
  · rename_i a b x
    simp only [evOpM] at h ⊢
    cases hs : stepOp P ex (.convert a b x) ρ H with
    | none => rw [hs] at h; cases h
    | some r =>
      obtain ⟨ob', st⟩ := r
      have hro : ∃ v', st = .ro v' := by
        simp only [stepOp] at hs
        repeat' split at hs
        all_goals first | (cases hs; exact ⟨_, rfl⟩) | cases hs
      obtain ⟨v', rfl⟩ := hro
      rw [hs] at h; cases h
      exact ⟨rfl, fun G => by rw [show stepOp P ex (.convert a b x) ρ G = stepOp P ex (.convert a b x) ρ H from rfl, hs]⟩
  · cases hq
theorem quiet_call {o : Oper} {c : Call} (h : o.op = .call c) : quietO o = false := by
  unfold quietO; rw [h]; cases o.guard <;> rfl
theorem load_call {o : Oper} {c : Call} (h : o.op = .call c) : loadO o = false := by
  unfold loadO; rw [h]; cases o.guard <;> rfl
theorem quiet_does {M : EnvM} (hM : M.Ok P ex) {full : Bool} {o : Oper} {ρ : Operand → Option AV} {H H' : Heap} {hv hv' : HV} {ob : Ob} {v : AV} (hq : quietO o = true) (h : evOpM P ex M full o.op ρ H hv = some (ob, v, H', hv')) (hok : ob.ok = true) :
    H' = H ∧ ∀ G, OpRo P ex o ρ G v := by
  obtain ⟨h1, h2⟩ := quiet_ev hq h
  refine ⟨h1, fun G => ?_⟩
  have h3 := evOpM_does hM (o := o) (h2 G) hok
  generalize hG : G = G' at h3
  have h4 : OpDoes P ex false o ρ G v G' := by rw [hG]; exact h3
  cases h4 with
  | ro h => rw [← hG]; exact h
  | new _ => exact absurd hG (by intro e; have := congrArg List.length e; simp at this)
  | news hn =>
    obtain ⟨⟨c, hc⟩, _⟩ := hn
    rw [quiet_call hc] at hq; cases hq
  | any hf _ => cases hf

theorem loadA_any {H G : Heap} {t : TypeId} {p : Pos} {r : Ob × AV} (h : loadA P H t p = some r) (hg : ∀ x, H[p.b]? = some x → G[p.b]? = some x) : loadA P G t p = some r := by
  cases hH : H[p.b]? with
  | none => unfold loadA at h; rw [hH] at h; cases h
  | some x =>
    unfold loadA at h ⊢
    rw [hH] at h
    rw [hg x hH]
    exact h
theorem load_ev {M : EnvM} {full : Bool} {o : Oper} {ρ : Operand → Option AV} {H H' : Heap} {hv hv' : HV} {ob : Ob} {v : AV} (hq : loadO o = true) (h : evOpM P ex M full o.op ρ H hv = some (ob, v, H', hv')) :
    H' = H ∧ ∀ G, (∀ b x, readsA ρ o.op = some b → H[b]? = some x → G[b]? = some x) → evOpM P ex M false o.op ρ G hv = some (ob, v, G, hv) := by
  obtain ⟨dst, op, ty, pos, after, guard⟩ := o
  simp only at h ⊢
  unfold loadO at hq
  simp only at hq
  split at hq
  · rename_i t x
    simp only [evOpM] at h ⊢
    cases hs : stepOp P ex (.load t x) ρ H with
    | none => rw [hs] at h; cases h
    | some r =>
      obtain ⟨ob', st⟩ := r
      have key : ∃ v', st = .ro v' ∧ ∀ G, (∀ b y, readsA ρ (.load t x) = some b → H[b]? = some y → G[b]? = some y) → stepOp P ex (.load t x) ρ G = some (ob', .ro v') := by
        simp only [stepOp] at hs ⊢
        split at hs
        · rename_i p hp
          split at hs
          · rename_i o' v' hl
            cases hs
            refine ⟨v', rfl, fun G hG => ?_⟩
            rw [loadA_any hl (fun y hy => hG p.b y (by simp only [readsA]; rw [hp]) hy)]
          · cases hs
        · rename_i l hp
          have hro : ∃ v', st = .ro v' := by
            split at hs
            · split at hs
              · obtain ⟨_, hs⟩ := cond_some hs rfl
                cases hs; exact ⟨_, rfl⟩
              · cases hs
            · split at hs
              · cases hs; exact ⟨_, rfl⟩
              · cases hs
            · cases hs
          obtain ⟨v', rfl⟩ := hro
          exact ⟨v', rfl, fun G _ => hs⟩
        · cases hs
      obtain ⟨v', rfl, hk⟩ := key
      rw [hs] at h; cases h
      exact ⟨rfl, fun G hG => by rw [hk G hG]⟩
  · cases hq
theorem calm_does {M : EnvM} (hM : M.Ok P ex) {full : Bool} {o : Oper} {ρ : Operand → Option AV} {H H' : Heap} {hv hv' : HV} {ob : Ob} {v : AV} (hq : calmO o = true) (h : evOpM P ex M full o.op ρ H hv = some (ob, v, H', hv')) (hok : ob.ok = true) :
    H' = H ∧ ∀ G, (∀ b x, readsA ρ o.op = some b → H[b]? = some x → G[b]? = some x) → OpRo P ex o ρ G v := by
  unfold calmO at hq
  rw [Bool.or_eq_true] at hq
  rcases hq with hq | hq
  · obtain ⟨h1, h2⟩ := quiet_does hM hq h hok
    exact ⟨h1, fun G _ => h2 G⟩
  · obtain ⟨h1, h2⟩ := load_ev hq h
    refine ⟨h1, fun G hG => ?_⟩
    have h3 := evOpM_does hM (o := o) (h2 G hG) hok
    generalize hGG : G = G' at h3
    have h4 : OpDoes P ex false o ρ G v G' := by rw [hGG]; exact h3
    cases h4 with
    | ro h => rw [← hGG]; exact h
    | new _ => exact absurd hGG (by intro e; have := congrArg List.length e; simp at this)
    | news hn =>
      obtain ⟨⟨c, hc⟩, _⟩ := hn
      rw [load_call hc] at hq; cases hq
    | any hf _ => cases hf
theorem wanted_calm {ops : List Oper} {o : Oper} {tm : List AV} (h : calmO o = true) : wantedA ops o tm = true := by
  have hg : o.guard = none := by
    unfold calmO at h
    rw [Bool.or_eq_true] at h
    rcases h with h | h
    · exact quiet_guard h
    · unfold loadO at h; split at h <;> first | assumption | cases h
  unfold wantedA; rw [hg]

/-- A walk through operations in the order of the text. -/
inductive Tr (P : Program) (ex : Bool) (ops : List Oper) : List (Oper × Bool) → List AV → Heap → List AV → Heap → Prop
  | nil {tm : List AV} {H : Heap} : Tr P ex ops [] tm H tm H
  | cons {o : Oper} {f : Bool} {r : List (Oper × Bool)} {tm tm1 tm' : List AV} {H H1 H' : Heap} {v : AV} (h : Does P ex ops f o tm H v H1) (hp : putA tm o.dst v = some tm1) (t : Tr P ex ops r tm1 H1 tm' H') : Tr P ex ops ((o, f) :: r) tm H tm' H'
theorem Tr.append {ops : List Oper} : ∀ {l1 : List (Oper × Bool)} {tm tm1 : List AV} {H H1 : Heap}, Tr P ex ops l1 tm H tm1 H1 → ∀ {l2 : List (Oper × Bool)} {tm2 : List AV} {H2 : Heap}, Tr P ex ops l2 tm1 H1 tm2 H2 → Tr P ex ops (l1 ++ l2) tm H tm2 H2
  | _, _, _, _, _, .nil, _, _, _, h => h
  | _, _, _, _, _, .cons h hp t, _, _, _, g => .cons h hp (t.append g)
/-- The same as three rows: the values, the temporaries, the heaps. -/
theorem Tr.rows {ops : List Oper} : ∀ {l : List (Oper × Bool)} {tm tm' : List AV} {H H' : Heap}, Tr P ex ops l tm H tm' H' →
    ∃ (vals : Nat → AV) (tms : Nat → List AV) (Hs : Nat → Heap), tms 0 = tm ∧ Hs 0 = H ∧ tms l.length = tm' ∧ Hs l.length = H' ∧
      ∀ i x, l[i]? = some x → Does P ex ops x.2 x.1 (tms i) (Hs i) (vals i) (Hs (i + 1)) ∧ putA (tms i) x.1.dst (vals i) = some (tms (i + 1))
  | _, tm, _, H, _, .nil => ⟨fun _ => .tup [], fun _ => tm, fun _ => H, rfl, rfl, rfl, rfl, fun i x e => by simp at e⟩
  | _, tm, _, H, _, .cons (o := o) (f := f) (v := v) h hp t => by
    obtain ⟨vals, tms, Hs, h1, h2, h3, h4, h5⟩ := t.rows
    refine ⟨fun | 0 => v | i + 1 => vals i, fun | 0 => tm | i + 1 => tms i, fun | 0 => H | i + 1 => Hs i, rfl, rfl, h3, h4, ?_⟩
    intro i x hx
    cases i with
    | zero => simp at hx; subst hx; exact ⟨by rw [← h2] at h; exact h, by rw [← h1] at hp; exact hp⟩
    | succ i => simp at hx; exact h5 i x hx

theorem setF_eq : ∀ {l : List AV} {i : Nat} {v : AV} {l' : List AV}, setF l i v = some l' → l' = l.set i v ∧ i < l.length
  | [], i, v, l', h => by simp [setF] at h
  | a :: r, 0, v, l', h => by simp only [setF, Option.some.injEq] at h; subst h; exact ⟨rfl, by simp⟩
  | a :: r, i + 1, v, l', h => by
    simp only [setF] at h
    split at h
    · rename_i r' hr
      cases h
      obtain ⟨h1, h2⟩ := setF_eq hr
      subst h1
      exact ⟨rfl, by simp; omega⟩
    · cases h
theorem putA_get {tm tm' : List AV} {dst : Option Tmp} {v : AV} (h : putA tm dst v = some tm') :
    tm'.length = tm.length ∧ (∀ t, dst ≠ some t → tm'[t]? = tm[t]?) ∧ (∀ d, dst = some d → tm'[d]? = some v) := by
  cases dst with
  | none => simp only [putA, Option.some.injEq] at h; subst h; exact ⟨rfl, fun _ _ => rfl, fun _ e => by cases e⟩
  | some d =>
    obtain ⟨h1, h2⟩ := setF_eq h
    subst h1
    refine ⟨by simp, fun t ht => ?_, fun d' e => ?_⟩
    · rw [List.getElem?_set_ne]; intro e; subst e; exact ht rfl
    · cases e; rw [List.getElem?_set_self h2]

/-- What the guard says here and there. -/
theorem wanted_iff {μ : Mu} {ops : Array Oper} {o : Oper} {tm : List AV} {a : Act} (h : ∀ g b og d, o.guard = some (g, b) → ops[g]? = some og → og.dst = some d → d < tm.length → ∃ u v, tm[d]? = some u ∧ a.tmps[d]? = some v ∧ VRel ex μ u v)
    (hs : a.tmps.size = tm.length) (hsu : sureA ops.toList o tm = true) : Region.wanted o (yielded ops a.tmps) = wantedA ops.toList o tm := by
  unfold sureA at hsu
  unfold Region.wanted wantedA
  split
  · rename_i hg; simp [hg]
  · rename_i g want hg
    simp only [hg]
    unfold yielded yieldA
    cases hog : ops[g]? with
    | none =>
      have : ops.toList[g]? = none := by simpa using hog
      simp [this]
    | some og =>
      have hog' : ops.toList[g]? = some og := by simpa using hog
      simp only [hog', Option.bind_some]
      cases hd : og.dst with
      | none => simp
      | some d =>
        simp only [Option.bind_some]
        by_cases hlt : d < tm.length
        · obtain ⟨u, v, hu, hv, hr⟩ := h g want og d hg hog hd hlt
          rw [hu, hv]
          cases u with
          | bool b => simp only [VRel] at hr; subst hr; cases want <;> cases b <;> rfl
          | ptr p => cases p <;> simp only [VRel] at hr <;> (first | (subst hr; rfl) | (obtain ⟨c, z, _, rfl⟩ := hr; rfl))
          | vptr l => simp only [VRel] at hr; obtain ⟨c, o, arr, t, fz, rfl, _⟩ := hr; rfl
          | slice p n k => cases p <;> simp only [VRel] at hr <;> (first | (obtain ⟨_, _, rfl⟩ := hr; rfl) | (obtain ⟨c, z, _, rfl⟩ := hr; rfl))
          | lst b g s n lo => simp only [VRel] at hr; obtain ⟨c, z, rfl, _⟩ := hr; rfl
          | view n s f => simp only [VRel] at hr; obtain ⟨c, z, rfl, _⟩ := hr; rfl
          | nul => simp only [VRel] at hr; obtain ⟨c, rfl⟩ := hr; rfl
          | top => simp only [hg, hog', hd, hu] at hsu; cases hsu
          | unk n => simp only [hg, hog', hd, hu] at hsu; cases hsu
          | alt q x y => simp only [hg, hog', hd, hu] at hsu; cases hsu
          | float x => simp only [VRel] at hr; obtain ⟨b, rfl, _⟩ := hr; rfl
          | complex x y => simp only [VRel] at hr; obtain ⟨b, d, rfl, _⟩ := hr; rfl
          | func f l r => simp only [VRel] at hr; obtain ⟨_, _, rfl, _⟩ := hr; rfl
          | iface t u => simp only [VRel] at hr; obtain ⟨_, rfl, _⟩ := hr; rfl
          | agg l => simp only [VRel] at hr; obtain ⟨_, rfl, _⟩ := hr; rfl
          | tup l => simp only [VRel] at hr; obtain ⟨_, rfl, _⟩ := hr; rfl
          | _ => simp only [VRel] at hr; subst hr; rfl
        · have h1 : tm[d]? = none := List.getElem?_eq_none (Nat.le_of_not_lt hlt)
          have h2 : a.tmps[d]? = none := Array.getElem?_eq_none (by rw [hs]; exact Nat.le_of_not_lt hlt)
          rw [h1, h2]; rfl

/-- Where a stretch of the run ends. -/
def Ends (ex : Bool) (tm : List AV) (w0 : World) (H0 : Heap) (μ0 : Mu) (H : Heap) (a : Act) (w : World) : Prop :=
  ∃ μ, VRels ex μ tm a.tmps.toList ∧ a.defers = [] ∧ Goes ex w0 H0 μ0 w H μ ∧ Dom μ H

theorem put_rel {μ : Mu} {tm tm' : List AV} {dst : Option Tmp} {v : AV} {v' : Value} {a : Act} (hp : putA tm dst v = some tm') (ht : VRels ex μ tm a.tmps.toList) (hv : VRel ex μ v v') :
    VRels ex μ tm' (a.put dst v').tmps.toList ∧ (a.put dst v').defers = a.defers := by
  cases dst with
  | none => simp only [putA, Option.some.injEq] at hp; subst hp; exact ⟨ht, rfl⟩
  | some d =>
    obtain ⟨h1, h2⟩ := setF_eq hp
    subst h1
    refine ⟨?_, rfl⟩
    simp only [Act.put, Array.toList_setIfInBounds]
    exact ht.set hv d

/-- One operation after the other. -/
theorem seq_sound {ops : Array Oper} {fl : Nat → Bool} {vals : Nat → AV} {tms : Nat → List AV} {Hs : Nat → Heap}
    (htr : ∀ i o, ops.toList[i]? = some o → Does P ex ops.toList (fl i) o (tms i) (Hs i) (vals i) (Hs (i + 1)) ∧ putA (tms i) o.dst (vals i) = some (tms (i + 1)))
    {w0 : World} {H0 : Heap} {μ0 : Mu} {Q : Exit → Act → World → Prop} (hQ : ∀ a w, Ends ex (tms ops.size) w0 H0 μ0 (Hs ops.size) a w → Q .normal a w) :
    ∀ (n i : Nat) (a : Act) (w : World), i + n = ops.size → Ends ex (tms i) w0 H0 μ0 (Hs i) a w → wpOps P ops Q (List.range' i n) a w
  | 0, i, a, w, hn, h => by
    simp only [List.range'_zero, wpOps]
    have : i = ops.size := by omega
    subst this
    exact hQ a w h
  | n + 1, i, a, w, hn, h => by
    have hi : i < ops.size := by omega
    have ho : ops[i]? = some ops[i] := Array.getElem?_eq_getElem hi
    obtain ⟨hdo, hput⟩ := htr i ops[i] (by simp)
    obtain ⟨μ, ht, hdef, hg, hd⟩ := h
    rw [List.range'_succ]
    simp only [wpOps, ho]
    have hsz : a.tmps.size = (tms i).length := by rw [← ht.length]; simp
    have hw := wanted_iff (ex := ex) (μ := μ) (ops := ops) (o := ops[i]) (tm := tms i) (a := a) (fun g b og d _ _ _ hlt => by
      obtain ⟨v, hv, hr⟩ := ht.get (List.getElem?_eq_getElem hlt)
      exact ⟨_, v, List.getElem?_eq_getElem hlt, by simpa using hv, hr⟩) hsz
    rcases hdo.1 with ⟨h1, h2⟩ | ⟨h1, hsu, hv, hH⟩
    · rw [hw (sure_of h1), h1, if_pos rfl]
      refine .inl (h2.toAny μ a w (fun x _ u hu => opA_rel ht x u hu) hg.rel hd _ _ ?_)
      intro v' w' μ' hv hg' hd'
      have ht' : VRels ex μ' (tms i) a.tmps.toList := VRels.mono hg'.mu _ _ ht
      obtain ⟨h3, h4⟩ := put_rel hput ht' hv
      exact seq_sound htr hQ n (i + 1) _ w' (by omega) ⟨μ', h3, by rw [h4]; exact hdef, Goes.trans hg hg', hd'⟩
    · rw [hw hsu, h1, if_neg (by simp)]
      rw [hv] at hput
      obtain ⟨h3, h4⟩ := put_rel hput ht VRel.undef
      refine seq_sound htr hQ n (i + 1) _ w (by omega) ⟨μ, h3, by rw [h4]; exact hdef, by rw [hH]; exact hg, by rw [hH]; exact hd⟩
end sound
end Go.Lst
