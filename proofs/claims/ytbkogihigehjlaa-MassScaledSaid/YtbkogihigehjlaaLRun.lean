/- The direct evaluator over code and functions, and the contract that it proves. -/
import Derived.Scope
import Derived.Test.YtbkogihigehjlaaLDir
namespace Go.Lst
/-- What is known of the loops of a piece of code. -/
inductive Ann where
  | no
  | one (a : Ann)
  | two (a b : Ann)
  | loop (f : St → Option Ch)
def Ann.sub : Ann → Ann | .one a => a | _ => .no
def Ann.fst : Ann → Ann | .two a _ => a | _ => .no
def Ann.snd : Ann → Ann | .two _ b => b | _ => .no

section defs
variable (P : Program) (ex : Bool) (M : EnvM) (lits fk : List Tmp)
def litO (tm : List AV) : Operand → Bool → List AV
  | .tmp t, b => litT tm t b
  | _, _ => tm
def evLoopM (body : St → Option Ch) : Nat → St → Option Ch
  | 0, _ => none
  | n + 1, s => match body s with | some c => bindN s c (evLoopM body n) | none => none
/-- A run in which all truths are known is marked so. -/
def konstL : Bool := lits.any (Nat.beq 4294967295)
/-- The guards that are known. -/
def kn0 (n : Nat) : List Nat := cond (konstL lits) (List.range n) []
def isLit : Operand → Bool
  | .tmp t => konstL lits || lits.any (Nat.beq t)
  | _ => true
def isFork : Operand → Bool
  | .tmp t => fk.any (Nat.beq t)
  | _ => false
def evCodeM (N : Nat) : Code → Ann → St → Option Ch
  | .skip, _, s => some (.last .normal s)
  | .label _, _, s => some (.last .normal s)
  | .region _ ops draw, _, s =>
    match cond draw
      (cond (drawOk ops.toList (cloA ops.toList []) && P.follows .mixedOrders)
          (cond (plainF ops.toList (cloA ops.toList []))
            (evOpsM P ex M ops.toList true ops.toList.length (kn0 lits ops.toList.length) (zipF ops.toList (fullsA ops.toList (cloA ops.toList []) 0 ops.toList)) s)
            (match evOpsC P ex M (zipF ops.toList (fullsA ops.toList (cloA ops.toList []) 0 ops.toList)) s with
              | some (s', fs) => cond (apartB ops.toList (cloA ops.toList []) fs) (some s') none
              | none => none)) none)
      (evOpsM P ex M ops.toList true ops.toList.length (kn0 lits ops.toList.length) (zipF ops.toList (List.replicate ops.toList.length true)) s) with
    | some s' => some (.last .normal s')
    | none => none
  | .seq a b, A, s => match evCodeM N a A.fst s with | some c => bindN s c (evCodeM N b A.snd) | none => none
  | .cond c x y, A, s => match opA s.tm c with
    | some (.bool b) => cond (isLit lits c)
      (cond b (evCodeM N x A.fst s) (evCodeM N y A.snd s))
      (cond (isFork fk c) appO (fun b => mrgC b s) b (evCodeM N x A.fst ⟨s.ob, litO s.tm c true, s.tv, s.H, s.hv⟩) (evCodeM N y A.snd ⟨s.ob, litO s.tm c false, s.tv, s.H, s.hv⟩))
    | _ => none
  | .block id body, A, s => match evCodeM N body A.sub s with | some c => some (unexit s id c) | none => none
  | .loop body, A, s => match A with
    | .loop F => F s
    | A => evLoopM (evCodeM N body A.sub) N s
  | .exit id, _, s => some (.last (.exit id) s)
  | .scope body, A, s => evCodeM N body A.sub s
  | .ret, _, s => some (.last .ret s)
  | .rangeFunc .., _, _ => none
  | .goto _, _, _ => none
  | .refuse _, _, _ => none
def resA (tm : List AV) (H : Heap) : List ResultVar → Option (List AV)
  | [] => some []
  | .tmp t :: r => match resA tm H r with | some l => some (tm.getD t (.tup []) :: l) | none => none
  | .cell x t :: r => match tm.getD x (.tup []) with
    | .ptr (some p) => match loadA P H t p, resA tm H r with | some (.tt, v), some l => some (v :: l) | _, _ => none
    | _ => none
def resV (tm : List AV) (H : Heap) (rs : List ResultVar) : Option AV :=
  match resA P tm H rs with
  | some [v] => some v
  | some l => some (.tup l)
  | none => none
/-- The chain's ways out, each of which ends the function, as one state. -/
def oneC (z : St) : Ch → Option St
  | .last .normal s => some s
  | .last .ret s => some s
  | .last _ _ => none
  | .more .normal g s r => match oneC z r with | some t => some (mergeS g z s t) | none => cond g (some s) none
  | .more .ret g s r => match oneC z r with | some t => some (mergeS g z s t) | none => cond g (some s) none
  | .more _ g _ r => cond g none (oneC z r)
def startS (fn : Func) (args : List AV) (H : Heap) : St := ⟨.tt, args ++ List.replicate (fn.ntmps - args.length) (.tup []), [], H, []⟩
/-- A function: its result and what it leaves, from the one state at its end. -/
def evFnM (N : Nat) (A : Ann) (fn : Func) (args : List AV) (H : Heap) : RM :=
  match fn.body with
  | some c => match evCodeM P ex M lits fk N c A (startS fn args H) with
    | some ch => match oneC (startS fn args H) ch with
      | some s => match resV P s.tm s.H fn.results.toList with
        | some v => some (s.ob, v, s.H, s.hv)
        | none => none
      | none => none
    | none => none
  | none => none
end defs

section sound
variable {P : Program} {ex : Bool} {M : EnvM} {k0 : Nat}
theorem litO_same {tm : List AV} {c : Operand} {b : Bool} (h : opA tm c = some (.bool b)) : litO tm c b = tm := by
  cases c with
  | tmp t =>
    simp only [opA, Option.some.injEq] at h
    unfold litO
    refine litT_same ?_
    rw [List.getD_eq_getElem?_getD] at h
    cases hq : tm[t]? with
    | none => rw [hq] at h; cases h
    | some v => rw [hq] at h; exact congrArg some h
  | _ => rfl
/-- The run began with at most k blocks. -/
structure DomK (k : Nat) (μ : Mu) (H : Heap) : Prop where
  dom : Dom μ H
  le : H.length ≤ k
/-- How a piece of code ends, whatever the world. -/
def CodeSim (P : Program) (ex : Bool) (k0 : Nat) (c : Code) (tm : List AV) (H : Heap) (e : Exit) (tm' : List AV) (H' : Heap) : Prop :=
  ∀ (w0 : World) (H0 : Heap) (μ0 : Mu) (a : Act) (w : World), DomK k0 μ0 H0 → Ends ex tm w0 H0 μ0 H a w → c.wp P (fun e' a' w' => e' = e ∧ Ends ex tm' w0 H0 μ0 H' a' w') a w

theorem Goes.drawn {w0 w : World} {H0 H : Heap} {μ0 μ : Mu} (a : Goes ex w0 H0 μ0 w H μ) (n : Nat) : Goes ex w0 H0 μ0 { w with drawn := w.drawn + n } H μ :=
  ⟨⟨a.rel.blk, a.rel.inj, a.rel.lt, a.rel.old⟩, a.mu, a.stay, a.fresh, a.ext, a.os, a.output, a.tape, a.size, a.keep⟩
theorem unl_replicate (n : Nat) : unl (Array.replicate n false) ≤ n := by
  unfold unl
  simp
theorem headD_eq (fs : List Bool) : fs.headD false = fs.getD 0 false := by cases fs <;> rfl
theorem tail_getD (fs : List Bool) (i : Nat) : fs.tail.getD i false = fs.getD (i + 1) false := by cases fs <;> simp
theorem zipF_get : ∀ (l : List Oper) (fs : List Bool) (i : Nat) (o : Oper), l[i]? = some o → (zipF l fs)[i]? = some (o, fs.getD i false)
  | [], fs, i, o, h => by simp at h
  | a :: l, fs, 0, o, h => by simp at h; subst h; rw [← headD_eq]; rfl
  | a :: l, fs, i + 1, o, h => by simp at h; have := zipF_get l fs.tail i o h; rw [tail_getD] at this; simpa [zipF] using this
theorem zipF_length : ∀ (l : List Oper) (fs : List Bool), (zipF l fs).length = l.length
  | [], fs => rfl
  | a :: l, fs => by simp [zipF, zipF_length l]
theorem region_any {id : Nat} {ops : Array Oper} {tm tm' : List AV} {H H' : Heap} (hc : (drawOk ops.toList (cloA ops.toList []) && P.follows .mixedOrders) = true)
    {vals : Nat → AV} {tms : Nat → List AV} {Hs : Nat → Heap} (h1 : tms 0 = tm) (h2 : Hs 0 = H) (h3 : tms ops.size = tm') (h4 : Hs ops.size = H')
    (h5 : ∀ i o, ops.toList[i]? = some o → Does P ex ops.toList ((fullsA ops.toList (cloA ops.toList []) 0 ops.toList).getD i false) o (tms i) (Hs i) (vals i) (Hs (i + 1)) ∧ putA (tms i) o.dst (vals i) = some (tms (i + 1)))
    (hA : Apart ops (fun i j => ((cloA ops.toList []).getD i 0).testBit j = true) (fun i => (fullsA ops.toList (cloA ops.toList []) 0 ops.toList).getD i false) tms Hs) : CodeSim P ex k0 (.region id ops true) tm H .normal tm' H' := by
  intro w0 H0 μ0 a w hdm hE
  simp only [Bool.and_eq_true] at hc
  obtain ⟨hdr, hmix⟩ := hc
  refine wp_region_any hmix ?_
  have hD := draws_of hdr
  obtain ⟨μ, ht, hdef, hg, hdm⟩ := hE
  rw [← h1] at ht
  rw [← h2] at hg hdm
  have hts : a.tmps.size = (tms 0).length := by rw [← ht.length]; simp
  refine any_sound (ops := ops) hD h5 hA (fun a' w' hE' => ⟨rfl, by rw [← h3, ← h4]; exact hE'⟩) ops.size _ a _ 0 μ (unl_replicate _) ?_
  refine ⟨by simp, ?_, ⟨Nat.zero_le _, .inl rfl⟩, ?_, hts, ?_, ?_, hdef, hg.drawn 1, hdm, fun j hj => by omega⟩
  · intro j hj; unfold Listed at hj; rw [Array.getElem?_replicate] at hj; split at hj <;> simp at hj
  · intro j i hj; unfold Listed at hj; rw [Array.getElem?_replicate] at hj; split at hj <;> simp at hj
  · intro j o t v _ _ hj; unfold Listed at hj; rw [Array.getElem?_replicate] at hj; split at hj <;> simp at hj
  · intro t v _ hv
    have h5 := ht.getD t
    have h6 : a.tmps.toList[t]? = some v := by simpa using hv
    rw [List.getD_eq_getElem?_getD (l := a.tmps.toList), h6] at h5
    exact h5
theorem plain_apart {ops : Array Oper} {tms : Nat → List AV} {Hs : Nat → Heap} (hp : plainF ops.toList (cloA ops.toList []) = true) :
    Apart ops (fun i j => ((cloA ops.toList []).getD i 0).testBit j = true) (fun i => (fullsA ops.toList (cloA ops.toList []) 0 ops.toList).getD i false) tms Hs := by
  intro q j oj b x _ hf hj hb hne h1 h2 _
  rcases allBut_get (plain_all hp hf) (j := j) (by simp only [List.getElem?_map, hj, Option.map_some, reads_load hb]) (Ne.symm hne) with h | h
  · exact absurd h h1
  · exact absurd h h2
theorem feet_apart {ops : Array Oper} {tms : Nat → List AV} {Hs : Nat → Heap} {fs : List (Option Nat × Option Nat)} (hB : apartB ops.toList (cloA ops.toList []) fs = true)
    (hf : ∀ i o, ops.toList[i]? = some o → fs[i]? = some (readsA (opA (tms i)) o.op, writesA (opA (tms i)) o.op) ∧ (storeO o = true → ∃ b', writesA (opA (tms i)) o.op = some b' ∧ ∀ b, b ≠ b' → (Hs (i + 1))[b]? = (Hs i)[b]?)) :
    Apart ops (fun i j => ((cloA ops.toList []).getD i 0).testBit j = true) (fun i => (fullsA ops.toList (cloA ops.toList []) 0 ops.toList).getD i false) tms Hs := by
  intro q j oj b x hq hfull hj hb hne h1 h2 hx
  obtain ⟨o, ho, _, h3⟩ := fullsA_get _ _ _ 0 q hfull
  rw [Nat.zero_add] at h3
  rcases h3 with h3 | ⟨hs, _⟩
  · rcases allBut_get h3 (j := j) (by simp only [List.getElem?_map, hj, Option.map_some, reads_load hb]) (Ne.symm hne) with h | h
    · exact absurd h h1
    · exact absurd h h2
  · obtain ⟨g1, g2⟩ := hf q o ho
    obtain ⟨b', g3, g4⟩ := g2 hs
    obtain ⟨g5, _⟩ := hf j oj hj
    have h6 := allFrom_get hB ho
    simp only [hs, Bool.not_true, Bool.false_or, Nat.zero_add] at h6
    have h7 := allFrom_get h6 g5
    simp only [Nat.zero_add, List.getD_eq_getElem?_getD, g1, Option.getD_some, g3, hb, Bool.or_eq_true, apart1, Bool.not_eq_true'] at h7
    have hbb : b ≠ b' := by
      rcases h7 with h | h | h
      · exact absurd (Nat.eq_of_beq_eq_true h) hne
      · rcases linked_iff h with h | h
        · exact absurd h h1
        · exact absurd h h2
      · rintro rfl; rw [Nat.beq_refl] at h; cases h
    rw [g4 b hbb]; exact hx
theorem region_sim {id : Nat} {ops : Array Oper} {draw : Bool} {fl : List Bool} {tm tm' : List AV} {H H' : Heap} (hfl : fl = cond draw (fullsA ops.toList (cloA ops.toList []) 0 ops.toList) (List.replicate ops.toList.length true))
    (hd : draw = true → (drawOk ops.toList (cloA ops.toList []) && P.follows .mixedOrders) = true ∧ plainF ops.toList (cloA ops.toList []) = true) (h : Tr P ex ops.toList (zipF ops.toList fl) tm H tm' H') : CodeSim P ex k0 (.region id ops draw) tm H .normal tm' H' := by
  obtain ⟨vals, tms, Hs, h1, h2, h3, h4, h5⟩ := h.rows
  have hlen : (zipF ops.toList fl).length = ops.size := by rw [zipF_length]; simp
  have h5' : ∀ i o, ops.toList[i]? = some o → Does P ex ops.toList (fl.getD i false) o (tms i) (Hs i) (vals i) (Hs (i + 1)) ∧ putA (tms i) o.dst (vals i) = some (tms (i + 1)) := fun i o ho => h5 i _ (zipF_get _ _ _ _ ho)
  rw [hlen] at h3 h4
  cases draw with
  | false =>
    intro w0 H0 μ0 a w hdm hE
    refine wp_region ?_
    have := seq_sound (ops := ops) (fl := fun i => fl.getD i false) h5' (Q := fun e' a' w' => e' = .normal ∧ Ends ex tm' w0 H0 μ0 H' a' w') (fun a' w' hE' => ⟨rfl, by rw [← h3, ← h4]; exact hE'⟩) ops.size 0 a w (by simp) (by rw [h1, h2]; exact hE)
    rw [List.range_eq_range']
    exact this
  | true =>
    obtain ⟨hc, hp⟩ := hd rfl
    rw [cond_true] at hfl
    subst hfl
    exact region_any hc h1 h2 h3 h4 h5' (plain_apart hp)
/-- The later state stands for the earlier one, wherever the run began. -/
def Wk (ex : Bool) (tm1 : List AV) (H1 : Heap) (tm2 : List AV) (H2 : Heap) : Prop := ∀ (w0 : World) (H0 : Heap) (μ0 : Mu) (a : Act) (w : World), Ends ex tm1 w0 H0 μ0 H1 a w → Ends ex tm2 w0 H0 μ0 H2 a w
theorem CodeSim.le {c : Code} {tm tm1 tm2 : List AV} {H H1 H2 : Heap} {e : Exit} (h : CodeSim P ex k0 c tm H e tm1 H1) (g : Wk ex tm1 H1 tm2 H2) : CodeSim P ex k0 c tm H e tm2 H2 := by
  intro w0 H0 μ0 a w hd hE
  refine wp_mono (h w0 H0 μ0 a w hd hE) ?_
  rintro e' a' w' ⟨rfl, hE'⟩
  exact ⟨rfl, g _ _ _ _ _ hE'⟩
theorem CodeSim.seq {x y : Code} {tm tm1 tm2 : List AV} {H H1 H2 : Heap} {e : Exit} (h : CodeSim P ex k0 x tm H .normal tm1 H1) (g : CodeSim P ex k0 y tm1 H1 e tm2 H2) : CodeSim P ex k0 (.seq x y) tm H e tm2 H2 := by
  intro w0 H0 μ0 a w hd hE
  refine wp_seq (wp_mono (h w0 H0 μ0 a w hd hE) ?_)
  rintro e' a' w' ⟨rfl, hE'⟩
  exact g w0 H0 μ0 a' w' hd hE'
theorem CodeSim.seq_out {x y : Code} {tm tm1 : List AV} {H H1 : Heap} {e : Exit} (h : CodeSim P ex k0 x tm H e tm1 H1) (hn : e ≠ .normal) : CodeSim P ex k0 (.seq x y) tm H e tm1 H1 := by
  intro w0 H0 μ0 a w hd hE
  refine wp_seq (wp_mono (h w0 H0 μ0 a w hd hE) ?_)
  rintro e' a' w' ⟨rfl, hE'⟩
  cases e' with
  | normal => exact absurd rfl hn
  | _ => exact ⟨rfl, hE'⟩
theorem CodeSim.block {id : Nat} {body : Code} {tm tm1 : List AV} {H H1 : Heap} {e : Exit} (h : CodeSim P ex k0 body tm H e tm1 H1) (hg : ∀ l, e ≠ .goto l) : CodeSim P ex k0 (.block id body) tm H (unEx id e) tm1 H1 := by
  intro w0 H0 μ0 a w hd hE
  refine wp_block (wp_mono (h w0 H0 μ0 a w hd hE) ?_)
  rintro e' a' w' ⟨rfl, hE'⟩
  cases e' with
  | exit id' =>
    simp only [unEx]
    cases hb : Nat.beq id' id with
    | true =>
      have hid := Nat.eq_of_beq_eq_true hb
      simp only [Exit.inBlock, hid, if_true]
      exact ⟨rfl, hE'⟩
    | false =>
      have hid : id' ≠ id := by rintro rfl; rw [Nat.beq_refl] at hb; cases hb
      simp only [Exit.inBlock, hid, if_false]
      exact ⟨rfl, hE'⟩
  | goto l => exact absurd rfl (hg l)
  | _ => exact ⟨rfl, hE'⟩
theorem CodeSim.scope {body : Code} {tm tm1 : List AV} {H H1 : Heap} {e : Exit} (h : CodeSim P ex k0 body tm H e tm1 H1) (hg : ∀ l, e ≠ .goto l) : CodeSim P ex k0 (.scope body) tm H e tm1 H1 := by
  intro w0 H0 μ0 a w hd hE
  refine wp_scope_straight (wp_mono (h w0 H0 μ0 a w hd hE) ?_)
  rintro e' a' w' ⟨rfl, hE'⟩
  cases e' with
  | goto l => exact absurd rfl (hg l)
  | _ => exact ⟨rfl, hE'⟩
theorem CodeSim.cond {c : Operand} {b : Bool} {x y : Code} {tm tm1 : List AV} {H H1 : Heap} {e : Exit} (hb : opA tm c = some (.bool b)) (h : CodeSim P ex k0 (cond b x y) tm H e tm1 H1) : CodeSim P ex k0 (.cond c x y) tm H e tm1 H1 := by
  intro w0 H0 μ0 a w hd hE
  have hev : a.eval c = .bool b := by
    obtain ⟨μ, ht, _⟩ := hE
    have := opA_rel ht c _ hb
    simpa only [VRel] using this
  cases b with
  | true => exact wp_cond_true hev (h w0 H0 μ0 a w hd hE)
  | false => exact wp_cond_false hev (h w0 H0 μ0 a w hd hE)
/-- How a loop ends, from the head of a round on. -/
def LoopSim (P : Program) (ex : Bool) (k0 : Nat) (c : Code) (tm : List AV) (H : Heap) (e : Exit) (tm' : List AV) (H' : Heap) : Prop :=
  ∀ (w0 : World) (H0 : Heap) (μ0 : Mu) (a : Act) (w : World), DomK k0 μ0 H0 → Ends ex tm w0 H0 μ0 H a w → ∀ (b : Frame) (it : List Item) (cs : List Frame),
    ∃ a' w', Ends ex tm' w0 H0 μ0 H' a' w' ∧ Arrives P (lone (b.at a (.code c :: .inLoop c :: it)) cs w) b it cs e a' w'
theorem LoopSim.step {c : Code} {tm tm1 tm2 : List AV} {H H1 H2 : Heap} {e : Exit} (h : CodeSim P ex k0 c tm H .normal tm1 H1) (g : LoopSim P ex k0 c tm1 H1 e tm2 H2) : LoopSim P ex k0 c tm H e tm2 H2 := by
  intro w0 H0 μ0 a w hd hE b it cs
  obtain ⟨e', a', w', ⟨rfl, hE'⟩, harr⟩ := h w0 H0 μ0 a w hd hE b (.inLoop c :: it) cs
  obtain ⟨a2, w2, hE2, harr2⟩ := g w0 H0 μ0 a' w' hd hE' b it cs
  exact ⟨a2, w2, hE2, .of_steps (Steps.trans harr (.one step_inLoop)) harr2⟩
theorem LoopSim.out {c : Code} {tm tm1 : List AV} {H H1 : Heap} {e : Exit} (h : CodeSim P ex k0 c tm H e tm1 H1) (hn : e ≠ .normal) : LoopSim P ex k0 c tm H e tm1 H1 := by
  intro w0 H0 μ0 a w hd hE b it cs
  obtain ⟨e', a', w', ⟨rfl, hE'⟩, harr⟩ := h w0 H0 μ0 a w hd hE b (.inLoop c :: it) cs
  exact ⟨a', w', hE', .pass (x := .inLoop c) rfl (fun _ _ => .inl hn) harr⟩
theorem LoopSim.le {c : Code} {tm tm1 tm2 : List AV} {H H1 H2 : Heap} {e : Exit} (h : LoopSim P ex k0 c tm H e tm1 H1) (g : Wk ex tm1 H1 tm2 H2) : LoopSim P ex k0 c tm H e tm2 H2 := by
  intro w0 H0 μ0 a w hd hE b it cs
  obtain ⟨a', w', hE', harr⟩ := h w0 H0 μ0 a w hd hE b it cs
  exact ⟨a', w', g _ _ _ _ _ hE', harr⟩
theorem LoopSim.pre {c : Code} {tm tm0 tm1 : List AV} {H H0' H1 : Heap} {e : Exit} (g : Wk ex tm H tm0 H0') (h : LoopSim P ex k0 c tm0 H0' e tm1 H1) : LoopSim P ex k0 c tm H e tm1 H1 :=
  fun w0 H0 μ0 a w hd hE => h w0 H0 μ0 a w hd (g _ _ _ _ _ hE)
theorem CodeSim.loop {c : Code} {tm tm1 : List AV} {H H1 : Heap} {e : Exit} (h : LoopSim P ex k0 c tm H e tm1 H1) : CodeSim P ex k0 (.loop c) tm H e tm1 H1 := by
  intro w0 H0 μ0 a w hd hE b it cs
  obtain ⟨a', w', hE', harr⟩ := h w0 H0 μ0 a w hd hE b it cs
  exact ⟨e, a', w', ⟨rfl, hE'⟩, .of_steps (.one step_loop) harr⟩

/-- What the direct evaluation of code says: of the state that its truths choose. -/
structure CodeSpec (P : Program) (ex : Bool) (k0 : Nat) (c : Code) (s : St) (q : Exit × St) : Prop where
  inv : Inv s q.2
  run : q.2.ob.ok = true → s.ob.ok = true ∧ (∀ l, q.1 ≠ .goto l) ∧ CodeSim P ex k0 c s.tm s.H q.1 q.2.tm q.2.H
structure LoopSpec (P : Program) (ex : Bool) (k0 : Nat) (c : Code) (s : St) (q : Exit × St) : Prop where
  inv : Inv s q.2
  run : q.2.ob.ok = true → s.ob.ok = true ∧ (∀ l, q.1 ≠ .goto l) ∧ LoopSim P ex k0 c s.tm s.H q.1 q.2.tm q.2.H
theorem CodeSpec.sel {c : Code} {s : St} {p q : Exit × St} (h : CodeSpec P ex k0 c s p) (g : Sel ex s p q) : CodeSpec P ex k0 c s q := by
  refine ⟨g.inv, fun hok => ?_⟩
  obtain ⟨h1, h2, h3⟩ := h.run (g.le.ob hok)
  rw [g.e]
  exact ⟨h1, h2, h3.le g.le.ends⟩
theorem LoopSpec.sel {c : Code} {s : St} {p q : Exit × St} (h : LoopSpec P ex k0 c s p) (g : Sel ex s p q) : LoopSpec P ex k0 c s q := by
  refine ⟨g.inv, fun hok => ?_⟩
  obtain ⟨h1, h2, h3⟩ := h.run (g.le.ob hok)
  rw [g.e]
  exact ⟨h1, h2, h3.le g.le.ends⟩
theorem evLoopM_inv {body : St → Option Ch} (hb : ∀ s ch, body s = some ch → AllI s ch) : ∀ (n : Nat) (s : St) (ch : Ch), evLoopM body n s = some ch → AllI s ch
  | 0, s, ch, h => by simp [evLoopM] at h
  | n + 1, s, ch, h => by
    simp only [evLoopM] at h
    cases hc : body s with
    | none => rw [hc] at h; cases h
    | some c1 =>
      rw [hc] at h
      exact bindN_inv (evLoopM_inv hb n) (hb s c1 hc) h
theorem loopM_spec {body : St → Option Ch} {c : Code} (hi : ∀ s ch, body s = some ch → AllI s ch) (hb : ∀ s ch, body s = some ch → CodeSpec P ex k0 c s (sel ch)) : ∀ (n : Nat) (s : St) (ch : Ch), evLoopM body n s = some ch → LoopSpec P ex k0 c s (sel ch)
  | 0, s, ch, h => by simp [evLoopM] at h
  | n + 1, s, ch, h => by
    simp only [evLoopM] at h
    cases hc : body s with
    | none => rw [hc] at h; cases h
    | some c1 =>
      rw [hc] at h
      simp only at h
      have h1 := hb s c1 hc
      have ih := loopM_spec hi hb n
      rcases bindN_sel (ex := ex) s (evLoopM body n) (evLoopM_inv hi n) (fun s c h => (ih s c h).inv) c1 ch (hi s c1 hc) h1.inv h with ⟨hn, c2, h2, h3⟩ | ⟨hn, h2⟩
      · have h4 := ih _ _ h2
        refine LoopSpec.sel ⟨h1.inv.trans h4.inv, fun hok => ?_⟩ h3
        obtain ⟨q1, q2, q3⟩ := h4.run hok
        obtain ⟨p1, p2, p3⟩ := h1.run q1
        rw [hn] at p3
        exact ⟨p1, q2, .step p3 q3⟩
      · refine LoopSpec.sel ⟨h1.inv, fun hok => ?_⟩ h2
        obtain ⟨p1, p2, p3⟩ := h1.run hok
        exact ⟨p1, p2, .out p3 hn⟩
/-- What is said of the loops holds. -/
def AnnOk (P : Program) (ex : Bool) (k0 : Nat) : Code → Ann → Prop
  | .seq a b, A => AnnOk P ex k0 a A.fst ∧ AnnOk P ex k0 b A.snd
  | .cond _ a b, A => AnnOk P ex k0 a A.fst ∧ AnnOk P ex k0 b A.snd
  | .block _ c, A => AnnOk P ex k0 c A.sub
  | .scope c, A => AnnOk P ex k0 c A.sub
  | .loop c, A => match A with
    | .loop F => ∀ s ch, F s = some ch → AllI s ch ∧ LoopSpec P ex k0 c s (sel ch)
    | A => AnnOk P ex k0 c A.sub
  | _, _ => True
variable {lits fk : List Tmp}
theorem evCodeM_inv (hM : M.Ok P ex) (N : Nat) : ∀ (c : Code) (A : Ann) (s : St) (ch : Ch), AnnOk P ex k0 c A → evCodeM P ex M lits fk N c A s = some ch → AllI s ch
  | .skip, _, s, ch, _, h => by simp only [evCodeM, Option.some.injEq] at h; subst h; exact (Inv.refl s).w
  | .label _, _, s, ch, _, h => by simp only [evCodeM, Option.some.injEq] at h; subst h; exact (Inv.refl s).w
  | .exit _, _, s, ch, _, h => by simp only [evCodeM, Option.some.injEq] at h; subst h; exact (Inv.refl s).w
  | .ret, _, s, ch, _, h => by simp only [evCodeM, Option.some.injEq] at h; subst h; exact (Inv.refl s).w
  | .region id ops draw, _, s, ch, _, h => by
    simp only [evCodeM] at h
    split at h
    · rename_i s' hs
      cases h
      cases draw with
      | false => rw [cond_false] at hs; exact (evOpsM_spec hM _ _ _ _ _ _ _ hs).inv.w
      | true =>
        rw [cond_true] at hs; obtain ⟨_, hs⟩ := cond_some hs rfl
        cases hpl : plainF ops.toList (cloA ops.toList []) with
        | true => rw [hpl, cond_true] at hs; exact (evOpsM_spec hM _ _ _ _ _ _ _ hs).inv.w
        | false =>
          rw [hpl, cond_false] at hs
          split at hs
          · rename_i s2 fs he
            obtain ⟨_, hs⟩ := cond_some hs rfl
            cases hs
            exact (evOpsC_spec hM ops.toList _ _ _ _ he).1.w
          · cases hs
    · cases h
  | .seq a b, A, s, ch, hA, h => by
    simp only [evCodeM] at h
    cases hc : evCodeM P ex M lits fk N a A.fst s with
    | none => rw [hc] at h; cases h
    | some c1 =>
      rw [hc] at h
      exact bindN_inv (fun s c h => evCodeM_inv hM N b A.snd s c hA.2 h) (evCodeM_inv hM N a A.fst s c1 hA.1 hc) h
  | .cond c x y, A, s, ch, hA, h => by
    simp only [evCodeM] at h
    split at h
    · rename_i b hb
      have hlen : ∀ q, (litO s.tm c q).length = s.tm.length := by
        intro q
        cases c with
        | tmp t =>
          simp only [litO, litT]
          cases hs : setF s.tm t (.bool q) with
          | none => rfl
          | some tm' => obtain ⟨e1, _⟩ := setF_eq hs; subst e1; simp
        | _ => rfl
      have lit : ∀ q, InvW s ⟨s.ob, litO s.tm c q, s.tv, s.H, s.hv⟩ := fun q => ⟨hlen q, fun _ => Nat.le_refl _, HInv.refl _ _⟩
      cases hl : isLit lits c with
      | true =>
        rw [hl, cond_true] at h
        cases b with
        | true => exact evCodeM_inv hM N x A.fst s ch hA.1 h
        | false => exact evCodeM_inv hM N y A.snd s ch hA.2 h
      | false =>
        rw [hl, cond_false] at h
        have hx : ∀ a, evCodeM P ex M lits fk N x A.fst ⟨s.ob, litO s.tm c true, s.tv, s.H, s.hv⟩ = some a → AllI s a := fun a ha => AllI.trans (lit true) (evCodeM_inv hM N x A.fst _ a hA.1 ha)
        have hy : ∀ a, evCodeM P ex M lits fk N y A.snd ⟨s.ob, litO s.tm c false, s.tv, s.H, s.hv⟩ = some a → AllI s a := fun a ha => AllI.trans (lit false) (evCodeM_inv hM N y A.snd _ a hA.2 ha)
        cases hf : isFork fk c with
        | true => rw [hf] at h; exact appO_inv (h : appO b _ _ = some ch) hx hy
        | false => rw [hf] at h; exact mrgC_inv (h : mrgC b s _ _ = some ch) hx hy
    · cases h
  | .block id body, A, s, ch, hA, h => by
    simp only [evCodeM] at h
    cases hc : evCodeM P ex M lits fk N body A.sub s with
    | none => rw [hc] at h; cases h
    | some c1 =>
      rw [hc] at h
      simp only [Option.some.injEq] at h
      subst h
      exact unexit_inv (evCodeM_inv hM N body A.sub s c1 hA hc)
  | .loop body, A, s, ch, hA, h => by
    cases A with
    | loop F => exact (hA s ch h).1
    | no => exact evLoopM_inv (fun s ch h => evCodeM_inv hM N body _ s ch hA h) N s ch h
    | one a => exact evLoopM_inv (fun s ch h => evCodeM_inv hM N body _ s ch hA h) N s ch h
    | two a b => exact evLoopM_inv (fun s ch h => evCodeM_inv hM N body _ s ch hA h) N s ch h
  | .scope body, A, s, ch, hA, h => by
    simp only [evCodeM] at h
    exact evCodeM_inv hM N body A.sub s ch hA h
  | .rangeFunc .., _, s, ch, _, h => by simp [evCodeM] at h
  | .goto _, _, s, ch, _, h => by simp [evCodeM] at h
  | .refuse _, _, s, ch, _, h => by simp [evCodeM] at h
theorem evCodeM_spec (hM : M.Ok P ex) (N : Nat) : ∀ (c : Code) (A : Ann) (s : St) (ch : Ch), AnnOk P ex k0 c A → evCodeM P ex M lits fk N c A s = some ch → CodeSpec P ex k0 c s (sel ch)
  | .skip, _, s, ch, _, h => by
    simp only [evCodeM, Option.some.injEq] at h; subst h
    exact ⟨Inv.refl _, fun hok => ⟨hok, by simp [Lst.sel], fun w0 H0 μ0 a w hd hE => wp_skip ⟨rfl, hE⟩⟩⟩
  | .label _, _, s, ch, _, h => by
    simp only [evCodeM, Option.some.injEq] at h; subst h
    exact ⟨Inv.refl _, fun hok => ⟨hok, by simp [Lst.sel], fun w0 H0 μ0 a w hd hE => wp_label ⟨rfl, hE⟩⟩⟩
  | .exit _, _, s, ch, _, h => by
    simp only [evCodeM, Option.some.injEq] at h; subst h
    exact ⟨Inv.refl _, fun hok => ⟨hok, by simp [Lst.sel], fun w0 H0 μ0 a w hd hE => wp_exit ⟨rfl, hE⟩⟩⟩
  | .ret, _, s, ch, _, h => by
    simp only [evCodeM, Option.some.injEq] at h; subst h
    exact ⟨Inv.refl _, fun hok => ⟨hok, by simp [Lst.sel], fun w0 H0 μ0 a w hd hE => wp_ret ⟨rfl, hE⟩⟩⟩
  | .region id ops draw, _, s, ch, _, h => by
    simp only [evCodeM] at h
    split at h
    · rename_i s' hs
      cases h
      cases draw with
      | false =>
        rw [cond_false] at hs
        have hspec := evOpsM_spec hM _ _ _ _ _ _ _ hs
        refine ⟨hspec.inv, fun hok => ?_⟩
        obtain ⟨p1, tm1, H1, p2, _, p3⟩ := hspec.run hok
        exact ⟨p1, by simp [Lst.sel], (region_sim (draw := false) rfl (fun e => by cases e) p2).le p3⟩
      | true =>
        rw [cond_true] at hs
        obtain ⟨h1, h2⟩ := cond_some hs rfl
        cases hpl : plainF ops.toList (cloA ops.toList []) with
        | true =>
          rw [hpl, cond_true] at h2
          have hspec := evOpsM_spec hM _ _ _ _ _ _ _ h2
          refine ⟨hspec.inv, fun hok => ?_⟩
          obtain ⟨p1, tm1, H1, p2, _, p3⟩ := hspec.run hok
          exact ⟨p1, by simp [Lst.sel], (region_sim (draw := true) rfl (fun _ => ⟨h1, hpl⟩) p2).le p3⟩
        | false =>
          rw [hpl, cond_false] at h2
          split at h2
          · rename_i s2 fs he
            obtain ⟨hB, h2⟩ := cond_some h2 rfl
            cases h2
            obtain ⟨i1, i2⟩ := evOpsC_spec hM ops.toList _ _ _ _ he
            refine ⟨i1, fun hok => ?_⟩
            obtain ⟨p1, vals, tms, Hs, q1, q2, q3, q4, q5⟩ := i2 hok
            rw [zipF_length, Array.length_toList] at q3 q4
            exact ⟨p1, by simp [Lst.sel], region_any h1 q1 q2 q3 q4 (fun i o ho => (q5 i _ (zipF_get _ _ _ _ ho)).1) (feet_apart hB fun i o ho => (q5 i _ (zipF_get _ _ _ _ ho)).2)⟩
          · cases h2
    · cases h
  | .seq a b, A, s, ch, hA, h => by
    simp only [evCodeM] at h
    cases hc : evCodeM P ex M lits fk N a A.fst s with
    | none => rw [hc] at h; cases h
    | some c1 =>
      rw [hc] at h
      simp only at h
      have h1 := evCodeM_spec hM N a A.fst s c1 hA.1 hc
      have ih := fun s c h => evCodeM_spec hM N b A.snd s c hA.2 h
      rcases bindN_sel (ex := ex) s (evCodeM P ex M lits fk N b A.snd) (fun s c h => evCodeM_inv hM N b A.snd s c hA.2 h) (fun s c h => (ih s c h).inv) c1 ch (evCodeM_inv hM N a A.fst s c1 hA.1 hc) h1.inv h with ⟨hn, c2, h2, h3⟩ | ⟨hn, h2⟩
      · have h4 := ih _ _ h2
        refine CodeSpec.sel ⟨h1.inv.trans h4.inv, fun hok => ?_⟩ h3
        obtain ⟨q1, q2, q3⟩ := h4.run hok
        obtain ⟨p1, p2, p3⟩ := h1.run q1
        rw [hn] at p3
        exact ⟨p1, q2, .seq p3 q3⟩
      · refine CodeSpec.sel ⟨h1.inv, fun hok => ?_⟩ h2
        obtain ⟨p1, p2, p3⟩ := h1.run hok
        exact ⟨p1, p2, .seq_out p3 hn⟩
  | .cond c x y, A, s, ch, hA, h => by
    simp only [evCodeM] at h
    split at h
    · rename_i b hb
      have fin : ∀ a, CodeSpec P ex k0 (cond b x y) s (Lst.sel a) → CodeSpec P ex k0 (.cond c x y) s (Lst.sel a) := fun a ha =>
        ⟨ha.inv, fun hok => by obtain ⟨p1, p2, p3⟩ := ha.run hok; exact ⟨p1, p2, .cond hb p3⟩⟩
      cases hl : isLit lits c with
      | true =>
        rw [hl, cond_true] at h
        refine fin ch ?_
        cases b with
        | true => exact evCodeM_spec hM N x A.fst s ch hA.1 h
        | false => exact evCodeM_spec hM N y A.snd s ch hA.2 h
      | false =>
        rw [hl, cond_false] at h
        have way : ∀ a, cond b (evCodeM P ex M lits fk N x A.fst ⟨s.ob, litO s.tm c true, s.tv, s.H, s.hv⟩) (evCodeM P ex M lits fk N y A.snd ⟨s.ob, litO s.tm c false, s.tv, s.H, s.hv⟩) = some a → CodeSpec P ex k0 (cond b x y) s (Lst.sel a) := by
          intro a ha
          cases b with
          | true => rw [cond_true, litO_same hb] at ha; exact evCodeM_spec hM N x A.fst s a hA.1 ha
          | false => rw [cond_false, litO_same hb] at ha; exact evCodeM_spec hM N y A.snd s a hA.2 ha
        have hlen : ∀ q, (litO s.tm c q).length = s.tm.length := by
          intro q
          cases c with
          | tmp t =>
            simp only [litO, litT]
            cases hs : setF s.tm t (.bool q) with
            | none => rfl
            | some tm' => obtain ⟨e1, _⟩ := setF_eq hs; subst e1; simp
          | _ => rfl
        have lit : ∀ q, InvW s ⟨s.ob, litO s.tm c q, s.tv, s.H, s.hv⟩ := fun q => ⟨hlen q, fun _ => Nat.le_refl _, HInv.refl _ _⟩
        cases hf : isFork fk c with
        | true =>
          rw [hf] at h
          obtain ⟨a, ha, hs⟩ := appO_sel (h : appO b _ _ = some ch)
          rw [hs]
          exact fin a (way a ha)
        | false =>
          rw [hf] at h
          obtain ⟨a, ha, hs⟩ := mrgC_sel (ex := ex) (h : mrgC b s _ _ = some ch) (fun a ha => AllI.trans (lit true) (evCodeM_inv hM N x A.fst _ a hA.1 ha)) (fun a ha => AllI.trans (lit false) (evCodeM_inv hM N y A.snd _ a hA.2 ha)) fun a ha => (way a ha).inv
          exact (fin a (way a ha)).sel hs
    · cases h
  | .block id body, A, s, ch, hA, h => by
    simp only [evCodeM] at h
    cases hc : evCodeM P ex M lits fk N body A.sub s with
    | none => rw [hc] at h; cases h
    | some c1 =>
      rw [hc] at h
      simp only [Option.some.injEq] at h
      subst h
      have h1 := evCodeM_spec hM N body A.sub s c1 hA hc
      refine CodeSpec.sel (p := (unEx id (Lst.sel c1).1, (Lst.sel c1).2)) ⟨h1.inv, fun hok => ?_⟩ (unexit_sel s id c1 (evCodeM_inv hM N body A.sub s c1 hA hc) h1.inv)
      obtain ⟨p1, p2, p3⟩ := h1.run hok
      refine ⟨p1, fun l hl => ?_, .block p3 p2⟩
      generalize hq : (Lst.sel c1).1 = e at *
      cases e with
      | exit i => simp only [unEx] at hl; cases hb : Nat.beq i id <;> rw [hb] at hl <;> cases hl
      | goto l' => exact p2 l' rfl
      | _ => cases hl
  | .loop body, A, s, ch, hA, h => by
    have fin : LoopSpec P ex k0 body s (Lst.sel ch) → CodeSpec P ex k0 (.loop body) s (Lst.sel ch) := fun h1 => ⟨h1.inv, fun hok => by
      obtain ⟨p1, p2, p3⟩ := h1.run hok
      exact ⟨p1, p2, .loop p3⟩⟩
    cases A with
    | loop F => exact fin (hA s ch h).2
    | no => exact fin (loopM_spec (fun s ch h => evCodeM_inv hM N body _ s ch hA h) (fun s ch h => evCodeM_spec hM N body _ s ch hA h) N s ch h)
    | one a => exact fin (loopM_spec (fun s ch h => evCodeM_inv hM N body _ s ch hA h) (fun s ch h => evCodeM_spec hM N body _ s ch hA h) N s ch h)
    | two a b => exact fin (loopM_spec (fun s ch h => evCodeM_inv hM N body _ s ch hA h) (fun s ch h => evCodeM_spec hM N body _ s ch hA h) N s ch h)
  | .scope body, A, s, ch, hA, h => by
    simp only [evCodeM] at h
    have h1 := evCodeM_spec hM N body A.sub s ch hA h
    refine ⟨h1.inv, fun hok => ?_⟩
    obtain ⟨p1, p2, p3⟩ := h1.run hok
    exact ⟨p1, p2, .scope p3 p2⟩
  | .rangeFunc .., _, s, ch, _, h => by simp [evCodeM] at h
  | .goto _, _, s, ch, _, h => by simp [evCodeM] at h
  | .refuse _, _, s, ch, _, h => by simp [evCodeM] at h
end sound
end Go.Lst
